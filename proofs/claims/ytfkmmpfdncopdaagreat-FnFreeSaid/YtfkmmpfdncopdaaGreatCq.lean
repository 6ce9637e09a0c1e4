/- The traces of a state graph. Plain law. -/
import Derived.Test.YtfkmmpfdncopdaaGreatWz
import Derived.Test.YtfkmmpfdncopdaaGreatWk
import Derived.Test.YtfkmmpfdncopdaaGreatAl
import Derived.Test.YtfkmmpfdncopdaaGreatAt
import Derived.Test.YtfkmmpfdncopdaaGreatWv
import Derived.Test.YtfkmmpfdncopdaaGreatTb
import Derived.Test.YtfkmmpfdncopdaaGreatBc
import Derived.Test.YtfkmmpfdncopdaaGreatWp
set_option linter.unusedSimpArgs false
set_option linter.unusedVariables false
set_option linter.unusedSectionVars false
namespace Go.Proofs.YtfkmmpfdncopdaaGreat
open Go.RowKit
set_option maxRecDepth 100000
set_option maxHeartbeats 4000000
def inv (h:Int)(a:DAr):Bool:=decide (a.2.1= -1)||decide (a.2.1=h)
inductive Ch (rs:List DAr) (h:Int) (S:Int→Prop):Int→Prop
  | base {u:Int}:S u→Ch rs h S u
  | step {a:DAr}:Ch rs h S a.1→a∈rs→inv h a=true→Ch rs h S a.2.2.2
def stS (h:Int)(S:List Int)(a:DAr):List Int:=if inv h a=true∧a.1∈S then Q2 ltI a.2.2.2 S else S
def stP (h:Int)(rs:List DAr)(S:List Int):List Int:=rs.foldl (stS h) S
def stN (h:Int)(rs:List DAr):Nat→List Int→List Int
  | 0,S=>S
  | k+1,S=>stP h rs (stN h rs k S)
def stl (c:DSg)(h:Int)(S:List Int):List Int:=stN h c.2.2 c.2.1.length S
@[reducible] def Srt (S:List Int):Prop:=S.Pairwise fun x y=>ltI x y=true
section
variable {rs as_:List DAr}{a:DAr}{h:Int}{S T_:List Int}{P Q:Int→Prop}{u v:Int}{n k:Nat}
theorem Ch.mono (hq:∀u,P u→Ch rs h Q u)(k:Ch rs h P u):Ch rs h Q u:=by
  induction k with
  | base h1=>exact hq _ h1
  | step _ h2 h3 ih=>exact .step ih h2 h3
theorem Ch.congr (hq:∀u,P u↔Q u):Ch rs h P u↔Ch rs h Q u:=⟨Ch.mono fun _ k=> .base ((hq _).1 k),Ch.mono fun _ k=> .base ((hq _).2 k)⟩
theorem QhL (hx:u∈S):u∈stS h S a:=by
  unfold stS; split
  · exact Yp.2 (.inr hx)
  · exact hx
theorem Qc5 (hx:u∈S):u∈stP h as_ S:=by
  induction as_ generalizing S with
  | nil=>exact hx
  | cons a l ih=>exact ih (QhL hx)
theorem Qno (hx:u∈S):u∈stN h rs k S:=by
  induction k with
  | zero=>exact hx
  | succ k ih=>exact Qc5 ih
theorem QmI (hs:Srt S):Srt (stS h S a):=by
  unfold stS; split
  · exact V5 Wq hs
  · exact hs
theorem Qhf (hs:Srt S):Srt (stP h as_ S):=by
  induction as_ generalizing S with
  | nil=>exact hs
  | cons a l ih=>exact ih (QmI hs)
theorem Jc (hs:Srt S):Srt (stN h rs k S):=by
  induction k with
  | zero=>exact hs
  | succ k ih=>exact Qhf ih
theorem Qod (hsub:∀a∈as_,a∈rs)(hS:∀u∈S,Ch rs h P u):∀u∈stP h as_ S,Ch rs h P u:=by
  induction as_ generalizing S with
  | nil=>exact hS
  | cons a l ih=>
    refine ih (fun b hb=>hsub b (ax _ hb)) fun u hu=> ?_
    unfold stS at hu
    split at hu
    · rename_i h1
      rcases Yp.1 hu with rfl | h2
      · exact .step (hS _ h1.2) (hsub a (ay ..)) h1.1
      · exact hS _ h2
    · exact hS _ hu
theorem Qlh (hS:∀u∈S,Ch rs h P u):∀u∈stN h rs k S,Ch rs h P u:=by
  induction k with
  | zero=>exact hS
  | succ k ih=>exact Qod (fun _ h=>h) ih
theorem Qmb (ha:a∈as_)(hi:inv h a=true)(hu:a.1∈S):a.2.2.2∈stP h as_ S:=by
  induction as_ generalizing S with
  | nil=>cases ha
  | cons b l ih=>
    rcases aC.1 ha with rfl | ha
    · refine Qc5 (as_ := l) ?_
      unfold stS; rw[if_pos ⟨hi,hu⟩]
      exact Yp.2 (.inl rfl)
    · exact ih ha (QhL hu)
theorem QcQ (hs:Srt S):S.Nodup:=hs.imp fun h e=>by subst e; simp[ltI] at h
theorem Jw {α:Type}[DecidableEq α]:∀{l m:List α},l.Nodup→(∀x∈l,x∈m)→l.length≤m.length
  | [],_,_,_=>aS _
  | a :: l,m,hn,hs=>by
    obtain ⟨h1,h2⟩:=bp.1 hn
    have ha:=hs a (ay ..)
    have h3:=Jw (m:=m.erase a) h2 fun x hx=>(List.mem_erase_of_ne (fun e=>h1 (by rw[← e]; exact hx))).2 (hs x (ax _ hx))
    rw[List.length_erase_of_mem ha] at h3
    have:=List.length_pos_of_mem ha
    rw[aq]; omega
theorem Qmy (hs:Srt S)(hn:∀u∈S,0≤u∧u < (n:Int)):S.length≤n:=by
  have h1:(S.map Int.toNat).Nodup:=by
    unfold List.Nodup
    rw[List.pairwise_map]
    exact (QcQ hs).imp_of_mem fun ha hb h e=>h (by have:=hn _ ha; have:=hn _ hb; omega)
  have h2:(S.map Int.toNat) ⊆ List.range n:=fun x hx=>by
    obtain ⟨u,hu,rfl⟩:=b8.1 hx
    have:=hn u hu
    exact cr.2 (by omega)
  have:=Jw h1 h2
  rwa [aQ,List.length_range] at this
theorem Qna (hr:∀a∈rs,0≤a.2.2.2∧a.2.2.2 < (n:Int))(hn:∀u∈S,0≤u∧u < (n:Int)):∀u∈stN h rs k S,0≤u∧u < (n:Int):=by
  have h1:∀u,Ch rs h (fun v=>v∈S) u→0≤u∧u < (n:Int):=fun u hu=>by
    induction hu with
    | base h2=>exact hn _ h2
    | step _ h2 _ _=>exact hr _ h2
  exact fun u hu=>h1 u (Qlh (P:=fun v=>v∈S) (fun v hv=> .base hv) u hu)
theorem QoD (hs:Srt S)(ht:Srt T_)(hsub:∀u∈S,u∈T_):T_=S∨S.length < T_.length:=by
  by_cases hc:∀x∈T_,x∈S
  · exact .inl (Wq.ext ht hs fun x=>⟨hc x,hsub x⟩)
  · obtain ⟨x, hx⟩ := Classical.not_forall.1 hc
    obtain ⟨h1,h2⟩:=Classical.not_imp.1 hx
    have:=Jw (l:=x :: S) (m:=T_) (bp.2 ⟨h2,QcQ hs⟩) fun y hy=>by
      rcases aC.1 hy with rfl | hy
      · exact h1
      · exact hsub y hy
    rw[aq] at this
    exact .inr this
theorem Qh5 (hs:Srt S)(h1:stP h rs (stN h rs k S)=stN h rs k S):∀j,stN h rs (k+j) S=stN h rs k S
  | 0=>rfl
  | j+1=>by rw[← bB,stN,Qh5 hs h1 j,h1]
theorem Qlj (hs:Srt S):(∃j,j < k∧stP h rs (stN h rs j S)=stN h rs j S)∨S.length+k≤(stN h rs k S).length:=by
  induction k with
  | zero=>exact .inr (aO _)
  | succ k ih=>
    rcases ih with ⟨j,h1,h2⟩ | h1
    · exact .inl ⟨j,by omega,h2⟩
    · rcases QoD (Jc (h := h) (rs := rs) (k := k) hs) (Qhf (Jc hs)) (fun u hu => Qc5 (h := h) (as_ := rs) hu) with h2 | h2
      · exact .inl ⟨k,by omega,h2⟩
      · right; rw[stN]; omega
theorem Qgr (hs:Srt S)(hr:∀a∈rs,0≤a.2.2.2∧a.2.2.2 < (n:Int))(hn:∀u∈S,0≤u∧u < (n:Int)):∀u,u∈stN h rs n S↔Ch rs h (fun v=>v∈S) u:=by
  have hc:stP h rs (stN h rs n S)=stN h rs n S:=by
    rcases Qlj (rs:=rs) (h:=h) (k:=n) hs with ⟨j,h1,h2⟩ | h1
    · have h3 := Qh5 hs h2 (n - j)
      rw[show j+(n - j)=n by omega] at h3
      rw[h3,h2]
    · have h2 := Qmy (Jc (h := h) (rs := rs) (k := n) hs) (Qna hr hn)
      have h3:S=[]:=bC (by omega)
      subst h3
      have h4:∀(l:List DAr),stP h l []=[]:=fun l=>by
        induction l with
        | nil=>rfl
        | cons a l ih=>show stP h l (stS h [] a)=[]; rw[show stS h [] a=[] from if_neg (by simp)]; exact ih
      have h5:∀k,stN h rs k []=[]:=fun k=>by
        induction k with
        | zero=>rfl
        | succ k ih=>rw[stN,ih,h4]
      rw[h5,h4]
  refine fun u=>⟨Qlh (fun v hv=> .base hv) u,fun hu=> ?_⟩
  induction hu with
  | base h1=>exact Qno h1
  | step _ h2 h3 ih=>rw[← hc]; exact Qmb h2 h3 ih
def clA (rs:List DAr)(h u:Int)(out:List Int):List Int:=rs.foldl (fun out a=>if a.1=u∧inv h a=true∧¬a.2.2.2∈out then out++[a.2.2.2] else out) out
def clL (rs:List DAr)(h:Int):Nat→Nat→List Int→List Int
  | 0,_,out=>out
  | f+1,k,out=>match out[k]? with
    | none=>out
    | some u=>clL rs h f (k+1) (clA rs h u out)
theorem QdO:∃r,clA as_ h u S=S++r:=by
  unfold clA
  induction as_ generalizing S with
  | nil=>exact ⟨[],(bH _).symm⟩
  | cons a l ih=>
    rw[bq]
    split
    · obtain ⟨r, hr⟩ := ih (S := S ++ [a.2.2.2])
      exact ⟨a.2.2.2 :: r,by rw[hr,aW]; rfl⟩
    · exact ih
theorem Qi9 (hs:S.Nodup):(clA as_ h u S).Nodup:=by
  unfold clA
  induction as_ generalizing S with
  | nil=>exact hs
  | cons a l ih=>
    rw[bq]
    split
    · rename_i h1
      exact ih (ba.2 ⟨hs,by simp,fun x hx y hy e=>by rw[aE] at hy; subst hy; subst e; exact h1.2.2 hx⟩)
    · exact ih hs
theorem Qn7 (hsub:∀a∈as_,a∈rs)(hu:Ch rs h P u)(hS:∀v∈S,Ch rs h P v):∀v∈clA as_ h u S,Ch rs h P v:=by
  unfold clA
  induction as_ generalizing S with
  | nil=>exact hS
  | cons a l ih=>
    rw[bq]
    refine ih (fun b hb=>hsub b (ax _ hb)) ?_
    split
    · rename_i h1
      intro v hv
      rcases aH.1 hv with hv | hv
      · exact hS v hv
      · rw [aE] at hv; subst hv
        exact .step (by rw[h1.1]; exact hu) (hsub a (ay ..)) h1.2.1
    · exact hS
theorem Qne (ha:a∈as_)(hi:inv h a=true)(hu:a.1=u):a.2.2.2∈clA as_ h u S:=by
  induction as_ generalizing S with
  | nil=>cases ha
  | cons b l ih=>
    rcases aC.1 ha with rfl | ha
    · unfold clA
      rw[bq]
      split
      · obtain ⟨r, hr⟩ := QdO (as_ := l) (h := h) (u := u) (S := S ++ [a.2.2.2])
        unfold clA at hr
        rw[hr]; simp
      · rename_i h1
        obtain ⟨r,hr⟩:=QdO (as_:=l) (h:=h) (u:=u) (S:=S)
        unfold clA at hr
        rw[hr]
        exact aP _ (bN fun g=>h1 ⟨hu,hi,g⟩)
    · unfold clA at ih ⊢
      rw[bq]; exact ih ha
structure ClI (rs:List DAr) (h:Int) (P:Int→Prop) (k:Nat) (out:List Int):Prop where
  nod:out.Nodup
  ch:∀v∈out,Ch rs h P v
  bas:∀v,P v→v∈out
  don:∀(j:Nat) w,j < k→out[j]? =some w→∀a∈rs,a.1=w→inv h a=true→a.2.2.2∈out
  le:k≤out.length
theorem ClI.zero (hs:S.Nodup)(hp:∀v,P v↔v∈S):ClI rs h P 0 S:=⟨hs,fun v hv=> .base ((hp v).2 hv),fun v hv=>(hp v).1 hv,fun j w hj=>absurd hj (bc _),aS _⟩
theorem ClI.step {out:List Int}(g:ClI rs h P k out)(hu:out[k]? =some u):ClI rs h P (k+1) (clA rs h u out):=by
  obtain ⟨r,hr⟩:=QdO (as_:=rs) (h:=h) (u:=u) (S:=out)
  have hk:=(aj.1 hu).1
  refine ⟨Qi9 g.nod,Qn7 (fun _ h=>h) (g.ch u (ao hu)) g.ch,fun v hv=>by rw[hr]; exact aP _ (g.bas v hv),fun j w hj hw a ha e hi=> ?_,by rw[hr,ak]; omega⟩
  by_cases e1:j=k
  · subst e1
    have hw:out[j]? =some w:=by rw[hr,b9 hk] at hw; exact hw
    rw[hu] at hw; cases hw
    exact Qne ha hi e
  · have hj2 : j < out.length := by omega
    rw[hr,b9 hj2] at hw
    rw[hr]; exact aP _ (g.don j w (by omega) hw a ha e hi)
theorem ClI.end_ {out:List Int}(g:ClI rs h P k out)(hk:out.length≤k):∀v,v∈out↔Ch rs h P v:=by
  refine fun v=>⟨g.ch v,fun hv=> ?_⟩
  induction hv with
  | base h1=>exact g.bas _ h1
  | step _ h2 h3 ih=>
    obtain ⟨j,hj⟩:=aM.1 ih
    exact g.don j _ (by have:=(aj.1 hj).1; omega) hj _ h2 rfl h3
end
def Qiz (b:UInt8):Bool:=b==43||b==45
def sgB (up:Bool):ByteArray:=if up=true then ⟨#[43]⟩ else ⟨#[45]⟩
def wdA (c:DSg)(a:DAr):ByteArray:=((c.1[a.2.1.toNat]?).getD (ByteArray.empty,0)).1++sgB a.2.2.1
def tl (t:ByteArray):List UInt8:=t.data.toList
def Qrc (l:List UInt8):Prop:=l=[]∨∃l0 s,l=l0++[s]∧Qiz s=true
theorem Qln (s t:ByteArray):tl (s++t)=tl s++tl t:=by simp[tl]
end Go.Proofs.YtfkmmpfdncopdaaGreat
namespace Go.Proofs.YtfkmmpfdncopdaaGreat
open Go.RowKit
set_option maxRecDepth 100000
set_option maxHeartbeats 4000000
inductive Tr (c:DSg) (h:Int):Nat→ByteArray→Int→Prop
  | zero:Tr c h 0 ByteArray.empty 0
  | still {n:Nat} {t:ByteArray} {a:DAr}:Tr c h n t a.1→a∈c.2.2→inv h a=true→Tr c h n t a.2.2.2
  | word {n:Nat} {t:ByteArray} {a:DAr}:Tr c h n t a.1→a∈c.2.2→inv h a=false→Tr c h (n+1) (t++wdA c a) a.2.2.2
@[reducible] def DTx:=ByteArray×List Int×Int
@[reducible] def DLv:=List (ByteArray×List Int)
def Vs (c:DSg)(h:Int)(L:DLv)(s:ByteArray)(v:Int):Prop:=∃q∈L,∃a∈c.2.2,inv h a=false∧a.1∈q.2∧s=q.1++wdA c a∧v=a.2.2.2
structure Lev (c:DSg) (h:Int) (n:Nat) (K:DLv):Prop where
  nod:K.Pairwise fun p q=>p.1≠q.1
  mem:∀p∈K,(∃u,u∈p.2)∧∀u,u∈p.2↔Tr c h n p.1 u
  all:∀t u,Tr c h n t u→∃p∈K,p.1=t
section
variable {c:DSg}{h:Int}{n m:Nat}{s t:ByteArray}{u v:Int}{K L M:DLv}{a:DAr}
theorem Tr.ch {P:Int→Prop}(hp:∀u,P u→Tr c h n t u)(k:Ch c.2.2 h P u):Tr c h n t u:=by
  induction k with
  | base h1=>exact hp _ h1
  | step _ h2 h3 ih=>exact .still ih h2 h3
theorem HG:Tr c h 0 t u↔t=ByteArray.empty∧Ch c.2.2 h (fun v=>v=0) u:=by
  constructor
  · intro k
    generalize e:0=n at k
    induction k with
    | zero=>exact ⟨rfl, .base rfl⟩
    | still _ h2 h3 ih=>exact ⟨(ih e).1, .step (ih e).2 h2 h3⟩
    | word=>cases e
  · rintro ⟨rfl, k⟩
    exact Tr.ch (fun u hu=>by subst hu; exact .zero) k
theorem QmG:Tr c h (n+1) s u↔Ch c.2.2 h (fun v=>∃t,∃a∈c.2.2,inv h a=false∧Tr c h n t a.1∧s=t++wdA c a∧v=a.2.2.2) u:=by
  constructor
  · intro k
    generalize e:n+1=m at k
    induction k with
    | zero=>cases e
    | still _ h2 h3 ih=>exact .step (ih e) h2 h3
    | word h1 h2 h3=>
      cases e
      exact .base ⟨_,_,h2,h3,h1,rfl,rfl⟩
  · exact Tr.ch fun u ⟨t,a,h1,h2,h3,h4,h5⟩=>by subst h4; subst h5; exact .word h3 h1 h2
theorem Lev.vs (g:Lev c h n L):Vs c h L s v↔∃t,∃a∈c.2.2,inv h a=false∧Tr c h n t a.1∧s=t++wdA c a∧v=a.2.2.2:=by
  constructor
  · rintro ⟨q, hq, a, h1, h2, h3, h4, h5⟩
    exact ⟨q.1,a,h1,h2,((g.mem q hq).2 _).1 h3,h4,h5⟩
  · rintro ⟨t, a, h1, h2, h3, h4, h5⟩
    obtain ⟨q,hq,rfl⟩:=g.all t _ h3
    exact ⟨q,hq,a,h1,h2,((g.mem q hq).2 _).2 h3,h4,h5⟩
theorem Lev.next (g:Lev c h n L)(hn:M.Pairwise fun p q=>p.1≠q.1)(hm:∀p∈M,(∃v,Vs c h L p.1 v)∧∀u,u∈p.2↔Ch c.2.2 h (fun v=>Vs c h L p.1 v) u)(ha:∀s v,Vs c h L s v→∃p∈M,p.1=s):Lev c h (n+1) M:=by
  have e:∀s u,Ch c.2.2 h (fun v=>Vs c h L s v) u↔Tr c h (n+1) s u:=fun s u=>(Ch.congr fun _=>g.vs).trans QmG.symm
  refine ⟨hn,fun p hp=>⟨?_,fun u=>((hm p hp).2 u).trans (e _ _)⟩,fun t u hu=> ?_⟩
  · obtain ⟨v, hv⟩ := (hm p hp).1
    exact ⟨v,((hm p hp).2 v).2 (.base hv)⟩
  · have h1 := (e t u).2 hu
    have h2:∃v,Vs c h L t v:=by
      induction h1 with
      | base h2=>exact ⟨_,h2⟩
      | step h1 _ _ ih=>exact ih ((e _ _).1 h1)
    obtain ⟨v,hv⟩:=h2
    exact ha t v hv
def UR:List DTx→DTx→List DTx
  | [],x=>[x]
  | y :: l,x=>if y.1=x.1∧y.2.2=x.2.2 then (y.1,x.2.1.foldl (fun s k=>Q2 ltI k s) y.2.1,y.2.2) :: l else y :: UR l x
def arT (c:DSg)(h:Int)(x:DTx)(out:List DTx)(a:DAr):List DTx:=if inv h a=false∧a.1∈x.2.1 then UR out (x.1++wdA c a,[a.2.2.2],x.2.2+1) else out
def QmY (c:DSg)(h:Int)(as_:List DAr)(x:DTx)(out:List DTx):List DTx:=as_.foldl (arT c h x) out
def QmV (c:DSg)(h:Int)(L:List DTx)(out:List DTx):List DTx:=L.foldl (fun out x=>QmY c h c.2.2 x out) out
def QnV (c:DSg)(h:Int)(y:DTx):DTx:=(y.1,stl c h y.2.1,y.2.2)
def Qpu (c:DSg)(h:Int)(L:List DTx):List DTx:=(QmV c h L []).map (QnV c h)
def Kv (c:DSg)(h:Int):Nat→List DTx
  | 0=>[(ByteArray.empty,stl c h [0],0)]
  | n+1=>Qpu c h (Kv c h n)
def unT (L:List DTx):DLv:=L.map fun x=>(x.1,x.2.1)
structure OT (m:Int) (V:ByteArray→Int→Prop) (out:List DTx):Prop where
  many:∀y∈out,y.2.2=m
  nod:out.Pairwise fun p q=>p.1≠q.1
  srt:∀y∈out,Srt y.2.1
  mem:∀y∈out,∀v,v∈y.2.1↔V y.1 v
  wit:∀y∈out,∃v,V y.1 v
  all:∀s v,V s v→∃y∈out,y.1=s
theorem OT.congr {i:Int}{V W:ByteArray→Int→Prop}{out:List DTx}(g:OT i V out)(e:∀s v,V s v↔W s v):OT i W out:=
  ⟨g.many,g.nod,g.srt,fun y hy v=>(g.mem y hy v).trans (e _ _),fun y hy=>(g.wit y hy).imp fun v hv=>(e _ _).1 hv,fun s v hv=>g.all s v ((e _ _).2 hv)⟩
theorem Qe5 {i:Int}:∀{out:List DTx} {y:DTx},(∀y∈out,y.2.2=i)→(out.Pairwise fun p q=>p.1≠q.1)→(y∈UR out (s,[v],i)↔(y∈out∧y.1≠s)∨(∃z∈out,z.1=s∧y=(z.1,Q2 ltI v z.2.1,z.2.2))∨((∀z∈out,z.1≠s)∧y=(s,[v],i)))
  | [],y,_,_=>by simp[UR]
  | z :: l,y,hm,hn=>by
    obtain ⟨hn1,hn2⟩:=bi.1 hn
    have hm1:=hm z (ay ..)
    rw[UR]
    by_cases e:z.1=s
    · rw [if_pos ⟨e, hm1⟩]
      have hl:∀x∈l,x.1≠s:=fun x hx g=>hn1 x hx (e.trans g.symm)
      simp only[bq,List.foldl_nil,aC]
      constructor
      · rintro (rfl | hy)
        · exact .inr (.inl ⟨z, .inl rfl,e,rfl⟩)
        · exact .inl ⟨.inr hy,hl y hy⟩
      · rintro (⟨rfl | hy, h2⟩ | ⟨x, rfl | hx, h2, rfl⟩ | ⟨h1, _⟩)
        · exact absurd e h2
        · exact .inr hy
        · exact .inl rfl
        · exact absurd h2 (hl x hx)
        · exact absurd e (h1 z (.inl rfl))
    · rw [if_neg (fun g => e g.1)]
      have ih:=Qe5 (out:=l) (y:=y) (fun x hx=>hm x (ax _ hx)) hn2
      rw[aC,ih]
      simp only[aC]
      constructor
      · rintro (rfl | ⟨h1, h2⟩ | ⟨x, hx, h2, h3⟩ | ⟨h1, h2⟩)
        · exact .inl ⟨.inl rfl,e⟩
        · exact .inl ⟨.inr h1,h2⟩
        · exact .inr (.inl ⟨x, .inr hx,h2,h3⟩)
        · exact .inr (.inr ⟨fun x hx=>by rcases hx with rfl | hx; exact e; exact h1 x hx,h2⟩)
      · rintro (⟨rfl | h1, h2⟩ | ⟨x, rfl | hx, h2, h3⟩ | ⟨h1, h2⟩)
        · exact .inl rfl
        · exact .inr (.inl ⟨h1,h2⟩)
        · exact absurd h2 e
        · exact .inr (.inr (.inl ⟨x,hx,h2,h3⟩))
        · exact .inr (.inr (.inr ⟨fun x hx=>h1 x (.inr hx),h2⟩))
theorem QeJ {i:Int}{x:DTx}:∀{out:List DTx},∀y∈UR out x,y.1=x.1∨∃z∈out,z.1=y.1
  | [],y,hy=>by rw[UR,aE] at hy; subst hy; exact .inl rfl
  | z :: l,y,hy=>by
    rw[UR] at hy
    split at hy
    · rcases aC.1 hy with rfl | hy
      · exact .inr ⟨z,ay ..,rfl⟩
      · exact .inr ⟨y,ax _ hy,rfl⟩
    · rcases aC.1 hy with rfl | hy
      · exact .inr ⟨y,ay ..,rfl⟩
      · rcases QeJ (i := i) y hy with h1 | ⟨w, hw, h1⟩
        · exact .inl h1
        · exact .inr ⟨w,ax _ hw,h1⟩
theorem Qfa {i:Int}{x:DTx}(hx:x.2.2=i):∀{out:List DTx},(∀y∈out,y.2.2=i)→(out.Pairwise fun p q=>p.1≠q.1)→(UR out x).Pairwise fun p q=>p.1≠q.1
  | [],_,_=>cA ..
  | z :: l,hm,hn=>by
    obtain ⟨hn1,hn2⟩:=bi.1 hn
    have hm1:=hm z (ay ..)
    rw[UR]
    split
    · exact bi.2 ⟨fun y hy=>hn1 y hy,hn2⟩
    · rename_i h1
      refine bi.2 ⟨fun y hy=> ?_,Qfa hx (fun x hx=>hm x (ax _ hx)) hn2⟩
      rcases QeJ (i:=i) y hy with h2 | ⟨w,hw,h2⟩
      · exact fun g=>h1 ⟨g.trans h2,hm1.trans hx.symm⟩
      · rw[← h2]; exact hn1 w hw
theorem OT.step {i:Int}{V:ByteArray→Int→Prop}{out:List DTx}(g:OT i V out):OT i (fun s' v'=>V s' v'∨(s'=s∧v'=v)) (UR out (s,[v],i)):=by
  have hm:=fun y=>Qe5 (s:=s) (v:=v) (y:=y) g.many g.nod
  have hs:∀z∈out,z.1=s→∀v',v'∈Q2 ltI v z.2.1↔V s v'∨v'=v:=fun z hz e v'=>by
    rw[Yp,g.mem z hz v',e]; exact Or.comm
  refine ⟨fun y hy=> ?_,Qfa rfl g.many g.nod,fun y hy=> ?_,fun y hy v'=> ?_,fun y hy=> ?_,fun s' v' hv=> ?_⟩
  · rcases (hm y).1 hy with h1 | ⟨z, hz, h2, rfl⟩ | ⟨_, rfl⟩
    · exact g.many y h1.1
    · exact g.many z hz
    · rfl
  · rcases (hm y).1 hy with h1 | ⟨z, hz, h2, rfl⟩ | ⟨_, rfl⟩
    · exact g.srt y h1.1
    · exact V5 Wq (g.srt z hz)
    · exact cA ..
  · rcases (hm y).1 hy with h1 | ⟨z, hz, h2, rfl⟩ | ⟨h1, rfl⟩
    · rw[g.mem y h1.1]; exact ⟨.inl,fun k=>k.resolve_right fun e=>h1.2 e.1⟩
    · show v' ∈ Q2 ltI v z.2.1 ↔ _
      rw[hs z hz h2,h2]
      exact ⟨fun k=>k.imp id fun e=>⟨rfl,e⟩,fun k=>k.imp id fun e=>e.2⟩
    · show v' ∈ [v] ↔ _
      rw[aE]
      refine ⟨fun e=> .inr ⟨rfl,e⟩,fun k=>k.elim (fun k=> ?_) fun k=>k.2⟩
      obtain ⟨z,hz,e⟩:=g.all _ _ k
      exact absurd e (h1 z hz)
  · rcases (hm y).1 hy with h1 | ⟨z, hz, h2, rfl⟩ | ⟨_, rfl⟩
    · exact (g.wit y h1.1).imp fun _=> .inl
    · exact ⟨v, .inr ⟨h2,rfl⟩⟩
    · exact ⟨v, .inr ⟨rfl,rfl⟩⟩
  · by_cases e : s' = s
    · subst e
      by_cases k:∃z∈out,z.1=s'
      · obtain ⟨z, hz, h2⟩ := k
        exact ⟨_,(hm _).2 (.inr (.inl ⟨z,hz,h2,rfl⟩)),h2⟩
      · exact ⟨_,(hm _).2 (.inr (.inr ⟨fun z hz h2=>k ⟨z,hz,h2⟩,rfl⟩)),rfl⟩
    · obtain ⟨z, hz, h2⟩ := g.all s' v' (hv.resolve_right fun k => e k.1)
      exact ⟨z,(hm _).2 (.inl ⟨hz,by rw[h2]; exact e⟩),h2⟩
theorem Qdj {i:Int}{x:DTx}(hx:x.2.2+1=i):∀(as_:List DAr) {V:ByteArray→Int→Prop} {out:List DTx},OT i V out→OT i (fun s v=>V s v∨∃a∈as_,inv h a=false∧a.1∈x.2.1∧s=x.1++wdA c a∧v=a.2.2.2) (QmY c h as_ x out)
  | [],V,out,g=>g.congr fun s v=>by simp
  | a :: l,V,out,g=>by
    show OT i _ (QmY c h l x (arT c h x out a))
    unfold arT
    split
    · rename_i h1
      rw[hx]
      refine (Qdj hx l g.step).congr fun s v=> ?_
      simp only[aC,exists_eq_or_imp,or_assoc]
      exact or_congr_right (or_congr_left ⟨fun k=>⟨h1.1,h1.2,k⟩,fun k=>k.2.2⟩)
    · rename_i h1
      refine (Qdj hx l g).congr fun s v=> ?_
      simp only[aC,exists_eq_or_imp]
      exact or_congr_right ⟨.inr,fun k=>k.resolve_left fun k=>h1 ⟨k.1,k.2.1⟩⟩
theorem QhK {i:Int}:∀(L:List DTx) {V:ByteArray→Int→Prop} {out:List DTx},(∀x∈L,x.2.2+1=i)→OT i V out→OT i (fun s v=>V s v∨Vs c h (unT L) s v) (QmV c h L out)
  | [],V,out,_,g=>g.congr fun s v=>by simp[Vs,unT]
  | x :: l,V,out,hm,g=>by
    refine (QhK l (fun y hy=>hm y (ax _ hy)) (Qdj (hm x (ay ..)) c.2.2 g)).congr fun s v=> ?_
    simp only[Vs,unT,bg,aC,exists_eq_or_imp,or_assoc]
theorem Qko {i:Int}{L:List DTx}(hm:∀x∈L,x.2.2+1=i):OT i (Vs c h (unT L)) (QmV c h L []):=
  (QhK L hm (V:=fun _ _=>False) ⟨by simp,bW,by simp,by simp,by simp,by simp⟩).congr fun s v=>by simp
end
end Go.Proofs.YtfkmmpfdncopdaaGreat
namespace Go.Proofs.YtfkmmpfdncopdaaGreat
open Go.RowKit
set_option maxRecDepth 100000
set_option maxHeartbeats 4000000
section
variable {c:DSg}{h:Int}{n m:Nat}{s t:ByteArray}{u v:Int}{K L M A D l1 l2:DLv}{a:DAr}{S T_:List Int}{q p:ByteArray×List Int}
theorem Qks (hs:SgOk c)(ha:a∈c.2.2):0≤a.2.2.2∧a.2.2.2 < (c.2.1.length:Int):=by
  have:=hs.arcs a ha
  obtain ⟨_,h2,_⟩:=this
  omega
theorem Ql3 (hs:SgOk c)(hS:Srt S)(hr:∀u∈S,0≤u∧u < (c.2.1.length:Int)):∀u,u∈stl c h S↔Ch c.2.2 h (fun v=>v∈S) u:=Qgr hS (fun _ ha=>Qks hs ha) hr
theorem Qqm (hs:SgOk c)(k:Vs c h L s v):0≤v∧v < (c.2.1.length:Int):=by
  obtain ⟨_,_,a,h1,_,_,_,rfl⟩:=k
  exact Qks hs h1
theorem QdB {L:List DTx}{p:ByteArray×List Int}(k:p∈unT L):∃x∈L,p=(x.1,x.2.1):=by
  obtain ⟨x,hx,e⟩:=b8.1 k
  exact ⟨x,hx,e.symm⟩
theorem QhN (hs:SgOk c):∀n,(Lev c h n (unT (Kv c h n))∧(∀x∈Kv c h n,x.2.2=(n:Int)))∧∀x∈Kv c h n,Srt x.2.1:=fun n=>by
  have h1:=hs.some_
  induction n with
  | zero=>
    have h0:∀u,u∈stl c h [0]↔Ch c.2.2 h (fun v=>v=0) u:=fun u=>(Ql3 hs (cA ..) (fun u hu=>by rw[aE] at hu; omega) u).trans (Ch.congr fun v=>aE)
    refine ⟨⟨⟨cA ..,fun p hp=> ?_,fun t u hu=>⟨_,aE.2 rfl,(HG.1 hu).1.symm⟩⟩,fun x hx=>by rw[Kv,aE] at hx; subst hx; rfl⟩,fun x hx=>by rw[Kv,aE] at hx; subst hx; exact Jc (cA ..)⟩
    obtain ⟨x,hx,rfl⟩:=QdB hp
    rw[Kv,aE] at hx
    subst hx
    exact ⟨⟨0,(h0 0).2 (.base rfl)⟩,fun u=>(h0 u).trans ⟨fun k=>HG.2 ⟨rfl,k⟩,fun k=>(HG.1 k).2⟩⟩
  | succ n ih=>
    obtain ⟨⟨g,hm⟩,hsr⟩:=ih
    have o:=Qko (c:=c) (h:=h) (i:=(n:Int)+1) (L:=Kv c h n) fun x hx=>by rw[hm x hx]
    have hcl:∀y∈QmV c h (Kv c h n) [],∀u,u∈stl c h y.2.1↔Ch c.2.2 h (fun v=>Vs c h (unT (Kv c h n)) y.1 v) u:=fun y hy u=>
      (Ql3 hs (o.srt y hy) (fun v hv=>Qqm hs ((o.mem y hy v).1 hv)) u).trans (Ch.congr fun v=>o.mem y hy v)
    refine ⟨⟨g.next ?_ (fun p hp=> ?_) (fun s v hv=> ?_),fun x hx=> ?_⟩,fun x hx=> ?_⟩
    · unfold unT Kv Qpu
      rw[dc,List.pairwise_map]
      exact o.nod
    · obtain ⟨x, hx, rfl⟩ := QdB hp
      obtain ⟨y,hy,rfl⟩:=b8.1 hx
      exact ⟨o.wit y hy,hcl y hy⟩
    · obtain ⟨y, hy, e⟩ := o.all s v hv
      exact ⟨_,b8.2 ⟨QnV c h y,b8.2 ⟨y,hy,rfl⟩,rfl⟩,e⟩
    · obtain ⟨y, hy, rfl⟩ := b8.1 hx
      rw[show (QnV c h y).2.2=y.2.2 from rfl,o.many y hy]; omega
    · obtain ⟨y, hy, rfl⟩ := b8.1 hx
      exact Jc (o.srt y hy)
def Qiw (L:List DTx)(out:List ByteArray):List ByteArray:=L.foldl (fun o x=>Q2 ltB x.1 o) out
def txL (c:DSg)(h:Int):Nat→List ByteArray
  | 0=>Qiw (Kv c h 0) []
  | n+1=>Qiw (Kv c h (n+1)) (txL c h n)
theorem QaA:∀{L:List DTx} {out:List ByteArray},t∈Qiw L out↔t∈out∨∃x∈L,x.1=t
  | [],out=>by simp[Qiw]
  | x :: l,out=>by
    show t∈Qiw l (Q2 ltB x.1 out)↔_
    rw[QaA,Yp]
    simp only[aC,exists_eq_or_imp]
    constructor
    · rintro ((rfl | h1) | h1)
      · exact .inr (.inl rfl)
      · exact .inl h1
      · exact .inr (.inr h1)
    · rintro (h1 | rfl | h1)
      · exact .inl (.inr h1)
      · exact .inl (.inl rfl)
      · exact .inr h1
theorem QaT (ho:TO ltB):∀{L:List DTx} {out:List ByteArray},out.Pairwise (fun x y=>ltB x y=true)→(Qiw L out).Pairwise (fun x y=>ltB x y=true)
  | [],_,k=>k
  | x :: l,out,k=>QaT ho (L:=l) (V5 ho k)
theorem Qhs (ho:TO ltB):∀n,(txL c h n).Pairwise (fun x y=>ltB x y=true)
  | 0=>QaT ho bW
  | n+1=>QaT ho (Qhs ho n)
theorem Qkv (g:Lev c h n (unT (Kv c h n))):(∃x∈Kv c h n,x.1=t)↔∃u,Tr c h n t u:=by
  constructor
  · rintro ⟨x, hx, rfl⟩
    have h1:=g.mem _ (b8.2 ⟨x,hx,rfl⟩)
    exact h1.1.imp fun u hu=>(h1.2 u).1 hu
  · rintro ⟨u, hu⟩
    obtain ⟨p,hp,rfl⟩:=g.all t u hu
    obtain ⟨x,hx,rfl⟩:=QdB hp
    exact ⟨x,hx,rfl⟩
theorem QcZ (hs:SgOk c):∀n,t∈txL c h n↔∃m,m≤n∧∃u,Tr c h m t u
  | 0=>by
    rw[txL,QaA,Qkv (QhN hs 0).1.1]
    exact ⟨fun k=>⟨0,aO _,k.resolve_left (by simp)⟩,fun ⟨m,hm,k⟩=> .inr (by rwa [Nat.le_zero.1 hm] at k)⟩
  | n+1=>by
    rw[txL,QaA,Qkv (QhN hs (n+1)).1.1,QcZ hs n]
    constructor
    · rintro (⟨m, h1, h2⟩ | h1)
      · exact ⟨m,by omega,h2⟩
      · exact ⟨n+1,aO _,h1⟩
    · rintro ⟨m, h1, h2⟩
      by_cases e:m=n+1
      · subst e; exact .inr h2
      · exact .inl ⟨m,by omega,h2⟩
theorem Qoo {l:List ByteArray}(ho:TO ltB)(k:l.Pairwise (fun x y=>ltB x y=true)):l.Nodup:=k.imp fun h e=>by subst e; exact absurd ((ho.irr _).symm.trans h) (by decide)
@[reducible] def Qrf (c:DSg) (h m:Int):Prop:=SgOk c∧(-1≤h∧h≤(c.1.length:Int) - 1)∧(0≤m∧m≤6)
def trV (c:DSg)[Decidable (SgOk c)](h m:Int):List ByteArray×Bool:=if Qrf c h m∧(txL c h m.toNat).length≤400 then (txL c h m.toNat,true) else ([],false)
theorem Qqa:inv h a=false↔¬a.2.1= -1∧¬a.2.1=h:=by simp[inv]
theorem QpF (hs:SgOk c)(ha:a∈c.2.2)(hi:inv h a=false):∃N x,tl (wdA c a)=N++[x]∧Qiz x=true∧∀b∈N,Qiz b=false:=by
  have h1:=(hs.arcs a ha).2.2.1
  have h2:0≤a.2.1∧a.2.1≤(c.1.length:Int) - 1:=h1.resolve_right fun k=>(Qqa.1 hi).1 k.1
  obtain ⟨g,hg⟩:∃g,c.1[a.2.1.toNat]? =some g:=⟨_,aa (by omega)⟩
  have h3:=(hs.sigs.1 a.2.1.toNat (by omega) g hg).1
  refine ⟨tl g.1,if a.2.2.1=true then 43 else 45, ?_,by split <;> rfl,fun b hb=> ?_⟩
  · unfold wdA sgB
    rw[Qln,hg]
    split <;> rfl
  · obtain ⟨k, hk⟩ := aM.1 hb
    have hk2:k < g.1.size:=by have:=(aj.1 hk).1; simpa [tl] using this
    have h4:g.1[k]=b:=by
      have:=(aj.1 hk).2
      simp only[tl,Array.getElem_toList] at this
      exact this
    have h5:=h3.1 k hk2
    rw[h4] at h5
    unfold Qiz
    simp only[cM,beq_eq_false_iff_ne,ne_eq]
    unfold ZY at h5
    refine ⟨fun e=> ?_,fun e=> ?_⟩ <;> subst e <;> revert h5 <;> simp
def cnS (l:List UInt8):Nat:=(l.filter Qiz).length
theorem Qlw (hs:SgOk c)(k:Tr c h n t u):Qrc (tl t)∧cnS (tl t)=n:=by
  induction k with
  | zero=>exact ⟨.inl rfl,rfl⟩
  | still _ _ _ ih=>exact ih
  | word _ h2 h3 ih=>
    obtain ⟨N,x,e,hx,hN⟩:=QpF hs h2 h3
    rw[Qln,e]
    refine ⟨.inr ⟨_,x,(aW ..).symm,hx⟩, ?_⟩
    have e2:N.filter Qiz=[]:=List.filter_eq_nil_iff.2 fun b hb=>by rw[hN b hb]; decide
    have:=ih.2
    unfold cnS at this ⊢
    rw[bA,bA,e2,cI,ak,this,d7,hx]; rfl
theorem Qn8 {u':Int}(hs:SgOk c)(k:Tr c h n t u)(k':Tr c h m t u'):n=m:=(Qlw hs k).2.symm.trans (Qlw hs k').2
def afS (c:DSg)(S:List Int)(h:Int)(A:DLv)(a:DAr):DLv:=if a.1∈S∧inv h a=false then VL .str A (wdA c a) (((XT .str A (wdA c a)).getD [])++[a.2.2.2]) else A
def afV (c:DSg)(S:List Int)(h:Int):DLv:=c.2.2.foldl (afS c S h) []
structure AfI (c:DSg) (h:Int) (S:List Int) (rs:List DAr) (A:DLv):Prop where
  nod:A.Pairwise fun p q=>p.1≠q.1
  mem:∀p∈A,(∃v,v∈p.2)∧∀v,v∈p.2↔∃a∈rs,inv h a=false∧a.1∈S∧wdA c a=p.1∧v=a.2.2.2
  all:∀a∈rs,inv h a=false→a.1∈S→∃p∈A,p.1=wdA c a
theorem QnL {k:Ty}{V:Type}{m:List (k.Den×V)}{x:k.Den}(hd:m.Pairwise fun p q=>p.1≠q.1):(∃v,(x,v)∈m∧XT k m x=some v)∨((∀p∈m,p.1≠x)∧XT k m x=none):=by
  by_cases e:∃p∈m,p.1=x
  · obtain ⟨p, hp, rfl⟩ := e
    obtain ⟨j,hj⟩:=aM.1 hp
    exact .inl ⟨p.2,hp,Vu hd hj rfl⟩
  · have e2 : ∀ p ∈ m, p.1 ≠ x := fun p hp g => e ⟨p, hp, g⟩
    exact .inr ⟨e2,Up e2⟩
theorem Ky {k:Ty}{V:Type}{m:List (k.Den×V)}{x:k.Den}{v:V}{p:k.Den×V}(hd:m.Pairwise fun p q=>p.1≠q.1):p∈VL k m x v↔(p∈m∧p.1≠x)∨p=(x,v):=by
  have h1:=QdH (x:=x) (v:=v) hd
  constructor
  · intro hp
    rcases QeL hp with e | hp2
    · exact .inr e
    · by_cases e : p.1 = x
      · right
        obtain ⟨j,hj⟩:=aM.1 hp
        have h2:=Vu h1 hj e
        rw[WW,if_pos ((k.beq_iff _ _).2 rfl)] at h2
        cases h2
        exact Prod.ext e rfl
      · exact .inl ⟨hp2,e⟩
  · have h2:∀y w,(y,w)∈VL k m x v↔XT k (VL k m x v) y=some w:=fun y w=>by
      rcases QnL (x:=y) h1 with ⟨w',h2,h3⟩ | ⟨h2,h3⟩
      · rw [h3]
        refine ⟨fun h4=> ?_,fun h4=>by cases h4; exact h2⟩
        obtain ⟨j,hj⟩:=aM.1 h4
        rw[← Vu h1 hj rfl,h3]
      · rw[h3]; exact ⟨fun h4=>absurd rfl (h2 _ h4),fun h4=>by cases h4⟩
    rintro (⟨hp,e⟩ | rfl)
    · obtain ⟨y, w⟩ := p
      rw[h2,WW,if_neg (fun g=>e ((k.beq_iff _ _).1 g).symm)]
      obtain ⟨j,hj⟩:=aM.1 hp
      exact Vu hd hj rfl
    · rw[h2,WW,if_pos ((k.beq_iff _ _).2 rfl)]
theorem AfI.zero:AfI c h S [] []:=⟨bW,by simp,by simp⟩
theorem AfI.step {rs:List DAr}(g:AfI c h S rs A):AfI c h S (rs++[a]) (afS c S h A a):=by
  unfold afS
  split
  · rename_i h1
    have hold:∀v,v∈((XT .str A (wdA c a)).getD [])↔∃b∈rs,inv h b=false∧b.1∈S∧wdA c b=wdA c a∧v=b.2.2.2:=fun v=>by
      rcases QnL (k:= .str) (x:=wdA c a) g.nod with ⟨w,h2,h3⟩ | ⟨h2,h3⟩
      · rw[h3]; exact (g.mem _ h2).2 v
      · rw [h3]
        refine ⟨fun k=>(by cases k),fun ⟨b,k1,k2,k3,k4,_⟩=> ?_⟩
        obtain ⟨p,hp,e⟩:=g.all b k1 k2 k3
        exact absurd (e.trans k4) (h2 p hp)
    refine ⟨QdH (k:= .str) g.nod,fun p hp=> ?_,fun b hb k1 k2=> ?_⟩
    · rcases (Ky (k := .str) g.nod).1 hp with ⟨hp, e⟩ | rfl
      · refine ⟨(g.mem p hp).1, fun v => ((g.mem p hp).2 v).trans ⟨fun ⟨b, k1, k2⟩ => ⟨b, aP _ k1, k2⟩, fun ⟨b, k1, k2, k3, k4, k5⟩ => ?_⟩⟩
        rcases aH.1 k1 with k1 | k1
        · exact ⟨b,k1,k2,k3,k4,k5⟩
        · rw[aE] at k1; subst k1; exact absurd k4.symm e
      · refine ⟨⟨a.2.2.2, aR _ (aE.2 rfl)⟩, fun v => ?_⟩
        show v∈_++[a.2.2.2]↔_
        rw[aH,hold,aE]
        constructor
        · rintro (⟨b, k1, k2, k3, k4, k5⟩ | rfl)
          · exact ⟨b,aP _ k1,k2,k3,k4,k5⟩
          · exact ⟨a,aR _ (aE.2 rfl),h1.2,h1.1,rfl,rfl⟩
        · rintro ⟨b, k1, k2, k3, k4, k5⟩
          rcases aH.1 k1 with k1 | k1
          · exact .inl ⟨b,k1,k2,k3,k4,k5⟩
          · rw[aE] at k1; subst k1; exact .inr k5
    · rcases aH.1 hb with hb | hb
      · obtain ⟨p, hp, e⟩ := g.all b hb k1 k2
        by_cases e2:p.1=wdA c a
        · exact ⟨_,(Ky (k:= .str) g.nod).2 (.inr rfl),by rw[← e,e2]⟩
        · exact ⟨p,(Ky (k:= .str) g.nod).2 (.inl ⟨hp,e2⟩),e⟩
      · rw [aE] at hb; subst hb
        exact ⟨_,(Ky (k:= .str) g.nod).2 (.inr rfl),rfl⟩
  · rename_i h1
    refine ⟨g.nod,fun p hp=>⟨(g.mem p hp).1,fun v=>((g.mem p hp).2 v).trans ⟨fun ⟨b,k1,k2⟩=>⟨b,aP _ k1,k2⟩,fun ⟨b,k1,k2,k3,k4⟩=> ?_⟩⟩,fun b hb k1 k2=> ?_⟩
    · rcases aH.1 k1 with k1 | k1
      · exact ⟨b,k1,k2,k3,k4⟩
      · rw[aE] at k1; subst k1; exact absurd ⟨k3,k2⟩ h1
    · rcases aH.1 hb with hb | hb
      · exact g.all b hb k1 k2
      · rw[aE] at hb; subst hb; exact absurd ⟨k2,k1⟩ h1
structure NxI (c:DSg) (h:Int) (V:ByteArray→Int→Prop) (M:DLv):Prop where
  nod:M.Pairwise fun p q=>p.1≠q.1
  mem:∀p∈M,(∃v,V p.1 v)∧∀u,u∈p.2↔Ch c.2.2 h (fun v=>V p.1 v) u
  all:∀s v,V s v→∃p∈M,p.1=s
theorem NxI.congr {V W:ByteArray→Int→Prop}(g:NxI c h V M)(e:∀s v,V s v↔W s v):NxI c h W M:=
  ⟨g.nod,fun p hp=>⟨(g.mem p hp).1.imp fun v hv=>(e _ _).1 hv,fun u=>((g.mem p hp).2 u).trans (Ch.congr fun v=>e _ _)⟩,fun s v hv=>g.all s v ((e _ _).2 hv)⟩
theorem NxI.zero:NxI c h (fun _ _=>False) []:=⟨bW,by simp,fun _ _ k=>k.elim⟩
theorem NxI.step {V:ByteArray→Int→Prop}{W:Int→Prop}(g:NxI c h V M)(hf:∀v,¬V s v)(hT:∀u,u∈T_↔Ch c.2.2 h W u)(hw:∃w,W w):NxI c h (fun s' v'=>V s' v'∨(s'=s∧W v')) (VL .str M s T_):=by
  have hnew:∀p∈M,p.1≠s:=fun p hp e=>by
    obtain ⟨v,hv⟩:=(g.mem p hp).1
    rw[e] at hv; exact hf v hv
  refine ⟨QdH (k:= .str) g.nod,fun p hp=> ?_,fun s' v' hv=> ?_⟩
  · rcases (Ky (k := .str) g.nod).1 hp with ⟨hp, e⟩ | rfl
    · exact ⟨(g.mem p hp).1.imp fun _=> .inl,fun u=>((g.mem p hp).2 u).trans (Ch.congr fun v=>⟨.inl,fun k=>k.resolve_right fun k=>e k.1⟩)⟩
    · exact ⟨hw.imp fun w hw=> .inr ⟨rfl,hw⟩,fun u=>(hT u).trans (Ch.congr fun v=>⟨fun k=> .inr ⟨rfl,k⟩,fun k=>k.elim (fun k=>absurd k (hf v)) fun k=>k.2⟩)⟩
  · rcases hv with hv | ⟨rfl, _⟩
    · obtain ⟨p, hp, e⟩ := g.all s' v' hv
      exact ⟨p,(Ky (k:= .str) g.nod).2 (.inl ⟨hp,hnew p hp⟩),e⟩
    · exact ⟨_,(Ky (k:= .str) g.nod).2 (.inr rfl),rfl⟩
def Vm (c:DSg)(h:Int)(D:DLv)(q:ByteArray×List Int)(E:DLv)(s:ByteArray)(v:Int):Prop:=Vs c h D s v∨∃p∈E,s=q.1++p.1∧v∈p.2
structure OuI (c:DSg) (h:Int) (n:Nat) (out:List ByteArray):Prop where
  nod:out.Nodup
  mem:∀t,t∈out↔∃m,m≤n∧∃u,Tr c h m t u
theorem OuI.zero:OuI c h 0 [ByteArray.empty]:=⟨by simp,fun t=>by
  rw[aE]
  exact ⟨fun e=>⟨0,aO _,0,by rw[e]; exact .zero⟩,fun ⟨m,hm,u,k⟩=>by rw[Nat.le_zero.1 hm] at k; exact (HG.1 k).1⟩⟩
theorem OuI.len (hs:SgOk c)(ho:TO ltB){out:List ByteArray}(g:OuI c h n out):out.length=(txL c h n).length:=
  Nat.le_antisymm (Jw g.nod fun t ht=>(QcZ hs n).2 ((g.mem t).1 ht)) (Jw (Qoo ho (Qhs ho n)) fun t ht=>(g.mem t).2 ((QcZ hs n).1 ht))
theorem OuI.next (hs:SgOk c){out:List ByteArray}(g:OuI c h n out)(k:Lev c h (n+1) M){E:DLv}(hE:E.Perm M):OuI c h (n+1) (out++E.map fun p=>p.1):=by
  have hn:(E.map fun p=>p.1).Nodup:=by
    unfold List.Nodup
    rw[List.pairwise_map]
    exact hE.symm.pairwise k.nod fun h e=>h e.symm
  refine ⟨ba.2 ⟨g.nod,hn,fun x hx y hy e=> ?_⟩,fun t=> ?_⟩
  · subst e
    obtain ⟨m,hm,u,k1⟩:=(g.mem x).1 hx
    obtain ⟨p,hp,rfl⟩:=b8.1 hy
    have h2:=k.mem p (hE.mem_iff.1 hp)
    obtain ⟨u2,hu2⟩:=h2.1
    have:=Qn8 hs k1 ((h2.2 u2).1 hu2)
    omega
  · rw [aH, g.mem]
    constructor
    · rintro (⟨m, hm, k1⟩ | h1)
      · exact ⟨m,by omega,k1⟩
      · obtain ⟨p, hp, rfl⟩ := b8.1 h1
        have h2:=k.mem p (hE.mem_iff.1 hp)
        exact ⟨n+1,aO _,h2.1.imp fun u hu=>(h2.2 u).1 hu⟩
    · rintro ⟨m, hm, u, k1⟩
      by_cases e:m=n+1
      · subst e
        obtain ⟨p,hp,rfl⟩:=k.all t u k1
        exact .inr (b8.2 ⟨p,hE.mem_iff.2 hp,rfl⟩)
      · exact .inl ⟨m,by omega,u,k1⟩
end
end Go.Proofs.YtfkmmpfdncopdaaGreat
namespace Go.Proofs.YtfkmmpfdncopdaaGreat
open Go.RowKit
set_option maxRecDepth 100000
set_option maxHeartbeats 4000000
theorem Qlb {α:Type _}[DecidableEq α]{lt:α→α→Bool}(x:α):∀l:List α,(Q2 lt x l).length≤l.length+1
  | []=>aO _
  | y :: l=>by
    unfold Q2
    have:=Qlb (lt:=lt) x l
    split
    · simp only[aq]; omega
    · split <;> simp
section
variable {c:DSg}{h:Int}{n k i j:Nat}{S set:List Int}{a:DAr}{rs as_:List DAr}{x y z:DTx}{l L out:List DTx}{s t:ByteArray}{u v:Int}{g:Qy}
def ftT (x:DTx)(j:Nat)(y:DTx):DTx:=(y.1,(x.2.1.take j).foldl (fun s k=>Q2 ltI k s) y.2.1,y.2.2)
theorem Qel:∀(m:List Int) {s:List Int},(m.foldl (fun s k=>Q2 ltI k s) s).length≤s.length+m.length
  | [],s=>aO _
  | k :: m,s=>by have h1:=Qel m (s:=Q2 ltI k s); have h2:=Qlb (lt:=ltI) k s; simp only[bq,aq]; omega
def Sm (N:Nat)(l:List DTx):Prop:=l.length≤N∧∀y∈l,y.2.1.length≤N
theorem Sm.put (g:Sm n l)(hx:x.2.1.length≤1):Sm (n+1) (UR l x):=by
  obtain ⟨g1,g2⟩:=g
  suffices k:∀l:List DTx,(∀y∈l,y.2.1.length≤n)→(UR l x).length≤l.length+1∧∀y∈UR l x,y.2.1.length≤n+1 by
    obtain ⟨k1,k2⟩:=k l g2
    exact ⟨by omega,k2⟩
  intro l
  induction l with
  | nil=>exact fun _=>⟨aO _,fun y hy=>by rw[UR,aE] at hy; subst hy; omega⟩
  | cons z l ih=>
    intro hl
    rw[UR]
    split
    · refine ⟨by simp, fun y hy => ?_⟩
      rcases aC.1 hy with rfl | hy
      · have h1 := Qel x.2.1 (s := z.2.1)
        have h2:=hl z (ay ..)
        dsimp only; omega
      · have:=hl y (ax _ hy); omega
    · obtain ⟨k1, k2⟩ := ih fun y hy => hl y (ax _ hy)
      refine ⟨by simp only[aq]; omega,fun y hy=> ?_⟩
      rcases aC.1 hy with rfl | hy
      · have:=hl y (ay ..); omega
      · exact k2 y hy
theorem Sm.ar (g:Sm n l):Sm (n+1) (arT c h x l a):=by
  unfold arT
  split
  · exact g.put (aO _)
  · exact ⟨cJ g.1,fun y hy=>cJ (g.2 y hy)⟩
theorem Sm.row:∀(as_:List DAr) {n:Nat} {l:List DTx},Sm n l→Sm (n+as_.length) (QmY c h as_ x l)
  | [],_,_,g=>g
  | a :: l,n,_,g=>by
    have:=Sm.row l (g.ar (c:=c) (h:=h) (x:=x) (a:=a))
    rw[show n+(a :: l).length=n+1+l.length by simp only[aq]; omega]
    exact this
theorem Sm.le {m:Nat}(g:Sm n l)(h:n≤m):Sm m l:=⟨by have:=g.1; omega,fun y hy=>by have:=g.2 y hy; omega⟩
theorem Sm.zero:Sm 0 []:=⟨aO _,fun _ h=>by cases h⟩
def txP (c:DSg)(h:Int):Nat→List ByteArray
  | 0=>[]
  | n+1=>txL c h n
end
end Go.Proofs.YtfkmmpfdncopdaaGreat
namespace Go.Proofs.YtfkmmpfdncopdaaGreat
open Go.RowKit
set_option maxRecDepth 100000
set_option maxHeartbeats 4000000
section
variable {c:DSg}{h:Int}{n k i j:Nat}{S set:List Int}{a:DAr}{rs as_:List DAr}{out:List Int}{s t:ByteArray}{u v:Int}{K M A D E L L1 L2:DLv}{p q:ByteArray×List Int}
def clV (c:DSg)(h:Int)(S:List Int):List Int:=clL c.2.2 h 301 0 S
@[reducible] def Rng (c:DSg) (S:List Int):Prop:=S.Nodup∧∀u∈S,0≤u∧u < (c.2.1.length:Int)
def edT (ss:List Qy)(l:Int×Bool):ByteArray:=if l.1 < 0 then ⟨#[126]⟩ else ((ss[l.1.toNat]?).getD (ByteArray.empty,0)).1++sgB l.2
def afT (c:DSg)(S:List Int)(h:Int)(i:Nat):DLv:=(c.2.2.take i).foldl (afS c S h) []
end
end Go.Proofs.YtfkmmpfdncopdaaGreat
namespace Go.Proofs.YtfkmmpfdncopdaaGreat
open Go.RowKit
set_option maxRecDepth 100000
set_option maxHeartbeats 4000000
def Y9 (l:List ByteArray)(s:ByteArray):Bool:=l.any fun y=>decide (s=y)
theorem Qdz {l:List ByteArray}{s:ByteArray}:Y9 l s=true↔s∈l:=by
  unfold Y9
  rw[bR]
  exact ⟨fun ⟨y,hy,e⟩=>by rw[ae e]; exact hy,fun h=>⟨s,h,aJ rfl⟩⟩
theorem Qou {l:List ByteArray}{s:ByteArray}(h:¬s∈l):Y9 l s=false:=cd.2 fun e=>h (Qdz.1 e)
section
variable {l:List ByteArray}{s y:ByteArray}{m:Int}
theorem Qmz (hP:∀j:Nat,(j:Int) < m→∀y,l[j]? =some y→ltB y s=true)(hy:l[m.toNat]? =some y)(h:Op.bytesLess y.toList s.toList=true):∀j:Nat,(j:Int) < m+1→∀z,l[j]? =some z→ltB z s=true:=fun j hj z hz=>by
  by_cases e:(j:Int) < m
  · exact hP j e z hz
  · have : j = m.toNat := by omega
    subst this
    rw[hy] at hz; cases hz; exact h
theorem QpH (hP:∀j:Nat,(j:Int) < m→∀y,l[j]? =some y→ltB y s=true)(h0:0≤m)(h1:m≤(l.length:Int))(h:∀y,l[m.toNat]? =some y→ltB y s=false∧y≠s):l.take m.toNat++[s]++l.drop m.toNat=Q2 ltB s l:=by
  rw[QdQ (k:=m.toNat) (fun j hj z hz=>hP j (by omega) z hz) (by omega) h]; simp
end
theorem ZW (l:List ByteArray)(s:ByteArray):FC Tryz.prog 69 [(false,[.dat (.sl 9 .str) l]),(false,[dS s])] [] 0 (QU (lB (Y9 l s))):=by
 refine Qj Tryz.func69 rfl rfl Tryz.ntmps69 fun O_ hO w0_ N0_ X_ h0_ f0_=> ?_
 iterate 6 refine w_ ?_
 refine alL 7 fun hl1=> ?_
 iterate 4 refine w_ ?_
 refine lpK l.length (fun k=>∀j,j < k→∀y,l[j]? =some y→¬y=s) (fun k=>⟨[(1,lf (dS s)),(7,lf (.dat (.sl 9 .str) l)),(8,lI (l.length:Int)),(9,lI (k:Int))],[]⟩) ((fun j hj=>absurd hj (bc j))) ?_ fun k hk2 hno=> ?_
 · exact Wk.of [] rfl ⟨rfl,rfl,rfl,rfl,trivial⟩ trivial rfl rfl
 iterate 4 refine w_ ?_
 cases hb3:(decide ((k:Int) < (l.length:Int)))
 ·have hb3':=ab hb3
  refine w_ ?_
  refine Qi ?_
  refine (?_:AC _ _ _ _ _)
  iterate 3 refine w_ ?_
  refine Qb<|fqB hO ?_
  first | exact (Qou fun hm=>by obtain ⟨j,hj⟩:=aM.1 hm; exact hno j (by have:=(aj.1 hj).1; omega) s hj rfl).symm
 ·have hb3':=ae hb3
  iterate 5 refine w_ ?_
  obtain ⟨x4,hx5⟩:∃z,l[k]? =some z:=⟨_,aa (by omega)⟩
  iterate 9 refine w_ ?_
  cases hb6:(decide (x4=s))
  ·have hb6':=ab hb6
   refine w_ ?_
   refine AC.skip ?_
   refine (?_:AC _ _ _ _ _)
   iterate 3 refine w_ ?_
   refine Qd ?_
   refine lK_ ((Y5 hno hx5 (by assumption))) ?_
   exact Wk.of [] rfl ⟨rfl,rfl,rfl,rfl,trivial⟩ trivial rfl rfl
  ·have hb6':=ae hb6
   iterate 4 refine w_ ?_
   refine Qb<|fqB hO ?_
   exact (Qdz.2 (by have:=ao hx5; simp_all)).symm
section
variable {c:DSg}[Decidable (SgOk c)]{h m mo:Int}{n:Nat}
end
section
variable {a b:Zk}[∀s,Decidable (StgOk s)][∀c,Decidable (SgOk c)]{m:Int}{k:Nat}{s:ByteArray}
def tiV (a b:Zk)[∀s,Decidable (StgOk s)][∀c,Decidable (SgOk c)](m:Int):Bool×Bool:=
  if (sgV a).2=true∧(sgV b).2=true∧(trV (sgV a).1 (-1) m).2=true∧(trV (sgV b).1 (-1) m).2=true then ((trV (sgV a).1 (-1) m).1.all fun s=>Y9 (trV (sgV b).1 (-1) m).1 s,true) else (false,false)
end
end Go.Proofs.YtfkmmpfdncopdaaGreat
namespace Go.Proofs.YtfkmmpfdncopdaaGreat
open Go.RowKit
set_option maxRecDepth 100000
set_option maxHeartbeats 4000000
def kyL (B:DLv):List ByteArray:=B.map fun p=>p.1
section
variable {c:DSg}[Decidable (SgOk c)]{h m:Int}{n k:Nat}{M B Z:DLv}{out:List ByteArray}{z:ByteArray×List Int}
end
theorem XB (s:List ByteArray)(v:ByteArray):FC Tryz.prog 161 [(false,[.dat (.sl 9 .str) s]),(false,[dS v])] [] 0 (QU (lI (Zb (fun y=>decide (v=y)) s))):=by
 refine Qj Tryz.func161 rfl rfl Tryz.ntmps161 fun O_ hO w0_ N0_ X_ h0_ f0_=> ?_
 iterate 6 refine w_ ?_
 refine alL 6 fun hl1=> ?_
 iterate 4 refine w_ ?_
 refine lpK s.length (fun k=>NoneTo (fun y=>decide (v=y)) s k) (fun k=>⟨[(0,lf (.dat (.sl 9 .str) s)),(1,lf (dS v)),(7,lI (s.length:Int)),(8,lI (k:Int))],[]⟩) (NoneTo.zero) ?_ fun k hk2 hno=> ?_
 · exact Wk.of [] rfl ⟨rfl,rfl,rfl,rfl,trivial⟩ trivial rfl rfl
 iterate 4 refine w_ ?_
 cases hb3:(decide ((k:Int) < (s.length:Int)))
 ·have hb3':=ab hb3
  refine w_ ?_
  refine Qi ?_
  refine (?_:AC _ _ _ _ _)
  iterate 3 refine w_ ?_
  refine Qb<|fqI hO ?_
  first | exact (hno.no (by omega)).symm
 ·have hb3':=ae hb3
  iterate 12 refine w_ ?_
  obtain ⟨x4,hx5⟩:∃z,s[k]? =some z:=⟨_,aa (by omega)⟩
  iterate 4 refine w_ ?_
  cases hb6:(decide (v=x4))
  ·have hb6':=ab hb6
   refine w_ ?_
   refine AC.skip ?_
   refine (?_:AC _ _ _ _ _)
   iterate 3 refine w_ ?_
   refine Qd ?_
   refine lK_ (hno.step hx5 (by assumption)) ?_
   exact Wk.of [] rfl ⟨rfl,rfl,rfl,rfl,trivial⟩ trivial rfl rfl
  ·have hb6':=ae hb6
   iterate 5 refine w_ ?_
   refine Qb<|fqI hO ?_
   exact (hno.at hx5 (by assumption)).symm
theorem Q1 (s:List ByteArray)(v:ByteArray):FC Tryz.prog 66 [(false,[.dat (.sl 9 .str) s]),(false,[dS v])] [] 0 (QU (lB (s.any (fun y=>decide (v=y))))):=by
 refine Qj Tryz.func66 rfl rfl Tryz.ntmps66 fun O_ hO w0_ N0_ X_ h0_ f0_=> ?_
 iterate 6 refine w_ ?_
 refine lc (dK (XB s v) Qg4) ?_
 iterate 3 refine w_ ?_
 refine Qb<|fqB hO ?_
 exact Xz _ _
section
variable {a b:Zk}[∀s,Decidable (StgOk s)][∀c,Decidable (SgOk c)]{m:Int}
end
end Go.Proofs.YtfkmmpfdncopdaaGreat
namespace Go.Proofs.YtfkmmpfdncopdaaGreat
open Go.RowKit
set_option maxRecDepth 100000
set_option maxHeartbeats 4000000
def Qpm (f:Hdr→List Int):Option (List Int)→List Hdr→List Hdr
  | _,[]=>[]
  | p,y :: l=>if p=some (f y) then Qpm f p l else y :: Qpm f (some (f y)) l
section
variable {f:Hdr→List Int}{vs zs:List Hdr}{m k:Nat}{x y:Hdr}{l:List (List Int)}{i j n:Int}
end
end Go.Proofs.YtfkmmpfdncopdaaGreat
namespace Go.Proofs.YtfkmmpfdncopdaaGreat
open Go.RowKit
set_option maxRecDepth 100000
set_option maxHeartbeats 4000000
theorem Qbt {α:Type _}[DecidableEq α]{lt:α→α→Bool}(x:α):∀l:List α,(Q2 lt x l).length≤l.length+1
  | []=>aO _
  | y :: l=>by
    unfold Q2
    have:=Qbt (lt:=lt) x l
    split
    · simp only[aq]; omega
    · split <;> simp
def shV (n:YM)(t u:Int):Bool:=((n.2[t.toNat]?).getD ([],[])).1.any fun z=>decide (z∈((n.2[u.toNat]?).getD ([],[])).1)
def Qrd (n:YM)(t:Int)(l:List Int):List (List Int):=(l.filter fun u=>decide (t < u)&& !shV n t u).map fun u=>[t,u]
def Qq9 (n:YM)(t:Int)(l:List Int):List (List Int):=(l.filter fun u=> !shV n t u).map fun u=>[t,u]
def QqG (n:YM)(on l:List Int):List (List Int):=l.flatMap fun t=>Qrd n t on
def QrK (n:YM)(on:List Int)(k:Nat):List (List Int):=(List.range k).flatMap fun i=>Qq9 n ((on[i]?).getD 0) (on.drop (i+1))
def QrM (n:YM)(ms:List ByteArray):List (List Int):=ms.flatMap fun mk=>QqG n (VK n mk) (VK n mk)
section
variable {n:YM}{k f i j:Nat}{mk:ByteArray}{t u:Int}{ts on l:List Int}{st:RS}{s:Zk}{xt xu:QO}{ms:List ByteArray}{as_ bs:List (List Int)}
end
section
variable {vs vs2:List Hdr}{gf gf2 gj:Hdr→List Int}{l:List (List Int)}{m:Int}{x:List Int}
end
end Go.Proofs.YtfkmmpfdncopdaaGreat
namespace Go.Proofs.YtfkmmpfdncopdaaGreat
open Go.RowKit
set_option maxRecDepth 100000
set_option maxHeartbeats 4000000
theorem Qhy {n:Nat}{arcs:List DAr}:∀{f k:Nat} {c d:List ByteArray},goS n arcs f k c=some d→d.length=c.length
  | 0,_,c,d,h=>by rw[goS] at h; cases h; rfl
  | f+1,k,c,d,h=>by
    rw[goS] at h
    split at h
    · rw[Qhy h,Qd5]
    · cases h
section
variable [∀s,Decidable (StgOk s)]{s:Zk}
theorem Qhl (h:(sgV s).2=true):SgW (sgV s).1:=by
  unfold sgV at h ⊢
  split at h
  · rename_i h1
    rw[if_pos h1]
    obtain ⟨hs,hN1,hN2,_,hM,hL⟩:=ZT h1.1
    split at h
    · rename_i c hg
      have hl:=Qhy hg
      rw[aB] at hl
      refine ⟨hs.sigs.2.2,⟨by show 1≤c.length; omega,by show c.length≤300; omega⟩, ?_, ?_⟩
      · show (Qu _ _).length ≤ _
        unfold Qu
        rw[aQ]; omega
      · intro a ha
        refine ⟨?_, ?_⟩
        · show InR c.length a
          rw[hl]; exact Wh hM a ha
        · obtain ⟨v, hv, rfl⟩ := b8.1 ha
          obtain ⟨_,⟨h2,h3⟩,_⟩:=hM v hv
          obtain ⟨l,hl2⟩:∃l,s.2.2.1[v.2.1.toNat]? =some l:=⟨_,aa (by omega)⟩
          have h4:=hs.labs l (ao hl2)
          show VS (s.2.1.length:Int) ((Qbj s.2.2.1 v.2.1).1,(Qbj s.2.2.1 v.2.1).2)
          rw[Qdc hl2]; exact h4
    · cases h
  · cases h
end
end Go.Proofs.YtfkmmpfdncopdaaGreat
