/- The traces of a state graph. Plain law. -/
import Derived.Test.YtgpdhgadmjfokaaGreatGWz
import Derived.Test.YtgpdhgadmjfokaaGreatGSs
import Derived.Test.YtgpdhgadmjfokaaGreatGFz
import Derived.Test.YtgpdhgadmjfokaaGreatGWv
import Derived.Test.YtgpdhgadmjfokaaGreatGWp
import Derived.Test.YtgpdhgadmjfokaaGreatGUd
import Derived.Test.YtgpdhgadmjfokaaGreatGAl
import Derived.Test.YtgpdhgadmjfokaaGreatGStr
import Derived.Test.YtgpdhgadmjfokaaGreatProg
import Derived.KernelRfl
import Derived.Test.YtgpdhgadmjfokaaGreatGWk
import Derived.Test.YtgpdhgadmjfokaaGreatGUj
import Derived.Test.YtgpdhgadmjfokaaGreatGVi
set_option linter.unusedSimpArgs false
set_option linter.unusedVariables false
set_option linter.unusedSectionVars false
namespace Go.Proofs.YtgpdhgadmjfokaaGreat
open Go.RowKit
set_option maxRecDepth 100000
set_option maxHeartbeats 4000000
def inv (h:Int)(a:DAr):Bool:=decide (a.2.1= -1)||decide (a.2.1=h)
inductive Ch (rs:List DAr) (h:Int) (S:Int→Prop):Int→Prop
  | base {u:Int}:S u→Ch rs h S u
  | step {a:DAr}:Ch rs h S a.1→a∈rs→inv h a=true→Ch rs h S a.2.2.2
def stS (h:Int)(S:List Int)(a:DAr):List Int:=if inv h a=true∧a.1∈S then Z7 ltI a.2.2.2 S else S
def stP (h:Int)(rs:List DAr)(S:List Int):List Int:=rs.foldl (stS h) S
def stN (h:Int)(rs:List DAr):Nat→List Int→List Int
  | 0,S=>S
  | k+1,S=>stP h rs (stN h rs k S)
def stl (c:DSg)(h:Int)(S:List Int):List Int:=stN h c.2.2 c.2.1.length S
@[reducible] def Srt (S:List Int):Prop:=S.Pairwise fun x y=>ltI x y=true
section
variable {rs as_:List DAr}{a:DAr}{h:Int}{S T_:List Int}{P Q:Int→Prop}{u v:Int}{n k:Nat}
theorem Ch.mono (hq:∀u,P u→Ch rs h Q u)(k:Ch rs h P u):Ch rs h Q u:=by
  induction k with
  | base h1=>exact hq _ h1
  | step _ h2 h3 ih=>exact .step ih h2 h3
theorem QlY (hq:∀u,P u↔Q u):Ch rs h P u↔Ch rs h Q u:=⟨Ch.mono fun _ k=> .base ((hq _).1 k),Ch.mono fun _ k=> .base ((hq _).2 k)⟩
theorem Qin (hx:u∈S):u∈stS h S a:=by
  unfold stS; split
  · exact Z4.2 (.inr hx)
  · exact hx
theorem QdP (hx:u∈S):u∈stP h as_ S:=by
  induction as_ generalizing S with
  | nil=>exact hx
  | cons a l ih=>exact ih (Qin hx)
theorem Qm6 (hx:u∈S):u∈stN h rs k S:=by
  induction k with
  | zero=>exact hx
  | succ k ih=>exact QdP ih
theorem QnQ (hs:Srt S):Srt (stS h S a):=by
  unfold stS; split
  · exact Ju Zo hs
  · exact hs
theorem Qh7 (hs:Srt S):Srt (stP h as_ S):=by
  induction as_ generalizing S with
  | nil=>exact hs
  | cons a l ih=>exact ih (QnQ hs)
theorem K2 (hs:Srt S):Srt (stN h rs k S):=by
  induction k with
  | zero=>exact hs
  | succ k ih=>exact Qh7 ih
theorem QpI (hsub:∀a∈as_,a∈rs)(hS:∀u∈S,Ch rs h P u):∀u∈stP h as_ S,Ch rs h P u:=by
  induction as_ generalizing S with
  | nil=>exact hS
  | cons a l ih=>
    refine ih (fun b hb=>hsub b (aC _ hb)) fun u hu=> ?_
    unfold stS at hu
    split at hu
    · rename_i h1
      rcases Z4.1 hu with rfl | h2
      · exact .step (hS _ h1.2) (hsub a (aB ..)) h1.1
      · exact hS _ h2
    · exact hS _ hu
theorem Qmg (hS:∀u∈S,Ch rs h P u):∀u∈stN h rs k S,Ch rs h P u:=by
  induction k with
  | zero=>exact hS
  | succ k ih=>exact QpI (fun _ h=>h) ih
theorem Qns (ha:a∈as_)(hi:inv h a=true)(hu:a.1∈S):a.2.2.2∈stP h as_ S:=by
  induction as_ generalizing S with
  | nil=>cases ha
  | cons b l ih=>
    rcases aJ.1 ha with rfl | ha
    · refine QdP (as_ := l) ?_
      unfold stS; rw[if_pos ⟨hi,hu⟩]
      exact Z4.2 (.inl rfl)
    · exact ih ha (Qin hu)
theorem Vb (hs:Srt S):S.Nodup:=hs.imp fun h e=>by subst e; simp[ltI] at h
theorem JO {α:Type}[DecidableEq α]:∀{l m:List α},l.Nodup→(∀x∈l,x∈m)→l.length≤m.length
  | [],_,_,_=>aU _
  | a :: l,m,hn,hs=>by
    obtain ⟨h1,h2⟩:=bR.1 hn
    have ha:=hs a (aB ..)
    have h3:=JO (m:=m.erase a) h2 fun x hx=>(List.mem_erase_of_ne (fun e=>h1 (by rw[← e]; exact hx))).2 (hs x (aC _ hx))
    rw[List.length_erase_of_mem ha] at h3
    have:=List.length_pos_of_mem ha
    rw[ax]; omega
theorem Qej (hs:Srt S)(hn:∀u∈S,0≤u∧u < (n:Int)):S.length≤n:=by
  have h1:(S.map Int.toNat).Nodup:=by
    unfold List.Nodup
    rw[dd]
    exact (Vb hs).imp_of_mem fun ha hb h e=>h (by have:=hn _ ha; have:=hn _ hb; omega)
  have h2:(S.map Int.toNat) ⊆ List.range n:=fun x hx=>by
    obtain ⟨u,hu,rfl⟩:=bB.1 hx
    have:=hn u hu
    exact cd.2 (by omega)
  have:=JO h1 h2
  rwa [aN,List.length_range] at this
theorem QiZ (hr:∀a∈rs,0≤a.2.2.2∧a.2.2.2 < (n:Int))(hn:∀u∈S,0≤u∧u < (n:Int)):∀u∈stN h rs k S,0≤u∧u < (n:Int):=by
  have h1:∀u,Ch rs h (fun v=>v∈S) u→0≤u∧u < (n:Int):=fun u hu=>by
    induction hu with
    | base h2=>exact hn _ h2
    | step _ h2 _ _=>exact hr _ h2
  exact fun u hu=>h1 u (Qmg (P:=fun v=>v∈S) (fun v hv=> .base hv) u hu)
theorem Qpg (hs:Srt S)(ht:Srt T_)(hsub:∀u∈S,u∈T_):T_=S∨S.length < T_.length:=by
  by_cases hc:∀x∈T_,x∈S
  · exact .inl (Zo.ext ht hs fun x=>⟨hc x,hsub x⟩)
  · obtain ⟨x, hx⟩ := Classical.not_forall.1 hc
    obtain ⟨h1,h2⟩:=Classical.not_imp.1 hx
    have:=JO (l:=x :: S) (m:=T_) (bR.2 ⟨h2,Vb hs⟩) fun y hy=>by
      rcases aJ.1 hy with rfl | hy
      · exact h1
      · exact hsub y hy
    rw[ax] at this
    exact .inr this
theorem Qiw (hs:Srt S)(h1:stP h rs (stN h rs k S)=stN h rs k S):∀j,stN h rs (k+j) S=stN h rs k S
  | 0=>rfl
  | j+1=>by rw[← bP,stN,Qiw hs h1 j,h1]
theorem Qk8 (hs:Srt S):(∃j,j < k∧stP h rs (stN h rs j S)=stN h rs j S)∨S.length+k≤(stN h rs k S).length:=by
  induction k with
  | zero=>exact .inr (aQ _)
  | succ k ih=>
    rcases ih with ⟨j,h1,h2⟩ | h1
    · exact .inl ⟨j,by omega,h2⟩
    · rcases Qpg (K2 (h := h) (rs := rs) (k := k) hs) (Qh7 (K2 hs)) (fun u hu => QdP (h := h) (as_ := rs) hu) with h2 | h2
      · exact .inl ⟨k,by omega,h2⟩
      · right; rw[stN]; omega
theorem Qhb (hs:Srt S)(hr:∀a∈rs,0≤a.2.2.2∧a.2.2.2 < (n:Int))(hn:∀u∈S,0≤u∧u < (n:Int)):∀u,u∈stN h rs n S↔Ch rs h (fun v=>v∈S) u:=by
  have hc:stP h rs (stN h rs n S)=stN h rs n S:=by
    rcases Qk8 (rs:=rs) (h:=h) (k:=n) hs with ⟨j,h1,h2⟩ | h1
    · have h3 := Qiw hs h2 (n - j)
      rw[show j+(n - j)=n by omega] at h3
      rw[h3,h2]
    · have h2 := Qej (K2 (h := h) (rs := rs) (k := n) hs) (QiZ hr hn)
      have h3:S=[]:=bw (by omega)
      subst h3
      have h4:∀(l:List DAr),stP h l []=[]:=fun l=>by
        induction l with
        | nil=>rfl
        | cons a l ih=>show stP h l (stS h [] a)=[]; rw[show stS h [] a=[] from if_neg (by simp)]; exact ih
      have h5:∀k,stN h rs k []=[]:=fun k=>by
        induction k with
        | zero=>rfl
        | succ k ih=>rw[stN,ih,h4]
      rw[h5,h4]
  refine fun u=>⟨Qmg (fun v hv=> .base hv) u,fun hu=> ?_⟩
  induction hu with
  | base h1=>exact Qm6 h1
  | step _ h2 h3 ih=>rw[← hc]; exact Qns h2 h3 ih
def clA (rs:List DAr)(h u:Int)(out:List Int):List Int:=rs.foldl (fun out a=>if a.1=u∧inv h a=true∧¬a.2.2.2∈out then out++[a.2.2.2] else out) out
def clL (rs:List DAr)(h:Int):Nat→Nat→List Int→List Int
  | 0,_,out=>out
  | f+1,k,out=>match out[k]? with
    | none=>out
    | some u=>clL rs h f (k+1) (clA rs h u out)
theorem QdD:∃r,clA as_ h u S=S++r:=by
  unfold clA
  induction as_ generalizing S with
  | nil=>exact ⟨[],(bn _).symm⟩
  | cons a l ih=>
    rw[aL]
    split
    · obtain ⟨r, hr⟩ := ih (S := S ++ [a.2.2.2])
      exact ⟨a.2.2.2 :: r,by rw[hr,aP]; rfl⟩
    · exact ih
theorem QjM (hs:S.Nodup):(clA as_ h u S).Nodup:=by
  unfold clA
  induction as_ generalizing S with
  | nil=>exact hs
  | cons a l ih=>
    rw[aL]
    split
    · rename_i h1
      exact ih (bd.2 ⟨hs,by simp,fun x hx y hy e=>by rw[aR] at hy; subst hy; subst e; exact h1.2.2 hx⟩)
    · exact ih hs
theorem QpO (hsub:∀a∈as_,a∈rs)(hu:Ch rs h P u)(hS:∀v∈S,Ch rs h P v):∀v∈clA as_ h u S,Ch rs h P v:=by
  unfold clA
  induction as_ generalizing S with
  | nil=>exact hS
  | cons a l ih=>
    rw[aL]
    refine ih (fun b hb=>hsub b (aC _ hb)) ?_
    split
    · rename_i h1
      intro v hv
      rcases aO.1 hv with hv | hv
      · exact hS v hv
      · rw [aR] at hv; subst hv
        exact .step (by rw[h1.1]; exact hu) (hsub a (aB ..)) h1.2.1
    · exact hS
theorem Qm0 (ha:a∈as_)(hi:inv h a=true)(hu:a.1=u):a.2.2.2∈clA as_ h u S:=by
  induction as_ generalizing S with
  | nil=>cases ha
  | cons b l ih=>
    rcases aJ.1 ha with rfl | ha
    · unfold clA
      rw[aL]
      split
      · obtain ⟨r, hr⟩ := QdD (as_ := l) (h := h) (u := u) (S := S ++ [a.2.2.2])
        unfold clA at hr
        rw[hr]; simp
      · rename_i h1
        obtain ⟨r,hr⟩:=QdD (as_:=l) (h:=h) (u:=u) (S:=S)
        unfold clA at hr
        rw[hr]
        exact aX _ (cg fun g=>h1 ⟨hu,hi,g⟩)
    · unfold clA at ih ⊢
      rw[aL]; exact ih ha
structure ClI (rs:List DAr) (h:Int) (P:Int→Prop) (k:Nat) (out:List Int):Prop where
  nod:out.Nodup
  ch:∀v∈out,Ch rs h P v
  bas:∀v,P v→v∈out
  don:∀(j:Nat) w,j < k→out[j]? =some w→∀a∈rs,a.1=w→inv h a=true→a.2.2.2∈out
  le:k≤out.length
theorem ClI.zero (hs:S.Nodup)(hp:∀v,P v↔v∈S):ClI rs h P 0 S:=⟨hs,fun v hv=> .base ((hp v).2 hv),fun v hv=>(hp v).1 hv,fun j w hj=>absurd hj (br _),aU _⟩
theorem ClI.step {out:List Int}(g:ClI rs h P k out)(hu:out[k]? =some u):ClI rs h P (k+1) (clA rs h u out):=by
  obtain ⟨r,hr⟩:=QdD (as_:=rs) (h:=h) (u:=u) (S:=out)
  have hk:=(ah.1 hu).1
  refine ⟨QjM g.nod,QpO (fun _ h=>h) (g.ch u (aj hu)) g.ch,fun v hv=>by rw[hr]; exact aX _ (g.bas v hv),fun j w hj hw a ha e hi=> ?_,by rw[hr,ao]; omega⟩
  by_cases e1:j=k
  · subst e1
    have hw:out[j]? =some w:=by rw[hr,ba hk] at hw; exact hw
    rw[hu] at hw; cases hw
    exact Qm0 ha hi e
  · have hj2 : j < out.length := by omega
    rw[hr,ba hj2] at hw
    rw[hr]; exact aX _ (g.don j w (by omega) hw a ha e hi)
theorem ClI.end_ {out:List Int}(g:ClI rs h P k out)(hk:out.length≤k):∀v,v∈out↔Ch rs h P v:=by
  refine fun v=>⟨g.ch v,fun hv=> ?_⟩
  induction hv with
  | base h1=>exact g.bas _ h1
  | step _ h2 h3 ih=>
    obtain ⟨j,hj⟩:=aT.1 ih
    exact g.don j _ (by have:=(ah.1 hj).1; omega) hj _ h2 rfl h3
end
def Qsj (b:UInt8):Bool:=b==43||b==45
def sgB (up:Bool):ByteArray:=if up=true then ⟨#[43]⟩ else ⟨#[45]⟩
def wdA (c:DSg)(a:DAr):ByteArray:=((c.1[a.2.1.toNat]?).getD (ByteArray.empty,0)).1++sgB a.2.2.1
def tl (t:ByteArray):List UInt8:=t.data.toList
def Qtu (l:List UInt8):Prop:=l=[]∨∃l0 s,l=l0++[s]∧Qsj s=true
end Go.Proofs.YtgpdhgadmjfokaaGreat
namespace Go.Proofs.YtgpdhgadmjfokaaGreat
open Go.RowKit
set_option maxRecDepth 100000
set_option maxHeartbeats 4000000
def Qq2 (f:Hdr→List Int):Option (List Int)→List Hdr→List Hdr
  | _,[]=>[]
  | p,y :: l=>if p=some (f y) then Qq2 f p l else y :: Qq2 f (some (f y)) l
section
variable {f:Hdr→List Int}{vs zs:List Hdr}{m k:Nat}{x y:Hdr}{l:List (List Int)}{i j n:Int}
end
end Go.Proofs.YtgpdhgadmjfokaaGreat
namespace Go.Proofs.YtgpdhgadmjfokaaGreat
open Go.RowKit
set_option maxRecDepth 100000
set_option maxHeartbeats 4000000
theorem Qbd {α:Type _}[DecidableEq α]{lt:α→α→Bool}(x:α):∀l:List α,(Z7 lt x l).length≤l.length+1
  | []=>aQ _
  | y :: l=>by
    unfold Z7
    have:=Qbd (lt:=lt) x l
    split
    · simp only[ax]; omega
    · split <;> simp
def shV (n:Yu)(t u:Int):Bool:=((n.2[t.toNat]?).getD ([],[])).1.any fun z=>decide (z∈((n.2[u.toNat]?).getD ([],[])).1)
def Qsr (n:Yu)(t:Int)(l:List Int):List (List Int):=(l.filter fun u=>decide (t < u)&& !shV n t u).map fun u=>[t,u]
def QsK (n:Yu)(t:Int)(l:List Int):List (List Int):=(l.filter fun u=> !shV n t u).map fun u=>[t,u]
def Qsf (n:Yu)(on l:List Int):List (List Int):=l.flatMap fun t=>Qsr n t on
def Qtk (n:Yu)(on:List Int)(k:Nat):List (List Int):=(List.range k).flatMap fun i=>QsK n ((on[i]?).getD 0) (on.drop (i+1))
def Qsw (n:Yu)(ms:List ByteArray):List (List Int):=ms.flatMap fun mk=>Qsf n (VN n mk) (VN n mk)
section
variable {n:Yu}{k f i j:Nat}{mk:ByteArray}{t u:Int}{ts on l:List Int}{st:RS}{s:QP}{xt xu:QI}{ms:List ByteArray}{as_ bs:List (List Int)}
end
section
variable {vs vs2:List Hdr}{gf gf2 gj:Hdr→List Int}{l:List (List Int)}{m:Int}{x:List Int}
end
end Go.Proofs.YtgpdhgadmjfokaaGreat
namespace Go.Proofs.YtgpdhgadmjfokaaGreat
open Go.RowKit
set_option maxRecDepth 100000
set_option maxHeartbeats 4000000
section
variable {n:Yu}{k i j m:Nat}{mk:ByteArray}{t u:Int}{on l:List Int}{s:QP}{xt xu:QI}{ms:List ByteArray}{as_:List (List Int)}
def QqW [∀s,Decidable (StgOk s)](s:QP):List (List Int):=ofG ltP (Qsw s.1 (Qi s).1.1)
end
end Go.Proofs.YtgpdhgadmjfokaaGreat
namespace Go.Proofs.YtgpdhgadmjfokaaGreat
open Go.RowKit
set_option maxRecDepth 100000
set_option maxHeartbeats 4000000
section
variable [∀s,Decidable (StgOk s)]{s:QP}{o:Qr}
def QqA (s:QP)(o:Qr):Bool:=(Qlf s o).2&&((pfV s (Qlf s o).1).2&&(pfV s (Qlf s o).1).1)
def Qsy (s:QP)(b:Int):Bool:=decide (0≤((s.2.2.1[b.toNat]?).getD (0,false)).1)&& !decide (((s.2.1[(((s.2.2.1[b.toNat]?).getD (0,false)).1).toNat]?).getD (ByteArray.empty,0)).2=1)
end
end Go.Proofs.YtgpdhgadmjfokaaGreat
namespace Go.Proofs.YtgpdhgadmjfokaaGreat
open Go.RowKit
set_option maxRecDepth 100000
set_option maxHeartbeats 4000000
section
variable [∀s,Decidable (StgOk s)]{s:QP}{P:List (List Int)}{a b:Int}{k i j n:Nat}{m:Bool}{ms:List Bool}{x:List Int}{os_:List Qr}
def QpT (s:QP)(a b:Int)(ms:List Bool):List Qr:=(ms.filter fun m=>Qsy s b&&QqA s (a,b,m)).map fun m=>(a,b,m)
def Qrn (s:QP)(P:List (List Int))(a b:Int):List Qr:=if (P.any fun p=>decide (p=[min a b,max a b]))=true∧a≠b then QpT s a b [false,true] else []
def Qsz (s:QP)(P:List (List Int))(a:Int)(i:Nat):List Qr:=(List.range i).flatMap fun b=>Qrn s P a ((b:Nat):Int)
def Qss (s:QP)(P:List (List Int))(n k:Nat):List Qr:=(List.range k).flatMap fun a=>Qsz s P ((a:Nat):Int) n
theorem Qsn {l:List (List Int)}{y:List Int}(hx:l[k]? =some x)(h:¬x=y):((l.take k).any fun p=>decide (p=y))=((l.take (k+1)).any fun p=>decide (p=y)):=by rw[Qs hx]; simp[h]
def Qs8 (s:QP)(c:Bool)(a b:Int)(ms:List Bool):List Qr:=if c=true∧a≠b then QpT s a b ms else []
def Qra (s:QP):List Qr:=Qss s (QqW s) s.1.2.length s.1.2.length
end
section
variable [∀s,Decidable (StgOk s)]{s:QP}
def Qqi (s:QP):List Qr:=if (sgV s).2=true then Qra s else []
end
end Go.Proofs.YtgpdhgadmjfokaaGreat
namespace Go.Proofs.YtgpdhgadmjfokaaGreat
open Go.RowKit
set_option maxRecDepth 100000
set_option maxHeartbeats 4000000
def swp (p:List Int):List Int:=[(p[1]?).getD 0,(p[0]?).getD 0]
def Qth (P:List (List Int))(n:Nat):List (List Int):=(List.range n).flatMap fun a:Nat=>((List.range n).filter fun b:Nat=>(P.any fun p=>decide (p=[min (a:Int) (b:Int),max (a:Int) (b:Int)]))&&decide ((a:Int)≠(b:Int))).map fun b:Nat=>[(a:Int),(b:Int)]
section
variable {P:List (List Int)}{n:Nat}{x:List Int}{ms:List ByteArray}{g:Yu}
variable [∀s,Decidable (StgOk s)]{s:QP}
end
end Go.Proofs.YtgpdhgadmjfokaaGreat
namespace Go.Proofs.YtgpdhgadmjfokaaGreat
open Go.RowKit
set_option maxRecDepth 100000
set_option maxHeartbeats 4000000
section
variable [∀s,Decidable (StgOk s)]{s:QP}{l:List (List Int)}{p:List Int}{k i m:Nat}{a b:Int}
def Qtp (s:QP)(l:List (List Int)):List Qr:=l.flatMap fun p=>QpT s ((p[0]?).getD 0) ((p[1]?).getD 0) [false,true]
end
end Go.Proofs.YtgpdhgadmjfokaaGreat
namespace Go.Proofs.YtgpdhgadmjfokaaGreat
open Go.RowKit
set_option maxRecDepth 100000
set_option maxHeartbeats 4000000
theorem Qis {n:Nat}{arcs:List DAr}:∀{f k:Nat} {c d:List ByteArray},goS n arcs f k c=some d→d.length=c.length
  | 0,_,c,d,h=>by rw[goS] at h; cases h; rfl
  | f+1,k,c,d,h=>by
    rw[goS] at h
    split at h
    · rw[Qis h,QeT]
    · cases h
section
variable [∀s,Decidable (StgOk s)]{s:QP}{o x:Qr}{k:Nat}{l:List Qr}
theorem Qa9 (h:(sgV s).2=true):SgW (sgV s).1:=by
  unfold sgV at h ⊢
  split at h
  · rename_i h1
    rw[if_pos h1]
    obtain ⟨hs,hN1,hN2,_,hM,hL⟩:=ZF h1.1
    split at h
    · rename_i c hg
      have hl:=Qis hg
      rw[aD] at hl
      refine ⟨hs.sigs.2.2,⟨by show 1≤c.length; omega,by show c.length≤300; omega⟩, ?_, ?_⟩
      · show (Qw _ _).length ≤ _
        unfold Qw
        rw[aN]; omega
      · intro a ha
        refine ⟨?_, ?_⟩
        · show InR c.length a
          rw[hl]; exact Wf hM a ha
        · obtain ⟨v, hv, rfl⟩ := bB.1 ha
          obtain ⟨_,⟨h2,h3⟩,_⟩:=hM v hv
          obtain ⟨l,hl2⟩:∃l,s.2.2.1[v.2.1.toNat]? =some l:=⟨_,aa (by omega)⟩
          have h4:=hs.labs l (aj hl2)
          show Vt (s.2.1.length:Int) ((Qaz s.2.2.1 v.2.1).1,(Qaz s.2.2.1 v.2.1).2)
          rw[Qdq hl2]; exact h4
    · cases h
  · cases h
def ocG (s:QP)(o:Qr):DSg:=(sgV (Ku s o)).1
def oc1 (s:QP)(o:Qr):Int:=((Wy (ocG s o)).length:Int)
def oc2 (s:QP)(o:Qr):Int:=((ocG s o).2.1.length:Int)
def ocB (s:QP)(o:Qr):Bool:=(Qqi s).any fun y=>decide (o=y)
def ox1 (s:QP)(o:Qr):Int:=if ocB s o=true then oc1 s o else 0
def ox2 (s:QP)(o:Qr):Int:=if ocB s o=true then oc2 s o else 0
def QqR (s:QP)(a:Qr×Int×Int)(o:Qr):Qr×Int×Int:=
  if a.2.1 < 0∨oc1 s o < a.2.1∨(oc1 s o=a.2.1∧a.2.2 < oc2 s o) then (o,oc1 s o,oc2 s o) else a
def Qk5 (s:QP)(l:List Qr):Qr×Int×Int:=l.foldl (QqR s) ((0,0,false), -1,0)
def BeS (s:QP)(l:List Qr)(k:Nat)(b:Qr)(c t:Int):Prop:=Qk5 s (l.take k)=(b,c,t)
def BeI (s:QP)(l:List Qr)(k:Nat)(b:Qr)(c t:Int):Prop:=Qk5 s (l.take k)=(b,if k=0 then -1 else c,t)∧(k=0→c=0)
def boV (s:QP):Qr:=(Qk5 s (Qqi s)).1
def boB (s:QP):Bool:=decide (0 < ((Qqi s).length:Int))
end
end Go.Proofs.YtgpdhgadmjfokaaGreat
namespace Go.Proofs.YtgpdhgadmjfokaaGreat
open Go.RowKit
@[reducible] def Ex {X:Type} (Q:X→Prop) (pv:X→PV) (T:X→Tab):PV→Tab→Prop:=fun p T'=>∃x,Q x∧p=pv x∧T'=T x
section
variable {A:Amb}{P:Program}{s:St}{f:FuncId}{xs:List Operand}{tys:Array TypeId}{args:List (Bool×List LV)}{d:Nat}{ty:TypeId}{pos:String}{af:Array Edge}{g:Option (Nat×Bool)}{T:Tab}{k:Nat}
  {X:Type} {Qx:X→Prop} {pv:X→PV} {T':X→Tab} {ops:Array Oper} {l:List Oper} {Q:Exit→St→Prop}
theorem DoesT.callX (n:Nat)(ρ:List (Nat×Nat))(hc:FC P f args T k (Ex Qx pv T'))(hE:Qg P f)(ha:EvL A s xs (args.map fun c=>(c.1,c.2.map (LV.ren (rn ρ)))))(hT:HasE s ρ T)
    (hi:(XL (T.map fun p=>rn ρ p.1)&&Nat.blt d A.n)=true) (hB:∀x,(ZV (pv x) (T' x)&&XL ((T' x).map fun p=>sg ρ k n p.1)&&QfK T (T' x) k)=true) (hfr:∀x,FrK s n k (Zj (T' x))) (hk0:A.k0≤n):
    DoesT A P ⟨some d, .call ⟨.value (.func f),xs.toArray,tys⟩,ty,pos,af,g⟩ s (fun s'=>∃x,Qx x∧s'=s.backP d (sg ρ k n) (T.map fun p=>rn ρ p.1) (pv x) (T' x)):=fun a w K Q r hK=>by
  obtain ⟨gh,r⟩:=r
  rw[aM] at hi
  obtain ⟨hi,hn⟩:=hi
  have hal:∀q,T.al q→s.tab.al (rn ρ q):=fun q ⟨e,h⟩=>⟨_,hT.get h⟩
  have hinj:∀q q',T.al q→T.al q'→rn ρ q=rn ρ q'→q=q':=fun q q' h1 h2 h=>V2 hi h1 h2 h
  have cx0:Cx T (gh.via (rn ρ)) w:=⟨fun q e h=>(EntR.ren.1 (r.cx.en _ _ (hT.get h))).mono (fun r' _ h'=>⟨hal r' h',rfl⟩) (fun g hg=>⟨hg,rfl⟩) rfl rfl fun _ _=>rfl,
    fun q q' h1 h2 hne=>r.cx.dj _ _ (hal q h1) (hal q' h2) fun h=>hne (hinj q q' h1 h2 h),fun q h=>r.cx.nd _ (hal q h),fun q h=>r.cx.no _ (hal q h),r.cx.nl⟩
  have hv:=(CmsR.ren.1 (ha.cms r)).mono (al':=T.al) (gh':=gh.via (rn ρ)) (w':=w) (fun q _ h=>⟨hal q h,rfl⟩) fun g hg=>⟨hg,rfl⟩
  refine UF hE rfl (Calls.mono (hc _ w _ cx0 hv) fun e w' he=> ?_)
  obtain ⟨v,pv',T2,gh',rfl,⟨x,hq,rfl,rfl⟩,cx,hp,fr,hkk⟩:=he
  have h2:=hB x
  simp only[aM] at h2
  refine hK _ _ _ ⟨x,hq,rfl⟩ (QeI n ρ r hT hi h2.1.1 h2.1.2 (fun q ⟨e,hq⟩ hk=> ?_) (fun q ⟨e,hq⟩ hk=>(hfr x).get q (Q7 hq).1 hk) hk0 hn cx hp fr hkk)
  have:=aA.1 h2.2 q (Q7 hq).1
  rw[show Nat.blt q k=true from cI hk] at this
  exact b8.1 (by simpa using this)
theorem ZQ (n:Nat)(ρ:List (Nat×Nat))(hc:FC P f args T k (Ex Qx pv T'))(hE:Qg P f)(ha:EvL A s xs (args.map fun c=>(c.1,c.2.map (LV.ren (rn ρ)))))(hT:HasE s ρ T)
    (hi:(XL (T.map fun p=>rn ρ p.1)&&Nat.blt d A.n)=true) (hB:∀x,(ZV (pv x) (T' x)&&XL ((T' x).map fun p=>sg ρ k n p.1)&&QfK T (T' x) k)=true) (hfr:∀x,FrK s n k (Zj (T' x))) (hk0:A.k0≤n)
    (h:∀x,Qx x→AL A P ops l Q (s.backP d (sg ρ k n) (T.map fun p=>rn ρ p.1) (pv x) (T' x))):AL A P ops (⟨some d, .call ⟨.value (.func f),xs.toArray,tys⟩,ty,pos,af,none⟩ :: l) Q s:=
  Ql0 rfl (DoesT.callX n ρ hc hE ha hT hi hB hfr hk0) fun s' ⟨x,hq,e⟩=>e▸h x hq
theorem QR {fn:Func}{s:St}(x:X)(ρ:List (Nat×Nat)){pv0:PV}(hq:Qx x)(h1:Res A P fn s pv0)(h0:pv0=(pv x).ren (rn ρ))(h2:HasE ⟨[],s.tab⟩ ρ (T' x))(h3:XL ((T' x).map fun x=>rn ρ x.1)=true)(h4:idB ρ k=true):fin A P fn (U9 (Ex Qx pv T') k) .ret s:=
  Qan (pv x) (T' x) ρ (h0▸h1) h2 h3 h4 ⟨x,hq,rfl,rfl⟩
end
section
variable {A:Amb}{P:Program}{s:St}{f:FuncId}{xs:List Operand}{tys:Array TypeId}{args:List (Bool×List LV)}{d:Nat}{ty T:TypeId}{pos:String}{af:Array Edge}{g:Option (Nat×Bool)}
  {X:Type} {Qx:X→Prop} {pv:X→PV} {ops:Array Oper} {l:List Oper} {Q:Exit→St→Prop} {x:Operand}
end
end Go.Proofs.YtgpdhgadmjfokaaGreat
namespace Go.Proofs.YtgpdhgadmjfokaaGreat
open Go.RowKit
structure Opens (t t':Ty) (E:TypeId) (e:Ty) where
  sub:t.Den→Hdr→t'.Den
  get:t'.Den→Hdr
  put:t'.Den→List e.Den→t.Den
  val:t.Den→List e.Den
  wd:t'.wd=t.wd
  h1:∀x z,get (sub x z)=z
  h2:∀x z,put (sub x z) (val x)=x
  own:∀{w:World} {fp:List Nat} {cs:List Value} {x:t.Den},Own t w fp cs x→∃z fg fi,fp.Perm (fg++fi)∧Own t' w fg cs (sub x z)∧Own (.sl E e) w fi [hdV z] (val x)
@[reducible] def QpN (E:TypeId) (e:Ty):Opens (.sl E e) .vl E e where
  sub:=fun _ z=>z
  get:=fun z=>z
  put:=fun _ y=>y
  val:=fun x=>x
  wd:=rfl
  h1:=fun _ _=>rfl
  h2:=fun _ _=>rfl
  own:=fun h=>by
    obtain ⟨z,rfl⟩:=Qbk h
    exact ⟨z,[],_,List.Perm.refl _,⟨rfl,rfl⟩,h⟩
@[reducible] def Qqr (a:Ty) {b b':Ty} {E:TypeId} {e:Ty} (o:Opens b b' E e):Opens (.pr a b) (.pr a b') E e where
  sub:=fun x z=>(x.1,o.sub x.2 z)
  get:=fun y=>o.get y.2
  put:=fun y l=>(y.1,o.put y.2 l)
  val:=fun x=>o.val x.2
  wd:=by show a.wd+b'.wd=a.wd+b.wd; rw[o.wd]
  h1:=fun x z=>o.h1 x.2 z
  h2:=fun x z=>Prod.ext rfl (o.h2 x.2 z)
  own:=fun h=>by
    obtain ⟨f1,f2,l,r,rfl,rfl,k1,k2⟩:=h
    obtain ⟨z,fg,fi,p,q1,q2⟩:=o.own k2
    exact ⟨z,f1++fg,fi,by rw[aP]; exact p.append_left f1,⟨f1,fg,l,r,rfl,rfl,k1,q1⟩,q2⟩
@[reducible] def Qqs (b:Ty) {a a':Ty} {E:TypeId} {e:Ty} (o:Opens a a' E e):Opens (.pr a b) (.pr a' b) E e where
  sub:=fun x z=>(o.sub x.1 z,x.2)
  get:=fun y=>o.get y.1
  put:=fun y l=>(o.put y.1 l,y.2)
  val:=fun x=>o.val x.1
  wd:=by show a'.wd+b.wd=a.wd+b.wd; rw[o.wd]
  h1:=fun x z=>o.h1 x.1 z
  h2:=fun x z=>Prod.ext (o.h2 x.1 z) rfl
  own:=fun h=>by
    obtain ⟨f1,f2,l,r,rfl,rfl,k1,k2⟩:=h
    obtain ⟨z,fg,fi,p,q1,q2⟩:=o.own k1
    refine ⟨z,fg++f2,fi,(p.append_right f2).trans ?_,⟨fg,f2,l,r,rfl,rfl,q1,k2⟩,q2⟩
    rw[aP,aP]
    exact (List.perm_append_comm).append_left fg
section
variable {t t' e:Ty}{E E':TypeId}{w:World}
theorem Opens.list (o:Opens t t' E' e):∀{xs:List t.Den} {fp:List Nat} {cs:List Value},OwnL (Own t w) fp cs xs→
    ∃(ys:List t'.Den) (fg fi:List Nat),fp.Perm (fg++fi)∧ys.length=xs.length∧OwnL (Own t' w) fg cs ys∧OwnL (Own (.sl E' e) w) fi ((ys.map o.get).map hdV) ((ys.map o.get).map (rdF E' e w))∧(ys.map fun y=>o.put y (rdF E' e w (o.get y)))=xs
  | [],fp,cs,h=>⟨[],[],[],by rw[h.1]; exact List.Perm.refl _,rfl,⟨rfl,h.2⟩,⟨rfl,rfl⟩,rfl⟩
  | x :: xs,fp,cs,h=>by
    obtain ⟨f1,f2,c1,c2,rfl,rfl,h3,h4⟩:=h
    obtain ⟨z,fg1,fi1,p1,a1,b1⟩:=o.own h3
    obtain ⟨ys,fg,fi,p,hl,k1,k2,k3⟩:=Opens.list o h4
    refine ⟨o.sub x z :: ys,fg1++fg,fi1++fi,(p1.append p).trans ?_,by rw[ax,hl,ax],⟨fg1,fg,c1,c2,rfl,rfl,a1,k1⟩, ?_, ?_⟩
    · rw [aP, aP]
      exact List.Perm.append_left fg1 (List.perm_append_comm_assoc fi1 fg fi)
    · rw [bc, o.h1]
      exact ⟨fi1,fi,[hdV z],_,rfl,rfl,by rw[Qbu b1.rep]; exact b1,k2⟩
    · rw[bc,k3,o.h1,Qbu b1.rep,o.h2]
theorem Opens.arr (o:Opens t t' E' e){xs:List t.Den}{fp:List Nat}{v:Value}(h:Own (.sl E t) w fp [v] xs):
    ∃(ys:List t'.Den) (f:Hdr→List e.Den) (fg fi:List Nat),fp.Perm (fg++fi)∧Own (.sl E t') w fg [v] ys∧OwnL (Own (.sl E' e) w) fi ((ys.map o.get).map hdV) ((ys.map o.get).map f)∧(ys.map fun y=>o.put y (f (o.get y)))=xs∧f none=[]:=by
  rcases h with ⟨rfl,h,rfl⟩ | ⟨g,cap,cur,fps,rfl,h1,h2,h3,h4,h5,h6⟩
  · exact ⟨[],fun _=>[],[],[],List.Perm.refl _, .inl ⟨rfl,h,rfl⟩,⟨rfl,rfl⟩,rfl,rfl⟩
  · obtain ⟨ys, fg, fi, p, hl, k1, k2, k3⟩ := o.list h6
    refine ⟨ys,rdF E' e w,g :: fg,fi,p.cons g, .inr ⟨g,cap,cur,fg,rfl,by rw[hl]; exact h1,h2,by rw[hl]; exact h3,h4,by rw[o.wd]; exact h5, ?_⟩,k2,k3,Qbu (x:=[]) (Own.rep (fp:=[]) (.inl ⟨rfl,rfl,rfl⟩))⟩
    rw[hl,o.wd]; exact k1
end
section
variable {A:Amb}{P:Program}{s:St}{Q:Exit→St→Prop}{c:Code}
theorem Rg.take (t:Nat){p:Nat}{E:TypeId}{e:Ty}{vs:List Hdr}{f:Hdr→List e.Den}{z:Hdr}{gh:Gh}{a:Act}{w:World}(hp:s.tab.ent p=some (.pl true (.sl E e) vs f))(hz:z∈vs)(hfr:Fresh s t)(hk:A.k0≤t)(r:Rg A s gh a w):
    ∃gh':Gh,gh'.h t=hdV z∧(∀u,u≠t→gh'.h u=gh.h u)∧Rg A ⟨s.tm,(t,some (.arr E e (f z))) :: (p,none) :: s.tab⟩ gh' a w:=by
  have hpa:s.tab.al p:=⟨_,hp⟩
  have hne:t≠p:=fun h=>hfr.al (h▸hpa)
  obtain ⟨_,h3⟩:=r.cx.en p _ hp
  obtain ⟨fv,m1,m2⟩:=QbD (List.singleton_sublist.2 hz) h3
  obtain ⟨f1,f2,c1,c2,e1,e2,k1,k2⟩:=m2
  have e3:f2=[]:=k2.1
  have e4:c2=[]:=k2.2
  rw[e3,bn] at e1
  rw[e4,bn] at e2
  subst e1
  rw[← e2] at k1
  have hO:Own (.sl E e) w fv [hdV z] (f z):=k1
  have mi:∀g∈fv,g∈gh.f p:=fun g hg=>m1.subset hg
  have nv:fv.Nodup:=m1.nodup (r.cx.nd p hpa)
  have hal:∀u,Tab.al ((t,some (.arr E e (f z))) :: (p,none) :: s.tab) u→u=t∨(u≠t∧u≠p∧s.tab.al u):=fun u ⟨x,hx⟩=>by
    by_cases e1:u=t
    · exact .inl e1
    · rw [Qe, if_neg e1, Qe] at hx
      by_cases e2:u=p
      · rw[if_pos e2] at hx; cases hx
      · rw[if_neg e2] at hx; exact .inr ⟨e1,e2,_,hx⟩
  let gh':Gh:=⟨fun u=>if u=t then hdV z else gh.h u,fun u=>if u=t then fv else gh.f u,gh.N⟩
  have ft:gh'.f t=fv:=if_pos rfl
  have fo:∀u,u≠t→gh'.f u=gh.f u:=fun u e1=>if_neg e1
  have ho:∀u,u≠t→gh'.h u=gh.h u:=fun u e1=>if_neg e1
  refine ⟨gh',if_pos rfl,ho,r.step ⟨fun u x hx=> ?_,fun u u' hu hu' hn g hg hg'=> ?_,fun u hu=> ?_,fun u hu g hg hgN=> ?_,r.cx.nl⟩ (fun u hu=> ?_) (fun g h=>⟨h,rfl⟩) (Q2 w) (fun _ _ _=>rfl) (fun g hgN=> .inl hgN) fun u hu g hg=> ?_⟩
  · rw [Qe] at hx
    by_cases e1:u=t
    · rw [if_pos e1] at hx
      cases hx
      show Own (.sl E e) w (gh'.f u) [gh'.h u] (f z)
      rw[e1,ft,show gh'.h t=hdV z from if_pos rfl]
      exact hO
    · rw [if_neg e1, Qe] at hx
      by_cases e2:u=p
      · rw[if_pos e2] at hx; cases hx
      · rw [if_neg e2] at hx
        refine (r.cx.en u x hx).mono (fun r' hr' ha=> ?_) (fun g h=>⟨h,rfl⟩) (ho u e1) (fo u e1) fun _ _=>rfl
        have e3:r'≠t:=fun h=>hfr.en u x hx (h▸hr')
        rcases hal r' ha with h | ⟨_,_,h⟩
        · exact absurd h e3
        · exact ⟨h,ho r' e3⟩
  · rcases hal u hu with e1 | ⟨e1, b1, a1⟩
    · rcases hal u' hu' with e2 | ⟨e2, b2, a2⟩
      · exact hn (e1.trans e2.symm)
      · rw[e1,ft] at hg; rw[fo u' e2] at hg'; exact r.cx.dj p u' hpa a2 (fun h=>b2 h.symm) g (mi g hg) hg'
    · rcases hal u' hu' with e2 | ⟨e2, b2, a2⟩
      · rw[e2,ft] at hg'; rw[fo u e1] at hg; exact r.cx.dj p u hpa a1 (fun h=>b1 h.symm) g (mi g hg') hg
      · rw[fo u e1] at hg; rw[fo u' e2] at hg'; exact r.cx.dj u u' a1 a2 hn g hg hg'
  · rcases hal u hu with e1 | ⟨e1, b1, a1⟩
    · rw[e1,ft]; exact nv
    · rw[fo u e1]; exact r.cx.nd u a1
  · rcases hal u hu with e1 | ⟨e1, b1, a1⟩
    · rw[e1,ft] at hg; exact r.cx.no p hpa g (mi g hg) hgN
    · rw[fo u e1] at hg; exact r.cx.no u a1 g hg hgN
  · rcases hal u hu with e1 | ⟨e1, b1, a1⟩
    · rw[e1]; exact .inr ⟨hfr,hk⟩
    · exact .inl ⟨a1,ho u e1,fun _=>rfl⟩
  · rcases hal u hu with e1 | ⟨e1, b1, a1⟩
    · rw[e1,ft] at hg; exact .inr ⟨p,hpa,mi g hg⟩
    · rw[fo u e1] at hg; exact .inr ⟨u,a1,hg⟩
end
section
variable {A:Amb}{P:Program}{s:St}{d:Nat}{ty T:TypeId}{pos:String}{af:Array Edge}{g:Option (Nat×Bool)}{x:Operand}
def ThP (s:St):List LV→List LV→Prop
  | [],ls'=>ls'=[]
  | l :: ls,ls'=>∃l' r,ls'=l' :: r∧(l=l'∨(∃q E e xs,l= .ref q∧s.tab.ent q=some (.arr E e xs)∧l'= .dat (.sl E e) xs)∨∃(p:Nat) (E:TypeId) (e:Ty) (vs:List Hdr) (f:Hdr→List e.Den) (z:Hdr),l= .dat .vl z∧s.tab.ent p=some (.pl true (.sl E e) vs f)∧z∈vs∧l'= .dat (.sl E e) (f z))∧ThP s ls r
end
def Qsm:List LV→List LV→Prop
  | [],cs'=>cs'=[]
  | l :: ls,cs'=>∃l' r,cs'=l' :: r∧(l=l'∨(l= .val (.slice none 0 0)∧l'= .dat .vl none))∧Qsm ls r
end Go.Proofs.YtgpdhgadmjfokaaGreat
namespace Go.Proofs.YtgpdhgadmjfokaaGreat
open Go.RowKit
set_option maxRecDepth 100000
set_option maxHeartbeats 4000000
section
variable {I S C A:Type}
@[reducible] def dC (g1:Hdr→S) (g2:Hdr→C) (g3:Hdr→A) (y:I×Hdr×Hdr×Hdr):I×S×C×A:=(y.1,g1 y.2.1,g2 y.2.2.1,g3 y.2.2.2)
variable {xs:List (I×S×C×A)}{y1:List (I×Hdr×C×A)}{y2:List (I×Hdr×Hdr×A)}{y3:List (I×Hdr×Hdr×Hdr)}{g1:Hdr→S}{g2:Hdr→C}{g3:Hdr→A}{v1 v2 v3:List Hdr}
theorem Qs4 (h1:(y1.map fun y=>(y.1,g1 y.2.1,y.2.2))=xs)(h2:(y2.map fun y=>(y.1,y.2.1,g2 y.2.2.1,y.2.2.2))=y1)(h3:(y3.map fun y=>(y.1,y.2.1,y.2.2.1,g3 y.2.2.2))=y2):y3.map (dC g1 g2 g3)=xs:=by
  subst h1 h2 h3
  simp[dy,Function.comp_def]
end
section
variable [∀c,Decidable (SgOk c)][∀s,Decidable (XJ s)]
def Qne:Nat→DSg→List Yf→DSg×List Yf
  | 0,c,l=>(c,l)
  | f+1,c,l=>if 0 < (Wy c).length∧(Qa3 c (Qkl c)).isSome=true∧QqI c (Qkl c) < ((Wy c).length:Int) then Qne f (Qq1 c (Qkl c)).2 (l++[Qoz c (Qkl c)]) else (c,l)
def Qts (c:DSg):DSg×List Yf×Bool:=if SgOk c∧(Wy (Qne 2 c []).1).length=0 then ((Qne 2 c []).1,(Qne 2 c []).2,true) else (Vq,[],false)
variable {c og:DSg}{il:List Yf}{n:Nat}{x:Yf}
end
end Go.Proofs.YtgpdhgadmjfokaaGreat
namespace Go.Proofs.YtgpdhgadmjfokaaGreat
open Go.RowKit
set_option maxRecDepth 100000
set_option maxHeartbeats 4000000
def spS (s:ByteArray)(b:UInt8):Nat→List ByteArray×Int
  | 0=>([],0)
  | i+1=>if s[i]? =some b then ((spS s b i).1++[s.extract (spS s b i).2.toNat i],(i:Int)+1) else spS s b i
def Zl (s:ByteArray)(b:UInt8):List ByteArray:=(spS s b s.size).1++[s.extract (spS s b s.size).2.toNat s.size]
section
variable {s:ByteArray}{b c:UInt8}{i:Nat}
theorem Qnq (h:s[i]? =some c)(e:c=b):((spS s b i).1++[s.extract (spS s b i).2.toNat i],(i:Int)+1)=spS s b (i+1):=by rw[spS,if_pos (by rw[h,e])]
theorem Qqj (h:s[i]? =some c)(e:¬c=b):spS s b i=spS s b (i+1):=by rw[spS,if_neg (by rw[h]; simpa using e)]
theorem QiN:0≤(spS s b i).2∧(spS s b i).2≤(i:Int)∧(spS s b i).1.length≤i:=by
  induction i with
  | zero=>exact ⟨de _,de _,aQ _⟩
  | succ i ih=>
    rw[spS]
    split
    · refine ⟨by show (0 : Int) ≤ (i : Int) + 1; omega, by show ((i : Int) + 1) ≤ ((i + 1 : Nat) : Int); omega, ?_⟩
      rw[ao,ax,aK]; omega
    · obtain ⟨h1,h2,h3⟩:=ih; exact ⟨h1,by omega,by omega⟩
theorem Qkr:(Zl s b).length≤s.size+1:=by
  unfold Zl
  have:=QiN (s:=s) (b:=b) (i:=s.size)
  rw[ao,ax,aK]; omega
end
abbrev DTr:=List Int×List Int
abbrev DB:=QP×List ByteArray×List ByteArray
def b0 (t:ByteArray):UInt8:=(t[0]?).getD 0
def bZ (t:ByteArray):UInt8:=(t[t.size - 1]?).getD 0
def UO (l:List ByteArray)(x:ByteArray):Bool:=l.any fun y=>decide (y=x)
def atB (l:List ByteArray)(x:ByteArray):Int:=if UO l x=true then Zp (fun y=>decide (y=x)) l else (l.length:Int)
def plV (b:DB)(name:ByteArray):DB:=if UO b.2.1 name=true then b else (((b.1.1.1+1,b.1.1.2),b.1.2.1,b.1.2.2.1,b.1.2.2.2++(⟨#[48]⟩:ByteArray)),b.2.1++[name],b.2.2)
def plI (b:DB)(name:ByteArray):Int:=atB b.2.1 name
def K6 (word:ByteArray):ByteArray:=((Zl word 47)[0]?).getD ByteArray.empty
def QgA (G:List QB)(word:ByteArray):Zk:=if b0 (K6 word)=126 then (-1,false) else (Zp (fun g=>decide (g.1=(K6 word).extract 0 ((K6 word).size - 1))) G,decide (bZ (K6 word)=43))
def Zf (b:DB)(word:ByteArray):DB:=if UO b.2.2 word=true then b else (((b.1.1.1,b.1.1.2++[([],[])]),b.1.2.1,b.1.2.2.1++[QgA b.1.2.1 word],b.1.2.2.2),b.2.1,b.2.2++[word])
def trI (b:DB)(word:ByteArray):Int:=atB b.2.2 word
def UR (text:ByteArray):ByteArray:=if b0 text=42 then text.extract 1 text.size else text
def YL (text:ByteArray)(k:Nat):ByteArray:=((Zl (UR text) 62)[k]?).getD ByteArray.empty
def Jm (text:ByteArray):ByteArray:=if b0 (YL text 1)=95 then YL text 1 else if b0 (YL text 0)=95 then YL text 0 else UR text
def Qay (T:List DTr)(t p:Int):List DTr:=T.modify t.toNat fun x=>(x.1,Z7 ltI p x.2)
def Qbp (T:List DTr)(t p:Int):List DTr:=T.modify t.toNat fun x=>(Z7 ltI p x.1,x.2)
def ar1 (p:Int)(b:DB)(text:ByteArray):DB:=if b0 (YL text 0)=95 then b else
  let c:=Zf b (YL text 0); (((c.1.1.1,Qay c.1.1.2 (trI b (YL text 0)) p),c.1.2.1,c.1.2.2.1,c.1.2.2.2),c.2.1,c.2.2)
def ar2 (p:Int)(b:DB)(text:ByteArray):DB:=if b0 (YL text 1)=95 then b else
  let c:=Zf b (YL text 1); (((c.1.1.1,Qbp c.1.1.2 (trI b (YL text 1)) p),c.1.2.1,c.1.2.2.1,c.1.2.2.2),c.2.1,c.2.2)
def Qmz (s:ByteArray)(p:Int):ByteArray:=s.extract 0 p.toNat++(⟨#[49]⟩:ByteArray)++s.extract (p+1).toNat s.size
def arV (b:DB)(text:ByteArray):DB:=
  let p:=plI b (Jm text)
  let c:=ar2 p (ar1 p (plV b (Jm text)) text) text
  if b0 text=42 then ((c.1.1,c.1.2.1,c.1.2.2.1,Qmz c.1.2.2.2 p),c.2.1,c.2.2) else c
def sgN (names:ByteArray)(kd:Int)(i:Nat):List QB:=(List.range i).map fun j=>(names.extract j (j+1),kd)
def sgA:List ByteArray→Int→List QB
  | [],_=>[]
  | n :: l,k=>sgN n k n.size++sgA l (k+1)
def buG (ins outs inner:ByteArray):List QB:=sgA [ins,outs,inner] 1
def buB (G:List QB)(arcs:ByteArray):DB:=(Zl arcs 32).foldl arV (((0,[]),G,[],ByteArray.empty),[],[])
def Qo (ins outs inner arcs:ByteArray):QP:=(buB (buG ins outs inner) arcs).1
def okW (w:ByteArray):Bool:=decide (1≤w.size)&&(decide (b0 w=95)||decide (1≤(K6 w).size))
def okA (t:ByteArray):Bool:=decide (1≤t.size)&&(decide (2≤(Zl (UR t) 62).length)&&(okW (YL t 0)&&okW (YL t 1)))
section
variable {l:List ByteArray}{x name word text:ByteArray}{b c:DB}{G:List QB}{n k:Nat}
theorem QnY {α:Type _}{f:α→Bool}{l:List α}(h:l.any f=true):0≤Zp f l∧Zp f l < (l.length:Int):=by
  have h1:=Um f l
  rw[h,aS] at h1
  refine ⟨h1, ?_⟩
  unfold Zp at*
  cases hf:l.findIdx? f with
  | none=>rw[hf] at h1; simp at h1
  | some i=>
    have:=(cq.1 hf).1
    simpa using this
theorem Qlw (h:UO l x=true):0≤atB l x∧atB l x < (l.length:Int):=by
  unfold atB; rw[if_pos h]; exact QnY h
theorem KF (h:UO l x=false):atB l x=(l.length:Int):=if_neg (by rw[h]; decide)
theorem Qme (hn:NoneTo (fun y=>decide (y=x)) l k){y:ByteArray}(hx:l[k]? =some y)(e:y=x):(k:Int)=atB l x:=by
  unfold atB
  have h1:UO l x=true:=Qmv hx (aI e)
  rw[if_pos h1,hn.at hx (aI e)]
theorem Yk {y:ByteArray}(hx:l[k]? =some y)(e:y=x):UO l x=true:=Qmv hx (aI e)
theorem ZC (hn:NoneTo (fun y=>decide (y=x)) l k)(hk:l.length≤k):UO l x=false:=hn.any_no hk
theorem Vn (h:UO b.2.1 name=true):plV b name=b:=if_pos h
theorem XX (h:UO b.2.1 name=false):plV b name=(((b.1.1.1+1,b.1.1.2),b.1.2.1,b.1.2.2.1,b.1.2.2.2++(⟨#[48]⟩:ByteArray)),b.2.1++[name],b.2.2):=if_neg (by rw[h]; decide)
theorem XV (h:UO b.2.2 word=true):Zf b word=b:=if_pos h
theorem Zz (h:UO b.2.2 word=false):Zf b word=(((b.1.1.1,b.1.1.2++[([],[])]),b.1.2.1,b.1.2.2.1++[QgA b.1.2.1 word],b.1.2.2.2),b.2.1,b.2.2++[word]):=if_neg (by rw[h]; decide)
structure DBJ (b:DB) (p w m:Nat):Prop where
  st:b.1.2.2.2.size=b.2.1.length
  tr:b.1.1.2.length=b.2.2.length
  la:b.1.2.2.1.length=b.2.2.length
  p0:b.1.1.1=(b.2.1.length:Int)
  pl:b.2.1.length≤p
  ws:b.2.2.length≤w
  inn:∀t∈b.1.1.2,t.1.length≤m∧t.2.length≤m
theorem Qiu:0≤plI b name∧plI b name < ((plV b name).2.1.length:Int):=by
  unfold plI
  cases h:UO b.2.1 name with
  | true=>rw[Vn h]; exact Qlw h
  | false=>rw[XX h,KF h,ao]; simp only[ax,aK]; omega
theorem Qio:0≤trI b word∧trI b word < ((Zf b word).2.2.length:Int):=by
  unfold trI
  cases h:UO b.2.2 word with
  | true=>rw[XV h]; exact Qlw h
  | false=>rw[Zz h,KF h,ao]; simp only[ax,aK]; omega
theorem Qdc:(Zf b word).1.1.1=b.1.1.1∧(Zf b word).1.2.1=b.1.2.1∧(Zf b word).1.2.2.2=b.1.2.2.2∧(Zf b word).2.1=b.2.1:=by unfold Zf; split <;> exact ⟨rfl,rfl,rfl,rfl⟩
theorem DBJ.pl_ {p w m:Nat}(h:DBJ b p w m):DBJ (plV b name) (p+1) w m:=by
  cases hi:UO b.2.1 name with
  | true=>rw[Vn hi]; exact ⟨h.st,h.tr,h.la,h.p0,Nat.le_succ_of_le h.pl,h.ws,h.inn⟩
  | false=>
    rw[XX hi]
    have hs:(⟨#[48]⟩:ByteArray).size=1:=rfl
    refine ⟨?_,h.tr,h.la, ?_, ?_,h.ws,h.inn⟩
    · show (b.1.2.2.2 ++ (⟨#[48]⟩ : ByteArray)).size = (b.2.1 ++ [name]).length
      rw[b5,ao,h.st,hs]; rfl
    · show b.1.1.1 + 1 = ((b.2.1 ++ [name]).length : Int)
      rw[ao,h.p0]; simp
    · show (b.2.1 ++ [name]).length ≤ p + 1
      rw[ao]; have:=h.pl; simp only[ax,aK]; omega
theorem DBJ.tr_ {p w m:Nat}(h:DBJ b p w m):DBJ (Zf b word) p (w+1) m:=by
  cases hi:UO b.2.2 word with
  | true=>rw[XV hi]; exact ⟨h.st,h.tr,h.la,h.p0,h.pl,Nat.le_succ_of_le h.ws,h.inn⟩
  | false=>
    rw[Zz hi]
    refine ⟨h.st, ?_, ?_,h.p0,h.pl, ?_, ?_⟩
    · show (b.1.1.2 ++ [([], [])]).length = (b.2.2 ++ [word]).length
      rw[ao,ao,h.tr]; rfl
    · show (b.1.2.2.1 ++ [QgA b.1.2.1 word]).length = (b.2.2 ++ [word]).length
      rw[ao,ao,h.la]; rfl
    · show (b.2.2 ++ [word]).length ≤ w + 1
      rw[ao]; have:=h.ws; simp only[ax,aK]; omega
    · intro t ht
      rcases aO.1 ht with ht | ht
      · exact h.inn t ht
      · rw[aR.1 ht]; exact ⟨aU _,aU _⟩
theorem Qjh {T:List DTr}{m i:Nat}{f:DTr→DTr}(h:∀t∈T,t.1.length≤m∧t.2.length≤m)(hf:∀t,(f t).1.length≤t.1.length+1∧(f t).2.length≤t.2.length+1):∀t∈T.modify i f,t.1.length≤m+1∧t.2.length≤m+1:=fun t ht=>by
  obtain ⟨j,hj⟩:=aT.1 ht
  rw[cM] at hj
  cases hT:T[j]? with
  | none=>rw[hT] at hj; cases hj
  | some u=>
    rw[hT] at hj
    have hu:=h u (aj hT)
    have h1:=hf u
    have hj:some (if i=j then f u else u)=some t:=hj
    cases hj
    split <;> omega
theorem DBJ.st_ {p w m:Nat}{q:Int}(h:DBJ b p w m)(hq:0≤q∧q < (b.2.1.length:Int)):DBJ ((b.1.1,b.1.2.1,b.1.2.2.1,Qmz b.1.2.2.2 q),b.2.1,b.2.2) p w m:=by
  refine ⟨?_,h.tr,h.la,h.p0,h.pl,h.ws,h.inn⟩
  have hs:(⟨#[49]⟩:ByteArray).size=1:=rfl
  have h1:=h.st
  show (Qmz b.1.2.2.2 q).size=b.2.1.length
  unfold Qmz
  simp only[b5,aV,hs]
  omega
theorem DBJ.more {p w m p' w' m':Nat}(h:DBJ b p w m)(h1:p≤p')(h2:w≤w')(h3:m≤m'):DBJ b p' w' m':=⟨h.st,h.tr,h.la,h.p0,bA h.pl h1,bA h.ws h2,fun t ht=>⟨bA (h.inn t ht).1 h3,bA (h.inn t ht).2 h3⟩⟩
theorem DBJ.ar1_ {p w m:Nat}{q:Int}(h:DBJ b p w m):DBJ (ar1 q b text) p (w+1) (m+1):=by
  unfold ar1
  split
  · exact h.more (aQ _) (by omega) (by omega)
  · have k := h.tr_ (word := YL text 0)
    exact ⟨k.st,(List.length_modify ..).trans k.tr,k.la,k.p0,k.pl,k.ws,Qjh k.inn fun t=>⟨Nat.le_succ _,Qbd _ _⟩⟩
theorem DBJ.ar2_ {p w m:Nat}{q:Int}(h:DBJ b p w m):DBJ (ar2 q b text) p (w+1) (m+1):=by
  unfold ar2
  split
  · exact h.more (aQ _) (by omega) (by omega)
  · have k := h.tr_ (word := YL text 1)
    exact ⟨k.st,(List.length_modify ..).trans k.tr,k.la,k.p0,k.pl,k.ws,Qjh k.inn fun t=>⟨Qbd _ _,Nat.le_succ _⟩⟩
theorem QkU {q:Int}:(ar1 q b text).2.1=b.2.1:=by unfold ar1; split; exact rfl; exact Qdc.2.2.2
theorem Qmc {q:Int}:(ar2 q b text).2.1=b.2.1:=by unfold ar2; split; exact rfl; exact Qdc.2.2.2
theorem DBJ.ar_ {p w m:Nat}(h:DBJ b p w m):DBJ (arV b text) (p+1) (w+2) (m+2):=by
  have k1:=h.pl_ (name:=Jm text)
  have k2:=k1.ar1_ (q:=plI b (Jm text)) (text:=text)
  have k3:=k2.ar2_ (q:=plI b (Jm text)) (text:=text)
  unfold arV
  dsimp only
  split
  · exact k3.st_ (by rw[Qmc,QkU]; exact Qiu)
  · exact k3
theorem DBJ.zero (G:List QB):DBJ (((0,[]),G,[],ByteArray.empty),[],[]) 0 0 0:=⟨rfl,rfl,rfl,rfl,aQ _,aQ _,fun t h=>by cases h⟩
end
end Go.Proofs.YtgpdhgadmjfokaaGreat
namespace Go.Proofs.YtgpdhgadmjfokaaGreat
open Go.RowKit
set_option maxRecDepth 100000
set_option maxHeartbeats 4000000
section
variable [∀c,Decidable (SgOk c)][∀s,Decidable (XJ s)]{c:DSg}{m:Option Yf}{M:List Yf}{x z:Yf}
def ChG (c:DSg)(m:Option Yf)(M:List Yf):Prop:=match m with
  | none=>M=[]
  | some y=>y∈M∧∀z∈M,¬Qd8 c z < Qd8 c y∧¬(Qd8 c z=Qd8 c y∧Qlr c z < Qlr c y)
theorem ChG.step (h:ChG c m M):ChG c (Qpq c m x) (M++[x]):=by
  cases m with
  | none=>
    have h:M=[]:=h
    subst h
    show x∈[x]∧_
    refine ⟨aR.2 rfl,fun z hz=> ?_⟩
    rw[cG,aR] at hz
    subst hz; omega
  | some y=>
    obtain ⟨h1,h2⟩:=h
    simp only[Qpq]
    split
    · rename_i hc
      show x∈M++[x]∧_
      refine ⟨aW _ (aR.2 rfl),fun z hz=> ?_⟩
      rcases aO.1 hz with hz | hz
      · have:=h2 z hz; omega
      · rw[aR] at hz; subst hz; omega
    · rename_i hc
      show y∈M++[x]∧_
      refine ⟨aX _ h1,fun z hz=> ?_⟩
      rcases aO.1 hz with hz | hz
      · exact h2 z hz
      · rw[aR] at hz; subst hz; omega
end
end Go.Proofs.YtgpdhgadmjfokaaGreat
namespace Go.Proofs.YtgpdhgadmjfokaaGreat
open Go.RowKit
set_option maxRecDepth 100000
set_option maxHeartbeats 4000000
def fbS:QP:=((4,[([3],[0]),([0],[1]),([1],[2]),([2],[3])]),[(⟨#[97]⟩,1),(⟨#[98]⟩,2)],[(0,true),(1,true),(0,false),(1,false)],⟨#[48,48,48,49]⟩)
theorem Qo5:Qo ⟨#[97]⟩ ⟨#[98]⟩ ⟨#[]⟩ ⟨#[97,43,62,98,43,32,98,43,62,97,45,32,97,45,62,98,45,32,42,98,45,62,97,43]⟩=fbS:=by decide+kernel
theorem Qi1 {x hi:Int}(h:0≤x∧x≤hi):VY [x] hi:=by
  intro k hk
  have:k=0:=by simpa using hk
  subst this
  unfold RisAt
  simp
  omega
theorem Qje {c:UInt8}(h:ZS 0 c.toNat):XJ ⟨#[c]⟩:=by
  refine ⟨fun k hk=> ?_,aQ _,by show (1:Nat)≤6; omega⟩
  have h1:k < 1:=hk
  have:k=0:=by omega
  subst this
  exact h
theorem Qpl:StgOk fbS:=by
  refine ⟨⟨⟨by decide,by decide⟩,by decide,fun t ht=> ?_⟩,⟨fun k hk x hx=> ?_,by decide,by decide⟩,rfl,fun l hl=> ?_,fun k hk h=> ?_,rfl⟩
  · simp only [fbS, aJ, cH, or_false] at ht
    rcases ht with rfl | rfl | rfl | rfl <;> exact ⟨by simp,Qi1 (by show _∧_≤(4:Int) - 1; omega),Qi1 (by show _∧_≤(4:Int) - 1; omega)⟩
  · have h2 : k < 2 := hk
    rcases (show k=0∨k=1 by omega) with rfl | rfl
    · cases hx
      exact ⟨Qje (by unfold ZS; decide),by decide,fun j y hj=>absurd hj (br j)⟩
    · cases hx
      refine ⟨Qje (by unfold ZS; decide),by decide,fun j y hj hy=> ?_⟩
      have:j=0:=by omega
      subst this
      cases hy
      decide
  · simp only [fbS, aJ, cH, or_false] at hl
    rcases hl with rfl | rfl | rfl | rfl <;> exact .inl (by decide)
  · have h4 : k < 4 := hk
    rcases (show k=0∨k=1∨k=2∨k=3 by omega) with rfl | rfl | rfl | rfl <;> first | exact .inl rfl | exact .inr rfl
theorem Qp1 [∀s,Decidable (StgOk s)]:(sgV fbS).2=true:=by
  have he:Qi fbS=(((Zi fbS).1.1,(Zi fbS).1.2.1),true):=if_pos ⟨Qpl,by decide+kernel⟩
  obtain ⟨c,hc⟩:=b8.1 (show (goS (Zi fbS).1.1.length (Qw fbS.2.2.1 (Zi fbS).1.2.1) fbS.2.1.length 0 (List.replicate (Zi fbS).1.1.length ByteArray.empty)).isSome=true by decide+kernel)
  have h2:¬(4000:Int) < ((Zi fbS).1.2.1.length:Int):=by decide+kernel
  rw[Jc (s:=fbS) (c:=c) (by rw[he]) (by rw[he]; exact h2) (by rw[he]; exact hc)]
end Go.Proofs.YtgpdhgadmjfokaaGreat
