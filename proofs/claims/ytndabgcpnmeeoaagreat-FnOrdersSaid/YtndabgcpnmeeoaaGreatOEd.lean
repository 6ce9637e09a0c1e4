/- The traces of a state graph. Plain law. -/
import Derived.Test.YtndabgcpnmeeoaaGreatOVa
import Derived.Test.YtndabgcpnmeeoaaGreatOWb
import Derived.Test.YtndabgcpnmeeoaaGreatOAl
set_option linter.unusedSimpArgs false
set_option linter.unusedVariables false
set_option linter.unusedSectionVars false
namespace Go.Proofs.YtndabgcpnmeeoaaGreat
open Go.RowKit
set_option maxRecDepth 100000
set_option maxHeartbeats 4000000
def inv (h:Int)(a:DAr):Bool:=decide (a.2.1= -1)||decide (a.2.1=h)
inductive Ch (rs:List DAr) (h:Int) (S:Int→Prop):Int→Prop
  | base {u:Int}:S u→Ch rs h S u
  | step {a:DAr}:Ch rs h S a.1→a∈rs→inv h a=true→Ch rs h S a.2.2.2
def stS (h:Int)(S:List Int)(a:DAr):List Int:=if inv h a=true∧a.1∈S then Zr ltI a.2.2.2 S else S
def stP (h:Int)(rs:List DAr)(S:List Int):List Int:=rs.foldl (stS h) S
def stN (h:Int)(rs:List DAr):Nat→List Int→List Int
 | 0,S=>S
 | k+1,S=>stP h rs (stN h rs k S)
def stl (c:DSg)(h:Int)(S:List Int):List Int:=stN h c.2.2 c.2.1.length S
@[reducible] def Srt (S:List Int):Prop:=S.Pairwise fun x y=>ltI x y=true
section
variable {rs as_:List DAr}{a:DAr}{h:Int}{S T_:List Int}{P Q:Int→Prop}{u v:Int}{n k:Nat}
theorem Ch.mono (e:∀u,P u→Ch rs h Q u)(k:Ch rs h P u):Ch rs h Q u:=by
 induction k with
 | base b=>exact e _ b
 | step _ c d f=>exact .step f c d
theorem Ch.congr (b:∀u,P u↔Q u):Ch rs h P u↔Ch rs h Q u:=⟨Ch.mono fun _ k=> .base ((b _).1 k),Ch.mono fun _ k=> .base ((b _).2 k)⟩
theorem Qor (b:u∈S):u∈stS h S a:=by
 unfold stS; split
 ·exact Y3.2 (.inr b)
 ·exact b
theorem QiA (b:u∈S):u∈stP h as_ S:=by
 induction as_ generalizing S with
 | nil=>exact b
 | cons a l c=>exact c (Qor b)
theorem QuV (b:u∈S):u∈stN h rs k S:=by
 induction k with
 | zero=>exact b
 | succ k c=>exact QiA c
theorem QuY (b:Srt S):Srt (stS h S a):=by
 unfold stS; split
 ·exact Ha X4 b
 ·exact b
theorem Qoq (b:Srt S):Srt (stP h as_ S):=by
 induction as_ generalizing S with
 | nil=>exact b
 | cons a l c=>exact c (QuY b)
theorem QbR (b:Srt S):Srt (stN h rs k S):=by
 induction k with
 | zero=>exact b
 | succ k c=>exact Qoq c
theorem QwO (c:∀a∈as_,a∈rs)(d:∀u∈S,Ch rs h P u):∀u∈stP h as_ S,Ch rs h P u:=by
 induction as_ generalizing S with
 | nil=>exact d
 | cons a l i=>
  refine i (fun b g=>c b (ax _ g)) fun u e=> ?_
  unfold stS at e
  split at e
  ·rename_i f
   rcases Y3.1 e with rfl | h2
   ·exact .step (d _ f.2) (c a (aw ..)) f.1
   ·exact d _ h2
  ·exact d _ e
theorem QsU (b:∀u∈S,Ch rs h P u):∀u∈stN h rs k S,Ch rs h P u:=by
 induction k with
 | zero=>exact b
 | succ k c=>exact QwO (fun _ h=>h) c
theorem QuW (c:a∈as_)(hi:inv h a=true)(d:a.1∈S):a.2.2.2∈stP h as_ S:=by
 induction as_ generalizing S with
 | nil=>cases c
 | cons b l e=>
  rcases aE.1 c with rfl | c
  ·refine QiA (as_:=l) ?_
   unfold stS; rw[if_pos ⟨hi,d⟩]
   exact Y3.2 (.inl rfl)
  ·exact e c (Qor d)
theorem QcM (b:Srt S):S.Nodup:=b.imp fun h e=>by subst e; simp[ltI] at h
theorem UY {α:Type}[DecidableEq α]:∀{l m:List α},l.Nodup→(∀x∈l,x∈m)→l.length≤m.length
 | [],_,_,_=>aP _
 | a :: l,m,hn,hs=>by
  obtain ⟨d,f⟩:=bj.1 hn
  have b:=hs a (aw ..)
  have g:=UY (m:=m.erase a) f fun x c=>(List.mem_erase_of_ne (fun e=>d (by rw[← e]; exact c))).2 (hs x (ax _ c))
  rw[List.length_erase_of_mem b] at g
  have:=List.length_pos_of_mem b
  rw[aq]; omega
theorem QuS (i:Srt S)(b:∀u∈S,0≤u∧u < (n:Int)):S.length≤n:=by
 have c:(S.map Int.toNat).Nodup:=by
  unfold List.Nodup
  rw[bX]
  exact (QcM i).imp_of_mem fun f g h e=>h (by have:=b _ f; have:=b _ g; omega)
 have d:(S.map Int.toNat) ⊆ List.range n:=fun x l=>by
  obtain ⟨u,j,rfl⟩:=aR.1 l
  have:=b u j
  exact dx.2 (by omega)
 have:=UY c d
 rwa [aB,List.length_range] at this
theorem QuU (f:∀a∈rs,0≤a.2.2.2∧a.2.2.2 < (n:Int))(e:∀u∈S,0≤u∧u < (n:Int)):∀u∈stN h rs k S,0≤u∧u < (n:Int):=by
 have d:∀u,Ch rs h (fun v=>v∈S) u→0≤u∧u < (n:Int):=fun u c=>by
  induction c with
  | base b=>exact e _ b
  | step _ b _ _=>exact f _ b
 exact fun u c=>d u (QsU (P:=fun v=>v∈S) (fun v g=> .base g) u c)
theorem Qwj (e:Srt S)(i:Srt T_)(b:∀u∈S,u∈T_):T_=S∨S.length < T_.length:=by
 by_cases d:∀x∈T_,x∈S
 ·exact .inl (X4.ext i e fun x=>⟨d x,b x⟩)
 ·obtain ⟨x,j⟩:=Classical.not_forall.1 d
  obtain ⟨f,g⟩:=Classical.not_imp.1 j
  have:=UY (l:=x :: S) (m:=T_) (bj.2 ⟨g,QcM e⟩) fun y c=>by
   rcases aE.1 c with rfl | c
   ·exact f
   ·exact b y c
  rw[aq] at this
  exact .inr this
theorem Qoo (c:Srt S)(b:stP h rs (stN h rs k S)=stN h rs k S):∀j,stN h rs (k+j) S=stN h rs k S
 | 0=>rfl
 | j+1=>by rw[← bV,stN,Qoo c b j,b]
theorem QsV (c:Srt S):(∃j,j < k∧stP h rs (stN h rs j S)=stN h rs j S)∨S.length+k≤(stN h rs k S).length:=by
 induction k with
 | zero=>exact .inr (aL _)
 | succ k f=>
  rcases f with ⟨j,d,b⟩ | d
  ·exact .inl ⟨j,by omega,b⟩
  ·rcases Qwj (QbR (h:=h) (rs:=rs) (k:=k) c) (Qoq (QbR c)) (fun u e=>QiA (h:=h) (as_:=rs) e) with b | b
   ·exact .inl ⟨k,by omega,b⟩
   ·right; rw[stN]; omega
theorem QmS (f:Srt S)(p:∀a∈rs,0≤a.2.2.2∧a.2.2.2 < (n:Int))(o:∀u∈S,0≤u∧u < (n:Int)):∀u,u∈stN h rs n S↔Ch rs h (fun v=>v∈S) u:=by
 have m:stP h rs (stN h rs n S)=stN h rs n S:=by
  rcases QsV (rs:=rs) (h:=h) (k:=n) f with ⟨j,e,c⟩ | e
  ·have b:=Qoo f c (n - j)
   rw[show j+(n - j)=n by omega] at b
   rw[b,c]
  ·have c:=QuS (QbR (h:=h) (rs:=rs) (k:=n) f) (QuU p o)
   have b:S=[]:=bu (by omega)
   subst b
   have g:∀(l:List DAr),stP h l []=[]:=fun l=>by
    induction l with
    | nil=>rfl
    | cons a l d=>show stP h l (stS h [] a)=[]; rw[show stS h [] a=[] from if_neg (by simp)]; exact d
   have i:∀k,stN h rs k []=[]:=fun k=>by
    induction k with
    | zero=>rfl
    | succ k d=>rw[stN,d,g]
   rw[i,g]
 refine fun u=>⟨QsU (fun v r=> .base r) u,fun q=> ?_⟩
 induction q with
 | base e=>exact QuV e
 | step _ c b d=>rw[← m]; exact QuW c b d
def clA (rs:List DAr)(h u:Int)(out:List Int):List Int:=rs.foldl (fun out a=>if a.1=u∧inv h a=true∧¬a.2.2.2∈out then out++[a.2.2.2] else out) out
def clL (rs:List DAr)(h:Int):Nat→Nat→List Int→List Int
 | 0,_,out=>out
 | f+1,k,out=>match out[k]? with
  | none=>out
  | some u=>clL rs h f (k+1) (clA rs h u out)
theorem Qbd:∃r,clA as_ h u S=S++r:=by
 unfold clA
 induction as_ generalizing S with
 | nil=>exact ⟨[],(bG _).symm⟩
 | cons a l b=>
  rw[bh]
  split
  ·obtain ⟨r,c⟩:=b (S:=S++[a.2.2.2])
   exact ⟨a.2.2.2 :: r,by rw[c,aK]; rfl⟩
  ·exact b
theorem QoY (b:S.Nodup):(clA as_ h u S).Nodup:=by
 unfold clA
 induction as_ generalizing S with
 | nil=>exact b
 | cons a l d=>
  rw[bh]
  split
  ·rename_i f
   exact d (aT.2 ⟨b,by simp,fun x g y c e=>by rw[aC] at c; subst c; subst e; exact f.2.2 g⟩)
  ·exact d b
theorem QvO (c:∀a∈as_,a∈rs)(i:Ch rs h P u)(e:∀v∈S,Ch rs h P v):∀v∈clA as_ h u S,Ch rs h P v:=by
 unfold clA
 induction as_ generalizing S with
 | nil=>exact e
 | cons a l j=>
  rw[bh]
  refine j (fun b g=>c b (ax _ g)) ?_
  split
  ·rename_i f
   intro v d
   rcases aG.1 d with d | d
   ·exact e v d
   ·rw[aC] at d; subst d
    exact .step (by rw[f.1]; exact i) (c a (aw ..)) f.2.1
  ·exact e
theorem QtO (d:a∈as_)(hi:inv h a=true)(i:a.1=u):a.2.2.2∈clA as_ h u S:=by
 induction as_ generalizing S with
 | nil=>cases d
 | cons b l e=>
  rcases aE.1 d with rfl | d
  ·unfold clA
   rw[bh]
   split
   ·obtain ⟨r,c⟩:=Qbd (as_:=l) (h:=h) (u:=u) (S:=S++[a.2.2.2])
    unfold clA at c
    rw[c]; simp
   ·rename_i f
    obtain ⟨r,c⟩:=Qbd (as_:=l) (h:=h) (u:=u) (S:=S)
    unfold clA at c
    rw[c]
    exact aH _ (ck fun g=>f ⟨i,hi,g⟩)
  ·unfold clA at e ⊢
   rw[bh]; exact e d
structure ClI (rs:List DAr) (h:Int) (P:Int→Prop) (k:Nat) (out:List Int):Prop where
  nod:out.Nodup
  ch:∀v∈out,Ch rs h P v
  bas:∀v,P v→v∈out
  don:∀(j:Nat) w,j < k→out[j]? =some w→∀a∈rs,a.1=w→inv h a=true→a.2.2.2∈out
  le:k≤out.length
theorem ClI.zero (e:S.Nodup)(c:∀v,P v↔v∈S):ClI rs h P 0 S:=⟨e,fun v b=> .base ((c v).2 b),fun v b=>(c v).1 b,fun j w d=>absurd d (bi _),aP _⟩
theorem ClI.step {out:List Int}(g:ClI rs h P k out)(f:out[k]? =some u):ClI rs h P (k+1) (clA rs h u out):=by
 obtain ⟨r,c⟩:=Qbd (as_:=rs) (h:=h) (u:=u) (S:=out)
 have o:=(ah.1 f).1
 refine ⟨QoY g.nod,QvO (fun _ h=>h) (g.ch u (ai f)) g.ch,fun v p=>by rw[c]; exact aH _ (g.bas v p),fun j w q b a i e l=> ?_,by rw[c,ae]; omega⟩
 by_cases m:j=k
 ·subst m
  have b:out[j]? =some w:=by rw[c,bf o] at b; exact b
  rw[f] at b; cases b
  exact QtO i l e
 ·have d:j < out.length:=by omega
  rw[c,bf d] at b
  rw[c]; exact aH _ (g.don j w (by omega) b a i e l)
theorem ClI.end_ {out:List Int}(g:ClI rs h P k out)(l:out.length≤k):∀v,v∈out↔Ch rs h P v:=by
 refine fun v=>⟨g.ch v,fun f=> ?_⟩
 induction f with
 | base c=>exact g.bas _ c
 | step _ d e i=>
  obtain ⟨j,b⟩:=aO.1 i
  exact g.don j _ (by have:=(ah.1 b).1; omega) b _ d rfl e
end
def Qgj (b:UInt8):Bool:=b==43||b==45
def sgB (up:Bool):ByteArray:=if up=true then ⟨#[43]⟩ else ⟨#[45]⟩
def wdA (c:DSg)(a:DAr):ByteArray:=((c.1[a.2.1.toNat]?).getD (ByteArray.empty,0)).1++sgB a.2.2.1
def tl (t:ByteArray):List UInt8:=t.data.toList
def Qto (l:List UInt8):Prop:=l=[]∨∃l0 s,l=l0++[s]∧Qgj s=true
theorem QiF (s t:ByteArray):tl (s++t)=tl s++tl t:=by simp[tl]
theorem Qs8 {s t:ByteArray}(h:tl s=tl t):s=t:=by
 cases s; cases t; simp only[tl] at h; congr; exact Array.toList_inj.1 h
theorem Qrs {T d N c:List UInt8}(h:Qto T)(i:Qto d)(k:∀b∈N,Qgj b=false)(m:∀b∈c,Qgj b=false)(e:T++N=d++c):T=d∧N=c:=by
 have g:∀{T N:List UInt8},Qto T→(∀b∈N,Qgj b=false)→((T++N).reverse.takeWhile fun b=> !Qgj b)=N.reverse:=fun {T N} h k=>by
  rw[List.reverse_append,List.takeWhile_append_of_pos (fun b l=>by rw[k b (List.mem_reverse.1 l)]; rfl)]
  rcases h with rfl | ⟨l0,s,rfl,hs⟩
  ·simp
  ·rw[List.reverse_append,List.reverse_singleton,List.singleton_append,List.takeWhile_cons,hs]; simp
 have f:=g h k
 rw[e,g i m] at f
 have j:=List.reverse_inj.1 f
 subst j
 exact ⟨List.append_cancel_right e,rfl⟩
end Go.Proofs.YtndabgcpnmeeoaaGreat
namespace Go.Proofs.YtndabgcpnmeeoaaGreat
open Go.RowKit
set_option maxRecDepth 100000
set_option maxHeartbeats 4000000
inductive Tr (c:DSg) (h:Int):Nat→ByteArray→Int→Prop
  | zero:Tr c h 0 ByteArray.empty 0
  | still {n:Nat} {t:ByteArray} {a:DAr}:Tr c h n t a.1→a∈c.2.2→inv h a=true→Tr c h n t a.2.2.2
  | word {n:Nat} {t:ByteArray} {a:DAr}:Tr c h n t a.1→a∈c.2.2→inv h a=false→Tr c h (n+1) (t++wdA c a) a.2.2.2
@[reducible] def DTx:=ByteArray×List Int×Int
@[reducible] def DLv:=List (ByteArray×List Int)
def Vs (c:DSg)(h:Int)(L:DLv)(s:ByteArray)(v:Int):Prop:=∃q∈L,∃a∈c.2.2,inv h a=false∧a.1∈q.2∧s=q.1++wdA c a∧v=a.2.2.2
structure Lev (c:DSg) (h:Int) (n:Nat) (K:DLv):Prop where
  nod:K.Pairwise fun p q=>p.1≠q.1
  mem:∀p∈K,(∃u,u∈p.2)∧∀u,u∈p.2↔Tr c h n p.1 u
  all:∀t u,Tr c h n t u→∃p∈K,p.1=t
section
variable {c:DSg}{h:Int}{n m:Nat}{s t:ByteArray}{u v:Int}{K L M:DLv}{a:DAr}
theorem Tr.ch {P:Int→Prop}(f:∀u,P u→Tr c h n t u)(k:Ch c.2.2 h P u):Tr c h n t u:=by
 induction k with
 | base b=>exact f _ b
 | step _ d e g=>exact .still g d e
theorem Jc:Tr c h 0 t u↔t=ByteArray.empty∧Ch c.2.2 h (fun v=>v=0) u:=by
 constructor
 ·intro k
  generalize e:0=n at k
  induction k with
  | zero=>exact ⟨rfl, .base rfl⟩
  | still _ d f b=>exact ⟨(b e).1, .step (b e).2 d f⟩
  | word=>cases e
 ·rintro ⟨rfl,k⟩
  exact Tr.ch (fun u g=>by subst g; exact .zero) k
theorem Qu3:Tr c h (n+1) s u↔Ch c.2.2 h (fun v=>∃t,∃a∈c.2.2,inv h a=false∧Tr c h n t a.1∧s=t++wdA c a∧v=a.2.2.2) u:=by
 constructor
 ·intro k
  generalize e:n+1=m at k
  induction k with
  | zero=>cases e
  | still _ b d j=>exact .step (j e) b d
  | word f b d=>
   cases e
   exact .base ⟨_,_,b,d,f,rfl,rfl⟩
 ·exact Tr.ch fun u ⟨t,a,f,b,d,g,i⟩=>by subst g; subst i; exact .word d f b
theorem Lev.vs (g:Lev c h n L):Vs c h L s v↔∃t,∃a∈c.2.2,inv h a=false∧Tr c h n t a.1∧s=t++wdA c a∧v=a.2.2.2:=by
 constructor
 ·rintro ⟨q,d,a,e,f,b,i,j⟩
  exact ⟨q.1,a,e,f,((g.mem q d).2 _).1 b,i,j⟩
 ·rintro ⟨t,a,e,f,b,i,j⟩
  obtain ⟨q,d,rfl⟩:=g.all t _ b
  exact ⟨q,d,a,e,f,((g.mem q d).2 _).2 b,i,j⟩
theorem Lev.next (g:Lev c h n L)(l:M.Pairwise fun p q=>p.1≠q.1)(f:∀p∈M,(∃v,Vs c h L p.1 v)∧∀u,u∈p.2↔Ch c.2.2 h (fun v=>Vs c h L p.1 v) u)(k:∀s v,Vs c h L s v→∃p∈M,p.1=s):Lev c h (n+1) M:=by
 have e:∀s u,Ch c.2.2 h (fun v=>Vs c h L s v) u↔Tr c h (n+1) s u:=fun s u=>(Ch.congr fun _=>g.vs).trans Qu3.symm
 refine ⟨l,fun p i=>⟨?_,fun u=>((f p i).2 u).trans (e _ _)⟩,fun t u o=> ?_⟩
 ·obtain ⟨v,j⟩:=(f p i).1
  exact ⟨v,((f p i).2 v).2 (.base j)⟩
 ·have b:=(e t u).2 o
  have d:∃v,Vs c h L t v:=by
   induction b with
   | base d=>exact ⟨_,d⟩
   | step b _ _ r=>exact r ((e _ _).1 b)
  obtain ⟨v,j⟩:=d
  exact k t v j
def VQ:List DTx→DTx→List DTx
 | [],x=>[x]
 | y :: l,x=>if y.1=x.1∧y.2.2=x.2.2 then (y.1,x.2.1.foldl (fun s k=>Zr ltI k s) y.2.1,y.2.2) :: l else y :: VQ l x
def arT (c:DSg)(h:Int)(x:DTx)(out:List DTx)(a:DAr):List DTx:=if inv h a=false∧a.1∈x.2.1 then VQ out (x.1++wdA c a,[a.2.2.2],x.2.2+1) else out
def UZ (c:DSg)(h:Int)(as_:List DAr)(x:DTx)(out:List DTx):List DTx:=as_.foldl (arT c h x) out
def YT (c:DSg)(h:Int)(L:List DTx)(out:List DTx):List DTx:=L.foldl (fun out x=>UZ c h c.2.2 x out) out
def UU (c:DSg)(h:Int)(y:DTx):DTx:=(y.1,stl c h y.2.1,y.2.2)
def QpA (c:DSg)(h:Int)(L:List DTx):List DTx:=(YT c h L []).map (UU c h)
def ZY (c:DSg)(h:Int):Nat→List DTx
 | 0=>[(ByteArray.empty,stl c h [0],0)]
 | n+1=>QpA c h (ZY c h n)
def unT (L:List DTx):DLv:=L.map fun x=>(x.1,x.2.1)
structure OT (m:Int) (V:ByteArray→Int→Prop) (out:List DTx):Prop where
  many:∀y∈out,y.2.2=m
  nod:out.Pairwise fun p q=>p.1≠q.1
  srt:∀y∈out,Srt y.2.1
  mem:∀y∈out,∀v,v∈y.2.1↔V y.1 v
  wit:∀y∈out,∃v,V y.1 v
  all:∀s v,V s v→∃y∈out,y.1=s
theorem OT.congr {i:Int}{V W:ByteArray→Int→Prop}{out:List DTx}(g:OT i V out)(e:∀s v,V s v↔W s v):OT i W out:=
 ⟨g.many,g.nod,g.srt,fun y d v=>(g.mem y d v).trans (e _ _),fun y d=>(g.wit y d).imp fun v b=>(e _ _).1 b,fun s v b=>g.all s v ((e _ _).2 b)⟩
theorem Qj9 {i:Int}:∀{out:List DTx} {y:DTx},(∀y∈out,y.2.2=i)→(out.Pairwise fun p q=>p.1≠q.1)→(y∈VQ out (s,[v],i)↔(y∈out∧y.1≠s)∨(∃z∈out,z.1=s∧y=(z.1,Zr ltI v z.2.1,z.2.2))∨((∀z∈out,z.1≠s)∧y=(s,[v],i)))
 | [],y,_,_=>by simp[VQ]
 | z :: l,y,hm,hn=>by
  obtain ⟨r,w⟩:=bm.1 hn
  have o:=hm z (aw ..)
  rw[VQ]
  by_cases e:z.1=s
  ·rw[if_pos ⟨e,o⟩]
   have A:∀x∈l,x.1≠s:=fun x d g=>r x d (e.trans g.symm)
   simp only[bh,cV,aE]
   constructor
   ·rintro (rfl | j)
    ·exact .inr (.inl ⟨z, .inl rfl,e,rfl⟩)
    ·exact .inl ⟨.inr j,A y j⟩
   ·rintro (⟨rfl | j,b⟩ | ⟨x,rfl | d,b,rfl⟩ | ⟨f,_⟩)
    ·exact absurd e b
    ·exact .inr j
    ·exact .inl rfl
    ·exact absurd b (A x d)
    ·exact absurd e (f z (.inl rfl))
  ·rw[if_neg (fun g=>e g.1)]
   have B:=Qj9 (out:=l) (y:=y) (fun x d=>hm x (ax _ d)) w
   rw[aE,B]
   simp only[aE]
   constructor
   ·rintro (rfl | ⟨f,b⟩ | ⟨x,d,b,k⟩ | ⟨f,b⟩)
    ·exact .inl ⟨.inl rfl,e⟩
    ·exact .inl ⟨.inr f,b⟩
    ·exact .inr (.inl ⟨x, .inr d,b,k⟩)
    ·exact .inr (.inr ⟨fun x d=>by rcases d with rfl | d; exact e; exact f x d,b⟩)
   ·rintro (⟨rfl | f,b⟩ | ⟨x,rfl | d,b,k⟩ | ⟨f,b⟩)
    ·exact .inl rfl
    ·exact .inr (.inl ⟨f,b⟩)
    ·exact absurd b e
    ·exact .inr (.inr (.inl ⟨x,d,b,k⟩))
    ·exact .inr (.inr (.inr ⟨fun x d=>f x (.inr d),b⟩))
theorem Qj8 {i:Int}{x:DTx}:∀{out:List DTx},∀y∈VQ out x,y.1=x.1∨∃z∈out,z.1=y.1
 | [],y,hy=>by rw[VQ,aC] at hy; subst hy; exact .inl rfl
 | z :: l,y,hy=>by
  rw[VQ] at hy
  split at hy
  ·rcases aE.1 hy with rfl | hy
   ·exact .inr ⟨z,aw ..,rfl⟩
   ·exact .inr ⟨y,ax _ hy,rfl⟩
  ·rcases aE.1 hy with rfl | hy
   ·exact .inr ⟨y,aw ..,rfl⟩
   ·rcases Qj8 (i:=i) y hy with b | ⟨w,d,b⟩
    ·exact .inl b
    ·exact .inr ⟨w,ax _ d,b⟩
theorem Qka {i:Int}{x:DTx}(e:x.2.2=i):∀{out:List DTx},(∀y∈out,y.2.2=i)→(out.Pairwise fun p q=>p.1≠q.1)→(VQ out x).Pairwise fun p q=>p.1≠q.1
 | [],_,_=>cG ..
 | z :: l,hm,hn=>by
  obtain ⟨b,d⟩:=bm.1 hn
  have j:=hm z (aw ..)
  rw[VQ]
  split
  ·exact bm.2 ⟨fun y k=>b y k,d⟩
  ·rename_i o
   refine bm.2 ⟨fun y k=> ?_,Qka e (fun x e=>hm x (ax _ e)) d⟩
   rcases Qj8 (i:=i) y k with f | ⟨w,r,f⟩
   ·exact fun g=>o ⟨g.trans f,j.trans e.symm⟩
   ·rw[← f]; exact b w r
theorem OT.step {i:Int}{V:ByteArray→Int→Prop}{out:List DTx}(g:OT i V out):OT i (fun s' f=>V s' f∨(s'=s∧f=v)) (VQ out (s,[v],i)):=by
 have l:=fun y=>Qj9 (s:=s) (v:=v) (y:=y) g.many g.nod
 have p:∀z∈out,z.1=s→∀f,f∈Zr ltI v z.2.1↔V s f∨f=v:=fun z b e f=>by
  rw[Y3,g.mem z b f,e]; exact Or.comm
 refine ⟨fun y o=> ?_,Qka rfl g.many g.nod,fun y o=> ?_,fun y o f=> ?_,fun y o=> ?_,fun s' f q=> ?_⟩
 ·rcases (l y).1 o with j | ⟨z,b,d,rfl⟩ | ⟨_,rfl⟩
  ·exact g.many y j.1
  ·exact g.many z b
  ·rfl
 ·rcases (l y).1 o with j | ⟨z,b,d,rfl⟩ | ⟨_,rfl⟩
  ·exact g.srt y j.1
  ·exact Ha X4 (g.srt z b)
  ·exact cG ..
 ·rcases (l y).1 o with j | ⟨z,b,d,rfl⟩ | ⟨j,rfl⟩
  ·rw[g.mem y j.1]; exact ⟨.inl,fun k=>k.resolve_right fun e=>j.2 e.1⟩
  ·show f∈Zr ltI v z.2.1↔_
   rw[p z b d,d]
   exact ⟨fun k=>k.imp id fun e=>⟨rfl,e⟩,fun k=>k.imp id fun e=>e.2⟩
  ·show f∈[v]↔_
   rw[aC]
   refine ⟨fun e=> .inr ⟨rfl,e⟩,fun k=>k.elim (fun k=> ?_) fun k=>k.2⟩
   obtain ⟨z,b,e⟩:=g.all _ _ k
   exact absurd e (j z b)
 ·rcases (l y).1 o with j | ⟨z,b,d,rfl⟩ | ⟨_,rfl⟩
  ·exact (g.wit y j.1).imp fun _=> .inl
  ·exact ⟨v, .inr ⟨d,rfl⟩⟩
  ·exact ⟨v, .inr ⟨rfl,rfl⟩⟩
 ·by_cases e:s'=s
  ·subst e
   by_cases k:∃z∈out,z.1=s'
   ·obtain ⟨z,b,d⟩:=k
    exact ⟨_,(l _).2 (.inr (.inl ⟨z,b,d,rfl⟩)),d⟩
   ·exact ⟨_,(l _).2 (.inr (.inr ⟨fun z b d=>k ⟨z,b,d⟩,rfl⟩)),rfl⟩
  ·obtain ⟨z,b,d⟩:=g.all s' f (q.resolve_right fun k=>e k.1)
   exact ⟨z,(l _).2 (.inl ⟨b,by rw[d]; exact e⟩),d⟩
theorem Qit {i:Int}{x:DTx}(d:x.2.2+1=i):∀(as_:List DAr) {V:ByteArray→Int→Prop} {out:List DTx},OT i V out→OT i (fun s v=>V s v∨∃a∈as_,inv h a=false∧a.1∈x.2.1∧s=x.1++wdA c a∧v=a.2.2.2) (UZ c h as_ x out)
 | [],V,out,g=>g.congr fun s v=>by simp
 | a :: l,V,out,g=>by
  show OT i _ (UZ c h l x (arT c h x out a))
  unfold arT
  split
  ·rename_i b
   rw[d]
   refine (Qit d l g.step).congr fun s v=> ?_
   simp only[aE,exists_eq_or_imp,or_assoc]
   exact or_congr_right (or_congr_left ⟨fun k=>⟨b.1,b.2,k⟩,fun k=>k.2.2⟩)
  ·rename_i b
   refine (Qit d l g).congr fun s v=> ?_
   simp only[aE,exists_eq_or_imp]
   exact or_congr_right ⟨.inr,fun k=>k.resolve_left fun k=>b ⟨k.1,k.2.1⟩⟩
theorem Qnv {i:Int}:∀(L:List DTx) {V:ByteArray→Int→Prop} {out:List DTx},(∀x∈L,x.2.2+1=i)→OT i V out→OT i (fun s v=>V s v∨Vs c h (unT L) s v) (YT c h L out)
 | [],V,out,_,g=>g.congr fun s v=>by simp[Vs,unT]
 | x :: l,V,out,hm,g=>by
  refine (Qnv l (fun y b=>hm y (ax _ b)) (Qit (hm x (aw ..)) c.2.2 g)).congr fun s v=> ?_
  simp only[Vs,unT,aU,aE,exists_eq_or_imp,or_assoc]
theorem Qrj {i:Int}{L:List DTx}(b:∀x∈L,x.2.2+1=i):OT i (Vs c h (unT L)) (YT c h L []):=
 (Qnv L b (V:=fun _ _=>False) ⟨by simp,cj,by simp,by simp,by simp,by simp⟩).congr fun s v=>by simp
end
end Go.Proofs.YtndabgcpnmeeoaaGreat
namespace Go.Proofs.YtndabgcpnmeeoaaGreat
open Go.RowKit
set_option maxRecDepth 100000
set_option maxHeartbeats 4000000
section
variable {c:DSg}{h:Int}{n m:Nat}{s t:ByteArray}{u v:Int}{K L M A D l1 l2:DLv}{a:DAr}{S T_:List Int}{q p:ByteArray×List Int}
theorem QhI (d:SgOk c)(b:a∈c.2.2):0≤a.2.2.2∧a.2.2.2 < (c.2.1.length:Int):=by
 have:=d.arcs a b
 obtain ⟨_,e,_⟩:=this
 omega
theorem QsX (f:SgOk c)(b:Srt S)(e:∀u∈S,0≤u∧u < (c.2.1.length:Int)):∀u,u∈stl c h S↔Ch c.2.2 h (fun v=>v∈S) u:=QmS b (fun _ d=>QhI f d) e
theorem QyB (d:SgOk c)(k:Vs c h L s v):0≤v∧v < (c.2.1.length:Int):=by
 obtain ⟨_,_,a,b,_,_,_,rfl⟩:=k
 exact QhI d b
theorem QiN {L:List DTx}{p:ByteArray×List Int}(k:p∈unT L):∃x∈L,p=(x.1,x.2.1):=by
 obtain ⟨x,b,e⟩:=aR.1 k
 exact ⟨x,b,e.symm⟩
theorem HE (f:SgOk c):∀n,(Lev c h n (unT (ZY c h n))∧(∀x∈ZY c h n,x.2.2=(n:Int)))∧∀x∈ZY c h n,Srt x.2.1:=fun n=>by
 have F:=f.some_
 induction n with
 | zero=>
  have z:∀u,u∈stl c h [0]↔Ch c.2.2 h (fun v=>v=0) u:=fun u=>(QsX f (cG ..) (fun u r=>by rw[aC] at r; omega) u).trans (Ch.congr fun v=>aC)
  refine ⟨⟨⟨cG ..,fun p l=> ?_,fun t u r=>⟨_,aC.2 rfl,(Jc.1 r).1.symm⟩⟩,fun x b=>by rw[ZY,aC] at b; subst b; rfl⟩,fun x b=>by rw[ZY,aC] at b; subst b; exact QbR (cG ..)⟩
  obtain ⟨x,b,rfl⟩:=QiN l
  rw[ZY,aC] at b
  subst b
  exact ⟨⟨0,(z 0).2 (.base rfl)⟩,fun u=>(z u).trans ⟨fun k=>Jc.2 ⟨rfl,k⟩,fun k=>(Jc.1 k).2⟩⟩
 | succ n E=>
  obtain ⟨⟨g,B⟩,C⟩:=E
  have o:=Qrj (c:=c) (h:=h) (i:=(n:Int)+1) (L:=ZY c h n) fun x b=>by rw[B x b]
  have j:∀y∈YT c h (ZY c h n) [],∀u,u∈stl c h y.2.1↔Ch c.2.2 h (fun v=>Vs c h (unT (ZY c h n)) y.1 v) u:=fun y d u=>
   (QsX f (o.srt y d) (fun v w=>QyB f ((o.mem y d v).1 w)) u).trans (Ch.congr fun v=>o.mem y d v)
  refine ⟨⟨g.next ?_ (fun p l=> ?_) (fun s v w=> ?_),fun x b=> ?_⟩,fun x b=> ?_⟩
  ·unfold unT ZY QpA
   rw[cX,bX]
   exact o.nod
  ·obtain ⟨x,b,rfl⟩:=QiN l
   obtain ⟨y,d,rfl⟩:=aR.1 b
   exact ⟨o.wit y d,j y d⟩
  ·obtain ⟨y,d,e⟩:=o.all s v w
   exact ⟨_,aR.2 ⟨UU c h y,aR.2 ⟨y,d,rfl⟩,rfl⟩,e⟩
  ·obtain ⟨y,d,rfl⟩:=aR.1 b
   rw[show (UU c h y).2.2=y.2.2 from rfl,o.many y d]; omega
  ·obtain ⟨y,d,rfl⟩:=aR.1 b
   exact QbR (o.srt y d)
def JB (L:List DTx)(out:List ByteArray):List ByteArray:=L.foldl (fun o x=>Zr ltB x.1 o) out
def txL (c:DSg)(h:Int):Nat→List ByteArray
 | 0=>JB (ZY c h 0) []
 | n+1=>JB (ZY c h (n+1)) (txL c h n)
theorem QbF:∀{L:List DTx} {out:List ByteArray},t∈JB L out↔t∈out∨∃x∈L,x.1=t
 | [],out=>by simp[JB]
 | x :: l,out=>by
  show t∈JB l (Zr ltB x.1 out)↔_
  rw[QbF,Y3]
  simp only[aE,exists_eq_or_imp]
  constructor
  ·rintro ((rfl | b) | b)
   ·exact .inr (.inl rfl)
   ·exact .inl b
   ·exact .inr (.inr b)
  ·rintro (b | rfl | b)
   ·exact .inl (.inr b)
   ·exact .inl (.inl rfl)
   ·exact .inr b
theorem Qfy (b:TO ltB):∀{L:List DTx} {out:List ByteArray},out.Pairwise (fun x y=>ltB x y=true)→(JB L out).Pairwise (fun x y=>ltB x y=true)
 | [],_,k=>k
 | x :: l,out,k=>Qfy b (L:=l) (Ha b k)
theorem QdZ (b:TO ltB):∀n,(txL c h n).Pairwise (fun x y=>ltB x y=true)
 | 0=>Qfy b cj
 | n+1=>Qfy b (QdZ b n)
theorem Qfo (g:Lev c h n (unT (ZY c h n))):(∃x∈ZY c h n,x.1=t)↔∃u,Tr c h n t u:=by
 constructor
 ·rintro ⟨x,d,rfl⟩
  have e:=g.mem _ (aR.2 ⟨x,d,rfl⟩)
  exact e.1.imp fun u b=>(e.2 u).1 b
 ·rintro ⟨u,b⟩
  obtain ⟨p,f,rfl⟩:=g.all t u b
  obtain ⟨x,d,rfl⟩:=QiN f
  exact ⟨x,d,rfl⟩
theorem Je (f:SgOk c):∀n,t∈txL c h n↔∃m,m≤n∧∃u,Tr c h m t u
 | 0=>by
  rw[txL,QbF,Qfo (HE f 0).1.1]
  exact ⟨fun k=>⟨0,aL _,k.resolve_left (by simp)⟩,fun ⟨m,g,k⟩=> .inr (by rwa [Nat.le_zero.1 g] at k)⟩
 | n+1=>by
  rw[txL,QbF,Qfo (HE f (n+1)).1.1,Je f n]
  constructor
  ·rintro (⟨m,d,b⟩ | d)
   ·exact ⟨m,by omega,b⟩
   ·exact ⟨n+1,aL _,d⟩
  ·rintro ⟨m,d,b⟩
   by_cases e:m=n+1
   ·subst e; exact .inr b
   ·exact .inl ⟨m,by omega,b⟩
theorem Qs1 {l:List ByteArray}(b:TO ltB)(k:l.Pairwise (fun x y=>ltB x y=true)):l.Nodup:=k.imp fun h e=>by subst e; exact absurd ((b.irr _).symm.trans h) (by decide)
theorem Qw0 (b:TO ltB):∀{m n:Nat},m≤n→(txL c h m).length≤(txL c h n).length:=fun {m n} k=>by
 induction k with
 | refl=>exact aL _
 | step _ e=>exact bn e (UY (Qs1 b (QdZ b _)) fun x d=>QbF.2 (.inl d))
theorem QjR (k:ZY c h n=[]):∀j,txL c h (n+j)=txL c h n∧ZY c h (n+j)=[]
 | 0=>⟨rfl,k⟩
 | j+1=>by
  obtain ⟨d,e⟩:=QjR k j
  have b:ZY c h (n+j+1)=[]:=by rw[ZY,e]; rfl
  exact ⟨by rw[← bV,txL,b,d]; rfl,b⟩
@[reducible] def Qje (c:DSg) (h m:Int):Prop:=SgOk c∧(-1≤h∧h≤(c.1.length:Int) - 1)∧(0≤m∧m≤6)
def trV (c:DSg)[Decidable (SgOk c)](h m:Int):List ByteArray×Bool:=if Qje c h m∧(txL c h m.toNat).length≤400 then (txL c h m.toNat,true) else ([],false)
theorem QwV [Decidable (SgOk c)]{m:Int}(k:¬Qje c h m):trV c h m=([],false):=if_neg fun g=>k g.1
theorem Qks [Decidable (SgOk c)]{m:Int}(d:TO ltB)(k:400 < (txL c h n).length)(b:n≤m.toNat):trV c h m=([],false):=if_neg fun g=>by have:=Qw0 (c:=c) (h:=h) d b; omega
theorem QiH [Decidable (SgOk c)]{m:Int}(g:Qje c h m)(k:(txL c h m.toNat).length≤400):trV c h m=(txL c h m.toNat,true):=if_pos ⟨g,k⟩
theorem Qu2 [Decidable (SgOk c)]{m:Int}(g:Qje c h m)(d:n≤m.toNat)(e:ZY c h n=[])(k:(txL c h n).length≤400):trV c h m=(txL c h n,true):=by
 have b:=(QjR e (m.toNat - n)).1
 rw[show n+(m.toNat - n)=m.toNat by omega] at b
 rw[QiH g (by rw[b]; exact k),b]
theorem Qfj:inv h a=false↔¬a.2.1= -1∧¬a.2.1=h:=by simp[inv]
theorem Qg5:inv h a=true↔a.2.1= -1∨a.2.1=h:=by simp[inv]
theorem Qtj (l:SgOk c)(y:a∈c.2.2)(hi:inv h a=false):∃N x,tl (wdA c a)=N++[x]∧Qgj x=true∧∀b∈N,Qgj b=false:=by
 have o:=(l.arcs a y).2.2.1
 have B:0≤a.2.1∧a.2.1≤(c.1.length:Int) - 1:=o.resolve_right fun k=>(Qfj.1 hi).1 k.1
 obtain ⟨g,i⟩:∃g,c.1[a.2.1.toNat]? =some g:=⟨_,ap (by omega)⟩
 have r:=(l.sigs.1 a.2.1.toNat (by omega) g i).1
 refine ⟨tl g.1,if a.2.2.1=true then 43 else 45, ?_,by split <;> rfl,fun b z=> ?_⟩
 ·unfold wdA sgB
  rw[QiF,i]
  split <;> rfl
 ·obtain ⟨k,j⟩:=aO.1 z
  have f:k < g.1.size:=by have:=(ah.1 j).1; simpa [tl] using this
  have w:g.1[k]=b:=by
   have:=(ah.1 j).2
   simp only[tl,Array.getElem_toList] at this
   exact this
  have d:=r.1 k f
  rw[w] at d
  unfold Qgj
  simp only[du,beq_eq_false_iff_ne,ne_eq]
  unfold YY at d
  refine ⟨fun e=> ?_,fun e=> ?_⟩ <;> subst e <;> revert d <;> simp
def cnS (l:List UInt8):Nat:=(l.filter Qgj).length
theorem QiJ (r:SgOk c)(k:Tr c h n t u):Qto (tl t)∧cnS (tl t)=n:=by
 induction k with
 | zero=>exact ⟨.inl rfl,rfl⟩
 | still _ _ _ d=>exact d
 | word _ i j d=>
  obtain ⟨N,x,e,f,l⟩:=Qtj r i j
  rw[QiF,e]
  refine ⟨.inr ⟨_,x,(aK ..).symm,f⟩, ?_⟩
  have g:N.filter Qgj=[]:=List.filter_eq_nil_iff.2 fun b o=>by rw[l b o]; decide
  have:=d.2
  unfold cnS at this ⊢
  rw[bO,bO,g,bN,ae,this,cN,f]; rfl
theorem Qtb {l:ByteArray}{H:Int}{d:DAr}(f:SgOk c)(k:Tr c h n t u)(G:Tr c h m l H)(E:a∈c.2.2)(i:d∈c.2.2)(hi:inv h a=false)(j:inv h d=false)(e:t++wdA c a=l++wdA c d):t=l∧wdA c a=wdA c d:=by
 obtain ⟨N,x,o,J,C⟩:=Qtj f E hi
 obtain ⟨I,O,b,F,g⟩:=Qtj f i j
 have r:=congrArg tl e
 rw[QiF,QiF,o,b,← aK,← aK] at r
 obtain ⟨w,y⟩:=List.append_inj' r rfl
 obtain ⟨z,B⟩:=Qrs (QiJ f k).1 (QiJ f G).1 C g w
 exact ⟨Qs8 z,Qs8 (by rw[o,b,B,y])⟩
theorem QwW {e:Int}(b:SgOk c)(k:Tr c h n t u)(d:Tr c h m t e):n=m:=(QiJ b k).2.symm.trans (QiJ b d).2
def afS (c:DSg)(S:List Int)(h:Int)(A:DLv)(a:DAr):DLv:=if a.1∈S∧inv h a=false then Yl .str A (wdA c a) (((YD .str A (wdA c a)).getD [])++[a.2.2.2]) else A
def afV (c:DSg)(S:List Int)(h:Int):DLv:=c.2.2.foldl (afS c S h) []
structure AfI (c:DSg) (h:Int) (S:List Int) (rs:List DAr) (A:DLv):Prop where
  nod:A.Pairwise fun p q=>p.1≠q.1
  mem:∀p∈A,(∃v,v∈p.2)∧∀v,v∈p.2↔∃a∈rs,inv h a=false∧a.1∈S∧wdA c a=p.1∧v=a.2.2.2
  all:∀a∈rs,inv h a=false→a.1∈S→∃p∈A,p.1=wdA c a
theorem Qvl {k:Ty}{V:Type}{m:List (k.Den×V)}{x:k.Den}(f:m.Pairwise fun p q=>p.1≠q.1):(∃v,(x,v)∈m∧YD k m x=some v)∨((∀p∈m,p.1≠x)∧YD k m x=none):=by
 by_cases e:∃p∈m,p.1=x
 ·obtain ⟨p,b,rfl⟩:=e
  obtain ⟨j,i⟩:=aO.1 b
  exact .inl ⟨p.2,b,UN f i rfl⟩
 ·have d:∀p∈m,p.1≠x:=fun p b g=>e ⟨p,b,g⟩
  exact .inr ⟨d,HH d⟩
theorem QaO {k:Ty}{V:Type}{m:List (k.Den×V)}{x:k.Den}{v:V}{p:k.Den×V}(z:m.Pairwise fun p q=>p.1≠q.1):p∈Yl k m x v↔(p∈m∧p.1≠x)∨p=(x,v):=by
 have o:=K6 (x:=x) (v:=v) z
 constructor
 ·intro l
  rcases QjV l with e | r
  ·exact .inr e
  ·by_cases e:p.1=x
   ·right
    obtain ⟨j,f⟩:=aO.1 l
    have b:=UN o f e
    rw[V2,if_pos ((k.beq_iff _ _).2 rfl)] at b
    cases b
    exact Prod.ext e rfl
   ·exact .inl ⟨r,e⟩
 ·have b:∀y w,(y,w)∈Yl k m x v↔YD k (Yl k m x v) y=some w:=fun y w=>by
   rcases Qvl (x:=y) o with ⟨B,b,i⟩ | ⟨b,i⟩
   ·rw[i]
    refine ⟨fun d=> ?_,fun d=>by cases d; exact b⟩
    obtain ⟨j,f⟩:=aO.1 d
    rw[← UN o f rfl,i]
   ·rw[i]; exact ⟨fun d=>absurd rfl (b _ d),fun d=>by cases d⟩
  rintro (⟨l,e⟩ | rfl)
  ·obtain ⟨y,w⟩:=p
   rw[b,V2,if_neg (fun g=>e ((k.beq_iff _ _).1 g).symm)]
   obtain ⟨j,f⟩:=aO.1 l
   exact UN z f rfl
  ·rw[b,V2,if_pos ((k.beq_iff _ _).2 rfl)]
theorem AfI.zero:AfI c h S [] []:=⟨cj,by simp,by simp⟩
theorem AfI.step {rs:List DAr}(g:AfI c h S rs A):AfI c h S (rs++[a]) (afS c S h A a):=by
 unfold afS
 split
 ·rename_i y
  have z:∀v,v∈((YD .str A (wdA c a)).getD [])↔∃b∈rs,inv h b=false∧b.1∈S∧wdA c b=wdA c a∧v=b.2.2.2:=fun v=>by
   rcases Qvl (k:= .str) (x:=wdA c a) g.nod with ⟨w,B,C⟩ | ⟨B,C⟩
   ·rw[C]; exact (g.mem _ B).2 v
   ·rw[C]
    refine ⟨fun k=>(by cases k),fun ⟨b,d,f,l,o,_⟩=> ?_⟩
    obtain ⟨p,j,e⟩:=g.all b d f l
    exact absurd (e.trans o) (B p j)
  refine ⟨K6 (k:= .str) g.nod,fun p j=> ?_,fun b i d f=> ?_⟩
  ·rcases (QaO (k:= .str) g.nod).1 j with ⟨j,e⟩ | rfl
   ·refine ⟨(g.mem p j).1,fun v=>((g.mem p j).2 v).trans ⟨fun ⟨b,d,f⟩=>⟨b,aH _ d,f⟩,fun ⟨b,d,f,l,o,r⟩=> ?_⟩⟩
    rcases aG.1 d with d | d
    ·exact ⟨b,d,f,l,o,r⟩
    ·rw[aC] at d; subst d; exact absurd o.symm e
   ·refine ⟨⟨a.2.2.2,aN _ (aC.2 rfl)⟩,fun v=> ?_⟩
    show v∈_++[a.2.2.2]↔_
    rw[aG,z,aC]
    constructor
    ·rintro (⟨b,d,f,l,o,r⟩ | rfl)
     ·exact ⟨b,aH _ d,f,l,o,r⟩
     ·exact ⟨a,aN _ (aC.2 rfl),y.2,y.1,rfl,rfl⟩
    ·rintro ⟨b,d,f,l,o,r⟩
     rcases aG.1 d with d | d
     ·exact .inl ⟨b,d,f,l,o,r⟩
     ·rw[aC] at d; subst d; exact .inr r
  ·rcases aG.1 i with i | i
   ·obtain ⟨p,j,e⟩:=g.all b i d f
    by_cases E:p.1=wdA c a
    ·exact ⟨_,(QaO (k:= .str) g.nod).2 (.inr rfl),by rw[← e,E]⟩
    ·exact ⟨p,(QaO (k:= .str) g.nod).2 (.inl ⟨j,E⟩),e⟩
   ·rw[aC] at i; subst i
    exact ⟨_,(QaO (k:= .str) g.nod).2 (.inr rfl),rfl⟩
 ·rename_i y
  refine ⟨g.nod,fun p j=>⟨(g.mem p j).1,fun v=>((g.mem p j).2 v).trans ⟨fun ⟨b,d,f⟩=>⟨b,aH _ d,f⟩,fun ⟨b,d,f,l,o⟩=> ?_⟩⟩,fun b i d f=> ?_⟩
  ·rcases aG.1 d with d | d
   ·exact ⟨b,d,f,l,o⟩
   ·rw[aC] at d; subst d; exact absurd ⟨l,f⟩ y
  ·rcases aG.1 i with i | i
   ·exact g.all b i d f
   ·rw[aC] at i; subst i; exact absurd ⟨f,d⟩ y
theorem QjC:∀(l rs:List DAr) {A:DLv},AfI c h S rs A→AfI c h S (rs++l) (l.foldl (afS c S h) A)
 | [],rs,A,g=>by rw[bG]; exact g
 | a :: l,rs,A,g=>by
  have:=QjC l (rs++[a]) (g.step (a:=a))
  rw[aK] at this
  exact this
theorem Qb2:AfI c h S c.2.2 (afV c S h):=by
 have:=QjC (c:=c) (h:=h) (S:=S) c.2.2 [] AfI.zero
 rw[bN] at this
 exact this
structure NxI (c:DSg) (h:Int) (V:ByteArray→Int→Prop) (M:DLv):Prop where
  nod:M.Pairwise fun p q=>p.1≠q.1
  mem:∀p∈M,(∃v,V p.1 v)∧∀u,u∈p.2↔Ch c.2.2 h (fun v=>V p.1 v) u
  all:∀s v,V s v→∃p∈M,p.1=s
theorem NxI.congr {V W:ByteArray→Int→Prop}(g:NxI c h V M)(e:∀s v,V s v↔W s v):NxI c h W M:=
 ⟨g.nod,fun p d=>⟨(g.mem p d).1.imp fun v b=>(e _ _).1 b,fun u=>((g.mem p d).2 u).trans (Ch.congr fun v=>e _ _)⟩,fun s v b=>g.all s v ((e _ _).2 b)⟩
theorem NxI.zero:NxI c h (fun _ _=>False) []:=⟨cj,by simp,fun _ _ k=>k.elim⟩
theorem NxI.step {V:ByteArray→Int→Prop}{W:Int→Prop}(g:NxI c h V M)(l:∀v,¬V s v)(o:∀u,u∈T_↔Ch c.2.2 h W u)(j:∃w,W w):NxI c h (fun s' i=>V s' i∨(s'=s∧W i)) (Yl .str M s T_):=by
 have f:∀p∈M,p.1≠s:=fun p b e=>by
  obtain ⟨v,d⟩:=(g.mem p b).1
  rw[e] at d; exact l v d
 refine ⟨K6 (k:= .str) g.nod,fun p b=> ?_,fun s' i d=> ?_⟩
 ·rcases (QaO (k:= .str) g.nod).1 b with ⟨b,e⟩ | rfl
  ·exact ⟨(g.mem p b).1.imp fun _=> .inl,fun u=>((g.mem p b).2 u).trans (Ch.congr fun v=>⟨.inl,fun k=>k.resolve_right fun k=>e k.1⟩)⟩
  ·exact ⟨j.imp fun w j=> .inr ⟨rfl,j⟩,fun u=>(o u).trans (Ch.congr fun v=>⟨fun k=> .inr ⟨rfl,k⟩,fun k=>k.elim (fun k=>absurd k (l v)) fun k=>k.2⟩)⟩
 ·rcases d with d | ⟨rfl,_⟩
  ·obtain ⟨p,b,e⟩:=g.all s' i d
   exact ⟨p,(QaO (k:= .str) g.nod).2 (.inl ⟨b,f p b⟩),e⟩
  ·exact ⟨_,(QaO (k:= .str) g.nod).2 (.inr rfl),rfl⟩
def Vm (c:DSg)(h:Int)(D:DLv)(q:ByteArray×List Int)(E:DLv)(s:ByteArray)(v:Int):Prop:=Vs c h D s v∨∃p∈E,s=q.1++p.1∧v∈p.2
theorem Qu7:Vm c h D q [] s v↔Vs c h D s v:=by simp[Vm]
theorem Qw2 {E:DLv}(r:∀p,p∈E↔p∈afV c q.2 h):Vm c h D q E s v↔Vs c h (D++[q]) s v:=by
 have g:=Qb2 (c:=c) (h:=h) (S:=q.2)
 unfold Vm Vs
 constructor
 ·rintro (⟨x,b,k⟩ | ⟨p,j,rfl,w⟩)
  ·exact ⟨x,aH _ b,k⟩
  ·obtain ⟨a,d,f,i,l,o⟩:=((g.mem p ((r p).1 j)).2 v).1 w
   exact ⟨q,aN _ (aC.2 rfl),a,d,f,i,by rw[l],o⟩
 ·rintro ⟨x,b,a,d,f,i,l,o⟩
  rcases aG.1 b with b | b
  ·exact .inl ⟨x,b,a,d,f,i,l,o⟩
  ·rw[aC] at b; subst b
   obtain ⟨p,j,e⟩:=g.all a d f i
   exact .inr ⟨p,(r p).2 j,by rw[l,e],((g.mem p j).2 v).2 ⟨a,d,f,i,e.symm,o⟩⟩
theorem Qw3 {E:DLv}(H:SgOk c)(g:Lev c h n K)(J:∀x∈D,x∈K)(P:q∈K)(y:∀x∈D,x.1≠q.1)(N:∀x∈E,x∈afV c q.2 h)(O:p∈afV c q.2 h)(r:∀x∈E,x.1≠p.1):∀v,¬Vm c h D q E (q.1++p.1) v:=fun v k=>by
 have G:=Qb2 (c:=c) (h:=h) (S:=q.2)
 have i:∀x∈afV c q.2 h,∃a∈c.2.2,inv h a=false∧a.1∈q.2∧wdA c a=x.1:=fun x d=>by
  obtain ⟨w,Q⟩:=(G.mem x d).1
  obtain ⟨a,R,T,U,V,_⟩:=((G.mem x d).2 w).1 Q
  exact ⟨a,R,T,U,V⟩
 obtain ⟨a,B,C,I,j⟩:=i p O
 have z:=((g.mem q P).2 _).1 I
 rcases k with ⟨x,d,b,l,o,F,f,_⟩ | ⟨x,d,e,_⟩
 ·rw[← j] at f
  exact y x d (Qtb H z (((g.mem x (J x d)).2 _).1 F) B l C o f).1.symm
 ·obtain ⟨b,l,o,F,f⟩:=i x (N x d)
  rw[← j,← f] at e
  exact r x d (by rw[← j,← f,(Qtb H z z B l C o e).2])
structure OuI (c:DSg) (h:Int) (n:Nat) (out:List ByteArray):Prop where
  nod:out.Nodup
  mem:∀t,t∈out↔∃m,m≤n∧∃u,Tr c h m t u
theorem OuI.zero:OuI c h 0 [ByteArray.empty]:=⟨by simp,fun t=>by
 rw[aC]
 exact ⟨fun e=>⟨0,aL _,0,by rw[e]; exact .zero⟩,fun ⟨m,b,u,k⟩=>by rw[Nat.le_zero.1 b] at k; exact (Jc.1 k).1⟩⟩
theorem OuI.len (e:SgOk c)(d:TO ltB){out:List ByteArray}(g:OuI c h n out):out.length=(txL c h n).length:=
 Nat.le_antisymm (UY g.nod fun t b=>(Je e n).2 ((g.mem t).1 b)) (UY (Qs1 d (QdZ d n)) fun t b=>(g.mem t).2 ((Je e n).1 b))
theorem OuI.next (w:SgOk c){out:List ByteArray}(g:OuI c h n out)(k:Lev c h (n+1) M){E:DLv}(i:E.Perm M):OuI c h (n+1) (out++E.map fun p=>p.1):=by
 have r:(E.map fun p=>p.1).Nodup:=by
  unfold List.Nodup
  rw[bX]
  exact i.symm.pairwise k.nod fun h e=>h e.symm
 refine ⟨aT.2 ⟨g.nod,r,fun x B y C e=> ?_⟩,fun t=> ?_⟩
 ·subst e
  obtain ⟨m,l,u,b⟩:=(g.mem x).1 B
  obtain ⟨p,f,rfl⟩:=aR.1 C
  have d:=k.mem p (i.mem_iff.1 f)
  obtain ⟨F,j⟩:=d.1
  have:=QwW w b ((d.2 F).1 j)
  omega
 ·rw[aG,g.mem]
  constructor
  ·rintro (⟨m,l,b⟩ | o)
   ·exact ⟨m,by omega,b⟩
   ·obtain ⟨p,f,rfl⟩:=aR.1 o
    have d:=k.mem p (i.mem_iff.1 f)
    exact ⟨n+1,aL _,d.1.imp fun u z=>(d.2 u).1 z⟩
  ·rintro ⟨m,l,u,b⟩
   by_cases e:m=n+1
   ·subst e
    obtain ⟨p,f,rfl⟩:=k.all t u b
    exact .inr (aR.2 ⟨p,i.mem_iff.2 f,rfl⟩)
   ·exact .inl ⟨m,by omega,u,b⟩
end
end Go.Proofs.YtndabgcpnmeeoaaGreat
namespace Go.Proofs.YtndabgcpnmeeoaaGreat
open Go.RowKit
set_option maxRecDepth 100000
set_option maxHeartbeats 4000000
theorem Qio {α:Type _}[DecidableEq α]{lt:α→α→Bool}(x:α):∀l:List α,(Zr lt x l).length≤l.length+1
 | []=>aL _
 | y :: l=>by
  unfold Zr
  have:=Qio (lt:=lt) x l
  split
  ·simp only[aq]; omega
  ·split <;> simp
section
variable {c:DSg}{h:Int}{n k i j:Nat}{S set:List Int}{a:DAr}{rs as_:List DAr}{x y z:DTx}{l L out:List DTx}{s t:ByteArray}{u v:Int}{g:QB}
theorem QdX (d:SgOk c)(b:c.1[k]? =some g):g.1.size≤6:=(d.sigs.1 k (ah.1 b).1 g b).1.2.2
theorem QsE {b:Bool}:(sgB b).size=1:=by unfold sgB; split <;> rfl
theorem Qw5 (b:c.1[a.2.1.toNat]? =some g)(d:a.2.2.1=true):g.1++(⟨#[43]⟩:ByteArray)=wdA c a:=by unfold wdA sgB; rw[b,if_pos d]; rfl
theorem Qw4 (b:c.1[a.2.1.toNat]? =some g)(d:a.2.2.1=false):g.1++(⟨#[45]⟩:ByteArray)=wdA c a:=by unfold wdA sgB; rw[b,d]; rfl
theorem Qf4 (d:SgOk c):(wdA c a).size≤7:=by
 unfold wdA
 rw[bc,QsE]
 cases b:c.1[a.2.1.toNat]? with
 | none=>simp
 | some g=>have:=QdX d b; simp only[aj]; omega
theorem QoD (d:SgOk c)(k:Tr c h n t u):t.size≤7*n:=by
 induction k with
 | zero=>exact aL _
 | still _ _ _ b=>exact b
 | word _ _ _ b=>rw[bc]; have:=Qf4 (c:=c) d (a:=by assumption); omega
theorem Hm (e:SgOk c)(d:a∈c.2.2)(b:¬a.2.1= -1):0≤a.2.1∧a.2.1 < (c.1.length:Int):=by
 have:=(e.arcs a d).2.2.1.resolve_right fun k=>b k.1
 omega
theorem Qkm (d:rs[i]? =some a)(hi:a.2.1= -1)(b:a.1∈stP h (rs.take i) S):Zr ltI a.2.2.2 (stP h (rs.take i) S)=stP h (rs.take (i+1)) S:=by
 rw[Qs d]; unfold stP at b ⊢
 rw[bK,bh,cV,stS,if_pos ⟨Qg5.2 (.inl hi),b⟩]
theorem Qkn (d:rs[i]? =some a)(hi:a.2.1=h)(b:a.1∈stP h (rs.take i) S):Zr ltI a.2.2.2 (stP h (rs.take i) S)=stP h (rs.take (i+1)) S:=by
 rw[Qs d]; unfold stP at b ⊢
 rw[bK,bh,cV,stS,if_pos ⟨Qg5.2 (.inr hi),b⟩]
theorem Qkk (e:rs[i]? =some a)(b:¬a.2.1= -1)(d:¬a.2.1=h):stP h (rs.take i) S=stP h (rs.take (i+1)) S:=by
 rw[Qs e]; unfold stP
 rw[bK,bh,cV,stS,if_neg (fun g=>(Qg5.1 g.1).elim b d)]
theorem Qkl (d:rs[i]? =some a)(b:¬a.1∈stP h (rs.take i) S):stP h (rs.take i) S=stP h (rs.take (i+1)) S:=by
 rw[Qs d]; unfold stP at b ⊢
 rw[bK,bh,cV,stS,if_neg (fun g=>b g.2)]
theorem QwP (hi:rs.length≤i):stP h (rs.take i) (stN h rs k S)=stN h rs (k+1) S:=by rw[aJ hi]; rfl
theorem QuX:(stS h S a).length≤S.length+1:=by unfold stS; split; exact Qio _ _; omega
theorem Qop:(stP h as_ S).length≤S.length+as_.length:=by
 induction as_ generalizing S with
 | nil=>exact aL _
 | cons a l d=>have b:=d (S:=stS h S a); have e:=QuX (h:=h) (S:=S) (a:=a); simp only[stP,bh,aq] at b ⊢; omega
theorem QuT (d:rs.length≤4000):(stN h rs k S).length≤S.length+4000*k:=by
 induction k with
 | zero=>exact aL _
 | succ k e=>have b:=Qop (h:=h) (as_:=rs) (S:=stN h rs k S); rw[stN]; omega
def ftT (x:DTx)(j:Nat)(y:DTx):DTx:=(y.1,(x.2.1.take j).foldl (fun s k=>Zr ltI k s) y.2.1,y.2.2)
theorem QrK (b:x.2.1[j]? =some u):(y.1,Zr ltI u (ftT x j y).2.1,y.2.2)=ftT x (j+1) y:=by unfold ftT; rw[Qs b,bK]; rfl
theorem Qff:∀(m:List Int) {s:List Int},(m.foldl (fun s k=>Zr ltI k s) s).length≤s.length+m.length
 | [],s=>aL _
 | k :: m,s=>by have b:=Qff m (s:=Zr ltI k s); have d:=Qio (lt:=ltI) k s; simp only[bh,aq]; omega
theorem Quj:(ftT x j y).2.1.length≤y.2.1.length+j:=by
 have b:=Qff (x.2.1.take j) (s:=y.2.1)
 have d:(x.2.1.take j).length≤j:=by simp only[ao]; omega
 unfold ftT; dsimp only; omega
theorem Qkj {α:Type}:∀{l:List α} {i:Nat} {y:α},l[i]? =some y→l.set i y=l
 | _ :: _,0,_,h=>by cases h; rfl
 | _ :: _,i+1,_,h=>by rw[cv,Qkj (i:=i) h]
theorem Qod:∀{l:List DTx} {i:Nat} {y:DTx},(∀j,j < i→∀z,l[j]? =some z→¬(z.1=x.1∧z.2.2=x.2.2))→l[i]? =some y→y.1=x.1→y.2.2=x.2.2→x.2.1.length≤j→l.set i (ftT x j y)=VQ l x
 | z :: l,0,y,_,hy,h1,h2,b=>by cases hy; rw[VQ,if_pos ⟨h1,h2⟩,ftT,aJ b]; rfl
 | z :: l,i+1,y,hP,hy,h1,h2,b=>by
  rw[VQ,if_neg (hP 0 (Nat.succ_pos _) z rfl),cv,Qod (fun j b w d=>hP (j+1) (by omega) w d) (i:=i) hy h1 h2 b]
theorem Qj7:∀{l:List DTx},(∀j,j < l.length→∀z,l[j]? =some z→¬(z.1=x.1∧z.2.2=x.2.2))→l++[x]=VQ l x
 | [],_=>rfl
 | z :: l,hP=>by
  rw[VQ,if_neg (hP 0 (Nat.succ_pos _) z rfl),bH,Qj7 fun j d w b=>hP (j+1) (by simp only[aq]; omega) w b]
def Sm (N:Nat)(l:List DTx):Prop:=l.length≤N∧∀y∈l,y.2.1.length≤N
theorem Sm.put (g:Sm n l)(w:x.2.1.length≤1):Sm (n+1) (VQ l x):=by
 obtain ⟨p,f⟩:=g
 suffices k:∀l:List DTx,(∀y∈l,y.2.1.length≤n)→(VQ l x).length≤l.length+1∧∀y∈VQ l x,y.2.1.length≤n+1 by
  obtain ⟨o,e⟩:=k l f
  exact ⟨by omega,e⟩
 intro l
 induction l with
 | nil=>exact fun _=>⟨aL _,fun y b=>by rw[VQ,aC] at b; subst b; omega⟩
 | cons z l m=>
  intro d
  rw[VQ]
  split
  ·refine ⟨by simp,fun y b=> ?_⟩
   rcases aE.1 b with rfl | b
   ·have q:=Qff x.2.1 (s:=z.2.1)
    have r:=d z (aw ..)
    dsimp only; omega
   ·have:=d y (ax _ b); omega
  ·obtain ⟨o,e⟩:=m fun y b=>d y (ax _ b)
   refine ⟨by simp only[aq]; omega,fun y b=> ?_⟩
   rcases aE.1 b with rfl | b
   ·have:=d y (aw ..); omega
   ·exact e y b
theorem Sm.ar (g:Sm n l):Sm (n+1) (arT c h x l a):=by
 unfold arT
 split
 ·exact g.put (aL _)
 ·exact ⟨dD g.1,fun y b=>dD (g.2 y b)⟩
theorem Sm.row:∀(as_:List DAr) {n:Nat} {l:List DTx},Sm n l→Sm (n+as_.length) (UZ c h as_ x l)
 | [],_,_,g=>g
 | a :: l,n,_,g=>by
  have:=Sm.row l (g.ar (c:=c) (h:=h) (x:=x) (a:=a))
  rw[show n+(a :: l).length=n+1+l.length by simp only[aq]; omega]
  exact this
theorem Sm.le {m:Nat}(g:Sm n l)(h:n≤m):Sm m l:=⟨by have:=g.1; omega,fun y b=>by have:=g.2 y b; omega⟩
theorem QkI (d:c.2.2.length≤4000):∀(L:List DTx) {n:Nat} {l:List DTx},Sm n l→Sm (n+4000*L.length) (YT c h L l)
 | [],_,_,g=>g
 | x :: L,n,_,g=>by
  have b:=(Sm.row (c:=c) (h:=h) (x:=x) c.2.2 g).le (m:=n+4000) (by omega)
  have:=QkI d L b
  rw[show n+4000*(x :: L).length=n+4000+4000*L.length by simp only[aq]; omega]
  exact this
theorem Sm.zero:Sm 0 []:=⟨aL _,fun _ h=>by cases h⟩
theorem Qyg (d:c.2.2.length≤4000)(m:L.length≤n):Sm (4000*n+i) (UZ c h (c.2.2.take i) x (YT c h (L.take k) [])):=by
 have b:=QkI (h:=h) d (L.take k) Sm.zero
 refine (Sm.row (c.2.2.take i) b).le ?_
 have e:(L.take k).length≤L.length:=by simp only[ao]; omega
 have f:(c.2.2.take i).length≤i:=by simp only[ao]; omega
 omega
theorem QsL (b:c.2.2.length≤4000)(d:L.length≤n):Sm (4000*n) (YT c h L []):=(QkI (h:=h) b L Sm.zero).le (by omega)
theorem Qoi (f:c.2.2[i]? =some a)(b:¬a.2.1= -1)(d:¬a.2.1=h)(e:a.1∈x.2.1):VQ (UZ c h (c.2.2.take i) x out) (x.1++wdA c a,[a.2.2.2],x.2.2+1)=UZ c h (c.2.2.take (i+1)) x out:=by
 rw[Qs f]; unfold UZ
 rw[bK,bh,cV,arT,if_pos ⟨Qfj.2 ⟨b,d⟩,e⟩]
theorem Qiu (d:c.2.2[i]? =some a)(b:a.2.1= -1):UZ c h (c.2.2.take i) x out=UZ c h (c.2.2.take (i+1)) x out:=by
 rw[Qs d]; unfold UZ
 rw[bK,bh,cV,arT,if_neg (fun g=>(Qfj.1 g.1).1 b)]
theorem Qiv (d:c.2.2[i]? =some a)(b:a.2.1=h):UZ c h (c.2.2.take i) x out=UZ c h (c.2.2.take (i+1)) x out:=by
 rw[Qs d]; unfold UZ
 rw[bK,bh,cV,arT,if_neg (fun g=>(Qfj.1 g.1).2 b)]
theorem Qiw (d:c.2.2[i]? =some a)(b:¬a.1∈x.2.1):UZ c h (c.2.2.take i) x out=UZ c h (c.2.2.take (i+1)) x out:=by
 rw[Qs d]; unfold UZ
 rw[bK,bh,cV,arT,if_neg (fun g=>b g.2)]
theorem Qt1 (b:L[k]? =some x)(hi:c.2.2.length≤i):UZ c h (c.2.2.take i) x (YT c h (L.take k) [])=YT c h (L.take (k+1)) []:=by
 rw[aJ hi,Qs b]; unfold YT
 rw[bK]; rfl
theorem QxG:((L.take 0).map (UU c h))++L.drop 0=L:=by simp
theorem QvQ (b:L[k]? =some y):((L.take k).map (UU c h)++L.drop k)[k]? =some y:=by
 have d:=(ah.1 b).1
 rw[bk (by simp only[aB,ao]; omega),aB,ao,cu (by omega),dJ,cw]
 exact b
theorem QtT (b:L[k]? =some y):((L.take k).map (UU c h)++L.drop k).set k (UU c h y)=(L.take (k+1)).map (UU c h)++L.drop (k+1):=by
 obtain ⟨d,e⟩:=ah.1 b
 rw[List.set_append_right _ _ (by simp only[aB,ao]; omega),aB,ao,cu (by omega),dJ,bU d,List.set_cons_zero,Qs b,bE,aK]; rfl
theorem QtS:((L.take k).map (UU c h)++L.drop k).length=L.length:=by simp only[ae,aB,ao,aW]; omega
theorem QtR (b:L.length≤k):(L.take k).map (UU c h)++L.drop k=L.map (UU c h):=by rw[aJ b,bz b,bG]
def txP (c:DSg)(h:Int):Nat→List ByteArray
 | 0=>[]
 | n+1=>txL c h n
theorem QyA:∀n,JB (ZY c h n) (txP c h n)=txL c h n
 | 0=>rfl
 | n+1=>rfl
theorem QpD {o:List ByteArray}(b:L[k]? =some x):Zr ltB x.1 (JB (L.take k) o)=JB (L.take (k+1)) o:=by
 rw[Qs b]; unfold JB
 rw[bK]; rfl
theorem QjZ:∀(L:List DTx) {o:List ByteArray},(JB L o).length≤o.length+L.length
 | [],o=>aL _
 | x :: L,o=>by have b:=QjZ L (o:=Zr ltB x.1 o); have d:=Qio (lt:=ltB) x.1 o; simp only[JB,bh,aq] at b ⊢; omega
theorem QnM (b:SgOk c):(ZY c h (n+1)).length≤4000*(ZY c h n).length:=by
 have:=(QsL (c:=c) (h:=h) b.few (aL (ZY c h n).length)).1
 rw[ZY,QpA,aB]; omega
theorem Qh8 (d:SgOk c):(ZY c h n).length≤(txL c h n).length:=by
 have b:=(HE (h:=h) d n).1.1
 have e:=fun t=>Je (h:=h) (t:=t) d n
 have f:((ZY c h n).map fun x=>x.1).Nodup:=by
  have:=b.nod
  unfold unT at this
  rw[bX] at this
  unfold List.Nodup
  rw[bX]; exact this
 have o:=UY f (m:=txL c h n) fun t p=>by
  obtain ⟨x,r,rfl⟩:=aR.1 p
  obtain ⟨u,q⟩:=(Qfo b).1 ⟨x,r,rfl⟩
  exact (e _).2 ⟨n,aL _,u,q⟩
 rwa [aB] at o
theorem Qr2 (b:SgOk c)(e:x∈ZY c h n):x.1.size≤7*n:=by
 obtain ⟨u,d⟩:=(Qfo (HE (h:=h) b n).1.1).1 ⟨x,e,rfl⟩
 exact QoD b d
theorem Qr1 (b:SgOk c)(d:x∈ZY c h n):x.2.2=(n:Int):=(HE (h:=h) b n).1.2 x d
end
end Go.Proofs.YtndabgcpnmeeoaaGreat
