/- Walks over abstract states: which states are reached, as the reference says it; small words on lists. -/
import Derived.Test.YtndabgcpnmeeoaaGreatOWw
import Derived.Test.YtndabgcpnmeeoaaGreatOAk
import Derived.Laws.Bits64b
set_option linter.unusedSimpArgs false
set_option linter.unusedVariables false
set_option linter.unusedSectionVars false
namespace Go.Proofs.YtndabgcpnmeeoaaGreat
set_option maxHeartbeats 4000000
set_option maxRecDepth 100000
open Go.RowKit
set_option maxRecDepth 100000
set_option maxHeartbeats 4000000
inductive Rch (es:List (Int×Int)):Int→Prop
  | zero:Rch es 0
  | step {u v:Int}:Rch es u→(u,v)∈es→Rch es v
def Z1 (rs:List DAr):List (Int×Int):=rs.map fun a=>(a.1,a.2.2.2)
def InE (n:Nat)(e:Int×Int):Prop:=(0≤e.1∧e.1 < n)∧0≤e.2∧e.2 < n
def Qc6 (n:Nat)(es:List (Int×Int)):Prop:=∀k:Nat,k < n→Rch es k
def Vr (e:Int×Int)(m:List Bool):List Bool:=if m[e.1.toNat]? =some true then m.set e.2.toNat true else m
def XL:List (Int×Int)→List Bool→List Bool
 | [],m=>m
 | e :: es,m=>XL es (Vr e m)
def XK (es:List (Int×Int)):Nat→List Bool→List Bool
 | 0,m=>m
 | f+1,m=>XK es f (XL es m)
section
variable {es:List (Int×Int)}{e:Int×Int}{m:List Bool}{n f i k:Nat}{rs:List DAr}{a:DAr}{b:Bool}
theorem Qhu:(Vr e m).length=m.length:=by unfold Vr; split <;> simp
theorem QpG:(XL es m).length=m.length:=by
 induction es generalizing m with
 | nil=>rfl
 | cons e es c=>rw[XL,c,Qhu]
theorem QfU (h:m[i]? =some true):(Vr e m)[i]? =some true:=by
 unfold Vr
 split
 ·by_cases c:e.2.toNat=i
  ·rw[c,aX (ah.1 h).1]
  ·rw[aZ c]; exact h
 ·exact h
theorem QfD (h:m[i]? =some true):(XL es m)[i]? =some true:=by
 induction es generalizing m with
 | nil=>exact h
 | cons e es c=>rw[XL]; exact c (QfU h)
theorem QpF (c:e∈es)(h:m[e.1.toNat]? =some true)(g:e.2.toNat < m.length):(XL es m)[e.2.toNat]? =some true:=by
 induction es generalizing m with
 | nil=>cases c
 | cons d es j=>
  rw[XL]
  rcases aE.1 c with rfl | c
  ·refine QfD ?_
   unfold Vr
   rw[if_pos h,aX g]
  ·exact j c (QfU h) (by rw[Qhu]; exact g)
def Qdb (m:List Bool):Nat:=(m.filter fun b=> !b).length
theorem Qjt (h:m[i]? =some false):Qdb (m.set i true)+1=Qdb m:=by
 induction m generalizing i with
 | nil=>simp at h
 | cons x l c=>
  cases i with
  | zero=>
   simp only[bD,bC] at h
   subst h
   simp[Qdb]
  | succ i=>
   have:=c (i:=i) (by simpa using h)
   simp only[Qdb,cv,cN] at this ⊢
   split <;> simp_all
theorem QpS {α:Type _}{vs:List α}{i:Nat}{c:α}(h:vs[i]? =some c):vs.set i c=vs:=by
 apply bF
 intro j
 by_cases e:i=j
 ·subst e; rw[aX (ah.1 h).1,h]
 ·rw[aZ e]
theorem Qp2:Vr e m=m∨Qdb (Vr e m) < Qdb m:=by
 unfold Vr
 split
 ·cases h:m[e.2.toNat]? with
  | none=>left; rw[List.set_eq_of_length_le]; rwa [cU] at h
  | some b=>
   cases b with
   | true=>left; exact QpS h
   | false=>right; have:=Qjt h; omega
 ·exact .inl rfl
theorem QpE:XL es m=m∨Qdb (XL es m) < Qdb m:=by
 induction es generalizing m with
 | nil=>exact .inl rfl
 | cons e es d=>
  rw[XL]
  rcases Qp2 (e:=e) (m:=m) with h | h
  ·rw[h]; exact d
  ·rcases d (m:=Vr e m) with c | c
   ·rw[c]; exact .inr h
   ·exact .inr (Nat.lt_trans c h)
theorem Qg7 (h:XL es m=m):∀f,XK es f m=m
 | 0=>rfl
 | f+1=>by rw[XK,h]; exact Qg7 h f
theorem Qh1 (h:Qdb m < f):XL es (XK es f m)=XK es f m:=by
 induction f generalizing m with
 | zero=>omega
 | succ f d=>
  rw[XK]
  rcases QpE (es:=es) (m:=m) with c | c
  ·rw[c,Qg7 c,c]
  ·exact d (by omega)
theorem Qmv (h:m[i]? =some true):(XK es f m)[i]? =some true:=by
 induction f generalizing m with
 | zero=>exact h
 | succ f c=>rw[XK]; exact c (QfD h)
theorem Qcy:(XK es f m).length=m.length:=by
 induction f generalizing m with
 | zero=>rfl
 | succ f c=>rw[XK,c,QpG]
def m0 (n:Nat):List Bool:=(List.replicate n false).set 0 true
theorem Qwn (h:1≤n):Qdb (m0 n) < n:=by
 have c:(List.replicate n false)[0]? =some false:=by rw[cH,if_pos (by omega)]
 have:=Qjt c
 have d:Qdb (List.replicate n false)=n:=by simp[Qdb]
 unfold m0
 omega
theorem Qkp (l:(e.1,e.2)∈es)(o:InE n e)(h:∀k:Nat,m[k]? =some true→Rch es k):∀k:Nat,(Vr e m)[k]? =some true→Rch es k:=fun k c=>by
 obtain ⟨⟨p,q⟩,r,s⟩:=o
 unfold Vr at c
 split at c
 ·rename_i j
  by_cases g:e.2.toNat=k
  ·have d:=h _ j
   rw[show ((e.1.toNat:Nat):Int)=e.1 by omega] at d
   rw[show (k:Int)=e.2 by omega]
   exact .step d l
  ·rw[aZ g] at c; exact h k c
 ·exact h k c
theorem Qj3 {c:List (Int×Int)}(d:∀e∈c,e∈es)(j:∀e∈es,InE n e)(h:∀k:Nat,m[k]? =some true→Rch es k):∀k:Nat,(XL c m)[k]? =some true→Rch es k:=by
 induction c generalizing m with
 | nil=>exact h
 | cons e c l=>rw[XL]; exact l (fun e g=>d e (ax _ g)) (Qkp (d e (aw ..)) (j e (d e (aw ..))) h)
theorem QjL (c:∀e∈es,InE n e)(h:∀k:Nat,m[k]? =some true→Rch es k):∀k:Nat,(XK es f m)[k]? =some true→Rch es k:=by
 induction f generalizing m with
 | zero=>exact h
 | succ f d=>rw[XK]; exact d (Qj3 (fun _ h=>h) c h)
theorem QnP (o:1≤n)(l:∀e∈es,InE n e)(k:Nat)(c:k < n):(XK es n (m0 n))[k]? =some true↔Rch es k:=by
 have p:(XK es n (m0 n)).length=n:=by rw[Qcy]; simp[m0]
 constructor
 ·refine QjL l (fun k c=> ?_) k
  unfold m0 at c
  by_cases e:0=k
  ·subst e; exact .zero
  ·rw[aZ e,cH] at c
   split at c <;> cases c
 ·intro h
  have d:∀u:Int,Rch es u→0≤u∧u < n∧(XK es n (m0 n))[u.toNat]? =some true:=fun u q=>by
   induction q with
   | zero=>exact ⟨by omega,by omega,Qmv (by unfold m0; exact aX (by simp; omega))⟩
   | @step u v _ he ih=>
    obtain ⟨_,g,j⟩:=l _ he
    refine ⟨g,j, ?_⟩
    have g:0≤v:=g
    have j:v < (n:Int):=j
    have:=QpF he ih.2.2 (by rw[p]; show v.toNat < n; omega)
    rwa [Qh1 (Qwn o)] at this
  exact (d k h).2.2
theorem QfW {n:Nat}(h:∀a∈rs,InR n a):∀e∈Z1 rs,InE n e:=fun e d=>by
 obtain ⟨a,c,rfl⟩:=aR.1 d
 exact h a c
theorem Qhe (c:rs[i]? =some a):XL ((Z1 rs).drop i) m=XL ((Z1 rs).drop (i+1)) (Vr (a.1,a.2.2.2) m):=by
 rw[ZA (x:=(a.1,a.2.2.2)) (by unfold Z1; rw[bo,c]; rfl),XL]
theorem Qhv (h:m[a.1.toNat]? =some b)(hb:b=true):Vr (a.1,a.2.2.2) m=m.set a.2.2.2.toNat true:=by unfold Vr; rw[if_pos (by rw[h,hb])]
theorem Qko (h:m[a.1.toNat]? =some b)(hb:b=false):Vr (a.1,a.2.2.2) m=m:=by unfold Vr; rw[if_neg (by rw[h,hb]; intro h; cases h)]
theorem Qsp (h:rs.length≤i):XL ((Z1 rs).drop i) m=m:=by rw[bz (by simpa [Z1] using h),XL]
section
variable [Decidable (Qc6 n es)]
theorem QvH (j:1≤n)(o:∀e∈es,InE n e)(d:XK es n (m0 n)=m)(g:m[k]? =some b)(hb:b=false):false=decide (Qc6 n es):=(aQ (p:=Qc6 n es) fun h=>by
 have l:(XK es n (m0 n)).length=n:=by rw[Qcy]; simp[m0]
 have c:k < n:=by rw[← l,d]; exact (ah.1 g).1
 have:=(QnP j o k c).2 (h k c)
 rw[d,g,hb] at this
 cases this).symm
theorem QtD (d:1≤n)(o:∀e∈es,InE n e)(c:XK es n (m0 n)=m)(h:∀j,j < k→m[j]? =some true)(q:m.length≤k):true=decide (Qc6 n es):=(aY (p:=Qc6 n es) fun j g=>by
 have l:(XK es n (m0 n)).length=n:=by rw[Qcy]; simp[m0]
 rw[c] at l
 exact (QnP d o j g).1 (by rw[c]; exact h j (by omega))).symm
end
end
theorem Qr7 {m:List Bool}{k:Nat}{b:Bool}(h:∀j,j < k→m[j]? =some true)(c:m[k]? =some b)(hb:b=true):∀j,j < k+1→m[j]? =some true:=fun j d=>by
 by_cases e:j=k
 ·rw[e,c,hb]
 ·exact h j (by omega)
theorem Qci (as_:List (Int×Int×Bool×Int))(u:as_.length≤1000000):FC Tryz.prog 319 [(false,[.dat Yo as_])] [] 0 (XB 359 (.pr .int .int) (Z1 as_)):=by
 refine Qn Tryz.func319 rfl rfl Tryz.ntmps319 fun s p r j t o l=> ?_
 refine w4 ?_
 refine lc (dBs 0 (e:=(.pr .int .int)) Qd2) ?_
 refine w5 ?_
 refine alL 7 fun _=> ?_
 refine w4 ?_
 refine lp0 as_.length (fun k=>⟨[(2,lf (.val (.slice none 0 0))),(3,lR 1),(7,lf (.dat Yo as_)),(8,lI (as_.length:Int)),(9,lI (k:Int))],[ar 1 359 (.pr .int .int) (Z1 (as_.take k))]⟩) ?_ fun k _=> ?_
 exact wp [(1,0)] ⟨(Qh (by first | rfl | simp)),trivial⟩
 have q:(Z1 (as_.take k)).length≤as_.length:=by simp only[Z1,aB,ao]; omega
 refine w4 ?_
 cases c:(decide ((k:Int) < (as_.length:Int)))
 have d:=aa c
 refine w7 ?_
 refine Qe<|fo_ p ?_
 rw[Q8 (by omega)]
 have d:=ab c
 refine w5 ?_
 obtain ⟨h,g⟩:=gx as_ k
 refine w2 ?_
 refine lc (xal 2 W8 XH) ?_
 refine w6 ?_
 refine alI 15 fun _=> ?_
 refine w2 ?_
 refine alI 17 fun _=> ?_
 refine lc (Qj QtM ⟨_,_,rfl,(Ql rfl),⟨_,_,rfl,(Ql rfl),rfl⟩⟩ (av.1 rfl) rfl rfl) ?_
 refine lc (dBs 3 (e:=(.pr .int .int)) Qd2 (hab:=by exact ⟨_,_,_,_,rfl,⟨[dI h.1],[dI h.2.2.2],_,_,_,_,rfl,rfl,⟨rfl,rfl⟩,⟨rfl,rfl⟩,rfl⟩,⟨rfl,rfl⟩,rfl⟩)) ?_
 refine lc (dA 4 Qt6) ?_
 refine w_ ?_
 refine Qf ?_
 refine w4 ?_
 refine Qf ?_
 refine l0_ ?_
 exact wp [(1,4)] ⟨(Qh (by rw[Qs g]; simp[Z1])),trivial⟩
theorem Ki (s:List Int)(v:Int):FC Tryz.prog 357 [(false,[.dat Qm s]),(false,[dI v])] [] 0 (Za (lI (ZO (fun y=>decide (v=y)) s))):=by
 refine Qn Tryz.func357 rfl rfl Tryz.ntmps357 fun w o t p x r q=> ?_
 refine acI 1 fun _=> ?_
 refine w6 ?_
 refine alL 6 fun _=> ?_
 refine w4 ?_
 refine lpK s.length (fun k=>NoneTo (fun y=>decide (v=y)) s k) (fun k=>⟨[(0,lf (.dat Qm s)),(1,lI v),(7,lI (s.length:Int)),(8,lI (k:Int))],[]⟩) (NoneTo.zero) ?_ fun k _ c=> ?_
 exact wo []
 refine w4 ?_
 cases d:(decide ((k:Int) < (s.length:Int)))
 have g:=aa d
 refine w6 ?_
 refine Qe<|fqI o ?_
 first | exact (c.no (by omega)).symm
 have g:=ab d
 refine w12 ?_
 obtain ⟨u,l⟩:=gx s k
 refine w2 ?_
 refine alI 15 fun _=> ?_
 refine w2 ?_
 cases h:(decide (v=u))
 have j:=aa h
 refine w6 ?_
 refine Qf ?_
 refine lK_ (c.step l ‹_›) ?_
 exact wo []
 have j:=ab h
 refine w5 ?_
 refine Qe<|fqI o ?_
 exact (c.at l ‹_›).symm
theorem Zj (s:List Int)(v:Int):FC Tryz.prog 237 [(false,[.dat Qm s]),(false,[dI v])] [] 0 (Za (lB (s.any (fun y=>decide (v=y))))):=by
 refine Qn Tryz.func237 rfl rfl Tryz.ntmps237 fun l h j c o g d=> ?_
 refine acI 1 fun _=> ?_
 refine w6 ?_
 refine lc (dK (Ki s v) QlZ) ?_
 refine w3 ?_
 refine Qe<|fqB h ?_
 exact Vk _ _
theorem Qgg (c:Qew)[Decidable (Qc6 c.2.1.length (Z1 c.2.2))](M:1≤c.2.1.length∧c.2.1.length≤300)(H:∀a∈c.2.2,InR c.2.1.length a):FC Tryz.prog 218 [(true,[.dat Qo c.1, .dat Qu c.2.1, .dat Yo c.2.2])] [] 0 (Za (lB (decide (Qc6 c.2.1.length (Z1 c.2.2))))):=by
 have x:=QfW H
 have Z:(List.replicate c.2.1.length (Ty.zero .bool)).length=c.2.1.length:=aF ..
 refine Qn Tryz.func218 rfl rfl Tryz.ntmps218 fun O_ G a0 O X_ Q P=> ?_
 refine w_ ?_
 refine xbx 0 ?_
 refine w5 ?_
 refine alL 9 fun _=> ?_
 refine w_ ?_
 refine lc (U0 1 (e:= .bool) (n:=c.2.1.length) (Qa rfl) (Qa rfl) Qu5 Qx2 rfl (by omega) (by omega) rfl (Fresh.of rfl) (nlr rfl)) ?_
 refine w5 ?_
 obtain ⟨x2,C⟩:=gx (List.replicate c.2.1.length (Ty.zero .bool)) 0
 refine lc (Qz (e:= .bool) (z':=true) (Qa rfl) rfl C rfl (Evl.ev Zt) rfl QoE rfl rfl) ?_
 refine w5 ?_
 refine alL 15 fun _=> ?_
 refine w4 ?_
 refine QH (fun z A=>∃(p:Nat) (g:List Bool),p≤c.2.1.length∧z=c.2.1.length - p∧(XK (Z1 c.2.2) c.2.1.length (m0 c.2.1.length)=XK (Z1 c.2.2) (c.2.1.length - p) g)∧(g.length=c.2.1.length)∧A=⟨[(1,lP 0 0),(2,lB false),(3,lR 2),(16,lI (c.2.1.length:Int)),(17,lI (p:Int))],[bx 0 28 [.dat Qo c.1, .dat Qu c.2.1, .dat Yo c.2.2],(2,some (.arr 4 .bool g))]⟩) ⟨0,(List.replicate c.2.1.length (Ty.zero .bool)).set 0 true,aP _,rfl,rfl,(by simp),rfl⟩ ?_ ?_
 exact wp [(2,1)] ⟨rfl,(Qh (by first | rfl | simp)),trivial⟩
 rintro z A ⟨p,g,T,U,B,R,rfl⟩
 refine w4 ?_
 cases t:(decide ((p:Int) < (c.2.1.length:Int)))
 have u:=aa t
 refine w10 ?_
 refine lpK g.length (fun k=>∀j,j < k→g[j]? =some true) (fun k=>⟨[(37,lR 2),(38,lI (g.length:Int)),(39,lI (k:Int))],[(2,some (.arr 4 .bool g))]⟩) ((fun j S=>absurd S (bi j))) ?_ fun k _ F=> ?_
 exact wo []
 refine w4 ?_
 cases v:(decide ((k:Int) < (g.length:Int)))
 have w:=aa v
 refine w6 ?_
 refine Qe<|fqB G ?_
 first | exact QtD M.1 x (by rw[B,show c.2.1.length - p=0 by omega]; rfl) F (by omega)
 have w:=ab v
 refine w6 ?_
 obtain ⟨D,o⟩:=gx g k
 refine w7 ?_
 cases I:(D)
 refine w4 ?_
 refine Qe<|fqB G ?_
 exact QvH M.1 x (by rw[B,show c.2.1.length - p=0 by omega]; rfl) o ‹_›
 refine w6 ?_
 refine Qf ?_
 refine lK_ ((Qr7 F o ‹_›)) ?_
 exact wo []
 have u:=ab t
 refine w7 ?_
 refine alL 20 fun _=> ?_
 refine w4 ?_
 refine QH (fun z A=>∃(i:Nat) (d:List Bool),i≤c.2.2.length∧z=c.2.2.length - i∧(XL (Z1 c.2.2) g=XL ((Z1 c.2.2).drop i) d)∧(d.length=c.2.1.length)∧A=⟨[(1,lP 0 0),(2,lB false),(3,lR 3),(16,lI (c.2.1.length:Int)),(17,lI (p:Int)),(18,lB true),(19,lP 0 2),(20,lf (.dat Yo c.2.2)),(21,lI (c.2.2.length:Int)),(22,lI (i:Int))],[bx 0 28 [.dat Qo c.1, .dat Qu c.2.1, .dat Yo c.2.2],(3,some (.arr 4 .bool d))]⟩) ⟨0,g,aP _,rfl,rfl,R,rfl⟩ ?_ ?_
 exact wo [(3,2)]
 rintro z A ⟨i,d,K,L,q,r,rfl⟩
 refine w4 ?_
 cases l:(decide ((i:Int) < (c.2.2.length:Int)))
 have s:=aa l
 refine w6 ?_
 refine Qf<|ZF ⟨p+1,d,by omega,rfl,(by rw[B,show c.2.1.length - p=(c.2.1.length - (p+1))+1 by omega,XK,q,Qsp (by omega)]),r,rfl⟩ (by omega) ?_
 exact wo [(2,3)]
 have s:=ab l
 refine w5 ?_
 obtain ⟨ar,h⟩:=gx c.2.2 i
 obtain ⟨⟨V,W⟩,X,Y⟩:=H _ (ai h)
 refine w2 ?_
 refine lc (xal 4 W8 XH) ?_
 refine w6 ?_
 refine alI 28 fun _=> ?_
 refine w_ ?_
 obtain ⟨E,N⟩:=gx d ((ar.1).toNat)
 refine w2 ?_
 cases J:(E)
 refine w6 ?_
 refine Qf<|ZF ⟨i+1,d,by omega,rfl,(by rw[q,Qhe h]; first | rw[Qhv ‹_› ‹_›] | rw[Qko ‹_› ‹_›]),(by exact r),rfl⟩ (by omega) ?_
 exact wo []
 refine w5 ?_
 refine alI 33 fun _=> ?_
 refine w_ ?_
 obtain ⟨a1,y⟩:=gx d ((ar.2.2.2).toNat)
 refine lc (Qz (e:= .bool) (z':=true) (Qa rfl) rfl y rfl (Evl.ev Zt) rfl QoE rfl rfl)<|Qf ?_
 refine w4 ?_
 refine Qf<|ZF ⟨i+1,(d.set ((ar.2.2.2).toNat) true),by omega,rfl,(by rw[q,Qhe h]; first | rw[Qhv ‹_› ‹_›] | rw[Qko ‹_› ‹_›]),(by (rw[au]; exact r)),rfl⟩ (by omega) ?_
 exact wp [] ⟨rfl,(Qh (by first | rfl | simp)),trivial⟩
end Go.Proofs.YtndabgcpnmeeoaaGreat
namespace Go.Proofs.YtndabgcpnmeeoaaGreat
set_option maxHeartbeats 4000000
set_option maxRecDepth 100000
open Go.RowKit
set_option maxRecDepth 100000
set_option maxHeartbeats 4000000
structure SgOk (c:DSg):Prop where
  sigs:XM c.1
  some_:1≤c.2.1.length∧c.2.1.length≤300
  few:c.2.2.length≤4000
  codes:∀x∈c.2.1,Y8 x (c.1.length:Int)
  arcs:∀a∈c.2.2,XJ c a
  all:Qc6 c.2.1.length (Z1 c.2.2)
theorem Y6 {α:Type}{p:α→Prop}{l:List α}{k:Nat}{x:α}(h:∀j,j < k→∀x,l[j]? =some x→p x)(f:l[k]? =some x)(d:p x):∀j,j < k+1→∀x,l[j]? =some x→p x:=fun j g y b=>by
 by_cases e:j=k
 ·subst e; rw[f] at b; cases b; exact d
 ·exact h j (by omega) y b
theorem YH {α:Type}{p:α→Prop}{l:List α}{k:Nat}(h:∀j,j < k→∀x,l[j]? =some x→p x)(e:l.length≤k):∀x∈l,p x:=fun x d=>by
 obtain ⟨j,b⟩:=aO.1 d
 have:=(ah.1 b).1
 exact h j (by omega) x b
theorem Qa8 {c:DSg}{a:DAr}(h:XJ c a):InR c.2.1.length a:=by
 obtain ⟨⟨b,e⟩,⟨d,f⟩,_⟩:=h
 exact ⟨⟨b,by omega⟩,d,by omega⟩
section
variable {c:DSg}[Decidable (SgOk c)]{x:ByteArray}{a:DAr}{k i:Nat}
theorem QsH (h:¬XM c.1):false=decide (SgOk c):=(aQ fun g=>h g.sigs).symm
theorem QsI (h:¬((1:Int)≤(c.2.1.length:Int)∧(c.2.1.length:Int)≤300)):false=decide (SgOk c):=(aQ fun g=>h (by have:=g.some_; omega)).symm
theorem QsJ (h:(4000:Int) < (c.2.2.length:Int)):false=decide (SgOk c):=(aQ fun g=>by have:=g.few; omega).symm
theorem QsK (b:c.2.1[k]? =some x)(h:¬Y8 x (c.1.length:Int)):false=decide (SgOk c):=(aQ fun g=>h (g.codes x (ai b))).symm
theorem QfP (b:c.2.2[k]? =some a)(h:¬XJ c a):false=decide (SgOk c):=(aQ fun g=>h (g.arcs a (ai b))).symm
theorem QsG [Decidable (Qc6 c.2.1.length (Z1 c.2.2))](b:XM c.1)(f:(1:Int)≤(c.2.1.length:Int)∧(c.2.1.length:Int)≤300)(j:¬(4000:Int) < (c.2.2.length:Int))(d:∀x∈c.2.1,Y8 x (c.1.length:Int))(e:∀a∈c.2.2,XJ c a):
 decide (Qc6 c.2.1.length (Z1 c.2.2))=decide (SgOk c):=db.2 ⟨fun h=>⟨b,by omega,by omega,d,e,h⟩,fun g=>g.all⟩
end
theorem Qfa (c:Qew)[∀c,Decidable (SgOk c)]:FC Tryz.prog 81 [(true,[.dat Qo c.1, .dat Qu c.2.1, .dat Yo c.2.2])] [] 0 (Za (lB (decide (SgOk c)))):=by
 classical
 refine Qn Tryz.func81 rfl rfl Tryz.ntmps81 fun F n E A G C B=> ?_
 refine w_ ?_
 refine xbx 0 ?_
 refine w6 ?_
 refine lc (dK (Qbt c.1) Qlm) ?_
 refine w2 ?_
 cases o:(decide (XM c.1))
 have p:=aa o
 refine w16 ?_
 refine w_ ?_
 refine Qe<|fqB n ?_
 exact QsH ‹_›
 have p:=ab o
 refine w2 ?_
 refine alL 13 fun _=> ?_
 refine w_ ?_
 refine lgy rfl rfl (dK (Zo (c.2.1.length:Int) 1 300) ZV) ?_
 refine w3 ?_
 cases q:(decide (1≤(c.2.1.length:Int)∧(c.2.1.length:Int)≤300))
 have r:=aa q
 refine w10 ?_
 refine Qe<|fqB n ?_
 exact QsI ‹_›
 have r:=ab q
 refine w2 ?_
 refine alL 20 fun _=> ?_
 refine w4 ?_
 refine cd_ (fun _ _=> ?_) fun _ _=> ?_
 refine w5 ?_
 refine alL 25 fun _=> ?_
 refine w4 ?_
 refine lpK c.2.1.length (fun k=>∀j,j < k→∀x,c.2.1[j]? =some x→Y8 x (c.1.length:Int)) (fun k=>⟨[(1,lP 0 0),(25,lf (.dat Qu c.2.1)),(26,lI (c.2.1.length:Int)),(27,lI (k:Int))],[bx 0 28 [.dat Qo c.1, .dat Qu c.2.1, .dat Yo c.2.2]]⟩) ((fun j z=>absurd z (bi j))) ?_ fun k _ w=> ?_
 exact wo []
 refine w4 ?_
 cases s:(decide ((k:Int) < (c.2.1.length:Int)))
 have t:=aa s
 refine w7 ?_
 refine alL 39 fun _=> ?_
 refine w4 ?_
 refine lpK c.2.2.length (fun i=>∀j,j < i→∀a,c.2.2[j]? =some a→XJ c a) (fun i=>⟨[(1,lP 0 0),(39,lf (.dat Yo c.2.2)),(40,lI (c.2.2.length:Int)),(41,lI (i:Int))],[bx 0 28 [.dat Qo c.1, .dat Qu c.2.1, .dat Yo c.2.2]]⟩) ((fun j z=>absurd z (bi j))) ?_ fun i _ y=> ?_
 exact wo []
 refine w4 ?_
 cases b:(decide ((i:Int) < (c.2.2.length:Int)))
 have h:=aa b
 refine w5 ?_
 refine lc (dK (Qgg c (by omega) (fun a D=>Qa8 (YH y (by omega) a D))) Qlp) ?_
 refine w2 ?_
 refine Qe<|fqB n ?_
 exact QsG ‹_› ‹_› ‹_› (YH w (by omega)) (YH y (by omega))
 have h:=ab b
 refine w5 ?_
 obtain ⟨u,f⟩:=gx c.2.2 i
 refine w2 ?_
 refine lc (xal 1 W8 XH) ?_
 refine w5 ?_
 refine lc (dK (Qgh c u (YH w (by omega)) (by have:=(‹XM c.1›).2.2; omega)) Qlo) ?_
 refine w2 ?_
 cases d:(decide (XJ c u))
 have l:=aa d
 refine w4 ?_
 refine Qe<|fqB n ?_
 exact QfP f ‹_›
 have l:=ab d
 refine w6 ?_
 refine Qf ?_
 refine lK_ ((Y6 y f ‹_›)) ?_
 exact wo []
 have t:=ab s
 refine w5 ?_
 obtain ⟨v,g⟩:=gx c.2.1 k
 refine w8 ?_
 refine alL 33 fun _=> ?_
 refine w_ ?_
 refine lc (dK (Qe9 v (c.1.length:Int)) Qln) ?_
 refine w2 ?_
 cases e:(decide (Y8 v (c.1.length:Int)))
 have m:=aa e
 refine w4 ?_
 refine Qe<|fqB n ?_
 exact QsK g ‹_›
 have m:=ab e
 refine w6 ?_
 refine Qf ?_
 refine lK_ ((Y6 w g ‹_›)) ?_
 exact wo []
 refine w3 ?_
 refine Qe<|fqB n ?_
 exact QsJ ‹_›
end Go.Proofs.YtndabgcpnmeeoaaGreat
namespace Go.Proofs.YtndabgcpnmeeoaaGreat
set_option maxHeartbeats 4000000
set_option maxRecDepth 100000
open Go.RowKit
set_option maxRecDepth 100000
set_option maxHeartbeats 4000000
section
variable {A:Amb}{P:Program}{s:St}{x y:Operand}{d:Nat}{T T' ty:TypeId}{pos:String}{af:Array Edge}{g:Option (Nat×Bool)}{n a b:Int}
theorem Qkw (h:0≤n∧n≤9223372036854775807):IntKind.u64.wrap n=n:=by
 simp[IntKind.wrap,IntKind.bits,IntKind.signed]
 omega
theorem QrU (h:0≤n∧n≤9223372036854775807):IntKind.i64.wrap n=n:=IntWalk.i64_in _ (by omega)
theorem KH (c:Evl A s x (dI n))(l:P.underlying T=some (.int .i64))(j:P.underlying T'=some (.int .u64))(h0:0≤n)(k:Nat.blt d A.n=true):
 Does A P ⟨some d, .convert T T' x,ty,pos,af,g⟩ s (s.put d (lf (.val (.int .u64 n)))):=
 Qi rfl k fun f a w r=>by
  have h:=c.i r
  have m:=(LVR.int (c f a w r)).2
  have e:=Qkw (n:=n) (by omega)
  refine ⟨.int .u64 n, ?_,_,rfl,rfl⟩
  simp only[execOp,h,convert,run_underlying l,run_underlying j,ay,aI,Conv.intToInt,e]
  simp
theorem Qam (k:Evl A s x (.val (.int .u64 n)))(j:P.underlying T=some (.int .u64))(h:P.underlying T'=some (.int .i64))(h0:0≤n∧n≤9223372036854775807)(i:Nat.blt d A.n=true):
 Does A P ⟨some d, .convert T T' x,ty,pos,af,g⟩ s (s.put d (lf (dI n))):=
 Qi rfl i fun e a w r=>by
  have f:a.eval x= .int .u64 n:=k e a w r
  have c:=QrU h0
  refine ⟨.int .i64 n, ?_,_,rfl,Yj (by omega)⟩
  simp only[execOp,f,convert,run_underlying j,run_underlying h,ay,aI,Conv.intToInt,c]
  simp
theorem Qgr (j:Evl A s x (.val (.int .u64 a)))(k:Evl A s y (.val (.int .u64 b)))(i:Nat.blt d A.n=true):Does A P ⟨some d, .binOp .gtr T x y T',ty,pos,af,g⟩ s (s.put d (lf (dB (decide (b < a))))):=
 Qi rfl i fun e c w r=>by
  have f:c.eval x= .int .u64 a:=j e c w r
  have h:c.eval y= .int .u64 b:=k e c w r
  refine ⟨.bool (decide (b < a)), ?_,_,rfl,ZI⟩
  simp only[execOp,f,h,eqGuard_at_int,binOp,Op.intCmp]
  simp
end
theorem QqT (n:Nat)(c:n≤1000000):bits BinOp.and IntKind.u64 (n:Int) 4294967295=n:=by
 have h:=bits_and_u64_nat n 4294967295 (by omega) (by decide)
 rw[show ((4294967295:Nat):Int)=4294967295 from rfl] at h
 rw[h,show (4294967295:Nat)=2 ^ 32 - 1 from rfl,Nat.and_two_pow_sub_one_eq_mod,dM (by omega)]
theorem Qtq (n:Nat)(w:World)(c:n≤1000000):Calls Tryz.prog 440 #[.int .u64 1, .int .u64 n] w fun e w'=>e= .returned (.tuple #[.int .u64 0, .int .u64 n])∧w'=w:=by
 have f:bits BinOp.and IntKind.u64 1 4294967295=1:=by decide
 have h:=QqT n c
 have i:(n:Int) / 4294967296=0:=by omega
 have j:=Qkw (n:=n) (by omega)
 have k:IntKind.u64.wrap 0=0:=by decide
 have l:bits BinOp.and IntKind.u64 0 4294967295=0:=by decide
 go_enter Tryz.func440,Tryz.ntmps440
 go_wp2
 go_ret2
 exact ⟨rfl,rfl⟩
theorem Qv2 (a n:Int)(k:a=1)(u:0≤n∧n≤1000000):FC Tryz.prog 440 [(false,[.val (.int .u64 a)]),(false,[.val (.int .u64 n)])] [] 0 (Za (.tup [(false,[.val (.int .u64 0)]),(false,[.val (.int .u64 n)])])):=QvC fun t w B h=>by
 obtain ⟨o,q,rfl,⟨v,i,c⟩,p,r,rfl,⟨z,j,f⟩,rfl⟩:=h
 simp only[aD,and_true] at i j
 subst i j k
 have c:o= .int .u64 1:=c
 have f:p= .int .u64 n:=f
 subst c f
 obtain ⟨m,rfl⟩:∃m:Nat,n=m:=⟨n.toNat,by omega⟩
 refine Calls.mono (Qtq m w (by omega)) fun e C l=> ?_
 obtain ⟨rfl,rfl⟩:=l
 exact ⟨_,rfl,QM _,[.int .u64 0, .int .u64 m],rfl,_,_,rfl,⟨_,rfl,rfl⟩,_,_,rfl,⟨_,rfl,rfl⟩,rfl⟩
theorem Qof {v:Int}{m k:Nat}:cpy (List.replicate m v++List.replicate k (0:Int)) m k ((((List.replicate m v++List.replicate k (0:Int))).take (0+m)).drop 0)=List.replicate (m+min m k) v++List.replicate (k - min m k) 0:=by
 have c:(List.replicate m v++List.replicate k (0:Int)).take m=List.replicate m v:=List.take_left' (by simp)
 have e:(List.replicate m v++List.replicate k (0:Int)).drop (m+min m k)=List.replicate (k - min m k) 0:=by
  rw[List.drop_append,aF,bz (by simp),bN,List.drop_replicate]
  congr 1
  omega
 rw[cpy,cd,de,c,aF,e,List.take_replicate,cu (Nat.min_le_left _ _),List.replicate_append_replicate]
theorem QpP {n v:Int}(f:0≤n):cpy (List.replicate n.toNat (Ty.zero .int)) 0 (List.replicate n.toNat (Ty.zero .int)).length [v]=List.replicate (((min [v].length (List.replicate n.toNat (Ty.zero .int)).length:Nat):Int)).toNat v++List.replicate (n.toNat - (((min [v].length (List.replicate n.toNat (Ty.zero .int)).length:Nat):Int)).toNat) 0:=by
 have h:=Qof (v:=v) (m:=0) (k:=n.toNat)
 have e:(Ty.zero .int:Int)=0:=rfl
 cases c:n.toNat with
 | zero=>simp[cpy]
 | succ k=>simp[cpy,e,List.replicate_succ]
theorem QpO {n m v:Int}{l:List Int}(h0:0≤m)(h:m≤n)(f:l=List.replicate m.toNat v++List.replicate (n.toNat - m.toNat) 0)(e:l.length=n.toNat):
 cpy l m.toNat (l.length - m.toNat) ((l.take (0+m.toNat)).drop 0)=List.replicate (m+((min ((l.take (0+m.toNat)).drop 0).length (l.length - m.toNat):Nat):Int)).toNat v++List.replicate (n.toNat - (m+((min ((l.take (0+m.toNat)).drop 0).length (l.length - m.toNat):Nat):Int)).toNat) 0:=by
 have c:((l.take (0+m.toNat)).drop 0).length=m.toNat:=by simp[e]; omega
 rw[c,e]
 rw[f,Qof]
 congr 2 <;> omega
theorem UW (s:List Int)(n:Int)(v:Int)(u:s=[v])(F:0≤n∧n≤1000000):FC Tryz.prog 324 [(false,[.dat Qm s]),(false,[dI n])] [] 0 (XB 3 .int (List.replicate n.toNat v)):=by
 have w:(s.length:Int)=1:=by rw[u]; rfl
 have q:decide (n < 0)=false:=aQ (by omega)
 have p:decide ((9223372036854775807:Int) < n)=false:=aQ (by omega)
 have r:(List.replicate n.toNat (Ty.zero .int)).length=n.toNat:=aF ..
 refine Qn Tryz.func324 rfl rfl Tryz.ntmps324 fun O L N I Q K J=> ?_
 refine acI 1 fun _=> ?_
 refine w8 ?_
 cases f:(decide (n < 0))
 have z:=aa f
 refine w4 ?_
 refine alL 13 fun _=> ?_
 refine w_ ?_
 refine lc (KH (Qa rfl) Jw QiO (by omega) rfl) ?_
 refine w_ ?_
 refine lc (KH (Qa rfl) Jw QiO (by omega) rfl) ?_
 refine lc (dK (Qv2 (s.length:Int) n w F) Qme) ?_
 refine w9 ?_
 refine lc (Qgr (Qa rfl) Evl.val rfl) ?_
 refine w_ ?_
 cases i:(decide ((0:Int) < (0:Int)))
 have B:=aa i
 refine w_ ?_
 refine lgy rfl rfl (Qgr (Qa rfl) Evl.val rfl) ?_
 refine w2 ?_
 cases j:(decide ((9223372036854775807:Int) < n))
 have C:=aa j
 refine w4 ?_
 refine lc (Qam (Qa rfl) QiO Jw (by omega) rfl)<|lc (Qal 0 (e:= .int) (n:=n) (Qa rfl) (Qa rfl) ZZ Qr8 rfl (by omega) (by omega) (by omega) rfl (Fresh.of rfl) (nlr rfl)) ?_
 refine w5 ?_
 refine lc (Qd8 (e:= .int) (xs:=List.replicate (n).toNat (Ty.zero .int)) (lo:=0) (n:=(List.replicate (n).toNat (Ty.zero .int)).length) (ys:=s) (Qqs (Qa rfl) rfl) rfl (by omega) (Evl.rep (Qa rfl)) rfl rfl ZZ Qr8 rfl) ?_
 refine w4 ?_
 refine QH (fun G H=>∃(m:Int) (l:List Int),G=(n - m).toNat∧(0≤m∧m≤n∧(0 < n→0 < m))∧(l=List.replicate m.toNat v++List.replicate (n.toNat - m.toNat) 0)∧(l.length=n.toNat)∧H=⟨[(4,lf (.val (.slice none 0 0))),(7,lR 1),(8,lI m)],[ar 1 3 .int l]⟩) ⟨((min s.length ((List.replicate (n).toNat (Ty.zero .int)).length):Nat):Int),cpy (List.replicate (n).toNat (Ty.zero .int)) 0 ((List.replicate (n).toNat (Ty.zero .int)).length) s,rfl,(by rw[r,u]; simp; omega),(by rw[u]; exact QpP F.1),(by rw[QhT (by omega)]; exact r),rfl⟩ ?_ ?_
 exact wp [(1,0)] ⟨(Qh (by first | rfl | simp)),trivial⟩
 rintro G H ⟨m,l,M,E,D,t,rfl⟩
 refine w7 ?_
 cases k:(decide (m < (l.length:Int)))
 have o:=aa k
 refine w7 ?_
 refine Qe<|fo_ L ?_
 rw[D,show n.toNat - m.toNat=0 by omega,show m.toNat=n.toNat by omega]; simp
 have o:=ab k
 refine w3 ?_
 apply dV (i3 38 _ _ _ (io 41 (lf (.sub 1 1 ((m).toNat) (l.length - (m).toNat))) :: i2 42 _ _ [io 44 (lf (.sub 1 1 0 ((m).toNat))),⟨some 45,lI ((min ((l.take (0+((m).toNat))).drop 0).length (l.length - (m).toNat):Nat):Int),[ar 1 3 .int (cpy l ((m).toNat) (l.length - (m).toNat) ((l.take (0+((m).toNat))).drop 0))]⟩,io 46 _,io 8 _])) [0,1,3,1,15,31,15,1,0,0]
 refine z3 ?_
 refine zz (fun _ c=>ac (Zz (e:= .int) (a:=(m).toNat) (b:=l.length - (m).toNat) (l:=(some m)) (h:=none) (c.v rfl) (c.en 1 rfl) (by exact (c.v rfl)) (by exact trivial) ZZ Xe rfl (by first | (simp only[ak,aj]; omega) | omega | (simp only[ak,aj,ae,ao,aF]; omega)) (by first | (simp only[ak,aj]; omega) | omega | (simp only[ak,aj,ae,ao,aF]; omega)) (by first | (simp only[ak,aj]; omega) | omega | (simp only[ak,aj,ae,ao,aF]; omega)) (by first | rfl | simp) (by first | rfl | simp)) rfl) ?_
 refine z2 ?_
 refine zz (fun _ c=>ac (Zz (e:= .int) (a:=0) (b:=(m).toNat) (l:=none) (h:=(some m)) (c.v rfl) (c.en 1 rfl) (by exact trivial) (by exact (c.v rfl)) ZZ Xe rfl (by first | (simp only[ak,aj]; omega) | omega | (simp only[ak,aj,ae,ao,aF]; omega)) (by first | (simp only[ak,aj]; omega) | omega | (simp only[ak,aj,ae,ao,aF]; omega)) (by first | (simp only[ak,aj]; omega) | omega | (simp only[ak,aj,ae,ao,aF]; omega)) (by first | rfl | simp) (by first | rfl | simp)) rfl)<|zz (fun _ c=>ac (Qd8 (e:= .int) (xs:=l) (lo:=(m).toNat) (n:=l.length - (m).toNat) (ys:=(l.take (0+((m).toNat))).drop 0) (Qqt (c.v rfl) (c.en 1 rfl)) (c.en 1 rfl) (by omega) (YS (e:= .int) (c.v rfl) (c.en 1 rfl) (by omega)) rfl rfl ZZ Qr8 rfl) rfl) ?_
 exact y2
 refine ZF ⟨(m+((min ((l.take (0+((m).toNat))).drop 0).length (l.length - (m).toNat):Nat):Int)),(cpy l ((m).toNat) (l.length - (m).toNat) ((l.take (0+((m).toNat))).drop 0)),rfl,(by simp only[aW,ao,t]; omega),(QpO E.1 E.2.1 D t),(by rw[QhT (by omega)]; exact t),rfl⟩ (by simp only[aW,ao,t]; omega) ?_
 exact wp [] ⟨(Qh (by first | rfl | simp)),trivial⟩
 exact absurd (j.symm.trans (show (decide ((9223372036854775807:Int) < n))=false from p)) (by decide)
 exact absurd (i.symm.trans (show (decide ((0:Int) < (0:Int)))=false from (by decide))) (by decide)
 exact absurd (f.symm.trans (show (decide (n < 0))=false from q)) (by decide)
end Go.Proofs.YtndabgcpnmeeoaaGreat
namespace Go.Proofs.YtndabgcpnmeeoaaGreat
set_option maxHeartbeats 4000000
set_option maxRecDepth 100000
open Go.RowKit
set_option maxRecDepth 100000
set_option maxHeartbeats 4000000
def Qc9 (l:List (List Int))(e:Int×Int):List (List Int):=l.modify e.1.toNat (· ++[e.2])
def YE (n:Nat)(es:List (Int×Int)):List (List Int):=es.foldl Qc9 (List.replicate n [])
def bfT (o:Int):List Int→List Int×List Int→List Int×List Int
 | [],st=>st
 | t :: ts,st=>if (st.1[t.toNat]?).getD 0 < 0 then bfT o ts (st.1.set t.toNat ((st.1[o.toNat]?).getD 0+1),st.2++[t]) else bfT o ts st
def bfK (nx:List (List Int)):Nat→Nat→List Int×List Int→List Int
 | 0,_,st=>st.1
 | f+1,k,st=>match st.2[k]? with
  | none=>st.1
  | some o=>bfK nx f (k+1) (bfT o ((nx[o.toNat]?).getD []) st)
def Qab (n:Nat)(es:List (Int×Int)):List Int:=bfK (YE n es) (n+1) 0 ((List.replicate n (-1)).set 0 0,[0])
def Qgb (l:List Int):Nat:=(l.filter (· < 0)).length
structure BI (n:Nat) (es:List (Int×Int)) (st:List Int×List Int):Prop where
  len:st.1.length=n
  cnt:Qgb st.1+st.2.length=n
  q:∀x∈st.2,(0≤x∧x < n)∧Rch es x∧∃v,st.1[x.toNat]? =some v∧0≤v
  nn:∀(i:Nat) v,st.1[i]? =some v→0≤v→(i:Int)∈st.2
  rng:∀v∈st.1, -1≤v∧v≤(st.2.length:Int)
section
variable {n k i f:Nat}{es:List (Int×Int)}{e:Int×Int}{l ts ys q out:List Int}{o t c w:Int}{nx:List (List Int)}{st:List Int×List Int}
theorem QmE {α:Type _}{l:List α}{i:Nat}{x:α}{g:α→α}(h:l[i]? =some x):l.set i (g x)=l.modify i g:=by
 apply bF
 intro j
 rw[cp]
 by_cases e:i=j
 ·subst e; rw[aX (ah.1 h).1,h]; simp
 ·rw[aZ e]; simp[e]
theorem Qpr {l:List (List Int)}:(es.foldl Qc9 l).length=l.length:=by
 induction es generalizing l with
 | nil=>rfl
 | cons e es a=>rw[bh,a]; simp[Qc9]
theorem HJ:(YE n es).length=n:=by unfold YE; rw[Qpr]; simp
theorem QmG (a:es[k]? =some e)(b:(YE n (es.take k))[e.1.toNat]? =some ys):(YE n (es.take k)).set e.1.toNat (ys++[e.2])=YE n (es.take (k+1)):=by
 rw[QmE (g:=(· ++[e.2])) b,Qs a]
 simp[YE,bK,Qc9]
theorem Qps {l:List (List Int)}{i:Nat}{t:Int}(g:∀e∈es,0≤e.1):t∈((es.foldl Qc9 l)[i]?).getD []↔t∈(l[i]?).getD []∨(i < l.length∧((i:Int),t)∈es):=by
 induction es generalizing l with
 | nil=>simp
 | cons e es r=>
  rw[bh,r (fun e m=>g e (ax _ m))]
  have s:=g e (aw ..)
  have p:(Qc9 l e).length=l.length:=by simp[Qc9]
  rw[p]
  have j:t∈((Qc9 l e)[i]?).getD []↔t∈(l[i]?).getD []∨(i < l.length∧((i:Int),t)=e):=by
   unfold Qc9
   rw[cp]
   by_cases b:e.1.toNat=i
   ·cases h:l[i]? with
    | none=>
     have:=cU.1 h
     simp[b]
     intro d; omega
    | some x=>
     have:=(ah.1 h).1
     simp[b,this]
     have:((i:Int),t)=e↔t=e.2:=⟨fun h=>by rw[← h],fun h=>Prod.ext (by show (i:Int)=e.1; omega) h⟩
     rw[this]
   ·simp[b]
    intro _ d
    exact absurd (show e.1.toNat=i by rw[← d]; rfl) b
  rw[j,aE]
  constructor
  ·rintro ((h | ⟨h,a⟩) | ⟨h,a⟩)
   ·exact .inl h
   ·exact .inr ⟨h, .inl a⟩
   ·exact .inr ⟨h, .inr a⟩
  ·rintro (h | ⟨h,a | a⟩)
   ·exact .inl (.inl h)
   ·exact .inl (.inr ⟨h,a⟩)
   ·exact .inr ⟨h,a⟩
theorem Qhb {i:Nat}(g:∀e∈es,InE n e)(a:(YE n es)[i]? =some ys):t∈ys↔((i:Int),t)∈es:=by
 have h:=Qps (l:=List.replicate n []) (i:=i) (t:=t) (es:=es) (fun e b=>(g e b).1.1)
 have d:i < n:=by have:=(ah.1 a).1; rwa [HJ] at this
 change t∈((YE n es)[i]?).getD []↔_ at h
 rw[a] at h
 simpa [d] using h
theorem Qha {i:Nat}(a:(YE n es)[i]? =some ys):ys.length≤es.length:=by
 have:∀(l:List (List Int)) (i:Nat) (ys:List Int),(es.foldl Qc9 l)[i]? =some ys→ys.length≤((l[i]?).getD []).length+es.length:=by
  clear a
  induction es with
  | nil=>intro l i ys h; simp at h; simp[h]
  | cons e es d=>
   intro l i ys h
   rw[bh] at h
   have:=d _ _ _ h
   have j:(((Qc9 l e)[i]?).getD []).length≤((l[i]?).getD []).length+1:=by
    unfold Qc9
    rw[cp]
    cases m:l[i]? with
    | none=>simp
    | some x=>by_cases b:e.1.toNat=i <;> simp[b]
   rw[aq]; omega
 have h:=this _ _ _ a
 have g:(((List.replicate n ([]:List Int))[i]?).getD []).length=0:=by
  rw[cH]; split <;> rfl
 omega
theorem QtK (g:ts[i]? =some t)(a:out[t.toNat]? =some c)(b:c < 0)(d:out[o.toNat]? =some w):bfT o (ts.drop i) (out,q)=bfT o (ts.drop (i+1)) (out.set t.toNat (w+1),q++[t]):=by
 rw[ZA g,bfT]
 simp[a,d,b]
theorem Qq7 (d:ts[i]? =some t)(a:out[t.toNat]? =some c)(b:¬c < 0):bfT o (ts.drop i) (out,q)=bfT o (ts.drop (i+1)) (out,q):=by
 rw[ZA d,bfT]
 simp only[a,aj,if_neg b]
theorem QtJ (h:ts.length≤i):bfT o (ts.drop i) st=st:=by rw[bz h,bfT]
theorem QvJ (a:q[k]? =some o)(b:nx[o.toNat]? =some ts)(d:k < n+1):bfK nx (n+1 - k) k (out,q)=bfK nx (n+1 - (k+1)) (k+1) (bfT o (ts.drop 0) (out,q)):=by
 rw[show n+1 - k=(n+1 - (k+1))+1 by omega,bfK]
 simp[a,b]
theorem QtI (h:q.length≤k):bfK nx f k (out,q)=out:=by
 cases f with
 | zero=>rfl
 | succ f=>rw[bfK]; simp[bp h]
theorem Qju {l:List Int}(h:l[i]? =some c)(a:c < 0)(d:0≤w):Qgb (l.set i w)+1=Qgb l:=by
 induction l generalizing i with
 | nil=>simp at h
 | cons x l b=>
  cases i with
  | zero=>
   simp only[bD,bC] at h
   subst h
   simp[Qgb,a,show¬w < 0 by omega]
  | succ i=>
   have:=b (i:=i) (by simpa using h)
   simp only[Qgb,cv,cN] at this ⊢
   split <;> simp_all
theorem BI.step (h:BI n es (out,q))(L:∀e∈es,InE n e)(D:o∈q)(C:(o,t)∈es)(B:out[t.toNat]? =some c)(K:c < 0)(E:out[o.toNat]? =some w):BI n es (out.set t.toNat (w+1),q++[t]):=by
 obtain ⟨H,y,s,I,z⟩:=h
 have M:0≤w:=by
  obtain ⟨_,_,v,a,m⟩:=s o D
  have a:out[o.toNat]? =some v:=a
  rw[E] at a; cases a; exact m
 have u:=z w (ai E)
 have p:=(ah.1 B).1
 obtain ⟨_,b,d⟩:=L _ C
 have b:0≤t:=b
 have d:t < (n:Int):=d
 refine ⟨by simpa using H, ?_, ?_, ?_, ?_⟩
 ·have a:=Qju B K (show 0≤w+1 by omega)
  have y:Qgb out+q.length=n:=y
  show Qgb (out.set t.toNat (w+1))+(q++[t]).length=n
  rw[ae,List.length_singleton]; omega
 ·intro x j
  show (0≤x∧x < n)∧Rch es x∧∃v,(out.set t.toNat (w+1))[x.toNat]? =some v∧0≤v
  rcases aG.1 j with j | j
  ·obtain ⟨a,m,v,A,J⟩:=s x j
   refine ⟨a,m, ?_⟩
   by_cases r:t.toNat=x.toNat
   ·exact ⟨w+1,by rw[← r,aX p],by omega⟩
   ·exact ⟨v,by rw[aZ r]; exact A,J⟩
  ·rw[aC] at j
   subst j
   exact ⟨⟨b,d⟩, .step (s o D).2.1 C,w+1,aX p,by omega⟩
 ·intro i v g G
  have g:(out.set t.toNat (w+1))[i]? =some v:=g
  show (i:Int)∈q++[t]
  by_cases r:t.toNat=i
  ·exact aG.2 (.inr (by rw[aC]; omega))
  ·rw[aZ r] at g
   exact aG.2 (.inl (I i v g G))
 ·intro v g
  show -1≤v∧v≤((q++[t]).length:Int)
  rw[ae,List.length_singleton]
  have F:w≤(q.length:Int):=u.2
  rcases cR g with a | a
  ·have m:=z v a
   have A:v≤(q.length:Int):=m.2
   omega
  ·omega
theorem BI.q_le (h:BI n es (out,q)):q.length≤n:=by have:=h.cnt; simp only at this; omega
theorem BI.at_ (h:BI n es (out,q))(a:q[k]? =some o):(0≤o∧o < n)∧o∈q:=⟨(h.q o (ai a)).1,ai a⟩
theorem QhM (p:∀e∈es,InE n e):∀(ts:List Int) (st:List Int×List Int),BI n es st→o∈st.2→(∀t∈ts,(o,t)∈es)→BI n es (bfT o ts st)∧(∃r,(bfT o ts st).2=st.2++r)∧∀t∈ts,t∈(bfT o ts st).2
 | [],st,h,_,_=>⟨h,⟨[],by simp[bfT]⟩,fun t g=>by cases g⟩
 | t :: ts,st,h,ho,he=>by
  have d:=he t (aw ..)
  obtain ⟨_,j,m⟩:=p _ d
  have j:0≤t:=j
  have m:t < (n:Int):=m
  obtain ⟨c,v⟩:∃c,st.1[t.toNat]? =some c:=⟨_,ap (by rw[h.len]; omega)⟩
  obtain ⟨w,z,_⟩:=(h.q o ho).2.2
  rw[bfT,v,z]
  simp only[aj]
  split
  ·rename_i y
   have A:=BI.step (out:=st.1) (q:=st.2) h p ho d v y z
   obtain ⟨s,⟨r,b⟩,u⟩:=QhM p ts _ A (aG.2 (.inl ho)) (fun t g=>he t (ax _ g))
   refine ⟨s,⟨[t]++r,by rw[b]; simp⟩,fun x a=> ?_⟩
   rcases aE.1 a with rfl | a
   ·rw[b]; simp
   ·exact u x a
  ·rename_i y
   obtain ⟨s,⟨r,b⟩,u⟩:=QhM p ts st h ho (fun t g=>he t (ax _ g))
   refine ⟨s,⟨r,b⟩,fun x a=> ?_⟩
   rcases aE.1 a with rfl | a
   ·have:=h.nn _ _ v (by omega)
    rw[show ((x.toNat:Nat):Int)=x by omega] at this
    rw[b]; exact aG.2 (.inl this)
   ·exact u x a
theorem Qnj (s:∀e∈es,InE n e):∀(f k:Nat) (st:List Int×List Int),BI n es st→n+1≤f+k→k≤st.2.length→(∀j o,j < k→st.2[j]? =some o→∀t,(o,t)∈es→t∈st.2)→
 ∃r,BI n es (bfK (YE n es) f k st,st.2++r)∧∀o∈st.2++r,∀t,(o,t)∈es→t∈st.2++r
 | 0,k,st,h,hf,hk,_=>by have:=BI.q_le (out:=st.1) (q:=st.2) h; omega
 | f+1,k,st,h,hf,hk,hcl=>by
  rw[bfK]
  cases m:st.2[k]? with
  | none=>
   refine ⟨[],by simpa using h,fun o d t b=> ?_⟩
   rw[bG] at d ⊢
   obtain ⟨j,p⟩:=aO.1 d
   have H:=(ah.1 p).1
   have I:=cU.1 m
   exact hcl j o (by omega) p t b
  | some o=>
   simp only
   have d:=ai m
   obtain ⟨D,E⟩:=(h.q o d).1
   obtain ⟨ys,v⟩:∃ys,(YE n es)[o.toNat]? =some ys:=⟨_,ap (by rw[HJ]; omega)⟩
   rw[v,aj]
   have u:∀t,t∈ys↔(o,t)∈es:=fun t=>by
    have:=Qhb (t:=t) s v
    rwa [show ((o.toNat:Nat):Int)=o by omega] at this
   obtain ⟨A,⟨r,g⟩,B⟩:=QhM s ys st h d (fun t b=>(u t).1 b)
   have C:=(ah.1 m).1
   obtain ⟨G,x,y⟩:=Qnj s f (k+1) (bfT o ys st) A (by omega) (by rw[g,ae]; omega) (fun j F p a t b=>by
    rw[g] at a ⊢
    rw[bf (by omega)] at a
    by_cases z:j=k
    ·subst z
     rw[m] at a; cases a
     rw[← g]; exact B t ((u t).2 b)
    ·exact aG.2 (.inl (hcl j F (by omega) a t b)))
   rw[g,aK] at x y
   exact ⟨r++G,x,y⟩
theorem BI.start (p:1≤n):BI n es ((List.replicate n (-1)).set 0 0,[0]):=by
 have d:(List.replicate n (-1:Int))[0]? =some (-1):=by rw[cH,if_pos (by omega)]
 refine ⟨by simp, ?_, ?_, ?_, ?_⟩
 ·have g:=Qju (w:=0) d (by decide) (by decide)
  have m:Qgb (List.replicate n (-1:Int))=n:=by simp[Qgb]
  show Qgb ((List.replicate n (-1)).set 0 0)+1=n
  omega
 ·intro x j
  rw[aC.1 j]
  exact ⟨⟨by omega,by omega⟩, .zero,0,aX (by simp; omega),by decide⟩
 ·intro i v a g
  have a:((List.replicate n (-1:Int)).set 0 0)[i]? =some v:=a
  by_cases b:0=i
  ·subst b; simp
  ·rw[aZ b,cH] at a
   split at a
   ·cases a; omega
   ·cases a
 ·intro v a
  show -1≤v∧v≤1
  rcases cR a with h | h
  ·rw[cW h]; omega
  ·omega
theorem Qo5 (b:1≤n)(d:∀e∈es,InE n e):∃r,BI n es (Qab n es,[0]++r)∧∀o∈[0]++r,∀t,(o,t)∈es→t∈[0]++r:=
 Qnj d (n+1) 0 _ (BI.start b) (by omega) (aP _) (fun j o a=>absurd a (bi j))
theorem Qrn [Decidable (Qc6 n es)](B:1≤n)(D:∀e∈es,InE n e):(!((Qab n es).any fun y=>decide (-1=y)))=decide (Qc6 n es):=by
 obtain ⟨r,h,z⟩:=Qo5 B D
 have C:∀u,Rch es u→u∈[0]++r:=fun u E=>by
  induction E with
  | zero=>simp
  | step _ A G=>exact z _ G _ A
 rw[cF,aS,bQ,cC]
 constructor
 ·intro g k b
  have d:k < (Qab n es).length:=by have:=h.len; simp only at this; omega
  have m:=dd d
  have p:=g _ m
  have H:=(h.rng _ m).1
  have s:=h.nn k _ (ap d) (by simp only[aS] at p; omega)
  exact (h.q _ s).2.1
 ·intro g x F
  obtain ⟨k,b⟩:=aO.1 F
  have d:=(ah.1 b).1
  have j:k < n:=by have:=h.len; simp only at this; omega
  obtain ⟨_,_,v,a,I⟩:=h.q _ (C _ (g k j))
  have a:(Qab n es)[((k:Int)).toNat]? =some v:=a
  rw[show ((k:Int)).toNat=k by omega,b] at a
  cases a
  simp only[aS]; omega
end
theorem QvM {xs:List (List Int)}{i:Nat}{ys:List Int}(h:xs[i]? =some ys):(QR Qm xs)[i*1+0]? =some (.dat Qm ys):=KN (e:= .sl 3 .int) (j:=0) h rfl
theorem QkW {xs:List (List Int)}{i:Nat}{x ys:List Int}(h:xs[i]? =some x):(QR Qm xs).set (i*1+0) (.dat Qm ys)=QR Qm (xs.set i ys):=
 (KO (e:= .sl 3 .int) (j:=0) (x':=ys) h rfl (by decide)).symm
theorem Qbi (n:Int)(l:List (Int×Int))(b:Int)(hn:1≤n∧n≤300)(V:∀e∈l,InE n.toNat e)(b7:l.length≤4000)(Q:b=0):FC Tryz.prog 318 [(false,[dI n]),(false,[.dat (.sl 359 (.pr .int .int)) l]),(false,[dI b])] [] 0 (XB 3 .int (Qab n.toNat l)):=by
 refine Qn Tryz.func318 rfl rfl Tryz.ntmps318 fun O_ hO c6 a9 X_ b1 b0=> ?_
 refine acI 0 fun _=> ?_
 refine acI 2 fun _=> ?_
 refine w3 ?_
 apply dW [⟨some 15,lR 0,[ar 0 3 .int ([(-1)])]⟩,io 16 (lI n),⟨some 17,lR 1,[ar 1 3 .int (List.replicate n.toNat (-1))]⟩,io 18 (lI n),⟨some 19,lR 2,[ar 2 123 Qm (List.replicate (n).toNat (Ty.zero Qm))]⟩,io 7 (lR 1),io 8 _] [0,1,0,7,7,24,0]
 refine zz (fun _ d=>ac (dBs 0 (e:= .int) Zq) rfl) ?_
 refine z_ ?_
 refine zz (fun _ d=>ac (dOB 1 (UW ([(-1)]) n (-1) rfl (by omega)) QlU) rfl) ?_
 refine z_ ?_
 refine zz (fun _ d=>ac (Qal 2 (e:=Qm) (n:=n) (d.v rfl) (d.v rfl) ZW Quv rfl (by omega) (by omega) (by omega) rfl (d.fr 2 rfl) (nlr rfl)) rfl) ?_
 exact y2
 refine w3 ?_
 refine alL 20 fun _=> ?_
 refine w4 ?_
 refine lp0 l.length (fun k=>⟨[(2,lI b),(6,lf (.val (.slice none 0 0))),(7,lR 1),(8,lR 3),(20,lf (.dat (.sl 359 (.pr .int .int)) l)),(21,lI (l.length:Int)),(22,lI (k:Int))],[ar 1 3 .int (List.replicate n.toNat (-1)),ar 3 123 Qm (YE n.toNat (l.take k))]⟩) ?_ fun k _=> ?_
 exact wp [(3,2)] ⟨rfl,(Qh (by simp only[List.take_zero]; rfl)),trivial⟩
 refine w4 ?_
 cases O:(decide ((k:Int) < (l.length:Int)))
 have P:=aa O
 refine w3 ?_
 refine Yg ?_
 have Z:YE n.toNat (l.take k)=YE n.toNat l:=by rw[Q8 (by omega)]
 refine AC.wk (QkN 8 (q:=3) (e:=Qm) (xs:=YE n.toNat (l.take k)) rfl rfl) ?_
 rw[Z]
 have c3:(List.replicate n.toNat (-1:Int)).length=n.toNat:=aF ..
 have c0:=HJ (n:=n.toNat) (es:=l)
 refine w4 ?_
 obtain ⟨x6,a2⟩:=gx (List.replicate n.toNat (-1)) ((b).toNat)
 refine lc (Qz (e:= .int) (z':=0) (Qa rfl) rfl a2 rfl (Evl.ev (Qr rfl)) rfl Xe rfl rfl) ?_
 refine w3 ?_
 refine lc (dBs 4 (e:= .int) Zq) ?_
 refine w7 ?_
 refine QH (fun S T=>∃(k:Nat) (out:List Int) (q:List Int),k≤n.toNat∧S=n.toNat - k∧(Qab n.toNat l=bfK (YE n.toNat l) (n.toNat+1 - k) k (out,q))∧(BI n.toNat l (out,q))∧T=⟨[(6,lf (.val (.slice none 0 0))),(7,lR 5),(8,lf (.dat Wl (YE n.toNat l))),(11,lR 6),(12,lI (k:Int))],[ar 5 3 .int out,ar 6 3 .int q]⟩) ⟨0,(List.replicate n.toNat (-1)).set ((b).toNat) 0,[b],aP _,rfl,(by rw[Q]; rfl),(by rw[Q]; exact BI.start (by omega)),rfl⟩ ?_ ?_
 exact wp [(5,1),(6,4)] ⟨(Qh (by first | rfl | simp)),(Qh (by first | rfl | simp)),trivial⟩
 rintro S T ⟨k,out,q,b6,b8,hA,U,rfl⟩
 have c2:=U.q_le
 have c1:out.length=n.toNat:=U.len
 refine w7 ?_
 cases C:(decide ((k:Int) < (q.length:Int)))
 have J:=aa C
 refine w7 ?_
 refine Qe<|fo_ hO ?_
 rw[hA,QtI (by omega)]
 have J:=ab C
 refine w9 ?_
 obtain ⟨o,r⟩:=gx q k
 have a6:=U.at_ r
 refine w_ ?_
 refine alI 55 fun _=> ?_
 obtain ⟨ts,s⟩:=gx (YE n.toNat l) ((o).toNat)
 have c4:=Qha s
 have F:∀t∈ts,(o,t)∈l:=fun t ht=>by have:=(Qhb V s).1 ht; rwa [show ((o.toNat:Nat):Int)=o by omega] at this
 refine w2 ?_
 refine alL 57 fun _=> ?_
 refine w4 ?_
 refine QH (fun S T=>∃(i:Nat) (a:List Int) (x:List Int),i≤ts.length∧S=ts.length - i∧(Qab n.toNat l=bfK (YE n.toNat l) (n.toNat+1 - (k+1)) (k+1) (bfT o (ts.drop i) (a,x)))∧(BI n.toNat l (a,x))∧(x[k]? =some o)∧T=⟨[(6,lf (.val (.slice none 0 0))),(7,lR 7),(8,lf (.dat Wl (YE n.toNat l))),(11,lR 8),(12,lI (k:Int)),(45,lI (k:Int)),(47,lI (q.length:Int)),(48,lB true),(51,lf (.dat Wl (YE n.toNat l))),(53,lI (k:Int)),(55,lI o),(56,lf (.elt Qm ts 0)),(57,lf (.dat Qm ts)),(58,lI (ts.length:Int)),(59,lI (i:Int))],[ar 7 3 .int a,ar 8 3 .int x]⟩) ⟨0,out,q,aP _,rfl,(hA.trans (QvJ r s (by omega))),U,r,rfl⟩ ?_ ?_
 exact wo [(7,5),(8,6)]
 rintro S T ⟨i,a,x,a3,a5,I,g,y,rfl⟩
 have a8:=g.q_le
 have a7:a.length=n.toNat:=g.len
 have a1:=g.at_ y
 have a0:=(ah.1 y).1
 refine w4 ?_
 cases D:(decide ((i:Int) < (ts.length:Int)))
 have K:=aa D
 refine w7 ?_
 refine Qf<|ZF ⟨k+1,a,x,by omega,rfl,(by rw[I,QtJ (by omega)]),g,rfl⟩ (by omega) ?_
 exact wo [(5,7),(6,8)]
 have K:=ab D
 refine w5 ?_
 obtain ⟨u,m⟩:=gx ts i
 obtain ⟨_,h,j⟩:=V _ (F _ (ai m))
 have h:0≤u:=h
 have j:u < (n.toNat:Int):=j
 refine w2 ?_
 refine alI 62 fun _=> ?_
 refine w6 ?_
 obtain ⟨N,G⟩:=gx a ((u).toNat)
 have W: -1≤N∧N≤(x.length:Int):=g.rng _ (ai G)
 refine w_ ?_
 refine alI 66 fun _=> ?_
 refine w2 ?_
 cases E:(decide (N < 0))
 have L:=aa E
 refine w6 ?_
 refine Qf<|ZF ⟨i+1,a,x,by omega,rfl,(by (rw[I,Qq7 m ‹_› ‹_›]; done)),(by exact g),(by exact y),rfl⟩ (by omega) ?_
 exact wo []
 have L:=ab E
 refine w10 ?_
 obtain ⟨B,R⟩:=gx a ((o).toNat)
 have X: -1≤B∧B≤(x.length:Int):=g.rng _ (ai R)
 refine w_ ?_
 refine alI 76 fun _=> ?_
 refine w2 ?_
 refine lc (Qz (e:= .int) (z':=B+1) (Qa rfl) rfl G rfl (Ql rfl) rfl Xe rfl rfl) ?_
 refine w4 ?_
 refine lc (dBs 9 (e:= .int) Zq) ?_
 refine lc (dA 10 YO) ?_
 refine w_ ?_
 refine Qf ?_
 refine w4 ?_
 refine Qf ?_
 refine ZF ⟨i+1,(a.set ((u).toNat) (B+1)),(x++([u])),by omega,rfl,(by (rw[I,QtK m ‹_› ‹_› ‹_›]; done)),(by exact g.step V a1.2 (F _ (ai m)) ‹_› ‹_› ‹_›),(by (rw[bf a0]; exact y)),rfl⟩ (by omega) ?_
 exact wp [(8,10)] ⟨(Qh (by first | rfl | simp)),(Qh (by first | rfl | simp)),trivial⟩
 have P:=ab O
 refine w5 ?_
 obtain ⟨e,H⟩:=gx l k
 refine w2 ?_
 refine lc (xal 11 (.pr .int .int) Qd2) ?_
 refine w2 ?_
 have Y:=V _ (ai H)
 have b9:=HJ (n:=n.toNat) (es:=l.take k)
 obtain ⟨⟨b2,b3⟩,b4,b5⟩:=Y
 obtain ⟨ys,A⟩:=gx (YE n.toNat (l.take k)) e.1.toNat
 have c5:=Qha A
 have a4:(l.take k).length≤l.length:=by simp only[ao]; omega
 have z:=QvM A
 have M:e.1.toNat*1+0 < (QR Qm (YE n.toNat (l.take k))).length:=by rw[Yz]; show e.1.toNat*1+0 < (YE n.toNat (l.take k)).length*1; omega
 refine AC.wk (KK (q:=3) rfl (by omega))<|AC.wk (XC 12 (q:=3) (p:=e.1.toNat*1+0) (E':=3) (e':= .int) (ys:=ys) rfl (z) (Fresh.of rfl) (aA rfl)) ?_
 apply dV (i6 26 _ _ _ _ _ _ (io 32 (lf (.ept 3 1 ((e.1).toNat) 0)) :: io 33 (lR 12) :: i2 34 _ _ [⟨some 36,lR 13,[ar 13 3 .int ([e.2])]⟩,⟨some 37,lR 14,[ar 14 3 .int (ys++([e.2])),(12,none),(13,none)]⟩,io 38 (lf (.ept 3 1 ((e.1).toNat) 0)),⟨none,lf (.val undef),[(3,some (.obx 123 1 ((YE n.toNat (l.take k)).length) (QR Qm (YE n.toNat (l.take k))) [((e.1).toNat*1+0, .ref 14),(e.1.toNat*1+0, .ref 12)]))]⟩])) [0,1,1,7,15,15,7,7,255,255,255,7,0,0]
 refine z6 ?_
 refine zz (fun _ d=>ac (Zc (d.v rfl) (d.en 3 rfl) (d.v rfl) ZW QX rfl (by omega) (by omega)) rfl) ?_
 refine zz (fun _ d=>ac (YR (d.v rfl) (d.n 3 rfl) (show (ovr _ _)[e.1.toNat*1+0]? =some (.ref 12) from by simp only[ovr,aV,au,M,z,cB,if_true,if_false,↓reduceIte]) (d.n 12 rfl) QX rfl) rfl) ?_
 refine z2 ?_
 refine zz (fun _ d=>ac (dBs 13 (e:= .int) Zq) rfl) ?_
 refine zz (fun _ d=>ac (dA 14 YO) rfl) ?_
 refine zz (fun _ d=>ac (Zc (d.v rfl) (d.en 3 rfl) (d.v rfl) ZW QX rfl (by omega) (by omega)) rfl) ?_
 refine zz (fun _ d=>ac (Ys (t:=12) (d.v rfl) (d.n 3 rfl) (show (ovr _ _)[e.1.toNat*1+0]? =some (.ref 12) from by simp only[ovr,aV,au,M,z,cB,if_true,if_false,↓reduceIte]) (d.v rfl) (d.n 14 rfl) QX) rfl) ?_
 exact zN
 refine w_ ?_
 refine AC.wk (Wo (q:=3) (t:=14) (p:=e.1.toNat*1+0) rfl (by simp only[ovr,aV,au,M,z,cB,if_true,if_false,↓reduceIte]) rfl) ?_
 refine AC.wk (V9 (q:=3) (e:=Qm) ((YE n.toNat (l.take k)).set e.1.toNat (ys++[e.2])) rfl (by simp only[au]) (by simp only[ovr,dr]; exact QkW A)) ?_
 refine w3 ?_
 refine Qf ?_
 refine l0_ ?_
 exact wp [] ⟨rfl,(Qh (QmG H A)),trivial⟩
end Go.Proofs.YtndabgcpnmeeoaaGreat
