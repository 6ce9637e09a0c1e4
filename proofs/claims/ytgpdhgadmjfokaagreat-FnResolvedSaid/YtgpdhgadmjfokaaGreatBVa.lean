/- Walks over abstract states: which states are reached, as the reference says it; small words on lists. -/
import Derived.Test.YtgpdhgadmjfokaaGreatBWw
import Derived.Test.YtgpdhgadmjfokaaGreatBAk
import Derived.Laws.Bits64b
set_option linter.unusedSimpArgs false
set_option linter.unusedVariables false
set_option linter.unusedSectionVars false
namespace Go.Proofs.YtgpdhgadmjfokaaGreat
set_option maxHeartbeats 4000000
set_option maxRecDepth 100000
open Go.RowKit
set_option maxRecDepth 100000
set_option maxHeartbeats 4000000
inductive Rch (es:List (Int×Int)):Int→Prop
  | zero:Rch es 0
  | step {u v:Int}:Rch es u→(u,v)∈es→Rch es v
def Ya (rs:List DAr):List (Int×Int):=rs.map fun a=>(a.1,a.2.2.2)
def InE (n:Nat)(e:Int×Int):Prop:=(0≤e.1∧e.1 < n)∧0≤e.2∧e.2 < n
def Qc0 (n:Nat)(es:List (Int×Int)):Prop:=∀k:Nat,k < n→Rch es k
def Vi (e:Int×Int)(m:List Bool):List Bool:=if m[e.1.toNat]? =some true then m.set e.2.toNat true else m
def XJ:List (Int×Int)→List Bool→List Bool
 | [],m=>m
 | e :: es,m=>XJ es (Vi e m)
def XH (es:List (Int×Int)):Nat→List Bool→List Bool
 | 0,m=>m
 | f+1,m=>XH es f (XJ es m)
section
variable {es:List (Int×Int)}{e:Int×Int}{m:List Bool}{n f i k:Nat}{rs:List DAr}{a:DAr}{b:Bool}
theorem Qhg:(Vi e m).length=m.length:=by unfold Vi; split <;> simp
theorem Qp1:(XJ es m).length=m.length:=by
 induction es generalizing m with
 | nil=>rfl
 | cons e es c=>rw[XJ,c,Qhg]
theorem Qfs (h:m[i]? =some true):(Vi e m)[i]? =some true:=by
 unfold Vi
 split
 ·by_cases c:e.2.toNat=i
  ·rw[c,aZ (ai.1 h).1]
  ·rw[bk c]; exact h
 ·exact h
theorem Qen (h:m[i]? =some true):(XJ es m)[i]? =some true:=by
 induction es generalizing m with
 | nil=>exact h
 | cons e es c=>rw[XJ]; exact c (Qfs h)
theorem Qps (c:e∈es)(h:m[e.1.toNat]? =some true)(g:e.2.toNat < m.length):(XJ es m)[e.2.toNat]? =some true:=by
 induction es generalizing m with
 | nil=>cases c
 | cons d es j=>
  rw[XJ]
  rcases aD.1 c with rfl | c
  ·refine Qen ?_
   unfold Vi
   rw[if_pos h,aZ g]
  ·exact j c (Qfs h) (by rw[Qhg]; exact g)
def Qdh (m:List Bool):Nat:=(m.filter fun b=> !b).length
theorem Qj4 (h:m[i]? =some false):Qdh (m.set i true)+1=Qdh m:=by
 induction m generalizing i with
 | nil=>simp at h
 | cons x l c=>
  cases i with
  | zero=>
   simp only[cd,bA] at h
   subst h
   simp[Qdh]
  | succ i=>
   have:=c (i:=i) (by simpa using h)
   simp only[Qdh,cQ,de] at this ⊢
   split <;> simp_all
theorem Qp7 {α:Type _}{vs:List α}{i:Nat}{c:α}(h:vs[i]? =some c):vs.set i c=vs:=by
 apply bK
 intro j
 by_cases e:i=j
 ·subst e; rw[aZ (ai.1 h).1,h]
 ·rw[bk e]
theorem QpH:Vi e m=m∨Qdh (Vi e m) < Qdh m:=by
 unfold Vi
 split
 ·cases h:m[e.2.toNat]? with
  | none=>left; rw[List.set_eq_of_length_le]; rwa [List.getElem?_eq_none_iff] at h
  | some b=>
   cases b with
   | true=>left; exact Qp7 h
   | false=>right; have:=Qj4 h; omega
 ·exact .inl rfl
theorem Qqb:XJ es m=m∨Qdh (XJ es m) < Qdh m:=by
 induction es generalizing m with
 | nil=>exact .inl rfl
 | cons e es d=>
  rw[XJ]
  rcases QpH (e:=e) (m:=m) with h | h
  ·rw[h]; exact d
  ·rcases d (m:=Vi e m) with c | c
   ·rw[c]; exact .inr h
   ·exact .inr (Nat.lt_trans c h)
theorem Qhc (h:XJ es m=m):∀f,XH es f m=m
 | 0=>rfl
 | f+1=>by rw[XH,h]; exact Qhc h f
theorem Qiw (h:Qdh m < f):XJ es (XH es f m)=XH es f m:=by
 induction f generalizing m with
 | zero=>omega
 | succ f d=>
  rw[XH]
  rcases Qqb (es:=es) (m:=m) with c | c
  ·rw[c,Qhc c,c]
  ·exact d (by omega)
theorem Qk6 (h:m[i]? =some true):(XH es f m)[i]? =some true:=by
 induction f generalizing m with
 | zero=>exact h
 | succ f c=>rw[XH]; exact c (Qen h)
theorem Qcj:(XH es f m).length=m.length:=by
 induction f generalizing m with
 | zero=>rfl
 | succ f c=>rw[XH,c,Qp1]
def m0 (n:Nat):List Bool:=(List.replicate n false).set 0 true
theorem Qwb (h:1≤n):Qdh (m0 n) < n:=by
 have c:(List.replicate n false)[0]? =some false:=by rw[cc,if_pos (by omega)]
 have:=Qj4 c
 have d:Qdh (List.replicate n false)=n:=by simp[Qdh]
 unfold m0
 omega
theorem QjN (l:(e.1,e.2)∈es)(o:InE n e)(h:∀k:Nat,m[k]? =some true→Rch es k):∀k:Nat,(Vi e m)[k]? =some true→Rch es k:=fun k c=>by
 obtain ⟨⟨p,q⟩,r,s⟩:=o
 unfold Vi at c
 split at c
 ·rename_i j
  by_cases g:e.2.toNat=k
  ·have d:=h _ j
   rw[show ((e.1.toNat:Nat):Int)=e.1 by omega] at d
   rw[show (k:Int)=e.2 by omega]
   exact .step d l
  ·rw[bk g] at c; exact h k c
 ·exact h k c
theorem Qj0 {c:List (Int×Int)}(d:∀e∈c,e∈es)(j:∀e∈es,InE n e)(h:∀k:Nat,m[k]? =some true→Rch es k):∀k:Nat,(XJ c m)[k]? =some true→Rch es k:=by
 induction c generalizing m with
 | nil=>exact h
 | cons e c l=>rw[XJ]; exact l (fun e g=>d e (aw _ g)) (QjN (d e (ax ..)) (j e (d e (ax ..))) h)
theorem QiW (c:∀e∈es,InE n e)(h:∀k:Nat,m[k]? =some true→Rch es k):∀k:Nat,(XH es f m)[k]? =some true→Rch es k:=by
 induction f generalizing m with
 | zero=>exact h
 | succ f d=>rw[XH]; exact d (Qj0 (fun _ h=>h) c h)
theorem Qn6 (o:1≤n)(l:∀e∈es,InE n e)(k:Nat)(c:k < n):(XH es n (m0 n))[k]? =some true↔Rch es k:=by
 have p:(XH es n (m0 n)).length=n:=by rw[Qcj]; simp[m0]
 constructor
 ·refine QiW l (fun k c=> ?_) k
  unfold m0 at c
  by_cases e:0=k
  ·subst e; exact .zero
  ·rw[bk e,cc] at c
   split at c <;> cases c
 ·intro h
  have d:∀u:Int,Rch es u→0≤u∧u < n∧(XH es n (m0 n))[u.toNat]? =some true:=fun u q=>by
   induction q with
   | zero=>exact ⟨by omega,by omega,Qk6 (by unfold m0; exact aZ (by simp; omega))⟩
   | @step u v _ he ih=>
    obtain ⟨_,g,j⟩:=l _ he
    refine ⟨g,j, ?_⟩
    have g:0≤v:=g
    have j:v < (n:Int):=j
    have:=Qps he ih.2.2 (by rw[p]; show v.toNat < n; omega)
    rwa [Qiw (Qwb o)] at this
  exact (d k h).2.2
theorem Qfz {n:Nat}(h:∀a∈rs,InR n a):∀e∈Ya rs,InE n e:=fun e d=>by
 obtain ⟨a,c,rfl⟩:=aR.1 d
 exact h a c
theorem Qgp (c:rs[i]? =some a):XJ ((Ya rs).drop i) m=XJ ((Ya rs).drop (i+1)) (Vi (a.1,a.2.2.2) m):=by
 rw[Yd (x:=(a.1,a.2.2.2)) (by unfold Ya; rw[bc,c]; rfl),XJ]
theorem Qg7 (h:m[a.1.toNat]? =some b)(hb:b=true):Vi (a.1,a.2.2.2) m=m.set a.2.2.2.toNat true:=by unfold Vi; rw[if_pos (by rw[h,hb])]
theorem QjT (h:m[a.1.toNat]? =some b)(hb:b=false):Vi (a.1,a.2.2.2) m=m:=by unfold Vi; rw[if_neg (by rw[h,hb]; intro h; cases h)]
theorem Qr6 (h:rs.length≤i):XJ ((Ya rs).drop i) m=m:=by rw[bJ (by simpa [Ya] using h),XJ]
section
variable [Decidable (Qc0 n es)]
theorem Qxo (j:1≤n)(o:∀e∈es,InE n e)(d:XH es n (m0 n)=m)(g:m[k]? =some b)(hb:b=false):false=decide (Qc0 n es):=(aH (p:=Qc0 n es) fun h=>by
 have l:(XH es n (m0 n)).length=n:=by rw[Qcj]; simp[m0]
 have c:k < n:=by rw[← l,d]; exact (ai.1 g).1
 have:=(Qn6 j o k c).2 (h k c)
 rw[d,g,hb] at this
 cases this).symm
theorem Qua (d:1≤n)(o:∀e∈es,InE n e)(c:XH es n (m0 n)=m)(h:∀j,j < k→m[j]? =some true)(q:m.length≤k):true=decide (Qc0 n es):=(aQ (p:=Qc0 n es) fun j g=>by
 have l:(XH es n (m0 n)).length=n:=by rw[Qcj]; simp[m0]
 rw[c] at l
 exact (Qn6 d o j g).1 (by rw[c]; exact h j (by omega))).symm
end
end
theorem QqR {m:List Bool}{k:Nat}{b:Bool}(h:∀j,j < k→m[j]? =some true)(c:m[k]? =some b)(hb:b=true):∀j,j < k+1→m[j]? =some true:=fun j d=>by
 by_cases e:j=k
 ·rw[e,c,hb]
 ·exact h j (by omega)
theorem Qct (as_:QiX)(u:as_.length≤1000000):FC Tryz.prog 217 [(false,[.dat Qu as_])] [] 0 (YJ 295 (.pr .int .int) (Ya as_)):=by
 refine Qt Tryz.func217 rfl rfl Tryz.ntmps217 fun s p r j t o l=> ?_
 refine w4 ?_
 refine lc (dBs 0 (e:=(.pr .int .int)) QdD) ?_
 refine w5 ?_
 refine alL 7 fun _=> ?_
 refine w4 ?_
 refine lp0 as_.length (fun k=>⟨[(2,lf (.val (.slice none 0 0))),(3,lR 1),(7,lf (.dat Qu as_)),(8,lI (as_.length:Int)),(9,lI (k:Int))],[ar 1 295 (.pr .int .int) (Ya (as_.take k))]⟩) ?_ fun k _=> ?_
 exact wp [(1,0)] ⟨(Qe (by first | rfl | simp)),trivial⟩
 have q:(Ya (as_.take k)).length≤as_.length:=by simp only[Ya,aC,ap]; omega
 refine w4 ?_
 cases c:(decide ((k:Int) < (as_.length:Int)))
 have d:=aa c
 refine w7 ?_
 refine Qd<|fo_ p ?_
 rw[QH (by omega)]
 have d:=ab c
 refine w5 ?_
 obtain ⟨h,g⟩:=gx as_ k
 refine w2 ?_
 refine lc (xal 2 Qs Zg) ?_
 refine w6 ?_
 refine alI 15 fun _=> ?_
 refine w2 ?_
 refine alI 17 fun _=> ?_
 refine lc (Qg QuO ⟨_,_,rfl,(Qo rfl),⟨_,_,rfl,(Qo rfl),rfl⟩⟩ (au.1 rfl) rfl rfl) ?_
 refine lc (dBs 3 (e:=(.pr .int .int)) QdD (hab:=by exact ⟨_,_,_,_,rfl,⟨[dI h.1],[dI h.2.2.2],_,_,_,_,rfl,rfl,⟨rfl,rfl⟩,⟨rfl,rfl⟩,rfl⟩,⟨rfl,rfl⟩,rfl⟩)) ?_
 refine lc (dA 4 Qt1) ?_
 refine w_ ?_
 refine Qb ?_
 refine w4 ?_
 refine Qb ?_
 refine l0_ ?_
 exact wp [(1,4)] ⟨(Qe (by rw[QG g]; simp[Ya])),trivial⟩
theorem Ks (s:List Int)(v:Int):FC Tryz.prog 319 [(false,[.dat QA s]),(false,[dI v])] [] 0 (Q7 (lI (Zl (fun y=>decide (v=y)) s))):=by
 refine Qt Tryz.func319 rfl rfl Tryz.ntmps319 fun w o t p x r q=> ?_
 refine acI 1 fun _=> ?_
 refine w6 ?_
 refine alL 6 fun _=> ?_
 refine w4 ?_
 refine lpK s.length (fun k=>NoneTo (fun y=>decide (v=y)) s k) (fun k=>⟨[(0,lf (.dat QA s)),(1,lI v),(7,lI (s.length:Int)),(8,lI (k:Int))],[]⟩) (NoneTo.zero) ?_ fun k _ c=> ?_
 exact wo []
 refine w4 ?_
 cases d:(decide ((k:Int) < (s.length:Int)))
 have g:=aa d
 refine w6 ?_
 refine Qd<|fqI o ?_
 first | exact (c.no (by omega)).symm
 have g:=ab d
 refine w12 ?_
 obtain ⟨u,l⟩:=gx s k
 refine w2 ?_
 refine alI 15 fun _=> ?_
 refine w2 ?_
 cases h:(decide (v=u))
 have j:=aa h
 refine w6 ?_
 refine Qb ?_
 refine lK_ (c.step l ‹_›) ?_
 exact wo []
 have j:=ab h
 refine w5 ?_
 refine Qd<|fqI o ?_
 exact (c.at l ‹_›).symm
theorem Zp (s:List Int)(v:Int):FC Tryz.prog 215 [(false,[.dat QA s]),(false,[dI v])] [] 0 (Q7 (lB (s.any (fun y=>decide (v=y))))):=by
 refine Qt Tryz.func215 rfl rfl Tryz.ntmps215 fun l h j c o g d=> ?_
 refine acI 1 fun _=> ?_
 refine w6 ?_
 refine lc (dK (Ks s v) QkG) ?_
 refine w3 ?_
 refine Qd<|fqB h ?_
 exact VQ _ _
theorem QfW (c:ZB)[Decidable (Qc0 c.2.1.length (Ya c.2.2))](M:1≤c.2.1.length∧c.2.1.length≤300)(H:∀a∈c.2.2,InR c.2.1.length a):FC Tryz.prog 210 [(true,[.dat Ql c.1, .dat Qm c.2.1, .dat Qu c.2.2])] [] 0 (Q7 (lB (decide (Qc0 c.2.1.length (Ya c.2.2))))):=by
 have x:=Qfz H
 have Z:(List.replicate c.2.1.length (Ty.zero .bool)).length=c.2.1.length:=aF ..
 refine Qt Tryz.func210 rfl rfl Tryz.ntmps210 fun O_ G a0 O X_ Q P=> ?_
 refine w_ ?_
 refine xbx 0 ?_
 refine w5 ?_
 refine alL 9 fun _=> ?_
 refine w_ ?_
 refine lc (Wm 1 (e:= .bool) (n:=c.2.1.length) (Qa rfl) (Qa rfl) QlJ QvJ rfl (by omega) (by omega) rfl (Fresh.of rfl) (nlr rfl)) ?_
 refine w5 ?_
 obtain ⟨x2,C⟩:=gx (List.replicate c.2.1.length (Ty.zero .bool)) 0
 refine lc (QB (e:= .bool) (z':=true) (Qa rfl) rfl C rfl (Evl.ev Ze) rfl HR rfl rfl) ?_
 refine w5 ?_
 refine alL 15 fun _=> ?_
 refine w4 ?_
 refine QL (fun z A=>∃(p:Nat) (g:List Bool),p≤c.2.1.length∧z=c.2.1.length - p∧(XH (Ya c.2.2) c.2.1.length (m0 c.2.1.length)=XH (Ya c.2.2) (c.2.1.length - p) g)∧(g.length=c.2.1.length)∧A=⟨[(1,lP 0 0),(2,lB false),(3,lR 2),(16,lI (c.2.1.length:Int)),(17,lI (p:Int))],[bx 0 27 [.dat Ql c.1, .dat Qm c.2.1, .dat Qu c.2.2],(2,some (.arr 4 .bool g))]⟩) ⟨0,(List.replicate c.2.1.length (Ty.zero .bool)).set 0 true,aS _,rfl,rfl,(by simp),rfl⟩ ?_ ?_
 exact wp [(2,1)] ⟨rfl,(Qe (by first | rfl | simp)),trivial⟩
 rintro z A ⟨p,g,T,U,B,R,rfl⟩
 refine w4 ?_
 cases t:(decide ((p:Int) < (c.2.1.length:Int)))
 have u:=aa t
 refine w10 ?_
 refine lpK g.length (fun k=>∀j,j < k→g[j]? =some true) (fun k=>⟨[(37,lR 2),(38,lI (g.length:Int)),(39,lI (k:Int))],[(2,some (.arr 4 .bool g))]⟩) ((fun j S=>absurd S (bi j))) ?_ fun k _ F=> ?_
 exact wo []
 refine w4 ?_
 cases v:(decide ((k:Int) < (g.length:Int)))
 have w:=aa v
 refine w6 ?_
 refine Qd<|fqB G ?_
 first | exact Qua M.1 x (by rw[B,show c.2.1.length - p=0 by omega]; rfl) F (by omega)
 have w:=ab v
 refine w6 ?_
 obtain ⟨D,o⟩:=gx g k
 refine w7 ?_
 cases I:(D)
 refine w4 ?_
 refine Qd<|fqB G ?_
 exact Qxo M.1 x (by rw[B,show c.2.1.length - p=0 by omega]; rfl) o ‹_›
 refine w6 ?_
 refine Qb ?_
 refine lK_ ((QqR F o ‹_›)) ?_
 exact wo []
 have u:=ab t
 refine w7 ?_
 refine alL 20 fun _=> ?_
 refine w4 ?_
 refine QL (fun z A=>∃(i:Nat) (d:List Bool),i≤c.2.2.length∧z=c.2.2.length - i∧(XJ (Ya c.2.2) g=XJ ((Ya c.2.2).drop i) d)∧(d.length=c.2.1.length)∧A=⟨[(1,lP 0 0),(2,lB false),(3,lR 3),(16,lI (c.2.1.length:Int)),(17,lI (p:Int)),(18,lB true),(19,lP 0 2),(20,lf (.dat Qu c.2.2)),(21,lI (c.2.2.length:Int)),(22,lI (i:Int))],[bx 0 27 [.dat Ql c.1, .dat Qm c.2.1, .dat Qu c.2.2],(3,some (.arr 4 .bool d))]⟩) ⟨0,g,aS _,rfl,rfl,R,rfl⟩ ?_ ?_
 exact wo [(3,2)]
 rintro z A ⟨i,d,K,L,q,r,rfl⟩
 refine w4 ?_
 cases l:(decide ((i:Int) < (c.2.2.length:Int)))
 have s:=aa l
 refine w6 ?_
 refine Qb<|Q2 ⟨p+1,d,by omega,rfl,(by rw[B,show c.2.1.length - p=(c.2.1.length - (p+1))+1 by omega,XH,q,Qr6 (by omega)]),r,rfl⟩ (by omega) ?_
 exact wo [(2,3)]
 have s:=ab l
 refine w5 ?_
 obtain ⟨ar,h⟩:=gx c.2.2 i
 obtain ⟨⟨V,W⟩,X,Y⟩:=H _ (ah h)
 refine w2 ?_
 refine lc (xal 4 Qs Zg) ?_
 refine w6 ?_
 refine alI 28 fun _=> ?_
 refine w_ ?_
 obtain ⟨E,N⟩:=gx d ((ar.1).toNat)
 refine w2 ?_
 cases J:(E)
 refine w6 ?_
 refine Qb<|Q2 ⟨i+1,d,by omega,rfl,(by rw[q,Qgp h]; first | rw[Qg7 ‹_› ‹_›] | rw[QjT ‹_› ‹_›]),(by exact r),rfl⟩ (by omega) ?_
 exact wo []
 refine w5 ?_
 refine alI 33 fun _=> ?_
 refine w_ ?_
 obtain ⟨a1,y⟩:=gx d ((ar.2.2.2).toNat)
 refine lc (QB (e:= .bool) (z':=true) (Qa rfl) rfl y rfl (Evl.ev Ze) rfl HR rfl rfl)<|Qb ?_
 refine w4 ?_
 refine Qb<|Q2 ⟨i+1,(d.set ((ar.2.2.2).toNat) true),by omega,rfl,(by rw[q,Qgp h]; first | rw[Qg7 ‹_› ‹_›] | rw[QjT ‹_› ‹_›]),(by (rw[az]; exact r)),rfl⟩ (by omega) ?_
 exact wp [] ⟨rfl,(Qe (by first | rfl | simp)),trivial⟩
end Go.Proofs.YtgpdhgadmjfokaaGreat
namespace Go.Proofs.YtgpdhgadmjfokaaGreat
set_option maxHeartbeats 4000000
set_option maxRecDepth 100000
open Go.RowKit
set_option maxRecDepth 100000
set_option maxHeartbeats 4000000
structure SgOk (c:DSg):Prop where
  sigs:XK c.1
  some_:1≤c.2.1.length∧c.2.1.length≤300
  few:c.2.2.length≤4000
  codes:∀x∈c.2.1,Xd x (c.1.length:Int)
  arcs:∀a∈c.2.2,XF c a
  all:Qc0 c.2.1.length (Ya c.2.2)
theorem YP {α:Type}{p:α→Prop}{l:List α}{k:Nat}{x:α}(h:∀j,j < k→∀x,l[j]? =some x→p x)(f:l[k]? =some x)(d:p x):∀j,j < k+1→∀x,l[j]? =some x→p x:=fun j g y b=>by
 by_cases e:j=k
 ·subst e; rw[f] at b; cases b; exact d
 ·exact h j (by omega) y b
theorem Xx {α:Type}{p:α→Prop}{l:List α}{k:Nat}(h:∀j,j < k→∀x,l[j]? =some x→p x)(e:l.length≤k):∀x∈l,p x:=fun x d=>by
 obtain ⟨j,b⟩:=aM.1 d
 have:=(ai.1 b).1
 exact h j (by omega) x b
theorem XE {c:DSg}{a:DAr}(h:XF c a):InR c.2.1.length a:=by
 obtain ⟨⟨b,e⟩,⟨d,f⟩,_⟩:=h
 exact ⟨⟨b,by omega⟩,d,by omega⟩
section
variable {c:DSg}[Decidable (SgOk c)]{x:ByteArray}{a:DAr}{k i:Nat}
theorem QsV (h:¬XK c.1):false=decide (SgOk c):=(aH fun g=>h g.sigs).symm
theorem QsX (h:¬((1:Int)≤(c.2.1.length:Int)∧(c.2.1.length:Int)≤300)):false=decide (SgOk c):=(aH fun g=>h (by have:=g.some_; omega)).symm
theorem Qq4 (h:(4000:Int) < (c.2.2.length:Int)):false=decide (SgOk c):=(aH fun g=>by have:=g.few; omega).symm
theorem Qtz (b:c.2.1[k]? =some x)(h:¬Xd x (c.1.length:Int)):false=decide (SgOk c):=(aH fun g=>h (g.codes x (ah b))).symm
theorem Qfq (b:c.2.2[k]? =some a)(h:¬XF c a):false=decide (SgOk c):=(aH fun g=>h (g.arcs a (ah b))).symm
theorem QsN [Decidable (Qc0 c.2.1.length (Ya c.2.2))](b:XK c.1)(f:(1:Int)≤(c.2.1.length:Int)∧(c.2.1.length:Int)≤300)(j:¬(4000:Int) < (c.2.2.length:Int))(d:∀x∈c.2.1,Xd x (c.1.length:Int))(e:∀a∈c.2.2,XF c a):
 decide (Qc0 c.2.1.length (Ya c.2.2))=decide (SgOk c):=dd.2 ⟨fun h=>⟨b,by omega,by omega,d,e,h⟩,fun g=>g.all⟩
end
theorem YO (c:ZB)[∀c,Decidable (SgOk c)]:FC Tryz.prog 105 [(true,[.dat Ql c.1, .dat Qm c.2.1, .dat Qu c.2.2])] [] 0 (Q7 (lB (decide (SgOk c)))):=by
 classical
 refine Qt Tryz.func105 rfl rfl Tryz.ntmps105 fun F n E A G C B=> ?_
 refine w_ ?_
 refine xbx 0 ?_
 refine w6 ?_
 refine lc (dK (QaL c.1) QlM) ?_
 refine w2 ?_
 cases o:(decide (XK c.1))
 have p:=aa o
 refine w16 ?_
 refine w_ ?_
 refine Qd<|fqB n ?_
 exact QsV ‹_›
 have p:=ab o
 refine w2 ?_
 refine alL 13 fun _=> ?_
 refine w_ ?_
 refine lgy rfl rfl (dK (XD (c.2.1.length:Int) 1 300) WQ) ?_
 refine w3 ?_
 cases q:(decide (1≤(c.2.1.length:Int)∧(c.2.1.length:Int)≤300))
 have r:=aa q
 refine w10 ?_
 refine Qd<|fqB n ?_
 exact QsX ‹_›
 have r:=ab q
 refine w2 ?_
 refine alL 20 fun _=> ?_
 refine w4 ?_
 refine cd_ (fun _ _=> ?_) fun _ _=> ?_
 refine w5 ?_
 refine alL 25 fun _=> ?_
 refine w4 ?_
 refine lpK c.2.1.length (fun k=>∀j,j < k→∀x,c.2.1[j]? =some x→Xd x (c.1.length:Int)) (fun k=>⟨[(1,lP 0 0),(25,lf (.dat Qm c.2.1)),(26,lI (c.2.1.length:Int)),(27,lI (k:Int))],[bx 0 27 [.dat Ql c.1, .dat Qm c.2.1, .dat Qu c.2.2]]⟩) ((fun j z=>absurd z (bi j))) ?_ fun k _ w=> ?_
 exact wo []
 refine w4 ?_
 cases s:(decide ((k:Int) < (c.2.1.length:Int)))
 have t:=aa s
 refine w7 ?_
 refine alL 39 fun _=> ?_
 refine w4 ?_
 refine lpK c.2.2.length (fun i=>∀j,j < i→∀a,c.2.2[j]? =some a→XF c a) (fun i=>⟨[(1,lP 0 0),(39,lf (.dat Qu c.2.2)),(40,lI (c.2.2.length:Int)),(41,lI (i:Int))],[bx 0 27 [.dat Ql c.1, .dat Qm c.2.1, .dat Qu c.2.2]]⟩) ((fun j z=>absurd z (bi j))) ?_ fun i _ y=> ?_
 exact wo []
 refine w4 ?_
 cases b:(decide ((i:Int) < (c.2.2.length:Int)))
 have h:=aa b
 refine w5 ?_
 refine lc (dK (QfW c (by omega) (fun a D=>XE (Xx y (by omega) a D))) Qkv) ?_
 refine w2 ?_
 refine Qd<|fqB n ?_
 exact QsN ‹_› ‹_› ‹_› (Xx w (by omega)) (Xx y (by omega))
 have h:=ab b
 refine w5 ?_
 obtain ⟨u,f⟩:=gx c.2.2 i
 refine w2 ?_
 refine lc (xal 1 Qs Zg) ?_
 refine w5 ?_
 refine lc (dK (QfZ c u (Xx w (by omega)) (by have:=(‹XK c.1›).2.2; omega)) Qm3) ?_
 refine w2 ?_
 cases d:(decide (XF c u))
 have l:=aa d
 refine w4 ?_
 refine Qd<|fqB n ?_
 exact Qfq f ‹_›
 have l:=ab d
 refine w6 ?_
 refine Qb ?_
 refine lK_ ((YP y f ‹_›)) ?_
 exact wo []
 have t:=ab s
 refine w5 ?_
 obtain ⟨v,g⟩:=gx c.2.1 k
 refine w8 ?_
 refine alL 33 fun _=> ?_
 refine w_ ?_
 refine lc (dK (Qea v (c.1.length:Int)) QlX) ?_
 refine w2 ?_
 cases e:(decide (Xd v (c.1.length:Int)))
 have m:=aa e
 refine w4 ?_
 refine Qd<|fqB n ?_
 exact Qtz g ‹_›
 have m:=ab e
 refine w6 ?_
 refine Qb ?_
 refine lK_ ((YP w g ‹_›)) ?_
 exact wo []
 refine w3 ?_
 refine Qd<|fqB n ?_
 exact Qq4 ‹_›
end Go.Proofs.YtgpdhgadmjfokaaGreat
namespace Go.Proofs.YtgpdhgadmjfokaaGreat
set_option maxHeartbeats 4000000
set_option maxRecDepth 100000
open Go.RowKit
set_option maxRecDepth 100000
set_option maxHeartbeats 4000000
section
variable {A:Amb}{P:Program}{s:St}{x y:Operand}{d:Nat}{T T' ty:TypeId}{pos:String}{af:Array Edge}{g:Option (Nat×Bool)}{n a b:Int}
theorem QiK (h:0≤n∧n≤9223372036854775807):IntKind.u64.wrap n=n:=by
 simp[IntKind.wrap,IntKind.bits,IntKind.signed]
 omega
theorem Qra (h:0≤n∧n≤9223372036854775807):IntKind.i64.wrap n=n:=IntWalk.i64_in _ (by omega)
theorem K5 (c:Evl A s x (dI n))(l:P.underlying T=some (.int .i64))(j:P.underlying T'=some (.int .u64))(h0:0≤n)(k:Nat.blt d A.n=true):
 Does A P ⟨some d, .convert T T' x,ty,pos,af,g⟩ s (s.put d (lf (.val (.int .u64 n)))):=
 Qk rfl k fun f a w r=>by
  have h:=c.i r
  have m:=(LVR.int (c f a w r)).2
  have e:=QiK (n:=n) (by omega)
  refine ⟨.int .u64 n, ?_,_,rfl,rfl⟩
  simp only[execOp,h,convert,run_underlying l,run_underlying j,ay,aK,Conv.intToInt,e]
  simp
theorem H2 (k:Evl A s x (.val (.int .u64 n)))(j:P.underlying T=some (.int .u64))(h:P.underlying T'=some (.int .i64))(h0:0≤n∧n≤9223372036854775807)(i:Nat.blt d A.n=true):
 Does A P ⟨some d, .convert T T' x,ty,pos,af,g⟩ s (s.put d (lf (dI n))):=
 Qk rfl i fun e a w r=>by
  have f:a.eval x= .int .u64 n:=k e a w r
  have c:=Qra h0
  refine ⟨.int .i64 n, ?_,_,rfl,Ye (by omega)⟩
  simp only[execOp,f,convert,run_underlying j,run_underlying h,ay,aK,Conv.intToInt,c]
  simp
theorem Qg5 (j:Evl A s x (.val (.int .u64 a)))(k:Evl A s y (.val (.int .u64 b)))(i:Nat.blt d A.n=true):Does A P ⟨some d, .binOp .gtr T x y T',ty,pos,af,g⟩ s (s.put d (lf (dB (decide (b < a))))):=
 Qk rfl i fun e c w r=>by
  have f:c.eval x= .int .u64 a:=j e c w r
  have h:c.eval y= .int .u64 b:=k e c w r
  refine ⟨.bool (decide (b < a)), ?_,_,rfl,Z8⟩
  simp only[execOp,f,h,eqGuard_at_int,binOp,Op.intCmp]
  simp
end
theorem Qsb (n:Nat)(c:n≤1000000):bits BinOp.and IntKind.u64 (n:Int) 4294967295=n:=by
 have h:=bits_and_u64_nat n 4294967295 (by omega) (by decide)
 rw[show ((4294967295:Nat):Int)=4294967295 from rfl] at h
 rw[h,show (4294967295:Nat)=2 ^ 32 - 1 from rfl,Nat.and_two_pow_sub_one_eq_mod,cC (by omega)]
theorem QtP (n:Nat)(w:World)(c:n≤1000000):Calls Tryz.prog 402 #[.int .u64 1, .int .u64 n] w fun e w'=>e= .returned (.tuple #[.int .u64 0, .int .u64 n])∧w'=w:=by
 have f:bits BinOp.and IntKind.u64 1 4294967295=1:=by decide
 have h:=Qsb n c
 have i:(n:Int) / 4294967296=0:=by omega
 have j:=QiK (n:=n) (by omega)
 have k:IntKind.u64.wrap 0=0:=by decide
 have l:bits BinOp.and IntKind.u64 0 4294967295=0:=by decide
 go_enter Tryz.func402,Tryz.ntmps402
 go_wp2
 go_ret2
 exact ⟨rfl,rfl⟩
theorem Qxd (a n:Int)(k:a=1)(u:0≤n∧n≤1000000):FC Tryz.prog 402 [(false,[.val (.int .u64 a)]),(false,[.val (.int .u64 n)])] [] 0 (Q7 (.tup [(false,[.val (.int .u64 0)]),(false,[.val (.int .u64 n)])])):=Qwt fun t w B h=>by
 obtain ⟨o,q,rfl,⟨v,i,c⟩,p,r,rfl,⟨z,j,f⟩,rfl⟩:=h
 simp only[aJ,and_true] at i j
 subst i j k
 have c:o= .int .u64 1:=c
 have f:p= .int .u64 n:=f
 subst c f
 obtain ⟨m,rfl⟩:∃m:Nat,n=m:=⟨n.toNat,by omega⟩
 refine Calls.mono (QtP m w (by omega)) fun e C l=> ?_
 obtain ⟨rfl,rfl⟩:=l
 exact ⟨_,rfl,QW _,[.int .u64 0, .int .u64 m],rfl,_,_,rfl,⟨_,rfl,rfl⟩,_,_,rfl,⟨_,rfl,rfl⟩,rfl⟩
theorem Qnd {v:Int}{m k:Nat}:cpy (List.replicate m v++List.replicate k (0:Int)) m k ((((List.replicate m v++List.replicate k (0:Int))).take (0+m)).drop 0)=List.replicate (m+min m k) v++List.replicate (k - min m k) 0:=by
 have c:(List.replicate m v++List.replicate k (0:Int)).take m=List.replicate m v:=List.take_left' (by simp)
 have e:(List.replicate m v++List.replicate k (0:Int)).drop (m+min m k)=List.replicate (k - min m k) 0:=by
  rw[List.drop_append,aF,bJ (by simp),ci,List.drop_replicate]
  congr 1
  omega
 rw[cpy,bV,List.drop_zero,c,aF,e,List.take_replicate,cH (Nat.min_le_left _ _),List.replicate_append_replicate]
theorem Qqu {n v:Int}(f:0≤n):cpy (List.replicate n.toNat (Ty.zero .int)) 0 (List.replicate n.toNat (Ty.zero .int)).length [v]=List.replicate (((min [v].length (List.replicate n.toNat (Ty.zero .int)).length:Nat):Int)).toNat v++List.replicate (n.toNat - (((min [v].length (List.replicate n.toNat (Ty.zero .int)).length:Nat):Int)).toNat) 0:=by
 have h:=Qnd (v:=v) (m:=0) (k:=n.toNat)
 have e:(Ty.zero .int:Int)=0:=rfl
 cases c:n.toNat with
 | zero=>simp[cpy]
 | succ k=>simp[cpy,e,List.replicate_succ]
theorem Qqg {n m v:Int}{l:List Int}(h0:0≤m)(h:m≤n)(f:l=List.replicate m.toNat v++List.replicate (n.toNat - m.toNat) 0)(e:l.length=n.toNat):
 cpy l m.toNat (l.length - m.toNat) ((l.take (0+m.toNat)).drop 0)=List.replicate (m+((min ((l.take (0+m.toNat)).drop 0).length (l.length - m.toNat):Nat):Int)).toNat v++List.replicate (n.toNat - (m+((min ((l.take (0+m.toNat)).drop 0).length (l.length - m.toNat):Nat):Int)).toNat) 0:=by
 have c:((l.take (0+m.toNat)).drop 0).length=m.toNat:=by simp[e]; omega
 rw[c,e]
 rw[f,Qnd]
 congr 2 <;> omega
theorem UB (s:List Int)(n:Int)(v:Int)(u:s=[v])(F:0≤n∧n≤1000000):FC Tryz.prog 320 [(false,[.dat QA s]),(false,[dI n])] [] 0 (YJ 3 .int (List.replicate n.toNat v)):=by
 have w:(s.length:Int)=1:=by rw[u]; rfl
 have q:decide (n < 0)=false:=aH (by omega)
 have p:decide ((9223372036854775807:Int) < n)=false:=aH (by omega)
 have r:(List.replicate n.toNat (Ty.zero .int)).length=n.toNat:=aF ..
 refine Qt Tryz.func320 rfl rfl Tryz.ntmps320 fun O L N I Q K J=> ?_
 refine acI 1 fun _=> ?_
 refine w8 ?_
 cases f:(decide (n < 0))
 have z:=aa f
 refine w4 ?_
 refine alL 13 fun _=> ?_
 refine w_ ?_
 refine lc (K5 (Qa rfl) Uu Qip (by omega) rfl) ?_
 refine w_ ?_
 refine lc (K5 (Qa rfl) Uu Qip (by omega) rfl) ?_
 refine lc (dK (Qxd (s.length:Int) n w F) QmP) ?_
 refine w9 ?_
 refine lc (Qg5 (Qa rfl) Evl.val rfl) ?_
 refine w_ ?_
 cases i:(decide ((0:Int) < (0:Int)))
 have B:=aa i
 refine w_ ?_
 refine lgy rfl rfl (Qg5 (Qa rfl) Evl.val rfl) ?_
 refine w2 ?_
 cases j:(decide ((9223372036854775807:Int) < n))
 have C:=aa j
 refine w4 ?_
 refine lc (H2 (Qa rfl) Qip Uu (by omega) rfl)<|lc (Qd1 0 (e:= .int) (n:=n) (Qa rfl) (Qa rfl) Yg Qn8 rfl (by omega) (by omega) (by omega) rfl (Fresh.of rfl) (nlr rfl)) ?_
 refine w5 ?_
 refine lc (Qe3 (e:= .int) (xs:=List.replicate (n).toNat (Ty.zero .int)) (lo:=0) (n:=(List.replicate (n).toNat (Ty.zero .int)).length) (ys:=s) (Qro (Qa rfl) rfl) rfl (by omega) (Evl.rep (Qa rfl)) rfl rfl Yg Qn8 rfl) ?_
 refine w4 ?_
 refine QL (fun G H=>∃(m:Int) (l:List Int),G=(n - m).toNat∧(0≤m∧m≤n∧(0 < n→0 < m))∧(l=List.replicate m.toNat v++List.replicate (n.toNat - m.toNat) 0)∧(l.length=n.toNat)∧H=⟨[(4,lf (.val (.slice none 0 0))),(7,lR 1),(8,lI m)],[ar 1 3 .int l]⟩) ⟨((min s.length ((List.replicate (n).toNat (Ty.zero .int)).length):Nat):Int),cpy (List.replicate (n).toNat (Ty.zero .int)) 0 ((List.replicate (n).toNat (Ty.zero .int)).length) s,rfl,(by rw[r,u]; simp; omega),(by rw[u]; exact Qqu F.1),(by rw[QhF (by omega)]; exact r),rfl⟩ ?_ ?_
 exact wp [(1,0)] ⟨(Qe (by first | rfl | simp)),trivial⟩
 rintro G H ⟨m,l,M,E,D,t,rfl⟩
 refine w7 ?_
 cases k:(decide (m < (l.length:Int)))
 have o:=aa k
 refine w7 ?_
 refine Qd<|fo_ L ?_
 rw[D,show n.toNat - m.toNat=0 by omega,show m.toNat=n.toNat by omega]; simp
 have o:=ab k
 refine w3 ?_
 apply dV (i3 38 _ _ _ (io 41 (lf (.sub 1 1 ((m).toNat) (l.length - (m).toNat))) :: i2 42 _ _ [io 44 (lf (.sub 1 1 0 ((m).toNat))),⟨some 45,lI ((min ((l.take (0+((m).toNat))).drop 0).length (l.length - (m).toNat):Nat):Int),[ar 1 3 .int (cpy l ((m).toNat) (l.length - (m).toNat) ((l.take (0+((m).toNat))).drop 0))]⟩,io 46 _,io 8 _])) [0,1,3,1,15,31,15,1,0,0]
 refine z3 ?_
 refine zz (fun _ c=>ac (Yp (e:= .int) (a:=(m).toNat) (b:=l.length - (m).toNat) (l:=(some m)) (h:=none) (c.v rfl) (c.en 1 rfl) (by exact (c.v rfl)) (by exact trivial) Yg Yw rfl (by first | (simp only[av,ao]; omega) | omega | (simp only[av,ao,ae,ap,aF]; omega)) (by first | (simp only[av,ao]; omega) | omega | (simp only[av,ao,ae,ap,aF]; omega)) (by first | (simp only[av,ao]; omega) | omega | (simp only[av,ao,ae,ap,aF]; omega)) (by first | rfl | simp) (by first | rfl | simp)) rfl) ?_
 refine z2 ?_
 refine zz (fun _ c=>ac (Yp (e:= .int) (a:=0) (b:=(m).toNat) (l:=none) (h:=(some m)) (c.v rfl) (c.en 1 rfl) (by exact trivial) (by exact (c.v rfl)) Yg Yw rfl (by first | (simp only[av,ao]; omega) | omega | (simp only[av,ao,ae,ap,aF]; omega)) (by first | (simp only[av,ao]; omega) | omega | (simp only[av,ao,ae,ap,aF]; omega)) (by first | (simp only[av,ao]; omega) | omega | (simp only[av,ao,ae,ap,aF]; omega)) (by first | rfl | simp) (by first | rfl | simp)) rfl)<|zz (fun _ c=>ac (Qe3 (e:= .int) (xs:=l) (lo:=(m).toNat) (n:=l.length - (m).toNat) (ys:=(l.take (0+((m).toNat))).drop 0) (Qs9 (c.v rfl) (c.en 1 rfl)) (c.en 1 rfl) (by omega) (Ug (e:= .int) (c.v rfl) (c.en 1 rfl) (by omega)) rfl rfl Yg Qn8 rfl) rfl) ?_
 exact y2
 refine Q2 ⟨(m+((min ((l.take (0+((m).toNat))).drop 0).length (l.length - (m).toNat):Nat):Int)),(cpy l ((m).toNat) (l.length - (m).toNat) ((l.take (0+((m).toNat))).drop 0)),rfl,(by simp only[bo,ap,t]; omega),(Qqg E.1 E.2.1 D t),(by rw[QhF (by omega)]; exact t),rfl⟩ (by simp only[bo,ap,t]; omega) ?_
 exact wp [] ⟨(Qe (by first | rfl | simp)),trivial⟩
 exact absurd (j.symm.trans (show (decide ((9223372036854775807:Int) < n))=false from p)) (by decide)
 exact absurd (i.symm.trans (show (decide ((0:Int) < (0:Int)))=false from (by decide))) (by decide)
 exact absurd (f.symm.trans (show (decide (n < 0))=false from q)) (by decide)
end Go.Proofs.YtgpdhgadmjfokaaGreat
namespace Go.Proofs.YtgpdhgadmjfokaaGreat
set_option maxHeartbeats 4000000
set_option maxRecDepth 100000
open Go.RowKit
set_option maxRecDepth 100000
set_option maxHeartbeats 4000000
def Qcy (l:List (List Int))(e:Int×Int):List (List Int):=l.modify e.1.toNat (· ++[e.2])
def Zy (n:Nat)(es:List (Int×Int)):List (List Int):=es.foldl Qcy (List.replicate n [])
def bfT (o:Int):List Int→List Int×List Int→List Int×List Int
 | [],st=>st
 | t :: ts,st=>if (st.1[t.toNat]?).getD 0 < 0 then bfT o ts (st.1.set t.toNat ((st.1[o.toNat]?).getD 0+1),st.2++[t]) else bfT o ts st
def bfK (nx:List (List Int)):Nat→Nat→List Int×List Int→List Int
 | 0,_,st=>st.1
 | f+1,k,st=>match st.2[k]? with
  | none=>st.1
  | some o=>bfK nx f (k+1) (bfT o ((nx[o.toNat]?).getD []) st)
def HO (n:Nat)(es:List (Int×Int)):List Int:=bfK (Zy n es) (n+1) 0 ((List.replicate n (-1)).set 0 0,[0])
def Qf1 (l:List Int):Nat:=(l.filter (· < 0)).length
structure BI (n:Nat) (es:List (Int×Int)) (st:List Int×List Int):Prop where
  len:st.1.length=n
  cnt:Qf1 st.1+st.2.length=n
  q:∀x∈st.2,(0≤x∧x < n)∧Rch es x∧∃v,st.1[x.toNat]? =some v∧0≤v
  nn:∀(i:Nat) v,st.1[i]? =some v→0≤v→(i:Int)∈st.2
  rng:∀v∈st.1, -1≤v∧v≤(st.2.length:Int)
section
variable {n k i f:Nat}{es:List (Int×Int)}{e:Int×Int}{l ts ys q out:List Int}{o t c w:Int}{nx:List (List Int)}{st:List Int×List Int}
theorem Qmi {α:Type _}{l:List α}{i:Nat}{x:α}{g:α→α}(h:l[i]? =some x):l.set i (g x)=l.modify i g:=by
 apply bK
 intro j
 rw[cV]
 by_cases e:i=j
 ·subst e; rw[aZ (ai.1 h).1,h]; simp
 ·rw[bk e]; simp[e]
theorem Qpy {l:List (List Int)}:(es.foldl Qcy l).length=l.length:=by
 induction es generalizing l with
 | nil=>rfl
 | cons e es a=>rw[aT,a]; simp[Qcy]
theorem WY:(Zy n es).length=n:=by unfold Zy; rw[Qpy]; simp
theorem Qe7 (a:es[k]? =some e)(b:(Zy n (es.take k))[e.1.toNat]? =some ys):(Zy n (es.take k)).set e.1.toNat (ys++[e.2])=Zy n (es.take (k+1)):=by
 rw[Qmi (g:=(· ++[e.2])) b,QG a]
 simp[Zy,bm,Qcy]
theorem Qhh {l:List (List Int)}{i:Nat}{t:Int}(g:∀e∈es,0≤e.1):t∈((es.foldl Qcy l)[i]?).getD []↔t∈(l[i]?).getD []∨(i < l.length∧((i:Int),t)∈es):=by
 induction es generalizing l with
 | nil=>simp
 | cons e es r=>
  rw[aT,r (fun e m=>g e (aw _ m))]
  have s:=g e (ax ..)
  have p:(Qcy l e).length=l.length:=by simp[Qcy]
  rw[p]
  have j:t∈((Qcy l e)[i]?).getD []↔t∈(l[i]?).getD []∨(i < l.length∧((i:Int),t)=e):=by
   unfold Qcy
   rw[cV]
   by_cases b:e.1.toNat=i
   ·cases h:l[i]? with
    | none=>
     have:=List.getElem?_eq_none_iff.1 h
     simp[b]
     intro d; omega
    | some x=>
     have:=(ai.1 h).1
     simp[b,this]
     have:((i:Int),t)=e↔t=e.2:=⟨fun h=>by rw[← h],fun h=>dH (by show (i:Int)=e.1; omega) h⟩
     rw[this]
   ·simp[b]
    intro _ d
    exact absurd (show e.1.toNat=i by rw[← d]; rfl) b
  rw[j,aD]
  constructor
  ·rintro ((h | ⟨h,a⟩) | ⟨h,a⟩)
   ·exact .inl h
   ·exact .inr ⟨h, .inl a⟩
   ·exact .inr ⟨h, .inr a⟩
  ·rintro (h | ⟨h,a | a⟩)
   ·exact .inl (.inl h)
   ·exact .inl (.inr ⟨h,a⟩)
   ·exact .inr ⟨h,a⟩
theorem Qgv {i:Nat}(g:∀e∈es,InE n e)(a:(Zy n es)[i]? =some ys):t∈ys↔((i:Int),t)∈es:=by
 have h:=Qhh (l:=List.replicate n []) (i:=i) (t:=t) (es:=es) (fun e b=>(g e b).1.1)
 have d:i < n:=by have:=(ai.1 a).1; rwa [WY] at this
 change t∈((Zy n es)[i]?).getD []↔_ at h
 rw[a] at h
 simpa [d] using h
theorem Qcn {i:Nat}(a:(Zy n es)[i]? =some ys):ys.length≤es.length:=by
 have:∀(l:List (List Int)) (i:Nat) (ys:List Int),(es.foldl Qcy l)[i]? =some ys→ys.length≤((l[i]?).getD []).length+es.length:=by
  clear a
  induction es with
  | nil=>intro l i ys h; simp at h; simp[h]
  | cons e es d=>
   intro l i ys h
   rw[aT] at h
   have:=d _ _ _ h
   have j:(((Qcy l e)[i]?).getD []).length≤((l[i]?).getD []).length+1:=by
    unfold Qcy
    rw[cV]
    cases m:l[i]? with
    | none=>simp
    | some x=>by_cases b:e.1.toNat=i <;> simp[b]
   rw[aj]; omega
 have h:=this _ _ _ a
 have g:(((List.replicate n ([]:List Int))[i]?).getD []).length=0:=by
  rw[cc]; split <;> rfl
 omega
theorem Qub (g:ts[i]? =some t)(a:out[t.toNat]? =some c)(b:c < 0)(d:out[o.toNat]? =some w):bfT o (ts.drop i) (out,q)=bfT o (ts.drop (i+1)) (out.set t.toNat (w+1),q++[t]):=by
 rw[Yd g,bfT]
 simp[a,d,b]
theorem QsL (d:ts[i]? =some t)(a:out[t.toNat]? =some c)(b:¬c < 0):bfT o (ts.drop i) (out,q)=bfT o (ts.drop (i+1)) (out,q):=by
 rw[Yd d,bfT]
 simp only[a,ao,if_neg b]
theorem Qu9 (h:ts.length≤i):bfT o (ts.drop i) st=st:=by rw[bJ h,bfT]
theorem Qxl (a:q[k]? =some o)(b:nx[o.toNat]? =some ts)(d:k < n+1):bfK nx (n+1 - k) k (out,q)=bfK nx (n+1 - (k+1)) (k+1) (bfT o (ts.drop 0) (out,q)):=by
 rw[show n+1 - k=(n+1 - (k+1))+1 by omega,bfK]
 simp[a,b]
theorem Quu (h:q.length≤k):bfK nx f k (out,q)=out:=by
 cases f with
 | zero=>rfl
 | succ f=>rw[bfK]; simp[bD h]
theorem Qjg {l:List Int}(h:l[i]? =some c)(a:c < 0)(d:0≤w):Qf1 (l.set i w)+1=Qf1 l:=by
 induction l generalizing i with
 | nil=>simp at h
 | cons x l b=>
  cases i with
  | zero=>
   simp only[cd,bA] at h
   subst h
   simp[Qf1,a,show¬w < 0 by omega]
  | succ i=>
   have:=b (i:=i) (by simpa using h)
   simp only[Qf1,cQ,de] at this ⊢
   split <;> simp_all
theorem BI.step (h:BI n es (out,q))(L:∀e∈es,InE n e)(D:o∈q)(C:(o,t)∈es)(B:out[t.toNat]? =some c)(K:c < 0)(E:out[o.toNat]? =some w):BI n es (out.set t.toNat (w+1),q++[t]):=by
 obtain ⟨H,y,s,I,z⟩:=h
 have M:0≤w:=by
  obtain ⟨_,_,v,a,m⟩:=s o D
  have a:out[o.toNat]? =some v:=a
  rw[E] at a; cases a; exact m
 have u:=z w (ah E)
 have p:=(ai.1 B).1
 obtain ⟨_,b,d⟩:=L _ C
 have b:0≤t:=b
 have d:t < (n:Int):=d
 refine ⟨by simpa using H, ?_, ?_, ?_, ?_⟩
 ·have a:=Qjg B K (show 0≤w+1 by omega)
  have y:Qf1 out+q.length=n:=y
  show Qf1 (out.set t.toNat (w+1))+(q++[t]).length=n
  rw[ae,List.length_singleton]; omega
 ·intro x j
  show (0≤x∧x < n)∧Rch es x∧∃v,(out.set t.toNat (w+1))[x.toNat]? =some v∧0≤v
  rcases aE.1 j with j | j
  ·obtain ⟨a,m,v,A,J⟩:=s x j
   refine ⟨a,m, ?_⟩
   by_cases r:t.toNat=x.toNat
   ·exact ⟨w+1,by rw[← r,aZ p],by omega⟩
   ·exact ⟨v,by rw[bk r]; exact A,J⟩
  ·rw[aB] at j
   subst j
   exact ⟨⟨b,d⟩, .step (s o D).2.1 C,w+1,aZ p,by omega⟩
 ·intro i v g G
  have g:(out.set t.toNat (w+1))[i]? =some v:=g
  show (i:Int)∈q++[t]
  by_cases r:t.toNat=i
  ·exact aE.2 (.inr (by rw[aB]; omega))
  ·rw[bk r] at g
   exact aE.2 (.inl (I i v g G))
 ·intro v g
  show -1≤v∧v≤((q++[t]).length:Int)
  rw[ae,List.length_singleton]
  have F:w≤(q.length:Int):=u.2
  rcases cu g with a | a
  ·have m:=z v a
   have A:v≤(q.length:Int):=m.2
   omega
  ·omega
theorem BI.q_le (h:BI n es (out,q)):q.length≤n:=by have:=h.cnt; simp only at this; omega
theorem BI.at_ (h:BI n es (out,q))(a:q[k]? =some o):(0≤o∧o < n)∧o∈q:=⟨(h.q o (ah a)).1,ah a⟩
theorem QhG (p:∀e∈es,InE n e):∀(ts:List Int) (st:List Int×List Int),BI n es st→o∈st.2→(∀t∈ts,(o,t)∈es)→BI n es (bfT o ts st)∧(∃r,(bfT o ts st).2=st.2++r)∧∀t∈ts,t∈(bfT o ts st).2
 | [],st,h,_,_=>⟨h,⟨[],by simp[bfT]⟩,fun t g=>by cases g⟩
 | t :: ts,st,h,ho,he=>by
  have d:=he t (ax ..)
  obtain ⟨_,j,m⟩:=p _ d
  have j:0≤t:=j
  have m:t < (n:Int):=m
  obtain ⟨c,v⟩:∃c,st.1[t.toNat]? =some c:=⟨_,ak (by rw[h.len]; omega)⟩
  obtain ⟨w,z,_⟩:=(h.q o ho).2.2
  rw[bfT,v,z]
  simp only[ao]
  split
  ·rename_i y
   have A:=BI.step (out:=st.1) (q:=st.2) h p ho d v y z
   obtain ⟨s,⟨r,b⟩,u⟩:=QhG p ts _ A (aE.2 (.inl ho)) (fun t g=>he t (aw _ g))
   refine ⟨s,⟨[t]++r,by rw[b]; simp⟩,fun x a=> ?_⟩
   rcases aD.1 a with rfl | a
   ·rw[b]; simp
   ·exact u x a
  ·rename_i y
   obtain ⟨s,⟨r,b⟩,u⟩:=QhG p ts st h ho (fun t g=>he t (aw _ g))
   refine ⟨s,⟨r,b⟩,fun x a=> ?_⟩
   rcases aD.1 a with rfl | a
   ·have:=h.nn _ _ v (by omega)
    rw[show ((x.toNat:Nat):Int)=x by omega] at this
    rw[b]; exact aE.2 (.inl this)
   ·exact u x a
theorem QnA (s:∀e∈es,InE n e):∀(f k:Nat) (st:List Int×List Int),BI n es st→n+1≤f+k→k≤st.2.length→(∀j o,j < k→st.2[j]? =some o→∀t,(o,t)∈es→t∈st.2)→
 ∃r,BI n es (bfK (Zy n es) f k st,st.2++r)∧∀o∈st.2++r,∀t,(o,t)∈es→t∈st.2++r
 | 0,k,st,h,hf,hk,_=>by have:=BI.q_le (out:=st.1) (q:=st.2) h; omega
 | f+1,k,st,h,hf,hk,hcl=>by
  rw[bfK]
  cases m:st.2[k]? with
  | none=>
   refine ⟨[],by simpa using h,fun o d t b=> ?_⟩
   rw[bq] at d ⊢
   obtain ⟨j,p⟩:=aM.1 d
   have H:=(ai.1 p).1
   have I:=List.getElem?_eq_none_iff.1 m
   exact hcl j o (by omega) p t b
  | some o=>
   simp only
   have d:=ah m
   obtain ⟨D,E⟩:=(h.q o d).1
   obtain ⟨ys,v⟩:∃ys,(Zy n es)[o.toNat]? =some ys:=⟨_,ak (by rw[WY]; omega)⟩
   rw[v,ao]
   have u:∀t,t∈ys↔(o,t)∈es:=fun t=>by
    have:=Qgv (t:=t) s v
    rwa [show ((o.toNat:Nat):Int)=o by omega] at this
   obtain ⟨A,⟨r,g⟩,B⟩:=QhG s ys st h d (fun t b=>(u t).1 b)
   have C:=(ai.1 m).1
   obtain ⟨G,x,y⟩:=QnA s f (k+1) (bfT o ys st) A (by omega) (by rw[g,ae]; omega) (fun j F p a t b=>by
    rw[g] at a ⊢
    rw[ba (by omega)] at a
    by_cases z:j=k
    ·subst z
     rw[m] at a; cases a
     rw[← g]; exact B t ((u t).2 b)
    ·exact aE.2 (.inl (hcl j F (by omega) a t b)))
   rw[g,aP] at x y
   exact ⟨r++G,x,y⟩
theorem BI.start (p:1≤n):BI n es ((List.replicate n (-1)).set 0 0,[0]):=by
 have d:(List.replicate n (-1:Int))[0]? =some (-1):=by rw[cc,if_pos (by omega)]
 refine ⟨by simp, ?_, ?_, ?_, ?_⟩
 ·have g:=Qjg (w:=0) d (by decide) (by decide)
  have m:Qf1 (List.replicate n (-1:Int))=n:=by simp[Qf1]
  show Qf1 ((List.replicate n (-1)).set 0 0)+1=n
  omega
 ·intro x j
  rw[aB.1 j]
  exact ⟨⟨by omega,by omega⟩, .zero,0,aZ (by simp; omega),by decide⟩
 ·intro i v a g
  have a:((List.replicate n (-1:Int)).set 0 0)[i]? =some v:=a
  by_cases b:0=i
  ·subst b; simp
  ·rw[bk b,cc] at a
   split at a
   ·cases a; omega
   ·cases a
 ·intro v a
  show -1≤v∧v≤1
  rcases cu a with h | h
  ·rw[cW h]; omega
  ·omega
theorem Qph (b:1≤n)(d:∀e∈es,InE n e):∃r,BI n es (HO n es,[0]++r)∧∀o∈[0]++r,∀t,(o,t)∈es→t∈[0]++r:=
 QnA d (n+1) 0 _ (BI.start b) (by omega) (aS _) (fun j o a=>absurd a (bi j))
theorem Qrw [Decidable (Qc0 n es)](B:1≤n)(D:∀e∈es,InE n e):(!((HO n es).any fun y=>decide (-1=y)))=decide (Qc0 n es):=by
 obtain ⟨r,h,z⟩:=Qph B D
 have C:∀u,Rch es u→u∈[0]++r:=fun u E=>by
  induction E with
  | zero=>simp
  | step _ A G=>exact z _ G _ A
 rw[bQ,aU,bL,cD]
 constructor
 ·intro g k b
  have d:k < (HO n es).length:=by have:=h.len; simp only at this; omega
  have m:=cX d
  have p:=g _ m
  have H:=(h.rng _ m).1
  have s:=h.nn k _ (ak d) (by simp only[aU] at p; omega)
  exact (h.q _ s).2.1
 ·intro g x F
  obtain ⟨k,b⟩:=aM.1 F
  have d:=(ai.1 b).1
  have j:k < n:=by have:=h.len; simp only at this; omega
  obtain ⟨_,_,v,a,I⟩:=h.q _ (C _ (g k j))
  have a:(HO n es)[((k:Int)).toNat]? =some v:=a
  rw[show ((k:Int)).toNat=k by omega,b] at a
  cases a
  simp only[aU]; omega
end
theorem Qrr {xs:List (List Int)}{i:Nat}{ys:List Int}(h:xs[i]? =some ys):(Zk QA xs)[i*1+0]? =some (.dat QA ys):=Qal (e:= .sl 3 .int) (j:=0) h rfl
theorem Qey {xs:List (List Int)}{i:Nat}{x ys:List Int}(h:xs[i]? =some x):(Zk QA xs).set (i*1+0) (.dat QA ys)=Zk QA (xs.set i ys):=
 (Qay (e:= .sl 3 .int) (j:=0) (x':=ys) h rfl (by decide)).symm
theorem QbN (n:Int)(l:List (Int×Int))(b:Int)(hn:1≤n∧n≤300)(V:∀e∈l,InE n.toNat e)(b7:l.length≤4000)(Q:b=0):FC Tryz.prog 216 [(false,[dI n]),(false,[.dat (.sl 295 (.pr .int .int)) l]),(false,[dI b])] [] 0 (YJ 3 .int (HO n.toNat l)):=by
 refine Qt Tryz.func216 rfl rfl Tryz.ntmps216 fun O_ hO c6 a9 X_ b1 b0=> ?_
 refine acI 0 fun _=> ?_
 refine acI 2 fun _=> ?_
 refine w3 ?_
 apply dW [⟨some 15,lR 0,[ar 0 3 .int ([(-1)])]⟩,io 16 (lI n),⟨some 17,lR 1,[ar 1 3 .int (List.replicate n.toNat (-1))]⟩,io 18 (lI n),⟨some 19,lR 2,[ar 2 32 QA (List.replicate (n).toNat (Ty.zero QA))]⟩,io 7 (lR 1),io 8 _] [0,1,0,7,7,24,0]
 refine zz (fun _ d=>ac (dBs 0 (e:= .int) Yj) rfl) ?_
 refine z_ ?_
 refine zz (fun _ d=>ac (dOB 1 (UB ([(-1)]) n (-1) rfl (by omega)) Qkx) rfl) ?_
 refine z_ ?_
 refine zz (fun _ d=>ac (Qd1 2 (e:=QA) (n:=n) (d.v rfl) (d.v rfl) V9 Qq0 rfl (by omega) (by omega) (by omega) rfl (d.fr 2 rfl) (nlr rfl)) rfl) ?_
 exact y2
 refine w3 ?_
 refine alL 20 fun _=> ?_
 refine w4 ?_
 refine lp0 l.length (fun k=>⟨[(2,lI b),(6,lf (.val (.slice none 0 0))),(7,lR 1),(8,lR 3),(20,lf (.dat (.sl 295 (.pr .int .int)) l)),(21,lI (l.length:Int)),(22,lI (k:Int))],[ar 1 3 .int (List.replicate n.toNat (-1)),ar 3 32 QA (Zy n.toNat (l.take k))]⟩) ?_ fun k _=> ?_
 exact wp [(3,2)] ⟨rfl,(Qe (by simp only[cU]; rfl)),trivial⟩
 refine w4 ?_
 cases O:(decide ((k:Int) < (l.length:Int)))
 have P:=aa O
 refine w3 ?_
 refine Yo ?_
 have Z:Zy n.toNat (l.take k)=Zy n.toNat l:=by rw[QH (by omega)]
 refine AC.wk (QlU 8 (q:=3) (e:=QA) (xs:=Zy n.toNat (l.take k)) rfl rfl) ?_
 rw[Z]
 have c3:(List.replicate n.toNat (-1:Int)).length=n.toNat:=aF ..
 have c0:=WY (n:=n.toNat) (es:=l)
 refine w4 ?_
 obtain ⟨x6,a2⟩:=gx (List.replicate n.toNat (-1)) ((b).toNat)
 refine lc (QB (e:= .int) (z':=0) (Qa rfl) rfl a2 rfl (Evl.ev (Qp rfl)) rfl Yw rfl rfl) ?_
 refine w3 ?_
 refine lc (dBs 4 (e:= .int) Yj) ?_
 refine w7 ?_
 refine QL (fun S T=>∃(k:Nat) (out:List Int) (q:List Int),k≤n.toNat∧S=n.toNat - k∧(HO n.toNat l=bfK (Zy n.toNat l) (n.toNat+1 - k) k (out,q))∧(BI n.toNat l (out,q))∧T=⟨[(6,lf (.val (.slice none 0 0))),(7,lR 5),(8,lf (.dat QaU (Zy n.toNat l))),(11,lR 6),(12,lI (k:Int))],[ar 5 3 .int out,ar 6 3 .int q]⟩) ⟨0,(List.replicate n.toNat (-1)).set ((b).toNat) 0,[b],aS _,rfl,(by rw[Q]; rfl),(by rw[Q]; exact BI.start (by omega)),rfl⟩ ?_ ?_
 exact wp [(5,1),(6,4)] ⟨(Qe (by first | rfl | simp)),(Qe (by first | rfl | simp)),trivial⟩
 rintro S T ⟨k,out,q,b6,b8,hA,U,rfl⟩
 have c2:=U.q_le
 have c1:out.length=n.toNat:=U.len
 refine w7 ?_
 cases C:(decide ((k:Int) < (q.length:Int)))
 have J:=aa C
 refine w7 ?_
 refine Qd<|fo_ hO ?_
 rw[hA,Quu (by omega)]
 have J:=ab C
 refine w9 ?_
 obtain ⟨o,r⟩:=gx q k
 have a6:=U.at_ r
 refine w_ ?_
 refine alI 55 fun _=> ?_
 obtain ⟨ts,s⟩:=gx (Zy n.toNat l) ((o).toNat)
 have c4:=Qcn s
 have F:∀t∈ts,(o,t)∈l:=fun t ht=>by have:=(Qgv V s).1 ht; rwa [show ((o.toNat:Nat):Int)=o by omega] at this
 refine w2 ?_
 refine alL 57 fun _=> ?_
 refine w4 ?_
 refine QL (fun S T=>∃(i:Nat) (a:List Int) (x:List Int),i≤ts.length∧S=ts.length - i∧(HO n.toNat l=bfK (Zy n.toNat l) (n.toNat+1 - (k+1)) (k+1) (bfT o (ts.drop i) (a,x)))∧(BI n.toNat l (a,x))∧(x[k]? =some o)∧T=⟨[(6,lf (.val (.slice none 0 0))),(7,lR 7),(8,lf (.dat QaU (Zy n.toNat l))),(11,lR 8),(12,lI (k:Int)),(45,lI (k:Int)),(47,lI (q.length:Int)),(48,lB true),(51,lf (.dat QaU (Zy n.toNat l))),(53,lI (k:Int)),(55,lI o),(56,lf (.elt QA ts 0)),(57,lf (.dat QA ts)),(58,lI (ts.length:Int)),(59,lI (i:Int))],[ar 7 3 .int a,ar 8 3 .int x]⟩) ⟨0,out,q,aS _,rfl,(hA.trans (Qxl r s (by omega))),U,r,rfl⟩ ?_ ?_
 exact wo [(7,5),(8,6)]
 rintro S T ⟨i,a,x,a3,a5,I,g,y,rfl⟩
 have a8:=g.q_le
 have a7:a.length=n.toNat:=g.len
 have a1:=g.at_ y
 have a0:=(ai.1 y).1
 refine w4 ?_
 cases D:(decide ((i:Int) < (ts.length:Int)))
 have K:=aa D
 refine w7 ?_
 refine Qb<|Q2 ⟨k+1,a,x,by omega,rfl,(by rw[I,Qu9 (by omega)]),g,rfl⟩ (by omega) ?_
 exact wo [(5,7),(6,8)]
 have K:=ab D
 refine w5 ?_
 obtain ⟨u,m⟩:=gx ts i
 obtain ⟨_,h,j⟩:=V _ (F _ (ah m))
 have h:0≤u:=h
 have j:u < (n.toNat:Int):=j
 refine w2 ?_
 refine alI 62 fun _=> ?_
 refine w6 ?_
 obtain ⟨N,G⟩:=gx a ((u).toNat)
 have W: -1≤N∧N≤(x.length:Int):=g.rng _ (ah G)
 refine w_ ?_
 refine alI 66 fun _=> ?_
 refine w2 ?_
 cases E:(decide (N < 0))
 have L:=aa E
 refine w6 ?_
 refine Qb<|Q2 ⟨i+1,a,x,by omega,rfl,(by (rw[I,QsL m ‹_› ‹_›]; done)),(by exact g),(by exact y),rfl⟩ (by omega) ?_
 exact wo []
 have L:=ab E
 refine w10 ?_
 obtain ⟨B,R⟩:=gx a ((o).toNat)
 have X: -1≤B∧B≤(x.length:Int):=g.rng _ (ah R)
 refine w_ ?_
 refine alI 76 fun _=> ?_
 refine w2 ?_
 refine lc (QB (e:= .int) (z':=B+1) (Qa rfl) rfl G rfl (Qo rfl) rfl Yw rfl rfl) ?_
 refine w4 ?_
 refine lc (dBs 9 (e:= .int) Yj) ?_
 refine lc (dA 10 Y4) ?_
 refine w_ ?_
 refine Qb ?_
 refine w4 ?_
 refine Qb ?_
 refine Q2 ⟨i+1,(a.set ((u).toNat) (B+1)),(x++([u])),by omega,rfl,(by (rw[I,Qub m ‹_› ‹_› ‹_›]; done)),(by exact g.step V a1.2 (F _ (ah m)) ‹_› ‹_› ‹_›),(by (rw[ba a0]; exact y)),rfl⟩ (by omega) ?_
 exact wp [(8,10)] ⟨(Qe (by first | rfl | simp)),(Qe (by first | rfl | simp)),trivial⟩
 have P:=ab O
 refine w5 ?_
 obtain ⟨e,H⟩:=gx l k
 refine w2 ?_
 refine lc (xal 11 (.pr .int .int) QdD) ?_
 refine w2 ?_
 have Y:=V _ (ah H)
 have b9:=WY (n:=n.toNat) (es:=l.take k)
 obtain ⟨⟨b2,b3⟩,b4,b5⟩:=Y
 obtain ⟨ys,A⟩:=gx (Zy n.toNat (l.take k)) e.1.toNat
 have c5:=Qcn A
 have a4:(l.take k).length≤l.length:=by simp only[ap]; omega
 have z:=Qrr A
 have M:e.1.toNat*1+0 < (Zk QA (Zy n.toNat (l.take k))).length:=by rw[V1]; show e.1.toNat*1+0 < (Zy n.toNat (l.take k)).length*1; omega
 refine AC.wk (Qdu (q:=3) rfl (by omega))<|AC.wk (Hd 12 (q:=3) (p:=e.1.toNat*1+0) (E':=3) (e':= .int) (ys:=ys) rfl (z) (Fresh.of rfl) (aI rfl)) ?_
 apply dV (i6 26 _ _ _ _ _ _ (io 32 (lf (.ept 3 1 ((e.1).toNat) 0)) :: io 33 (lR 12) :: i2 34 _ _ [⟨some 36,lR 13,[ar 13 3 .int ([e.2])]⟩,⟨some 37,lR 14,[ar 14 3 .int (ys++([e.2])),(12,none),(13,none)]⟩,io 38 (lf (.ept 3 1 ((e.1).toNat) 0)),⟨none,lf (.val undef),[(3,some (.obx 32 1 ((Zy n.toNat (l.take k)).length) (Zk QA (Zy n.toNat (l.take k))) [((e.1).toNat*1+0, .ref 14),(e.1.toNat*1+0, .ref 12)]))]⟩])) [0,1,1,7,15,15,7,7,255,255,255,7,0,0]
 refine z6 ?_
 refine zz (fun _ d=>ac (YV (d.v rfl) (d.en 3 rfl) (d.v rfl) V9 X3 rfl (by omega) (by omega)) rfl) ?_
 refine zz (fun _ d=>ac (KG (d.v rfl) (d.n 3 rfl) (show (ovr _ _)[e.1.toNat*1+0]? =some (.ref 12) from by simp only[ovr,bE,az,M,z,dM,if_true,if_false,↓reduceIte]) (d.n 12 rfl) X3 rfl) rfl) ?_
 refine z2 ?_
 refine zz (fun _ d=>ac (dBs 13 (e:= .int) Yj) rfl) ?_
 refine zz (fun _ d=>ac (dA 14 Y4) rfl) ?_
 refine zz (fun _ d=>ac (YV (d.v rfl) (d.en 3 rfl) (d.v rfl) V9 X3 rfl (by omega) (by omega)) rfl) ?_
 refine zz (fun _ d=>ac (UA (t:=12) (d.v rfl) (d.n 3 rfl) (show (ovr _ _)[e.1.toNat*1+0]? =some (.ref 12) from by simp only[ovr,bE,az,M,z,dM,if_true,if_false,↓reduceIte]) (d.v rfl) (d.n 14 rfl) X3) rfl) ?_
 exact zN
 refine w_ ?_
 refine AC.wk (QaJ (q:=3) (t:=14) (p:=e.1.toNat*1+0) rfl (by simp only[ovr,bE,az,M,z,dM,if_true,if_false,↓reduceIte]) rfl) ?_
 refine AC.wk (Qa9 (q:=3) (e:=QA) ((Zy n.toNat (l.take k)).set e.1.toNat (ys++[e.2])) rfl (by simp only[az]) (by simp only[ovr,dl]; exact Qey A)) ?_
 refine w3 ?_
 refine Qb ?_
 refine l0_ ?_
 exact wp [] ⟨rfl,(Qe (Qe7 H A)),trivial⟩
end Go.Proofs.YtgpdhgadmjfokaaGreat
