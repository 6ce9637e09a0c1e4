/- Walks over abstract states: arcs of state graphs. -/
import Derived.Test.YtndabgcpnmeeoaaGreatPWv
import Derived.Test.YtndabgcpnmeeoaaGreatPAk
import Derived.Laws.Bits64b
set_option linter.unusedSimpArgs false
set_option linter.unusedVariables false
set_option linter.unusedSectionVars false
namespace Go.Proofs.YtndabgcpnmeeoaaGreat
set_option maxHeartbeats 4000000
set_option maxRecDepth 100000
open Go.RowKit
set_option maxRecDepth 100000
set_option maxHeartbeats 4000000
def Qft (c:DSg)(i:Int):ByteArray:=(c.2.1[i.toNat]?).getD ByteArray.empty
def XI (c:DSg)(a:DAr):Prop:=(0≤a.1∧a.1≤(c.2.1.length:Int) - 1)∧(0≤a.2.2.2∧a.2.2.2≤(c.2.1.length:Int) - 1)∧U7 (c.1.length:Int) (a.2.1,a.2.2.1)∧Fit a (Qft c a.1) (Qft c a.2.2.2)
instance (c:DSg) (a:DAr):Decidable (XI c a):=inferInstanceAs (Decidable (_∧_))
section
variable {c:DSg}{a:DAr}{x y b code:ByteArray}{n sig p:Int}{j k m:Nat}
theorem Vn (h:c.2.1[p.toNat]? =some x):Qft c p=x:=by unfold Qft; rw[h]; rfl
theorem Kq (m:ByteArray)(p:Int):bAt m p=(m.toList[p.toNat]?).getD 0:=by
 unfold bAt
 rw[bw]
 by_cases h:p.toNat < m.size
 ·rw[dr m p.toNat h,ae (by simpa using h)]
  rfl
 ·rw[getElem?_neg m p.toNat h,bG (by simpa using h)]
theorem QiJ (g:x.size=y.size)(h:∀j:Nat,j < x.size→bAt x (j:Int)=bAt y (j:Int)):x=y:=by
 have e:x.toList=y.toList:=bV fun j=>by
  by_cases d:j < x.size
  ·have h1:=h j d
   rw[Kq,Kq] at h1
   have h2:j < x.toList.length:=by rw[XO]; exact d
   have h3:j < y.toList.length:=by rw[XO,← g]; exact d
   have f:((j:Int)).toNat=j:=rfl
   rw[f,ae h2,ae h3] at h1
   rw[ae h2,ae h3]
   exact congrArg some h1
  ·rw[bG (by rw[XO]; omega),bG (by rw[XO]; omega)]
 rw[bw,bw] at e
 exact ByteArray.ext (Array.toList_inj.1 e)
theorem Qip (code:ByteArray)(sig:Int)(b:ByteArray):(QcF code sig b).toList=code.toList.take sig.toNat++(b.toList++code.toList.drop (sig+1).toNat):=by
 have h:code.data.size=code.size:=rfl
 simp only[QcF,bw,ByteArray.data_append,ByteArray.data_extract,Array.toList_append,Array.toList_extract,aO]
 simp[h,List.extract_eq_take_drop]
 rw[bj (by simp[h])]
theorem Qiq (h0:0≤sig)(h1:sig < code.size)(d:b.size=1):(QcF code sig b).size=code.size:=by
 rw[← XO,Qip]
 simp only[aj,ao,bh,XO,d]
 omega
theorem QpI (h0:0≤sig)(h1:sig < code.size)(g:b.size=1)(i:j < code.size):bAt (QcF code sig b) (j:Int)=if (j:Int)=sig then bAt b 0 else bAt code (j:Int):=by
 rw[Kq,Qip,Kq,Kq]
 have l:=XO code
 have f:=XO b
 have d:((j:Int)).toNat=j:=rfl
 rw[d]
 by_cases e:(j:Int)=sig
 ·rw[if_pos e,bd (by rw[ao]; omega),bo (by rw[ao]; omega)]
  rw[show j - (code.toList.take sig.toNat).length=((0:Int)).toNat by rw[ao]; show _=0; omega]
 ·rw[if_neg e]
  by_cases h:(j:Int) < sig
  ·rw[bo (by rw[ao]; omega),bc,if_pos (by omega)]
  ·rw[bd (by rw[ao]; omega),bd (by rw[ao]; omega),co]
   congr 2
   rw[ao]
   omega
theorem Qev (h:Xc x n)(e:j < x.size):bAt x (j:Int)=48∨bAt x (j:Int)=49:=by
 have h2:j < x.toList.length:=by rw[XO]; exact e
 rw[Kq]
 have d:((j:Int)).toNat=j:=rfl
 rw[d,ae h2]
 exact h.1 _ (cP h2)
theorem QiM (b:Bool):bAt (Xo b) 0=if b=true then 49 else 48:=by cases b <;> rfl
theorem WR (b:Bool):(Xo b).size=1:=rfl
theorem Qeu {c:UInt8}{b:Bool}(h:c=48∨c=49):decide (c=49)=b↔c=if b=true then 49 else 48:=by
 rcases h with rfl | rfl <;> cases b <;> decide
theorem Quz (hx:Xc x n)(hy:Xc y n)(f:a.2.1 < 0):Fit a x y↔x=y:=by
 have d:x.size=y.size:=by have:=hx.2; have:=hy.2; omega
 constructor
 ·intro h
  refine QiJ d fun j e=> ?_
  have:=h j e
  unfold Xm at this
  rwa [if_neg (by omega)] at this
 ·rintro rfl j e
  unfold Xm
  rw[if_neg (by omega)]
theorem Qo3 (hx:Xc x n)(hy:Xc y n)(s:¬a.2.1 < 0)(r:a.2.1 < n):Fit a x y↔x=QcF y a.2.1 (Xo (!a.2.2.1))∧y=QcF x a.2.1 (Xo a.2.2.1):=by
 have o:=hx.2
 have q:=hy.2
 have t:=Qiq (code:=y) (sig:=a.2.1) (b:=Xo (!a.2.2.1)) (by omega) (by omega) (WR _)
 have z2:=Qiq (code:=x) (sig:=a.2.1) (b:=Xo a.2.2.1) (by omega) (by omega) (WR _)
 have f:=fun (j:Nat) d=>QpI (j:=j) (code:=y) (sig:=a.2.1) (b:=Xo (!a.2.2.1)) (by omega) (by omega) (WR _) d
 have g:=fun (j:Nat) d=>QpI (j:=j) (code:=x) (sig:=a.2.1) (b:=Xo a.2.2.1) (by omega) (by omega) (WR _) d
 constructor
 ·intro h
  constructor
  ·refine QiJ (by omega) fun j d=> ?_
   rw[f j (by omega),QiM]
   have h1:=h j d
   unfold Xm at h1
   split
   ·rename_i e
    rw[if_pos e] at h1
    exact (Qeu (Qev hx d)).1 h1.1
   ·rename_i e
    rwa [if_neg e] at h1
  ·refine QiJ (by omega) fun j d=> ?_
   rw[g j (by omega),QiM]
   have h1:=h j (by omega)
   unfold Xm at h1
   split
   ·rename_i e
    rw[if_pos e] at h1
    exact (Qeu (Qev hy d)).1 h1.2
   ·rename_i e
    rw[if_neg e] at h1
    exact h1.symm
 ·rintro ⟨i,l⟩ j d
  have h1:=f j (by omega)
  have h2:=g j d
  rw[← i,QiM] at h1
  rw[← l,QiM] at h2
  unfold Xm
  split
  ·rename_i e
   rw[if_pos e] at h1 h2
   exact ⟨(Qeu (Qev hx d)).2 h1,(Qeu (Qev hy (by omega))).2 h2⟩
  ·rename_i e
   rwa [if_neg e] at h1
theorem Qt1 (h:¬(0≤a.1∧a.1≤(c.2.1.length:Int) - 1)):false=decide (XI c a):=(aB fun g=>h g.1).symm
theorem Qt2 (h:¬(0≤a.2.2.2∧a.2.2.2≤(c.2.1.length:Int) - 1)):false=decide (XI c a):=(aB fun g=>h g.2.1).symm
theorem Qt3 (h:¬U7 (c.1.length:Int) (a.2.1,a.2.2.1)):false=decide (XI c a):=(aB fun g=>h g.2.2.1).symm
theorem Qn3 (h3:U7 (c.1.length:Int) (a.2.1,a.2.2.1))(d:¬a.2.1 < 0):a.2.1 < (c.1.length:Int):=by
 rcases h3 with h | h
 ·have h:0≤a.2.1∧a.2.1≤(c.1.length:Int) - 1:=h; omega
 ·have h:a.2.1= -1:=h.1; omega
section
variable (h1:0≤a.1∧a.1≤(c.2.1.length:Int) - 1)(h2:0≤a.2.2.2∧a.2.2.2≤(c.2.1.length:Int) - 1)(h3:U7 (c.1.length:Int) (a.2.1,a.2.2.1))(hx:c.2.1[a.1.toNat]? =some x)(hy:c.2.1[a.2.2.2.toNat]? =some y)
include h1 h2 h3 hx hy
theorem QiH:XI c a↔Fit a x y:=by
 unfold XI
 rw[Vn hx,Vn hy]
 exact ⟨fun g=>g.2.2.2,fun g=>⟨h1,h2,h3,g⟩⟩
theorem Qt0 (d:∀x∈c.2.1,Xc x (c.1.length:Int))(e:a.2.1 < 0):decide (x=y)=decide (XI c a):=cN.2 (by rw[QiH h1 h2 h3 hx hy,Quz (d x (ah hx)) (d y (ah hy)) e])
theorem QrS (d:∀x∈c.2.1,Xc x (c.1.length:Int))(e:¬a.2.1 < 0)(h:¬x=QcF y a.2.1 (Xo (!a.2.2.1))):false=decide (XI c a):=(aB fun g=>by
 rw[QiH h1 h2 h3 hx hy,Qo3 (d x (ah hx)) (d y (ah hy)) e (Qn3 h3 e)] at g
 exact h g.1).symm
theorem QrT (d:∀x∈c.2.1,Xc x (c.1.length:Int))(e:¬a.2.1 < 0)(h:x=QcF y a.2.1 (Xo (!a.2.2.1))):decide (y=QcF x a.2.1 (Xo a.2.2.1))=decide (XI c a):=cN.2 (by
 rw[QiH h1 h2 h3 hx hy,Qo3 (d x (ah hx)) (d y (ah hy)) e (Qn3 h3 e)]
 exact ⟨fun g=>⟨h,g⟩,fun g=>g.2⟩)
end
end
theorem Qhb (c:Zi)(a:Qfy)(f:∀x∈c.2.1,Xc x (c.1.length:Int))(F:c.1.length≤1000):FC Tryz.prog 217 [(true,[.dat Ql c.1, .dat Qo c.2.1, .dat Qw c.2.2]),(true,[dI a.1,dI a.2.1,dB a.2.2.1,dI a.2.2.2])] [] 0 (QY (lB (decide (XI c a)))):=by
 refine Qv Tryz.func217 rfl rfl Tryz.ntmps217 fun I l H C J E D=> ?_
 refine acG 1 0 fun _=> ?_
 refine acG 1 1 fun _=> ?_
 refine acG 1 3 fun _=> ?_
 refine w_ ?_
 refine xbx 0 ?_
 refine xbx 1 ?_
 refine w8 ?_
 refine alL 10 fun _=> ?_
 refine w2 ?_
 refine lc (dK (XG a.1 0 ((c.2.1.length:Int) - 1)) WU) ?_
 refine w2 ?_
 cases o:(decide (0≤a.1∧a.1≤((c.2.1.length:Int) - 1)))
 have q:=aa o
 refine w16 ?_
 refine w10 ?_
 refine Qd<|fqB l ?_
 exact Qt1 ‹_›
 have q:=ab o
 refine w4 ?_
 refine alL 19 fun _=> ?_
 refine w2 ?_
 refine lgy rfl rfl (dK (XG a.2.2.2 0 ((c.2.1.length:Int) - 1)) WU) ?_
 refine w3 ?_
 cases r:(decide (0≤a.2.2.2∧a.2.2.2≤((c.2.1.length:Int) - 1)))
 have s:=aa r
 refine w16 ?_
 refine Qd<|fqB l ?_
 exact Qt2 ‹_›
 have s:=ab r
 refine w4 ?_
 refine lgy rfl rfl (Qi VB ⟨_,_,rfl,(Qk rfl),⟨_,_,rfl,(Qk rfl),rfl⟩⟩ (ak.1 rfl) rfl rfl) ?_
 refine w2 ?_
 refine alL 32 fun _=> ?_
 refine w_ ?_
 refine lgy rfl rfl (dK (Qej (a.2.1,a.2.2.1) (c.1.length:Int) (by omega)) QmO) ?_
 refine w3 ?_
 cases t:(decide (U7 (c.1.length:Int) (a.2.1,a.2.2.1)))
 have u:=aa t
 refine w4 ?_
 refine Qd<|fqB l ?_
 exact Qt3 ‹_›
 have u:=ab t
 refine w2 ?_
 obtain ⟨i,w⟩:=gx c.2.1 ((a.1).toNat)
 have A:=(f _ (ah w)).2
 obtain ⟨g,z⟩:=gx c.2.1 ((a.2.2.2).toNat)
 have B:=(f _ (ah z)).2
 apply dW (i9 37 _ _ _ _ _ _ _ _ _ (i3 46 _ _ _ (i2 5 _ _ []))) [0,0,3,3,0,0,63,63,255,255,63,63,4032,0]
 exact y14
 refine w6 ?_
 refine cd_ (fun _ _=> ?_) fun _ _=> ?_
 refine w_ ?_
 have G:=Qn3 (c:=c) (a:=a) ‹_› ‹_›
 cases d:(decide (i=(QcF g a.2.1 (Xo (!a.2.2.1)))))
 have h:=aa d
 apply dW (i7 55 _ _ _ _ _ _ _ (io 62 (lf (dS (Xo (!a.2.2.1)))) :: io 63 (lf (dS (QcF g a.2.1 (Xo (!a.2.2.1))))) :: io 64 (lB false) :: i9 65 _ _ _ _ _ _ _ _ _ (i2 74 _ _ [io 4 _]))) [0,1,3,3,15,15,15,15,1,0,0,0,2048,6144,6144,30720,30720,30720,2048,0,0,0]
 refine z7 ?_
 refine zz (fun _ e=>ac (dK (XQ (!a.2.2.1)) Un) rfl) ?_
 refine zz (fun _ e=>ac (dK (Kf g a.2.1 (Xo (!a.2.2.1)) (by omega) ⟨by omega,by rw[WR]; decide⟩) Qa0) rfl) ?_
 refine zz (fun _ e=>ac (QH (d) (V0 (e.v rfl) (e.v rfl) rfl)) rfl) ?_
 exact y12
 refine Qd<|fqB l ?_
 exact QrS ‹_› ‹_› ‹_› (x:=i) (y:=g) ‹_› ‹_› f ‹_› ‹_›
 have h:=ab d
 apply dW (i7 55 _ _ _ _ _ _ _ (io 62 (lf (dS (Xo (!a.2.2.1)))) :: io 63 (lf (dS (QcF g a.2.1 (Xo (!a.2.2.1))))) :: io 64 (lB true) :: i7 65 _ _ _ _ _ _ _ (io 72 (lf (dS (Xo a.2.2.1))) :: io 73 (lf (dS (QcF i a.2.1 (Xo a.2.2.1)))) :: i2 74 _ _ [io 4 _]))) [0,1,3,3,15,15,15,15,1,0,0,0,2048,6144,6144,30720,30720,30720,2048,0,0,0]
 refine z7 ?_
 refine zz (fun _ e=>ac (dK (XQ (!a.2.2.1)) Un) rfl) ?_
 refine zz (fun _ e=>ac (dK (Kf g a.2.1 (Xo (!a.2.2.1)) (by omega) ⟨by omega,by rw[WR]; decide⟩) Qa0) rfl) ?_
 refine zz (fun _ e=>ac (QH (d) (V0 (e.v rfl) (e.v rfl) rfl)) rfl) ?_
 refine z7 ?_
 refine zz (fun _ e=>day rfl (e.k rfl) (dK (XQ a.2.2.1) Un) rfl) ?_
 refine zz (fun _ e=>day rfl (e.k rfl) (dK (Kf i a.2.1 (Xo a.2.2.1) (by omega) ⟨by omega,by rw[WR]; decide⟩) Qa0) rfl) ?_
 exact y3
 refine Qd<|fqB l ?_
 exact QrT ‹_› ‹_› ‹_› (x:=i) (y:=g) ‹_› ‹_› f ‹_› ‹_›
 refine w6 ?_
 refine Qd<|fqB l ?_
 exact Qt0 ‹_› ‹_› ‹_› (x:=i) (y:=g) ‹_› ‹_› f ‹_›
end Go.Proofs.YtndabgcpnmeeoaaGreat
namespace Go.Proofs.YtndabgcpnmeeoaaGreat
set_option maxHeartbeats 4000000
set_option maxRecDepth 100000
open Go.RowKit
set_option maxRecDepth 100000
set_option maxHeartbeats 4000000
inductive Rch (es:List (Int×Int)):Int→Prop
  | zero:Rch es 0
  | step {u v:Int}:Rch es u→(u,v)∈es→Rch es v
def Z2 (rs:List DAr):List (Int×Int):=rs.map fun a=>(a.1,a.2.2.2)
def InE (n:Nat)(e:Int×Int):Prop:=(0≤e.1∧e.1 < n)∧0≤e.2∧e.2 < n
def QdX (n:Nat)(es:List (Int×Int)):Prop:=∀k:Nat,k < n→Rch es k
def Vw (e:Int×Int)(m:List Bool):List Bool:=if m[e.1.toNat]? =some true then m.set e.2.toNat true else m
def XL:List (Int×Int)→List Bool→List Bool
 | [],m=>m
 | e :: es,m=>XL es (Vw e m)
def XK (es:List (Int×Int)):Nat→List Bool→List Bool
 | 0,m=>m
 | f+1,m=>XK es f (XL es m)
section
variable {es:List (Int×Int)}{e:Int×Int}{m:List Bool}{n f i k:Nat}{rs:List DAr}{a:DAr}{b:Bool}
theorem Qit:(Vw e m).length=m.length:=by unfold Vw; split <;> simp
theorem QqL:(XL es m).length=m.length:=by
 induction es generalizing m with
 | nil=>rfl
 | cons e es c=>rw[XL,c,Qit]
theorem QgS (h:m[i]? =some true):(Vw e m)[i]? =some true:=by
 unfold Vw
 split
 ·by_cases c:e.2.toNat=i
  ·rw[c,aM (ai.1 h).1]
  ·rw[aX c]; exact h
 ·exact h
theorem QgG (h:m[i]? =some true):(XL es m)[i]? =some true:=by
 induction es generalizing m with
 | nil=>exact h
 | cons e es c=>rw[XL]; exact c (QgS h)
theorem QqK (c:e∈es)(h:m[e.1.toNat]? =some true)(g:e.2.toNat < m.length):(XL es m)[e.2.toNat]? =some true:=by
 induction es generalizing m with
 | nil=>cases c
 | cons d es j=>
  rw[XL]
  rcases aK.1 c with rfl | c
  ·refine QgG ?_
   unfold Vw
   rw[if_pos h,aM g]
  ·exact j c (QgS h) (by rw[Qit]; exact g)
def Qd3 (m:List Bool):Nat:=(m.filter fun b=> !b).length
theorem Qkx (h:m[i]? =some false):Qd3 (m.set i true)+1=Qd3 m:=by
 induction m generalizing i with
 | nil=>simp at h
 | cons x l c=>
  cases i with
  | zero=>
   simp only[bk,bi] at h
   subst h
   simp[Qd3]
  | succ i=>
   have:=c (i:=i) (by simpa using h)
   simp only[Qd3,cG,List.filter_cons] at this ⊢
   split <;> simp_all
theorem QqZ {α:Type _}{vs:List α}{i:Nat}{c:α}(h:vs[i]? =some c):vs.set i c=vs:=by
 apply bV
 intro j
 by_cases e:i=j
 ·subst e; rw[aM (ai.1 h).1,h]
 ·rw[aX e]
theorem Qq5:Vw e m=m∨Qd3 (Vw e m) < Qd3 m:=by
 unfold Vw
 split
 ·cases h:m[e.2.toNat]? with
  | none=>left; rw[List.set_eq_of_length_le]; rwa [List.getElem?_eq_none_iff] at h
  | some b=>
   cases b with
   | true=>left; exact QqZ h
   | false=>right; have:=Qkx h; omega
 ·exact .inl rfl
theorem QqJ:XL es m=m∨Qd3 (XL es m) < Qd3 m:=by
 induction es generalizing m with
 | nil=>exact .inl rfl
 | cons e es d=>
  rw[XL]
  rcases Qq5 (e:=e) (m:=m) with h | h
  ·rw[h]; exact d
  ·rcases d (m:=Vw e m) with c | c
   ·rw[c]; exact .inr h
   ·exact .inr (Nat.lt_trans c h)
theorem Qh2 (h:XL es m=m):∀f,XK es f m=m
 | 0=>rfl
 | f+1=>by rw[XK,h]; exact Qh2 h f
theorem Qje (h:Qd3 m < f):XL es (XK es f m)=XK es f m:=by
 induction f generalizing m with
 | zero=>omega
 | succ f d=>
  rw[XK]
  rcases QqJ (es:=es) (m:=m) with c | c
  ·rw[c,Qh2 c,c]
  ·exact d (by omega)
theorem QnU (h:m[i]? =some true):(XK es f m)[i]? =some true:=by
 induction f generalizing m with
 | zero=>exact h
 | succ f c=>rw[XK]; exact c (QgG h)
theorem Qdo:(XK es f m).length=m.length:=by
 induction f generalizing m with
 | zero=>rfl
 | succ f c=>rw[XK,c,QqL]
def m0 (n:Nat):List Bool:=(List.replicate n false).set 0 true
theorem Qv8 (h:1≤n):Qd3 (m0 n) < n:=by
 have c:(List.replicate n false)[0]? =some false:=by rw[bS,if_pos (by omega)]
 have:=Qkx c
 have d:Qd3 (List.replicate n false)=n:=by simp[Qd3]
 unfold m0
 omega
theorem Qlx (l:(e.1,e.2)∈es)(o:InE n e)(h:∀k:Nat,m[k]? =some true→Rch es k):∀k:Nat,(Vw e m)[k]? =some true→Rch es k:=fun k c=>by
 obtain ⟨⟨p,q⟩,r,s⟩:=o
 unfold Vw at c
 split at c
 ·rename_i j
  by_cases g:e.2.toNat=k
  ·have d:=h _ j
   rw[show ((e.1.toNat:Nat):Int)=e.1 by omega] at d
   rw[show (k:Int)=e.2 by omega]
   exact .step d l
  ·rw[aX g] at c; exact h k c
 ·exact h k c
theorem Qle {c:List (Int×Int)}(d:∀e∈c,e∈es)(j:∀e∈es,InE n e)(h:∀k:Nat,m[k]? =some true→Rch es k):∀k:Nat,(XL c m)[k]? =some true→Rch es k:=by
 induction c generalizing m with
 | nil=>exact h
 | cons e c l=>rw[XL]; exact l (fun e g=>d e (ay _ g)) (Qlx (d e (az ..)) (j e (d e (az ..))) h)
theorem QkV (c:∀e∈es,InE n e)(h:∀k:Nat,m[k]? =some true→Rch es k):∀k:Nat,(XK es f m)[k]? =some true→Rch es k:=by
 induction f generalizing m with
 | zero=>exact h
 | succ f d=>rw[XK]; exact d (Qle (fun _ h=>h) c h)
theorem Qpi (o:1≤n)(l:∀e∈es,InE n e)(k:Nat)(c:k < n):(XK es n (m0 n))[k]? =some true↔Rch es k:=by
 have p:(XK es n (m0 n)).length=n:=by rw[Qdo]; simp[m0]
 constructor
 ·refine QkV l (fun k c=> ?_) k
  unfold m0 at c
  by_cases e:0=k
  ·subst e; exact .zero
  ·rw[aX e,bS] at c
   split at c <;> cases c
 ·intro h
  have d:∀u:Int,Rch es u→0≤u∧u < n∧(XK es n (m0 n))[u.toNat]? =some true:=fun u q=>by
   induction q with
   | zero=>exact ⟨by omega,by omega,QnU (by unfold m0; exact aM (by simp; omega))⟩
   | @step u v _ he ih=>
    obtain ⟨_,g,j⟩:=l _ he
    refine ⟨g,j, ?_⟩
    have g:0≤v:=g
    have j:v < (n:Int):=j
    have:=QqK he ih.2.2 (by rw[p]; show v.toNat < n; omega)
    rwa [Qje (Qv8 o)] at this
  exact (d k h).2.2
theorem QgU {n:Nat}(h:∀a∈rs,InR n a):∀e∈Z2 rs,InE n e:=fun e d=>by
 obtain ⟨a,c,rfl⟩:=bF.1 d
 exact h a c
theorem Qih (c:rs[i]? =some a):XL ((Z2 rs).drop i) m=XL ((Z2 rs).drop (i+1)) (Vw (a.1,a.2.2.2) m):=by
 rw[ZB (x:=(a.1,a.2.2.2)) (by unfold Z2; rw[bf,c]; rfl),XL]
theorem Qiu (h:m[a.1.toNat]? =some b)(c:b=true):Vw (a.1,a.2.2.2) m=m.set a.2.2.2.toNat true:=by unfold Vw; rw[if_pos (by rw[h,c])]
theorem Qlw (h:m[a.1.toNat]? =some b)(c:b=false):Vw (a.1,a.2.2.2) m=m:=by unfold Vw; rw[if_neg (by rw[h,c]; intro h; cases h)]
theorem Qs5 (h:rs.length≤i):XL ((Z2 rs).drop i) m=m:=by rw[bn (by simpa [Z2] using h),XL]
section
variable [Decidable (QdX n es)]
theorem QvC (j:1≤n)(q:∀e∈es,InE n e)(d:XK es n (m0 n)=m)(g:m[k]? =some b)(l:b=false):false=decide (QdX n es):=(aB (p:=QdX n es) fun h=>by
 have o:(XK es n (m0 n)).length=n:=by rw[Qdo]; simp[m0]
 have c:k < n:=by rw[← o,d]; exact (ai.1 g).1
 have:=(Qpi j q k c).2 (h k c)
 rw[d,g,l] at this
 cases this).symm
theorem QtZ (d:1≤n)(o:∀e∈es,InE n e)(c:XK es n (m0 n)=m)(h:∀j,j < k→m[j]? =some true)(q:m.length≤k):true=decide (QdX n es):=(aL (p:=QdX n es) fun j g=>by
 have l:(XK es n (m0 n)).length=n:=by rw[Qdo]; simp[m0]
 rw[c] at l
 exact (Qpi d o j g).1 (by rw[c]; exact h j (by omega))).symm
end
end
theorem QsN {m:List Bool}{k:Nat}{b:Bool}(h:∀j,j < k→m[j]? =some true)(d:m[k]? =some b)(c:b=true):∀j,j < k+1→m[j]? =some true:=fun j g=>by
 by_cases e:j=k
 ·rw[e,d,c]
 ·exact h j (by omega)
theorem Qc2 (as_:QcX)(u:as_.length≤1000000):FC Tryz.prog 319 [(false,[.dat Qw as_])] [] 0 (YB 359 (.pr .int .int) (Z2 as_)):=by
 refine Qv Tryz.func319 rfl rfl Tryz.ntmps319 fun s p r j t o l=> ?_
 refine w4 ?_
 refine lc (dBs 0 (e:=(.pr .int .int)) QeU) ?_
 refine w5 ?_
 refine alL 7 fun _=> ?_
 refine w4 ?_
 refine lp0 as_.length (fun k=>⟨[(2,lf (.val (.slice none 0 0))),(3,lR 1),(7,lf (.dat Qw as_)),(8,lI (as_.length:Int)),(9,lI (k:Int))],[ar 1 359 (.pr .int .int) (Z2 (as_.take k))]⟩) ?_ fun k _=> ?_
 exact wp [(1,0)] ⟨(Qe (by first | rfl | simp)),trivial⟩
 have q:(Z2 (as_.take k)).length≤as_.length:=by simp only[Z2,aF,ao]; omega
 refine w4 ?_
 cases c:(decide ((k:Int) < (as_.length:Int)))
 have d:=aa c
 refine w7 ?_
 refine Qd<|fo_ p ?_
 rw[QT (by omega)]
 have d:=ab c
 refine w5 ?_
 obtain ⟨h,g⟩:=gx as_ k
 refine w2 ?_
 refine lc (xal 2 QD QU) ?_
 refine w6 ?_
 refine alI 15 fun _=> ?_
 refine w2 ?_
 refine alI 17 fun _=> ?_
 refine lc (Qi Qub ⟨_,_,rfl,(Qk rfl),⟨_,_,rfl,(Qk rfl),rfl⟩⟩ (ak.1 rfl) rfl rfl) ?_
 refine lc (dBs 3 (e:=(.pr .int .int)) QeU (hab:=by exact ⟨_,_,_,_,rfl,⟨[dI h.1],[dI h.2.2.2],_,_,_,_,rfl,rfl,⟨rfl,rfl⟩,⟨rfl,rfl⟩,rfl⟩,⟨rfl,rfl⟩,rfl⟩)) ?_
 refine lc (dA 4 Qun) ?_
 refine w_ ?_
 refine Qb ?_
 refine w4 ?_
 refine Qb ?_
 refine l0_ ?_
 exact wp [(1,4)] ⟨(Qe (by rw[QO g]; simp[Z2])),trivial⟩
theorem KD (s:List Int)(v:Int):FC Tryz.prog 357 [(false,[.dat Qz s]),(false,[dI v])] [] 0 (QY (lI (Zq (fun y=>decide (v=y)) s))):=by
 refine Qv Tryz.func357 rfl rfl Tryz.ntmps357 fun w o t p x r q=> ?_
 refine acI 1 fun _=> ?_
 refine w6 ?_
 refine alL 6 fun _=> ?_
 refine w4 ?_
 refine lpK s.length (fun k=>NoneTo (fun y=>decide (v=y)) s k) (fun k=>⟨[(0,lf (.dat Qz s)),(1,lI v),(7,lI (s.length:Int)),(8,lI (k:Int))],[]⟩) (NoneTo.zero) ?_ fun k _ c=> ?_
 exact wo []
 refine w4 ?_
 cases d:(decide ((k:Int) < (s.length:Int)))
 have g:=aa d
 refine w6 ?_
 refine Qd<|fqI o ?_
 first | exact (c.no (by omega)).symm
 have g:=ab d
 refine w12 ?_
 obtain ⟨u,l⟩:=gx s k
 refine w2 ?_
 refine alI 15 fun _=> ?_
 refine w2 ?_
 cases h:(decide (v=u))
 have j:=aa h
 refine w6 ?_
 refine Qb ?_
 refine lK_ (c.step l ‹_›) ?_
 exact wo []
 have j:=ab h
 refine w5 ?_
 refine Qd<|fqI o ?_
 exact (c.at l ‹_›).symm
theorem Xs (s:List Int)(v:Int):FC Tryz.prog 237 [(false,[.dat Qz s]),(false,[dI v])] [] 0 (QY (lB (s.any (fun y=>decide (v=y))))):=by
 refine Qv Tryz.func237 rfl rfl Tryz.ntmps237 fun l h j c o g d=> ?_
 refine acI 1 fun _=> ?_
 refine w6 ?_
 refine lc (dK (KD s v) QmQ) ?_
 refine w3 ?_
 refine Qd<|fqB h ?_
 exact Vq _ _
theorem Qha (c:Zi)[Decidable (QdX c.2.1.length (Z2 c.2.2))](M:1≤c.2.1.length∧c.2.1.length≤300)(H:∀a∈c.2.2,InR c.2.1.length a):FC Tryz.prog 218 [(true,[.dat Ql c.1, .dat Qo c.2.1, .dat Qw c.2.2])] [] 0 (QY (lB (decide (QdX c.2.1.length (Z2 c.2.2))))):=by
 have x:=QgU H
 have Z:(List.replicate c.2.1.length (Ty.zero .bool)).length=c.2.1.length:=aA ..
 refine Qv Tryz.func218 rfl rfl Tryz.ntmps218 fun O_ G a0 O X_ Q P=> ?_
 refine w_ ?_
 refine xbx 0 ?_
 refine w5 ?_
 refine alL 9 fun _=> ?_
 refine w_ ?_
 refine lc (XB 1 (e:= .bool) (n:=c.2.1.length) (Qa rfl) (Qa rfl) QjO Qvm rfl (by omega) (by omega) rfl (Fresh.of rfl) (nlr rfl)) ?_
 refine w5 ?_
 obtain ⟨x2,C⟩:=gx (List.replicate c.2.1.length (Ty.zero .bool)) 0
 refine lc (QA (e:= .bool) (z':=true) (Qa rfl) rfl C rfl (Evl.ev Zb) rfl QcK rfl rfl) ?_
 refine w5 ?_
 refine alL 15 fun _=> ?_
 refine w4 ?_
 refine QP (fun z A=>∃(p:Nat) (g:List Bool),p≤c.2.1.length∧z=c.2.1.length - p∧(XK (Z2 c.2.2) c.2.1.length (m0 c.2.1.length)=XK (Z2 c.2.2) (c.2.1.length - p) g)∧(g.length=c.2.1.length)∧A=⟨[(1,lP 0 0),(2,lB false),(3,lR 2),(16,lI (c.2.1.length:Int)),(17,lI (p:Int))],[bx 0 28 [.dat Ql c.1, .dat Qo c.2.1, .dat Qw c.2.2],(2,some (.arr 4 .bool g))]⟩) ⟨0,(List.replicate c.2.1.length (Ty.zero .bool)).set 0 true,aG _,rfl,rfl,(by simp),rfl⟩ ?_ ?_
 exact wp [(2,1)] ⟨rfl,(Qe (by first | rfl | simp)),trivial⟩
 rintro z A ⟨p,g,T,U,B,R,rfl⟩
 refine w4 ?_
 cases t:(decide ((p:Int) < (c.2.1.length:Int)))
 have u:=aa t
 refine w10 ?_
 refine lpK g.length (fun k=>∀j,j < k→g[j]? =some true) (fun k=>⟨[(37,lR 2),(38,lI (g.length:Int)),(39,lI (k:Int))],[(2,some (.arr 4 .bool g))]⟩) ((fun j S=>absurd S (bg j))) ?_ fun k _ F=> ?_
 exact wo []
 refine w4 ?_
 cases v:(decide ((k:Int) < (g.length:Int)))
 have w:=aa v
 refine w6 ?_
 refine Qd<|fqB G ?_
 first | exact QtZ M.1 x (by rw[B,show c.2.1.length - p=0 by omega]; rfl) F (by omega)
 have w:=ab v
 refine w6 ?_
 obtain ⟨D,o⟩:=gx g k
 refine w7 ?_
 cases I:(D)
 refine w4 ?_
 refine Qd<|fqB G ?_
 exact QvC M.1 x (by rw[B,show c.2.1.length - p=0 by omega]; rfl) o ‹_›
 refine w6 ?_
 refine Qb ?_
 refine lK_ ((QsN F o ‹_›)) ?_
 exact wo []
 have u:=ab t
 refine w7 ?_
 refine alL 20 fun _=> ?_
 refine w4 ?_
 refine QP (fun z A=>∃(i:Nat) (d:List Bool),i≤c.2.2.length∧z=c.2.2.length - i∧(XL (Z2 c.2.2) g=XL ((Z2 c.2.2).drop i) d)∧(d.length=c.2.1.length)∧A=⟨[(1,lP 0 0),(2,lB false),(3,lR 3),(16,lI (c.2.1.length:Int)),(17,lI (p:Int)),(18,lB true),(19,lP 0 2),(20,lf (.dat Qw c.2.2)),(21,lI (c.2.2.length:Int)),(22,lI (i:Int))],[bx 0 28 [.dat Ql c.1, .dat Qo c.2.1, .dat Qw c.2.2],(3,some (.arr 4 .bool d))]⟩) ⟨0,g,aG _,rfl,rfl,R,rfl⟩ ?_ ?_
 exact wo [(3,2)]
 rintro z A ⟨i,d,K,L,q,r,rfl⟩
 refine w4 ?_
 cases l:(decide ((i:Int) < (c.2.2.length:Int)))
 have s:=aa l
 refine w6 ?_
 refine Qb<|QW ⟨p+1,d,by omega,rfl,(by rw[B,show c.2.1.length - p=(c.2.1.length - (p+1))+1 by omega,XK,q,Qs5 (by omega)]),r,rfl⟩ (by omega) ?_
 exact wo [(2,3)]
 have s:=ab l
 refine w5 ?_
 obtain ⟨ar,h⟩:=gx c.2.2 i
 obtain ⟨⟨V,W⟩,X,Y⟩:=H _ (ah h)
 refine w2 ?_
 refine lc (xal 4 QD QU) ?_
 refine w6 ?_
 refine alI 28 fun _=> ?_
 refine w_ ?_
 obtain ⟨E,N⟩:=gx d ((ar.1).toNat)
 refine w2 ?_
 cases J:(E)
 refine w6 ?_
 refine Qb<|QW ⟨i+1,d,by omega,rfl,(by rw[q,Qih h]; first | rw[Qiu ‹_› ‹_›] | rw[Qlw ‹_› ‹_›]),(by exact r),rfl⟩ (by omega) ?_
 exact wo []
 refine w5 ?_
 refine alI 33 fun _=> ?_
 refine w_ ?_
 obtain ⟨a1,y⟩:=gx d ((ar.2.2.2).toNat)
 refine lc (QA (e:= .bool) (z':=true) (Qa rfl) rfl y rfl (Evl.ev Zb) rfl QcK rfl rfl)<|Qb ?_
 refine w4 ?_
 refine Qb<|QW ⟨i+1,(d.set ((ar.2.2.2).toNat) true),by omega,rfl,(by rw[q,Qih h]; first | rw[Qiu ‹_› ‹_›] | rw[Qlw ‹_› ‹_›]),(by (rw[ap]; exact r)),rfl⟩ (by omega) ?_
 exact wp [] ⟨rfl,(Qe (by first | rfl | simp)),trivial⟩
end Go.Proofs.YtndabgcpnmeeoaaGreat
namespace Go.Proofs.YtndabgcpnmeeoaaGreat
set_option maxHeartbeats 4000000
set_option maxRecDepth 100000
open Go.RowKit
set_option maxRecDepth 100000
set_option maxHeartbeats 4000000
structure SgOk (c:DSg):Prop where
  sigs:XN c.1
  some_:1≤c.2.1.length∧c.2.1.length≤300
  few:c.2.2.length≤4000
  codes:∀x∈c.2.1,Xc x (c.1.length:Int)
  arcs:∀a∈c.2.2,XI c a
  all:QdX c.2.1.length (Z2 c.2.2)
theorem Yw {α:Type}{p:α→Prop}{l:List α}{k:Nat}{x:α}(h:∀j,j < k→∀x,l[j]? =some x→p x)(f:l[k]? =some x)(d:p x):∀j,j < k+1→∀x,l[j]? =some x→p x:=fun j g y b=>by
 by_cases e:j=k
 ·subst e; rw[f] at b; cases b; exact d
 ·exact h j (by omega) y b
theorem Xq {α:Type}{p:α→Prop}{l:List α}{k:Nat}(h:∀j,j < k→∀x,l[j]? =some x→p x)(e:l.length≤k):∀x∈l,p x:=fun x d=>by
 obtain ⟨j,b⟩:=aN.1 d
 have:=(ai.1 b).1
 exact h j (by omega) x b
theorem XC {c:DSg}{a:DAr}(h:XI c a):InR c.2.1.length a:=by
 obtain ⟨⟨b,e⟩,⟨d,f⟩,_⟩:=h
 exact ⟨⟨b,by omega⟩,d,by omega⟩
section
variable {c:DSg}[Decidable (SgOk c)]{x:ByteArray}{a:DAr}{k i:Nat}
theorem Qtk (h:¬XN c.1):false=decide (SgOk c):=(aB fun g=>h g.sigs).symm
theorem Qtl (h:¬((1:Int)≤(c.2.1.length:Int)∧(c.2.1.length:Int)≤300)):false=decide (SgOk c):=(aB fun g=>h (by have:=g.some_; omega)).symm
theorem Qtm (h:(4000:Int) < (c.2.2.length:Int)):false=decide (SgOk c):=(aB fun g=>by have:=g.few; omega).symm
theorem Qtn (b:c.2.1[k]? =some x)(h:¬Xc x (c.1.length:Int)):false=decide (SgOk c):=(aB fun g=>h (g.codes x (ah b))).symm
theorem QgQ (b:c.2.2[k]? =some a)(h:¬XI c a):false=decide (SgOk c):=(aB fun g=>h (g.arcs a (ah b))).symm
theorem Qtj [Decidable (QdX c.2.1.length (Z2 c.2.2))](b:XN c.1)(f:(1:Int)≤(c.2.1.length:Int)∧(c.2.1.length:Int)≤300)(j:¬(4000:Int) < (c.2.2.length:Int))(d:∀x∈c.2.1,Xc x (c.1.length:Int))(e:∀a∈c.2.2,XI c a):
 decide (QdX c.2.1.length (Z2 c.2.2))=decide (SgOk c):=cN.2 ⟨fun h=>⟨b,by omega,by omega,d,e,h⟩,fun g=>g.all⟩
end
theorem YR (c:Zi)[∀c,Decidable (SgOk c)]:FC Tryz.prog 81 [(true,[.dat Ql c.1, .dat Qo c.2.1, .dat Qw c.2.2])] [] 0 (QY (lB (decide (SgOk c)))):=by
 classical
 refine Qv Tryz.func81 rfl rfl Tryz.ntmps81 fun F n E A G C B=> ?_
 refine w_ ?_
 refine xbx 0 ?_
 refine w6 ?_
 refine lc (dK (Qb9 c.1) Qmk) ?_
 refine w2 ?_
 cases o:(decide (XN c.1))
 have p:=aa o
 refine w16 ?_
 refine w_ ?_
 refine Qd<|fqB n ?_
 exact Qtk ‹_›
 have p:=ab o
 refine w2 ?_
 refine alL 13 fun _=> ?_
 refine w_ ?_
 refine lgy rfl rfl (dK (XG (c.2.1.length:Int) 1 300) WU) ?_
 refine w3 ?_
 cases q:(decide (1≤(c.2.1.length:Int)∧(c.2.1.length:Int)≤300))
 have r:=aa q
 refine w10 ?_
 refine Qd<|fqB n ?_
 exact Qtl ‹_›
 have r:=ab q
 refine w2 ?_
 refine alL 20 fun _=> ?_
 refine w4 ?_
 refine cd_ (fun _ _=> ?_) fun _ _=> ?_
 refine w5 ?_
 refine alL 25 fun _=> ?_
 refine w4 ?_
 refine lpK c.2.1.length (fun k=>∀j,j < k→∀x,c.2.1[j]? =some x→Xc x (c.1.length:Int)) (fun k=>⟨[(1,lP 0 0),(25,lf (.dat Qo c.2.1)),(26,lI (c.2.1.length:Int)),(27,lI (k:Int))],[bx 0 28 [.dat Ql c.1, .dat Qo c.2.1, .dat Qw c.2.2]]⟩) ((fun j z=>absurd z (bg j))) ?_ fun k _ w=> ?_
 exact wo []
 refine w4 ?_
 cases s:(decide ((k:Int) < (c.2.1.length:Int)))
 have t:=aa s
 refine w7 ?_
 refine alL 39 fun _=> ?_
 refine w4 ?_
 refine lpK c.2.2.length (fun i=>∀j,j < i→∀a,c.2.2[j]? =some a→XI c a) (fun i=>⟨[(1,lP 0 0),(39,lf (.dat Qw c.2.2)),(40,lI (c.2.2.length:Int)),(41,lI (i:Int))],[bx 0 28 [.dat Ql c.1, .dat Qo c.2.1, .dat Qw c.2.2]]⟩) ((fun j z=>absurd z (bg j))) ?_ fun i _ y=> ?_
 exact wo []
 refine w4 ?_
 cases b:(decide ((i:Int) < (c.2.2.length:Int)))
 have h:=aa b
 refine w5 ?_
 refine lc (dK (Qha c (by omega) (fun a D=>XC (Xq y (by omega) a D))) Qmn) ?_
 refine w2 ?_
 refine Qd<|fqB n ?_
 exact Qtj ‹_› ‹_› ‹_› (Xq w (by omega)) (Xq y (by omega))
 have h:=ab b
 refine w5 ?_
 obtain ⟨u,f⟩:=gx c.2.2 i
 refine w2 ?_
 refine lc (xal 1 QD QU) ?_
 refine w5 ?_
 refine lc (dK (Qhb c u (Xq w (by omega)) (by have:=(‹XN c.1›).2.2; omega)) Qmm) ?_
 refine w2 ?_
 cases d:(decide (XI c u))
 have l:=aa d
 refine w4 ?_
 refine Qd<|fqB n ?_
 exact QgQ f ‹_›
 have l:=ab d
 refine w6 ?_
 refine Qb ?_
 refine lK_ ((Yw y f ‹_›)) ?_
 exact wo []
 have t:=ab s
 refine w5 ?_
 obtain ⟨v,g⟩:=gx c.2.1 k
 refine w8 ?_
 refine alL 33 fun _=> ?_
 refine w_ ?_
 refine lc (dK (Qgb v (c.1.length:Int)) Qml) ?_
 refine w2 ?_
 cases e:(decide (Xc v (c.1.length:Int)))
 have m:=aa e
 refine w4 ?_
 refine Qd<|fqB n ?_
 exact Qtn g ‹_›
 have m:=ab e
 refine w6 ?_
 refine Qb ?_
 refine lK_ ((Yw w g ‹_›)) ?_
 exact wo []
 refine w3 ?_
 refine Qd<|fqB n ?_
 exact Qtm ‹_›
end Go.Proofs.YtndabgcpnmeeoaaGreat
namespace Go.Proofs.YtndabgcpnmeeoaaGreat
set_option maxHeartbeats 4000000
set_option maxRecDepth 100000
open Go.RowKit
set_option maxRecDepth 100000
set_option maxHeartbeats 4000000
section
variable {A:Amb}{P:Program}{s:St}{x y:Operand}{d:Nat}{T T' ty:TypeId}{pos:String}{af:Array Edge}{g:Option (Nat×Bool)}{n a b:Int}
theorem QlB (h:0≤n∧n≤9223372036854775807):IntKind.u64.wrap n=n:=by
 simp[IntKind.wrap,IntKind.bits,IntKind.signed]
 omega
theorem Qsx (h:0≤n∧n≤9223372036854775807):IntKind.i64.wrap n=n:=IntWalk.i64_in _ (by omega)
theorem Qe8 (c:Evl A s x (dI n))(l:P.underlying T=some (.int .i64))(j:P.underlying T'=some (.int .u64))(h0:0≤n)(k:Nat.blt d A.n=true):
 Does A P ⟨some d, .convert T T' x,ty,pos,af,g⟩ s (s.put d (lf (.val (.int .u64 n)))):=
 Qq rfl k fun f a w r=>by
  have h:=c.i r
  have m:=(LVR.int (c f a w r)).2
  have e:=QlB (n:=n) (by omega)
  refine ⟨.int .u64 n, ?_,_,rfl,rfl⟩
  simp only[execOp,h,convert,run_underlying l,run_underlying j,av,aE,Conv.intToInt,e]
  simp
theorem QlI (k:Evl A s x (.val (.int .u64 n)))(j:P.underlying T=some (.int .u64))(h:P.underlying T'=some (.int .i64))(h0:0≤n∧n≤9223372036854775807)(i:Nat.blt d A.n=true):
 Does A P ⟨some d, .convert T T' x,ty,pos,af,g⟩ s (s.put d (lf (dI n))):=
 Qq rfl i fun e a w r=>by
  have f:a.eval x= .int .u64 n:=k e a w r
  have c:=Qsx h0
  refine ⟨.int .i64 n, ?_,_,rfl,Yb (by omega)⟩
  simp only[execOp,f,convert,run_underlying j,run_underlying h,av,aE,Conv.intToInt,c]
  simp
theorem Qhv (j:Evl A s x (.val (.int .u64 a)))(k:Evl A s y (.val (.int .u64 b)))(i:Nat.blt d A.n=true):Does A P ⟨some d, .binOp .gtr T x y T',ty,pos,af,g⟩ s (s.put d (lf (dB (decide (b < a))))):=
 Qq rfl i fun e c w r=>by
  have f:c.eval x= .int .u64 a:=j e c w r
  have h:c.eval y= .int .u64 b:=k e c w r
  refine ⟨.bool (decide (b < a)), ?_,_,rfl,Z5⟩
  simp only[execOp,f,h,eqGuard_at_int,binOp,Op.intCmp]
  simp
end
theorem QrP (n:Nat)(c:n≤1000000):bits BinOp.and IntKind.u64 (n:Int) 4294967295=n:=by
 have h:=bits_and_u64_nat n 4294967295 (by omega) (by decide)
 rw[show ((4294967295:Nat):Int)=4294967295 from rfl] at h
 rw[h,show (4294967295:Nat)=2 ^ 32 - 1 from rfl,Nat.and_two_pow_sub_one_eq_mod,cy (by omega)]
theorem QtQ (n:Nat)(w:World)(c:n≤1000000):Calls Tryz.prog 440 #[.int .u64 1, .int .u64 n] w fun e w'=>e= .returned (.tuple #[.int .u64 0, .int .u64 n])∧w'=w:=by
 have f:bits BinOp.and IntKind.u64 1 4294967295=1:=by decide
 have h:=QrP n c
 have i:(n:Int) / 4294967296=0:=by omega
 have j:=QlB (n:=n) (by omega)
 have k:IntKind.u64.wrap 0=0:=by decide
 have l:bits BinOp.and IntKind.u64 0 4294967295=0:=by decide
 go_enter Tryz.func440,Tryz.ntmps440
 go_wp2
 go_ret2
 exact ⟨rfl,rfl⟩
theorem QvS (a n:Int)(k:a=1)(u:0≤n∧n≤1000000):FC Tryz.prog 440 [(false,[.val (.int .u64 a)]),(false,[.val (.int .u64 n)])] [] 0 (QY (.tup [(false,[.val (.int .u64 0)]),(false,[.val (.int .u64 n)])])):=QlJ fun t w B h=>by
 obtain ⟨o,q,rfl,⟨v,i,c⟩,p,r,rfl,⟨z,j,f⟩,rfl⟩:=h
 simp only[aC,and_true] at i j
 subst i j k
 have c:o= .int .u64 1:=c
 have f:p= .int .u64 n:=f
 subst c f
 obtain ⟨m,rfl⟩:∃m:Nat,n=m:=⟨n.toNat,by omega⟩
 refine Calls.mono (QtQ m w (by omega)) fun e C l=> ?_
 obtain ⟨rfl,rfl⟩:=l
 exact ⟨_,rfl,Qr _,[.int .u64 0, .int .u64 m],rfl,_,_,rfl,⟨_,rfl,rfl⟩,_,_,rfl,⟨_,rfl,rfl⟩,rfl⟩
theorem QpF {v:Int}{m k:Nat}:cpy (List.replicate m v++List.replicate k (0:Int)) m k ((((List.replicate m v++List.replicate k (0:Int))).take (0+m)).drop 0)=List.replicate (m+min m k) v++List.replicate (k - min m k) 0:=by
 have c:(List.replicate m v++List.replicate k (0:Int)).take m=List.replicate m v:=List.take_left' (by simp)
 have e:(List.replicate m v++List.replicate k (0:Int)).drop (m+min m k)=List.replicate (k - min m k) 0:=by
  rw[List.drop_append,aA,bn (by simp),cE,List.drop_replicate]
  congr 1
  omega
 rw[cpy,bX,List.drop_zero,c,aA,e,List.take_replicate,cu (Nat.min_le_left _ _),List.replicate_append_replicate]
theorem QqW {n v:Int}(f:0≤n):cpy (List.replicate n.toNat (Ty.zero .int)) 0 (List.replicate n.toNat (Ty.zero .int)).length [v]=List.replicate (((min [v].length (List.replicate n.toNat (Ty.zero .int)).length:Nat):Int)).toNat v++List.replicate (n.toNat - (((min [v].length (List.replicate n.toNat (Ty.zero .int)).length:Nat):Int)).toNat) 0:=by
 have h:=QpF (v:=v) (m:=0) (k:=n.toNat)
 have e:(Ty.zero .int:Int)=0:=rfl
 cases c:n.toNat with
 | zero=>simp[cpy]
 | succ k=>simp[cpy,e,List.replicate_succ]
theorem QqV {n m v:Int}{l:List Int}(h0:0≤m)(h:m≤n)(f:l=List.replicate m.toNat v++List.replicate (n.toNat - m.toNat) 0)(e:l.length=n.toNat):
 cpy l m.toNat (l.length - m.toNat) ((l.take (0+m.toNat)).drop 0)=List.replicate (m+((min ((l.take (0+m.toNat)).drop 0).length (l.length - m.toNat):Nat):Int)).toNat v++List.replicate (n.toNat - (m+((min ((l.take (0+m.toNat)).drop 0).length (l.length - m.toNat):Nat):Int)).toNat) 0:=by
 have c:((l.take (0+m.toNat)).drop 0).length=m.toNat:=by simp[e]; omega
 rw[c,e]
 rw[f,QpF]
 congr 2 <;> omega
theorem Kc (s:List Int)(n:Int)(v:Int)(u:s=[v])(F:0≤n∧n≤1000000):FC Tryz.prog 324 [(false,[.dat Qz s]),(false,[dI n])] [] 0 (YB 3 .int (List.replicate n.toNat v)):=by
 have w:(s.length:Int)=1:=by rw[u]; rfl
 have q:decide (n < 0)=false:=aB (by omega)
 have p:decide ((9223372036854775807:Int) < n)=false:=aB (by omega)
 have r:(List.replicate n.toNat (Ty.zero .int)).length=n.toNat:=aA ..
 refine Qv Tryz.func324 rfl rfl Tryz.ntmps324 fun O L N I Q K J=> ?_
 refine acI 1 fun _=> ?_
 refine w8 ?_
 cases f:(decide (n < 0))
 have z:=aa f
 refine w4 ?_
 refine alL 13 fun _=> ?_
 refine w_ ?_
 refine lc (Qe8 (Qa rfl) Qiz QjP (by omega) rfl) ?_
 refine w_ ?_
 refine lc (Qe8 (Qa rfl) Qiz QjP (by omega) rfl) ?_
 refine lc (dK (QvS (s.length:Int) n w F) Qm9) ?_
 refine w9 ?_
 refine lc (Qhv (Qa rfl) Evl.val rfl) ?_
 refine w_ ?_
 cases i:(decide ((0:Int) < (0:Int)))
 have B:=aa i
 refine w_ ?_
 refine lgy rfl rfl (Qhv (Qa rfl) Evl.val rfl) ?_
 refine w2 ?_
 cases j:(decide ((9223372036854775807:Int) < n))
 have C:=aa j
 refine w4 ?_
 refine lc (QlI (Qa rfl) QjP Qiz (by omega) rfl)<|lc (QaM 0 (e:= .int) (n:=n) (Qa rfl) (Qa rfl) Z6 Qpn rfl (by omega) (by omega) (by omega) rfl (Fresh.of rfl) (nlr rfl)) ?_
 refine w5 ?_
 refine lc (Qe0 (e:= .int) (xs:=List.replicate (n).toNat (Ty.zero .int)) (lo:=0) (n:=(List.replicate (n).toNat (Ty.zero .int)).length) (ys:=s) (Qrr (Qa rfl) rfl) rfl (by omega) (Evl.rep (Qa rfl)) rfl rfl Z6 Qpn rfl) ?_
 refine w4 ?_
 refine QP (fun G H=>∃(m:Int) (l:List Int),G=(n - m).toNat∧(0≤m∧m≤n∧(0 < n→0 < m))∧(l=List.replicate m.toNat v++List.replicate (n.toNat - m.toNat) 0)∧(l.length=n.toNat)∧H=⟨[(4,lf (.val (.slice none 0 0))),(7,lR 1),(8,lI m)],[ar 1 3 .int l]⟩) ⟨((min s.length ((List.replicate (n).toNat (Ty.zero .int)).length):Nat):Int),cpy (List.replicate (n).toNat (Ty.zero .int)) 0 ((List.replicate (n).toNat (Ty.zero .int)).length) s,rfl,(by rw[r,u]; simp; omega),(by rw[u]; exact QqW F.1),(by rw[QiV (by omega)]; exact r),rfl⟩ ?_ ?_
 exact wp [(1,0)] ⟨(Qe (by first | rfl | simp)),trivial⟩
 rintro G H ⟨m,l,M,E,D,t,rfl⟩
 refine w7 ?_
 cases k:(decide (m < (l.length:Int)))
 have o:=aa k
 refine w7 ?_
 refine Qd<|fo_ L ?_
 rw[D,show n.toNat - m.toNat=0 by omega,show m.toNat=n.toNat by omega]; simp
 have o:=ab k
 refine w3 ?_
 apply dV (i3 38 _ _ _ (io 41 (lf (.sub 1 1 ((m).toNat) (l.length - (m).toNat))) :: i2 42 _ _ [io 44 (lf (.sub 1 1 0 ((m).toNat))),⟨some 45,lI ((min ((l.take (0+((m).toNat))).drop 0).length (l.length - (m).toNat):Nat):Int),[ar 1 3 .int (cpy l ((m).toNat) (l.length - (m).toNat) ((l.take (0+((m).toNat))).drop 0))]⟩,io 46 _,io 8 _])) [0,1,3,1,15,31,15,1,0,0]
 refine z3 ?_
 refine zz (fun _ c=>ac (Yh (e:= .int) (a:=(m).toNat) (b:=l.length - (m).toNat) (l:=(some m)) (h:=none) (c.v rfl) (c.en 1 rfl) (by exact (c.v rfl)) (by exact trivial) Z6 Y6 rfl (by first | (simp only[ax,aw]; omega) | omega | (simp only[ax,aw,aj,ao,aA]; omega)) (by first | (simp only[ax,aw]; omega) | omega | (simp only[ax,aw,aj,ao,aA]; omega)) (by first | (simp only[ax,aw]; omega) | omega | (simp only[ax,aw,aj,ao,aA]; omega)) (by first | rfl | simp) (by first | rfl | simp)) rfl) ?_
 refine z2 ?_
 refine zz (fun _ c=>ac (Yh (e:= .int) (a:=0) (b:=(m).toNat) (l:=none) (h:=(some m)) (c.v rfl) (c.en 1 rfl) (by exact trivial) (by exact (c.v rfl)) Z6 Y6 rfl (by first | (simp only[ax,aw]; omega) | omega | (simp only[ax,aw,aj,ao,aA]; omega)) (by first | (simp only[ax,aw]; omega) | omega | (simp only[ax,aw,aj,ao,aA]; omega)) (by first | (simp only[ax,aw]; omega) | omega | (simp only[ax,aw,aj,ao,aA]; omega)) (by first | rfl | simp) (by first | rfl | simp)) rfl)<|zz (fun _ c=>ac (Qe0 (e:= .int) (xs:=l) (lo:=(m).toNat) (n:=l.length - (m).toNat) (ys:=(l.take (0+((m).toNat))).drop 0) (Qrs (c.v rfl) (c.en 1 rfl)) (c.en 1 rfl) (by omega) (Ua (e:= .int) (c.v rfl) (c.en 1 rfl) (by omega)) rfl rfl Z6 Qpn rfl) rfl) ?_
 exact y2
 refine QW ⟨(m+((min ((l.take (0+((m).toNat))).drop 0).length (l.length - (m).toNat):Nat):Int)),(cpy l ((m).toNat) (l.length - (m).toNat) ((l.take (0+((m).toNat))).drop 0)),rfl,(by simp only[bh,ao,t]; omega),(QqV E.1 E.2.1 D t),(by rw[QiV (by omega)]; exact t),rfl⟩ (by simp only[bh,ao,t]; omega) ?_
 exact wp [] ⟨(Qe (by first | rfl | simp)),trivial⟩
 exact absurd (j.symm.trans (show (decide ((9223372036854775807:Int) < n))=false from p)) (by decide)
 exact absurd (i.symm.trans (show (decide ((0:Int) < (0:Int)))=false from (by decide))) (by decide)
 exact absurd (f.symm.trans (show (decide (n < 0))=false from q)) (by decide)
end Go.Proofs.YtndabgcpnmeeoaaGreat
