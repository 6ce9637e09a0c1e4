/- Walks over abstract states: arcs of state graphs. -/
import Derived.Test.YtjfpbcmfbnnooaaGreatGWv
import Derived.Test.YtjfpbcmfbnnooaaGreatGAl
import Derived.Laws.Bits64b
set_option linter.unusedSimpArgs false
set_option linter.unusedVariables false
set_option linter.unusedSectionVars false
namespace Go.Proofs.YtjfpbcmfbnnooaaGreat
set_option maxHeartbeats 4000000
set_option maxRecDepth 100000
open Go.RowKit
set_option maxRecDepth 100000
set_option maxHeartbeats 4000000
def Ya (c:DSg)(i:Int):ByteArray:=(c.2.1[i.toNat]?).getD ByteArray.empty
def XC (c:DSg)(a:DAr):Prop:=(0≤a.1∧a.1≤(c.2.1.length:Int) - 1)∧(0≤a.2.2.2∧a.2.2.2≤(c.2.1.length:Int) - 1)∧KD (c.1.length:Int) (a.2.1,a.2.2.1)∧Fit a (Ya c a.1) (Ya c a.2.2.2)
instance (c:DSg) (a:DAr):Decidable (XC c a):=inferInstanceAs (Decidable (_∧_))
section
variable {c:DSg}{a:DAr}{x y b code:ByteArray}{n sig p:Int}{j k m:Nat}
theorem Xf (h:c.2.1[p.toNat]? =some x):Ya c p=x:=by unfold Ya;rw[h];rfl
theorem UX (m:ByteArray)(p:Int):bAt m p=(m.toList[p.toNat]?).getD 0:=by
 unfold bAt
 rw[bm]
 by_cases h:p.toNat<m.size
 ·rw[dk m p.toNat h,ao (by simpa using h)]
  rfl
 ·rw[getElem?_neg m p.toNat h,bD (by simpa using h)]
theorem Qh2 (g:x.size=y.size)(h:∀j:Nat,j<x.size→bAt x (j:Int)=bAt y (j:Int)):x=y:=by
 have e:x.toList=y.toList:=bM fun j=>by
  by_cases d:j<x.size
  ·have h1:=h j d
   rw[UX,UX] at h1
   have h2:j<x.toList.length:=by rw[Ww];exact d
   have h3:j<y.toList.length:=by rw[Ww,← g];exact d
   have f:((j:Int)).toNat=j:=rfl
   rw[f,ao h2,ao h3] at h1
   rw[ao h2,ao h3]
   exact congrArg some h1
  ·rw[bD (by rw[Ww];omega),bD (by rw[Ww];omega)]
 rw[bm,bm] at e
 exact ByteArray.ext (Array.toList_inj.1 e)
theorem QhH (code:ByteArray)(sig:Int)(b:ByteArray):(Kt code sig b).toList=code.toList.take sig.toNat++(b.toList++code.toList.drop (sig+1).toNat):=by
 have h:code.data.size=code.size:=rfl
 simp only[Kt,bm,ByteArray.data_append,ByteArray.data_extract,Array.toList_append,Array.toList_extract,aR]
 simp[h,List.extract_eq_take_drop]
 rw[aP (by simp[h])]
theorem QcE (h0:0≤sig)(h1:sig<code.size)(hb:b.size=1):(Kt code sig b).size=code.size:=by
 rw[← Ww,QhH]
 simp only[ah,ap,aX,Ww,hb]
 omega
theorem Qow (h0:0≤sig)(h1:sig<code.size)(hb:b.size=1)(g:j<code.size):bAt (Kt code sig b) (j:Int)=if (j:Int)=sig then bAt b 0 else bAt code (j:Int):=by
 rw[UX,QhH,UX,UX]
 have i:=Ww code
 have f:=Ww b
 have d:((j:Int)).toNat=j:=rfl
 rw[d]
 by_cases e:(j:Int)=sig
 ·rw[if_pos e,bl (by rw[ap];omega),bo (by rw[ap];omega)]
  rw[show j - (code.toList.take sig.toNat).length=((0:Int)).toNat by rw[ap];show _=0;omega]
 ·rw[if_neg e]
  by_cases h:(j:Int)<sig
  ·rw[bo (by rw[ap];omega),bc,if_pos (by omega)]
  ·rw[bl (by rw[ap];omega),bl (by rw[ap];omega),cZ]
   congr 2
   rw[ap]
   omega
theorem QdB (h:Ye x n)(e:j<x.size):bAt x (j:Int)=48∨bAt x (j:Int)=49:=by
 have h2:j<x.toList.length:=by rw[Ww];exact e
 rw[UX]
 have d:((j:Int)).toNat=j:=rfl
 rw[d,ao h2]
 exact h.1 _ (cH h2)
theorem Qh4 (b:Bool):bAt (Xb b) 0=if b=true then 49 else 48:=by cases b <;> rfl
theorem Wv (b:Bool):(Xb b).size=1:=rfl
theorem QdA {c:UInt8}{b:Bool}(h:c=48∨c=49):decide (c=49)=b↔c=if b=true then 49 else 48:=by
 rcases h with rfl|rfl <;> cases b <;> decide
theorem QuR (hx:Ye x n)(hy:Ye y n)(f:a.2.1<0):Fit a x y↔x=y:=by
 have d:x.size=y.size:=by have:=hx.2;have:=hy.2;omega
 constructor
 ·intro h
  refine Qh2 d fun j e=> ?_
  have:=h j e
  unfold Xa at this
  rwa [if_neg (by omega)] at this
 ·rintro rfl j e
  unfold Xa
  rw[if_neg (by omega)]
theorem QnF (hx:Ye x n)(hy:Ye y n)(s:¬a.2.1<0)(r:a.2.1<n):Fit a x y↔x=Kt y a.2.1 (Xb (!a.2.2.1))∧y=Kt x a.2.1 (Xb a.2.2.1):=by
 have o:=hx.2
 have q:=hy.2
 have t:=QcE (code:=y) (sig:=a.2.1) (b:=Xb (!a.2.2.1)) (by omega) (by omega) (Wv _)
 have z2:=QcE (code:=x) (sig:=a.2.1) (b:=Xb a.2.2.1) (by omega) (by omega) (Wv _)
 have f:=fun (j:Nat) d=>Qow (j:=j) (code:=y) (sig:=a.2.1) (b:=Xb (!a.2.2.1)) (by omega) (by omega) (Wv _) d
 have g:=fun (j:Nat) d=>Qow (j:=j) (code:=x) (sig:=a.2.1) (b:=Xb a.2.2.1) (by omega) (by omega) (Wv _) d
 constructor
 ·intro h
  constructor
  ·refine Qh2 (by omega) fun j d=> ?_
   rw[f j (by omega),Qh4]
   have h1:=h j d
   unfold Xa at h1
   split
   ·rename_i e
    rw[if_pos e] at h1
    exact (QdA (QdB hx d)).1 h1.1
   ·rename_i e
    rwa [if_neg e] at h1
  ·refine Qh2 (by omega) fun j d=> ?_
   rw[g j (by omega),Qh4]
   have h1:=h j (by omega)
   unfold Xa at h1
   split
   ·rename_i e
    rw[if_pos e] at h1
    exact (QdA (QdB hy d)).1 h1.2
   ·rename_i e
    rw[if_neg e] at h1
    exact h1.symm
 ·rintro ⟨i,l⟩ j d
  have h1:=f j (by omega)
  have h2:=g j d
  rw[← i,Qh4] at h1
  rw[← l,Qh4] at h2
  unfold Xa
  split
  ·rename_i e
   rw[if_pos e] at h1 h2
   exact ⟨(QdA (QdB hx d)).2 h1,(QdA (QdB hy (by omega))).2 h2⟩
  ·rename_i e
   rwa [if_neg e] at h1
theorem QtW (h:¬(0≤a.1∧a.1≤(c.2.1.length:Int) - 1)):false=decide (XC c a):=(ay fun g=>h g.1).symm
theorem QtX (h:¬(0≤a.2.2.2∧a.2.2.2≤(c.2.1.length:Int) - 1)):false=decide (XC c a):=(ay fun g=>h g.2.1).symm
theorem QtY (h:¬KD (c.1.length:Int) (a.2.1,a.2.2.1)):false=decide (XC c a):=(ay fun g=>h g.2.2.1).symm
theorem QmF (h3:KD (c.1.length:Int) (a.2.1,a.2.2.1))(d:¬a.2.1<0):a.2.1<(c.1.length:Int):=by
 rcases h3 with h|h
 ·have h:0≤a.2.1∧a.2.1≤(c.1.length:Int) - 1:=h;omega
 ·have h:a.2.1= -1:=h.1;omega
section
variable (h1:0≤a.1∧a.1≤(c.2.1.length:Int) - 1)(h2:0≤a.2.2.2∧a.2.2.2≤(c.2.1.length:Int) - 1)(h3:KD (c.1.length:Int) (a.2.1,a.2.2.1))(hx:c.2.1[a.1.toNat]? =some x)(hy:c.2.1[a.2.2.2.toNat]? =some y)
include h1 h2 h3 hx hy
theorem Qh1:XC c a↔Fit a x y:=by
 unfold XC
 rw[Xf hx,Xf hy]
 exact ⟨fun g=>g.2.2.2,fun g=>⟨h1,h2,h3,g⟩⟩
theorem QtV (hb:∀x∈c.2.1,Ye x (c.1.length:Int))(d:a.2.1<0):decide (x=y)=decide (XC c a):=bF.2 (by rw[Qh1 h1 h2 h3 hx hy,QuR (hb x (ae hx)) (hb y (ae hy)) d])
theorem Qq4 (hb:∀x∈c.2.1,Ye x (c.1.length:Int))(d:¬a.2.1<0)(h:¬x=Kt y a.2.1 (Xb (!a.2.2.1))):false=decide (XC c a):=(ay fun g=>by
 rw[Qh1 h1 h2 h3 hx hy,QnF (hb x (ae hx)) (hb y (ae hy)) d (QmF h3 d)] at g
 exact h g.1).symm
theorem Qq5 (hb:∀x∈c.2.1,Ye x (c.1.length:Int))(d:¬a.2.1<0)(h:x=Kt y a.2.1 (Xb (!a.2.2.1))):decide (y=Kt x a.2.1 (Xb a.2.2.1))=decide (XC c a):=bF.2 (by
 rw[Qh1 h1 h2 h3 hx hy,QnF (hb x (ae hx)) (hb y (ae hy)) d (QmF h3 d)]
 exact ⟨fun g=>⟨h,g⟩,fun g=>g.2⟩)
end
end
theorem Qgv (c:ZM)(a:QuF)(f:∀x∈c.2.1,Ye x (c.1.length:Int))(F:c.1.length≤1000):FC Tryz.prog 124 [(true,[.dat Ql c.1,.dat Qb c.2.1,.dat QA c.2.2]),(true,[dI a.1,dI a.2.1,dB a.2.2.1,dI a.2.2.2])] [] 0 (QK (lB (decide (XC c a)))):=by
 refine Qj Tryz.func124 rfl rfl Tryz.ntmps124 fun I l H C J E D=> ?_
 refine acG 1 0 fun _=> ?_
 refine acG 1 1 fun _=> ?_
 refine acG 1 3 fun _=> ?_
 refine w_ ?_
 refine xbx 0 ?_
 refine xbx 1 ?_
 refine w8 ?_
 refine alL 10 fun _=> ?_
 refine w2 ?_
 refine lc (dK (YA a.1 0 ((c.2.1.length:Int) - 1)) Xj) ?_
 refine w2 ?_
 cases o:(decide (0≤a.1∧a.1≤((c.2.1.length:Int) - 1)))
 have q:=aa o
 refine w16 ?_
 refine w10 ?_
 refine Qe<|fqB l ?_
 exact QtW ‹_›
 have q:=ab o
 refine w4 ?_
 refine alL 19 fun _=> ?_
 refine w2 ?_
 refine lgy rfl rfl (dK (YA a.2.2.2 0 ((c.2.1.length:Int) - 1)) Xj) ?_
 refine w3 ?_
 cases r:(decide (0≤a.2.2.2∧a.2.2.2≤((c.2.1.length:Int) - 1)))
 have s:=aa r
 refine w16 ?_
 refine Qe<|fqB l ?_
 exact QtX ‹_›
 have s:=ab r
 refine w4 ?_
 refine lgy rfl rfl (Qk KG ⟨_,_,rfl,(Qn rfl),⟨_,_,rfl,(Qn rfl),rfl⟩⟩ (au.1 rfl) rfl rfl) ?_
 refine w2 ?_
 refine alL 32 fun _=> ?_
 refine w_ ?_
 refine lgy rfl rfl (dK (Qdj (a.2.1,a.2.2.1) (c.1.length:Int) (by omega)) Qly) ?_
 refine w3 ?_
 cases t:(decide (KD (c.1.length:Int) (a.2.1,a.2.2.1)))
 have u:=aa t
 refine w4 ?_
 refine Qe<|fqB l ?_
 exact QtY ‹_›
 have u:=ab t
 refine w2 ?_
 obtain ⟨i,w⟩:=gx c.2.1 ((a.1).toNat)
 have A:=(f _ (ae w)).2
 obtain ⟨g,z⟩:=gx c.2.1 ((a.2.2.2).toNat)
 have B:=(f _ (ae z)).2
 apply dW (i9 37 _ _ _ _ _ _ _ _ _ (i3 46 _ _ _ (i2 5 _ _ []))) [0,0,3,3,0,0,63,63,255,255,63,63,4032,0]
 exact y14
 refine w6 ?_
 refine cd_ (fun _ _=> ?_) fun _ _=> ?_
 refine w_ ?_
 have G:=QmF (c:=c) (a:=a) ‹_› ‹_›
 cases d:(decide (i=(Kt g a.2.1 (Xb (!a.2.2.1)))))
 have h:=aa d
 apply dW (i7 55 _ _ _ _ _ _ _ (io 62 (lf (dS (Xb (!a.2.2.1))))::io 63 (lf (dS (Kt g a.2.1 (Xb (!a.2.2.1)))))::io 64 (lB false)::i9 65 _ _ _ _ _ _ _ _ _ (i2 74 _ _ [io 4 _]))) [0,1,3,3,15,15,15,15,1,0,0,0,2048,6144,6144,30720,30720,30720,2048,0,0,0]
 refine z7 ?_
 refine zz (fun _ e=>ac (dK (XM (!a.2.2.1)) VR) rfl) ?_
 refine zz (fun _ e=>ac (dK (WK g a.2.1 (Xb (!a.2.2.1)) (by omega) ⟨by omega,by rw[Wv];decide⟩) KN) rfl) ?_
 refine zz (fun _ e=>ac (Q9 (d) (Hi (e.v rfl) (e.v rfl) rfl)) rfl) ?_
 exact y12
 refine Qe<|fqB l ?_
 exact Qq4 ‹_› ‹_› ‹_› (x:=i) (y:=g) ‹_› ‹_› f ‹_› ‹_›
 have h:=ab d
 apply dW (i7 55 _ _ _ _ _ _ _ (io 62 (lf (dS (Xb (!a.2.2.1))))::io 63 (lf (dS (Kt g a.2.1 (Xb (!a.2.2.1)))))::io 64 (lB true)::i7 65 _ _ _ _ _ _ _ (io 72 (lf (dS (Xb a.2.2.1)))::io 73 (lf (dS (Kt i a.2.1 (Xb a.2.2.1))))::i2 74 _ _ [io 4 _]))) [0,1,3,3,15,15,15,15,1,0,0,0,2048,6144,6144,30720,30720,30720,2048,0,0,0]
 refine z7 ?_
 refine zz (fun _ e=>ac (dK (XM (!a.2.2.1)) VR) rfl) ?_
 refine zz (fun _ e=>ac (dK (WK g a.2.1 (Xb (!a.2.2.1)) (by omega) ⟨by omega,by rw[Wv];decide⟩) KN) rfl) ?_
 refine zz (fun _ e=>ac (Q9 (d) (Hi (e.v rfl) (e.v rfl) rfl)) rfl) ?_
 refine z7 ?_
 refine zz (fun _ e=>day rfl (e.k rfl) (dK (XM a.2.2.1) VR) rfl) ?_
 refine zz (fun _ e=>day rfl (e.k rfl) (dK (WK i a.2.1 (Xb a.2.2.1) (by omega) ⟨by omega,by rw[Wv];decide⟩) KN) rfl) ?_
 exact y3
 refine Qe<|fqB l ?_
 exact Qq5 ‹_› ‹_› ‹_› (x:=i) (y:=g) ‹_› ‹_› f ‹_› ‹_›
 refine w6 ?_
 refine Qe<|fqB l ?_
 exact QtV ‹_› ‹_› ‹_› (x:=i) (y:=g) ‹_› ‹_› f ‹_›
inductive Rch (es:List (Int×Int)):Int→Prop
  | zero:Rch es 0
  | step {u v:Int}:Rch es u→(u,v)∈es→Rch es v
def Z4 (rs:List DAr):List (Int×Int):=rs.map fun a=>(a.1,a.2.2.2)
def InE (n:Nat)(e:Int×Int):Prop:=(0≤e.1∧e.1<n)∧0≤e.2∧e.2<n
def Qc3 (n:Nat)(es:List (Int×Int)):Prop:=∀k:Nat,k<n→Rch es k
def W4 (e:Int×Int)(m:List Bool):List Bool:=if m[e.1.toNat]? =some true then m.set e.2.toNat true else m
def XE:List (Int×Int)→List Bool→List Bool
 | [],m=>m
 | e::es,m=>XE es (W4 e m)
def XD (es:List (Int×Int)):Nat→List Bool→List Bool
 | 0,m=>m
 | f+1,m=>XD es f (XE es m)
section
variable {es:List (Int×Int)}{e:Int×Int}{m:List Bool}{n f i k:Nat}{rs:List DAr}{a:DAr}{b:Bool}
theorem QhM:(W4 e m).length=m.length:=by unfold W4;split <;> simp
theorem QpS:(XE es m).length=m.length:=by
 induction es generalizing m with
 | nil=>rfl
 | cons e es c=>rw[XE,c,QhM]
theorem Qgc (h:m[i]? =some true):(W4 e m)[i]? =some true:=by
 unfold W4
 split
 ·by_cases c:e.2.toNat=i
  ·rw[c,bk (ai.1 h).1]
  ·rw[be c];exact h
 ·exact h
theorem QfX (h:m[i]? =some true):(XE es m)[i]? =some true:=by
 induction es generalizing m with
 | nil=>exact h
 | cons e es c=>rw[XE];exact c (Qgc h)
theorem QpR (c:e∈es)(h:m[e.1.toNat]? =some true)(g:e.2.toNat<m.length):(XE es m)[e.2.toNat]? =some true:=by
 induction es generalizing m with
 | nil=>cases c
 | cons d es j=>
  rw[XE]
  rcases aJ.1 c with rfl|c
  ·refine QfX ?_
   unfold W4
   rw[if_pos h,bk g]
  ·exact j c (Qgc h) (by rw[QhM];exact g)
def Qc6 (m:List Bool):Nat:=(m.filter fun b=> !b).length
theorem QjF (h:m[i]? =some false):Qc6 (m.set i true)+1=Qc6 m:=by
 induction m generalizing i with
 | nil=>simp at h
 | cons x l c=>
  cases i with
  | zero=>
   simp only[cw,bp] at h
   subst h
   simp[Qc6]
  | succ i=>
   have:=c (i:=i) (by simpa using h)
   simp only[Qc6,List.set_cons_succ,List.filter_cons] at this ⊢
   split <;> simp_all
theorem Qp7 {α:Type _}{vs:List α}{i:Nat}{c:α}(h:vs[i]? =some c):vs.set i c=vs:=by
 apply bM
 intro j
 by_cases e:i=j
 ·subst e;rw[bk (ai.1 h).1,h]
 ·rw[be e]
theorem Qqf:W4 e m=m∨Qc6 (W4 e m)<Qc6 m:=by
 unfold W4
 split
 ·cases h:m[e.2.toNat]? with
  | none=>left;rw[List.set_eq_of_length_le];rwa [List.getElem?_eq_none_iff] at h
  | some b=>
   cases b with
   | true=>left;exact Qp7 h
   | false=>right;have:=QjF h;omega
 ·exact .inl rfl
theorem QpQ:XE es m=m∨Qc6 (XE es m)<Qc6 m:=by
 induction es generalizing m with
 | nil=>exact .inl rfl
 | cons e es d=>
  rw[XE]
  rcases Qqf (e:=e) (m:=m) with h|h
  ·rw[h];exact d
  ·rcases d (m:=W4 e m) with c|c
   ·rw[c];exact .inr h
   ·exact .inr (Nat.lt_trans c h)
theorem Qhp (h:XE es m=m):∀f,XD es f m=m
 | 0=>rfl
 | f+1=>by rw[XD,h];exact Qhp h f
theorem Qiq (h:Qc6 m<f):XE es (XD es f m)=XD es f m:=by
 induction f generalizing m with
 | zero=>omega
 | succ f d=>
  rw[XD]
  rcases QpQ (es:=es) (m:=m) with c|c
  ·rw[c,Qhp c,c]
  ·exact d (by omega)
theorem Qmx (h:m[i]? =some true):(XD es f m)[i]? =some true:=by
 induction f generalizing m with
 | zero=>exact h
 | succ f c=>rw[XD];exact c (QfX h)
theorem Qct:(XD es f m).length=m.length:=by
 induction f generalizing m with
 | zero=>rfl
 | succ f c=>rw[XD,c,QpS]
def m0 (n:Nat):List Bool:=(List.replicate n false).set 0 true
theorem Qxt (h:1≤n):Qc6 (m0 n)<n:=by
 have c:(List.replicate n false)[0]? =some false:=by rw[cv,if_pos (by omega)]
 have:=QjF c
 have d:Qc6 (List.replicate n false)=n:=by simp[Qc6]
 unfold m0
 omega
theorem Qku (l:(e.1,e.2)∈es)(o:InE n e)(h:∀k:Nat,m[k]? =some true→Rch es k):∀k:Nat,(W4 e m)[k]? =some true→Rch es k:=fun k c=>by
 obtain ⟨⟨p,q⟩,r,s⟩:=o
 unfold W4 at c
 split at c
 ·rename_i j
  by_cases g:e.2.toNat=k
  ·have d:=h _ j
   rw[show ((e.1.toNat:Nat):Int)=e.1 by omega] at d
   rw[show (k:Int)=e.2 by omega]
   exact .step d l
  ·rw[be g] at c;exact h k c
 ·exact h k c
theorem Qkd {c:List (Int×Int)}(d:∀e∈c,e∈es)(j:∀e∈es,InE n e)(h:∀k:Nat,m[k]? =some true→Rch es k):∀k:Nat,(XE c m)[k]? =some true→Rch es k:=by
 induction c generalizing m with
 | nil=>exact h
 | cons e c l=>rw[XE];exact l (fun e g=>d e (aA _ g)) (Qku (d e (aB ..)) (j e (d e (aB ..))) h)
theorem QjX (c:∀e∈es,InE n e)(h:∀k:Nat,m[k]? =some true→Rch es k):∀k:Nat,(XD es f m)[k]? =some true→Rch es k:=by
 induction f generalizing m with
 | zero=>exact h
 | succ f d=>rw[XD];exact d (Qkd (fun _ h=>h) c h)
theorem Qn0 (o:1≤n)(l:∀e∈es,InE n e)(k:Nat)(c:k<n):(XD es n (m0 n))[k]? =some true↔Rch es k:=by
 have p:(XD es n (m0 n)).length=n:=by rw[Qct];simp[m0]
 constructor
 ·refine QjX l (fun k c=> ?_) k
  unfold m0 at c
  by_cases e:0=k
  ·subst e;exact .zero
  ·rw[be e,cv] at c
   split at c <;> cases c
 ·intro h
  have d:∀u:Int,Rch es u→0≤u∧u<n∧(XD es n (m0 n))[u.toNat]? =some true:=fun u q=>by
   induction q with
   | zero=>exact ⟨by omega,by omega,Qmx (by unfold m0;exact bk (by simp;omega))⟩
   | @step u v _ he ih=>
    obtain ⟨_,g,j⟩:=l _ he
    refine ⟨g,j,?_⟩
    have g:0≤v:=g
    have j:v<(n:Int):=j
    have:=QpR he ih.2.2 (by rw[p];show v.toNat<n;omega)
    rwa [Qiq (Qxt o)] at this
  exact (d k h).2.2
theorem Qge {n:Nat}(h:∀a∈rs,InR n a):∀e∈Z4 rs,InE n e:=fun e d=>by
 obtain ⟨a,c,rfl⟩:=bd.1 d
 exact h a c
theorem Qhy (c:rs[i]? =some a):XE ((Z4 rs).drop i) m=XE ((Z4 rs).drop (i+1)) (W4 (a.1,a.2.2.2) m):=by
 rw[Yr (x:=(a.1,a.2.2.2)) (by unfold Z4;rw[bn,c];rfl),XE]
theorem QhN (h:m[a.1.toNat]? =some b)(hb:b=true):W4 (a.1,a.2.2.2) m=m.set a.2.2.2.toNat true:=by unfold W4;rw[if_pos (by rw[h,hb])]
theorem Qkt (h:m[a.1.toNat]? =some b)(hb:b=false):W4 (a.1,a.2.2.2) m=m:=by unfold W4;rw[if_neg (by rw[h,hb];intro h;cases h)]
theorem QsL (h:rs.length≤i):XE ((Z4 rs).drop i) m=m:=by rw[bR (by simpa [Z4] using h),XE]
section
variable [Decidable (Qc3 n es)]
theorem Qwy (j:1≤n)(o:∀e∈es,InE n e)(d:XD es n (m0 n)=m)(g:m[k]? =some b)(hb:b=false):false=decide (Qc3 n es):=(ay (p:=Qc3 n es) fun h=>by
 have l:(XD es n (m0 n)).length=n:=by rw[Qct];simp[m0]
 have c:k<n:=by rw[← l,d];exact (ai.1 g).1
 have:=(Qn0 j o k c).2 (h k c)
 rw[d,g,hb] at this
 cases this).symm
theorem QtU (d:1≤n)(o:∀e∈es,InE n e)(c:XD es n (m0 n)=m)(h:∀j,j<k→m[j]? =some true)(q:m.length≤k):true=decide (Qc3 n es):=(aN (p:=Qc3 n es) fun j g=>by
 have l:(XD es n (m0 n)).length=n:=by rw[Qct];simp[m0]
 rw[c] at l
 exact (Qn0 d o j g).1 (by rw[c];exact h j (by omega))).symm
end
end
theorem Qst {m:List Bool}{k:Nat}{b:Bool}(h:∀j,j<k→m[j]? =some true)(c:m[k]? =some b)(hb:b=true):∀j,j<k+1→m[j]? =some true:=fun j d=>by
 by_cases e:j=k
 ·rw[e,c,hb]
 ·exact h j (by omega)
theorem Qcd (as_:QrD)(u:as_.length≤1000000):FC Tryz.prog 149 [(false,[.dat QA as_])] [] 0 (Xv 204 (.pr .int .int) (Z4 as_)):=by
 refine Qj Tryz.func149 rfl rfl Tryz.ntmps149 fun s p r j t o l=> ?_
 refine w4 ?_
 refine lc (dBs 0 (e:=(.pr .int .int)) Qeb) ?_
 refine w5 ?_
 refine alL 7 fun _=> ?_
 refine w4 ?_
 refine lp0 as_.length (fun k=>⟨[(2,lf (.val (.slice none 0 0))),(3,lR 1),(7,lf (.dat QA as_)),(8,lI (as_.length:Int)),(9,lI (k:Int))],[ar 1 204 (.pr .int .int) (Z4 (as_.take k))]⟩) ?_ fun k _=> ?_
 exact wp [(1,0)] ⟨(Qm (by first|rfl|simp)),trivial⟩
 have q:(Z4 (as_.take k)).length≤as_.length:=by simp only[Z4,aH,ap];omega
 refine w4 ?_
 cases c:(decide ((k:Int)<(as_.length:Int)))
 have d:=aa c
 refine w7 ?_
 refine Qe<|fo_ p ?_
 rw[ZD (by omega)]
 have d:=ab c
 refine w5 ?_
 obtain ⟨h,g⟩:=gx as_ k
 refine w2 ?_
 refine lc (xal 2 Yq YJ) ?_
 refine w6 ?_
 refine alI 15 fun _=> ?_
 refine w2 ?_
 refine alI 17 fun _=> ?_
 refine lc (Qk Qt5 ⟨_,_,rfl,(Qn rfl),⟨_,_,rfl,(Qn rfl),rfl⟩⟩ (au.1 rfl) rfl rfl) ?_
 refine lc (dBs 3 (e:=(.pr .int .int)) Qeb (hab:=by exact ⟨_,_,_,_,rfl,⟨[dI h.1],[dI h.2.2.2],_,_,_,_,rfl,rfl,⟨rfl,rfl⟩,⟨rfl,rfl⟩,rfl⟩,⟨rfl,rfl⟩,rfl⟩)) ?_
 refine lc (dA 4 QuJ) ?_
 refine w_ ?_
 refine Qd ?_
 refine w4 ?_
 refine Qd ?_
 refine l0_ ?_
 exact wp [(1,4)] ⟨(Qm (by rw[QE g];simp[Z4])),trivial⟩
theorem Kd (s:List Int)(v:Int):FC Tryz.prog 224 [(false,[.dat Qs s]),(false,[dI v])] [] 0 (QK (lI (Zf (fun y=>decide (v=y)) s))):=by
 refine Qj Tryz.func224 rfl rfl Tryz.ntmps224 fun w o t p x r q=> ?_
 refine acI 1 fun _=> ?_
 refine w6 ?_
 refine alL 6 fun _=> ?_
 refine w4 ?_
 refine lpK s.length (fun k=>NoneTo (fun y=>decide (v=y)) s k) (fun k=>⟨[(0,lf (.dat Qs s)),(1,lI v),(7,lI (s.length:Int)),(8,lI (k:Int))],[]⟩) (NoneTo.zero) ?_ fun k _ c=> ?_
 exact wo []
 refine w4 ?_
 cases d:(decide ((k:Int)<(s.length:Int)))
 have g:=aa d
 refine w6 ?_
 refine Qe<|fqI o ?_
 first|exact (c.no (by omega)).symm
 have g:=ab d
 refine w12 ?_
 obtain ⟨u,l⟩:=gx s k
 refine w2 ?_
 refine alI 15 fun _=> ?_
 refine w2 ?_
 cases h:(decide (v=u))
 have j:=aa h
 refine w6 ?_
 refine Qd ?_
 refine lK_ (c.step l ‹_›) ?_
 exact wo []
 have j:=ab h
 refine w5 ?_
 refine Qe<|fqI o ?_
 exact (c.at l ‹_›).symm
theorem V3 (s:List Int)(v:Int):FC Tryz.prog 147 [(false,[.dat Qs s]),(false,[dI v])] [] 0 (QK (lB (s.any (fun y=>decide (v=y))))):=by
 refine Qj Tryz.func147 rfl rfl Tryz.ntmps147 fun l h j c o g d=> ?_
 refine acI 1 fun _=> ?_
 refine w6 ?_
 refine lc (dK (Kd s v) QlG) ?_
 refine w3 ?_
 refine Qe<|fqB h ?_
 exact Xm _ _
theorem Qgu (c:ZM)[Decidable (Qc3 c.2.1.length (Z4 c.2.2))](M:1≤c.2.1.length∧c.2.1.length≤300)(H:∀a∈c.2.2,InR c.2.1.length a):FC Tryz.prog 125 [(true,[.dat Ql c.1,.dat Qb c.2.1,.dat QA c.2.2])] [] 0 (QK (lB (decide (Qc3 c.2.1.length (Z4 c.2.2))))):=by
 have x:=Qge H
 have Z:(List.replicate c.2.1.length (Ty.zero .bool)).length=c.2.1.length:=az ..
 refine Qj Tryz.func125 rfl rfl Tryz.ntmps125 fun O_ G a0 O X_ Q P=> ?_
 refine w_ ?_
 refine xbx 0 ?_
 refine w5 ?_
 refine alL 9 fun _=> ?_
 refine w_ ?_
 refine lc (Vy 1 (e:= .bool) (n:=c.2.1.length) (Qa rfl) (Qa rfl) QvM Qzs rfl (by omega) (by omega) rfl (Fresh.of rfl) (nlr rfl)) ?_
 refine w5 ?_
 obtain ⟨x2,C⟩:=gx (List.replicate c.2.1.length (Ty.zero .bool)) 0
 refine lc (QB (e:= .bool) (z':=true) (Qa rfl) rfl C rfl (Evl.ev ZI) rfl Qky rfl rfl) ?_
 refine w5 ?_
 refine alL 15 fun _=> ?_
 refine w4 ?_
 refine Qu (fun z A=>∃(p:Nat) (g:List Bool),p≤c.2.1.length∧z=c.2.1.length - p∧(XD (Z4 c.2.2) c.2.1.length (m0 c.2.1.length)=XD (Z4 c.2.2) (c.2.1.length - p) g)∧(g.length=c.2.1.length)∧A=⟨[(1,lP 0 0),(2,lB false),(3,lR 2),(16,lI (c.2.1.length:Int)),(17,lI (p:Int))],[bx 0 28 [.dat Ql c.1,.dat Qb c.2.1,.dat QA c.2.2],(2,some (.arr 4 .bool g))]⟩) ⟨0,(List.replicate c.2.1.length (Ty.zero .bool)).set 0 true,aL _,rfl,rfl,(by simp),rfl⟩ ?_ ?_
 exact wp [(2,1)] ⟨rfl,(Qm (by first|rfl|simp)),trivial⟩
 rintro z A ⟨p,g,T,U,B,R,rfl⟩
 refine w4 ?_
 cases t:(decide ((p:Int)<(c.2.1.length:Int)))
 have u:=aa t
 refine w10 ?_
 refine lpK g.length (fun k=>∀j,j<k→g[j]? =some true) (fun k=>⟨[(37,lR 2),(38,lI (g.length:Int)),(39,lI (k:Int))],[(2,some (.arr 4 .bool g))]⟩) ((fun j S=>absurd S (aV j))) ?_ fun k _ F=> ?_
 exact wo []
 refine w4 ?_
 cases v:(decide ((k:Int)<(g.length:Int)))
 have w:=aa v
 refine w6 ?_
 refine Qe<|fqB G ?_
 first|exact QtU M.1 x (by rw[B,show c.2.1.length - p=0 by omega];rfl) F (by omega)
 have w:=ab v
 refine w6 ?_
 obtain ⟨D,o⟩:=gx g k
 refine w7 ?_
 cases I:(D)
 refine w4 ?_
 refine Qe<|fqB G ?_
 exact Qwy M.1 x (by rw[B,show c.2.1.length - p=0 by omega];rfl) o ‹_›
 refine w6 ?_
 refine Qd ?_
 refine lK_ ((Qst F o ‹_›)) ?_
 exact wo []
 have u:=ab t
 refine w7 ?_
 refine alL 20 fun _=> ?_
 refine w4 ?_
 refine Qu (fun z A=>∃(i:Nat) (d:List Bool),i≤c.2.2.length∧z=c.2.2.length - i∧(XE (Z4 c.2.2) g=XE ((Z4 c.2.2).drop i) d)∧(d.length=c.2.1.length)∧A=⟨[(1,lP 0 0),(2,lB false),(3,lR 3),(16,lI (c.2.1.length:Int)),(17,lI (p:Int)),(18,lB true),(19,lP 0 2),(20,lf (.dat QA c.2.2)),(21,lI (c.2.2.length:Int)),(22,lI (i:Int))],[bx 0 28 [.dat Ql c.1,.dat Qb c.2.1,.dat QA c.2.2],(3,some (.arr 4 .bool d))]⟩) ⟨0,g,aL _,rfl,rfl,R,rfl⟩ ?_ ?_
 exact wo [(3,2)]
 rintro z A ⟨i,d,K,L,q,r,rfl⟩
 refine w4 ?_
 cases l:(decide ((i:Int)<(c.2.2.length:Int)))
 have s:=aa l
 refine w6 ?_
 refine Qd<|QV ⟨p+1,d,by omega,rfl,(by rw[B,show c.2.1.length - p=(c.2.1.length - (p+1))+1 by omega,XD,q,QsL (by omega)]),r,rfl⟩ (by omega) ?_
 exact wo [(2,3)]
 have s:=ab l
 refine w5 ?_
 obtain ⟨ar,h⟩:=gx c.2.2 i
 obtain ⟨⟨V,W⟩,X,Y⟩:=H _ (ae h)
 refine w2 ?_
 refine lc (xal 4 Yq YJ) ?_
 refine w6 ?_
 refine alI 28 fun _=> ?_
 refine w_ ?_
 obtain ⟨E,N⟩:=gx d ((ar.1).toNat)
 refine w2 ?_
 cases J:(E)
 refine w6 ?_
 refine Qd<|QV ⟨i+1,d,by omega,rfl,(by rw[q,Qhy h];first|rw[QhN ‹_› ‹_›]|rw[Qkt ‹_› ‹_›]),(by exact r),rfl⟩ (by omega) ?_
 exact wo []
 refine w5 ?_
 refine alI 33 fun _=> ?_
 refine w_ ?_
 obtain ⟨a1,y⟩:=gx d ((ar.2.2.2).toNat)
 refine lc (QB (e:= .bool) (z':=true) (Qa rfl) rfl y rfl (Evl.ev ZI) rfl Qky rfl rfl)<|Qd ?_
 refine w4 ?_
 refine Qd<|QV ⟨i+1,(d.set ((ar.2.2.2).toNat) true),by omega,rfl,(by rw[q,Qhy h];first|rw[QhN ‹_› ‹_›]|rw[Qkt ‹_› ‹_›]),(by (rw[aD];exact r)),rfl⟩ (by omega) ?_
 exact wp [] ⟨rfl,(Qm (by first|rfl|simp)),trivial⟩
structure SgOk (c:DSg):Prop where
  sigs:Yj c.1
  some_:1≤c.2.1.length∧c.2.1.length≤300
  few:c.2.2.length≤4000
  codes:∀x∈c.2.1,Ye x (c.1.length:Int)
  arcs:∀a∈c.2.2,XC c a
  all:Qc3 c.2.1.length (Z4 c.2.2)
theorem YM {α:Type}{p:α→Prop}{l:List α}{k:Nat}{x:α}(h:∀j,j<k→∀x,l[j]? =some x→p x)(f:l[k]? =some x)(d:p x):∀j,j<k+1→∀x,l[j]? =some x→p x:=fun j g y b=>by
 by_cases e:j=k
 ·subst e;rw[f] at b;cases b;exact d
 ·exact h j (by omega) y b
theorem Xh {α:Type}{p:α→Prop}{l:List α}{k:Nat}(h:∀j,j<k→∀x,l[j]? =some x→p x)(e:l.length≤k):∀x∈l,p x:=fun x d=>by
 obtain ⟨j,b⟩:=aK.1 d
 have:=(ai.1 b).1
 exact h j (by omega) x b
theorem Qa9 {c:DSg}{a:DAr}(h:XC c a):InR c.2.1.length a:=by
 obtain ⟨⟨b,e⟩,⟨d,f⟩,_⟩:=h
 exact ⟨⟨b,by omega⟩,d,by omega⟩
section
variable {c:DSg}[Decidable (SgOk c)]{x:ByteArray}{a:DAr}{k i:Nat}
theorem Qtd (h:¬Yj c.1):false=decide (SgOk c):=(ay fun g=>h g.sigs).symm
theorem Qte (h:¬((1:Int)≤(c.2.1.length:Int)∧(c.2.1.length:Int)≤300)):false=decide (SgOk c):=(ay fun g=>h (by have:=g.some_;omega)).symm
theorem Qtf (h:(4000:Int)<(c.2.2.length:Int)):false=decide (SgOk c):=(ay fun g=>by have:=g.few;omega).symm
theorem Qtg (b:c.2.1[k]? =some x)(h:¬Ye x (c.1.length:Int)):false=decide (SgOk c):=(ay fun g=>h (g.codes x (ae b))).symm
theorem Qgb (b:c.2.2[k]? =some a)(h:¬XC c a):false=decide (SgOk c):=(ay fun g=>h (g.arcs a (ae b))).symm
theorem Qtc [Decidable (Qc3 c.2.1.length (Z4 c.2.2))](b:Yj c.1)(f:(1:Int)≤(c.2.1.length:Int)∧(c.2.1.length:Int)≤300)(j:¬(4000:Int)<(c.2.2.length:Int))(d:∀x∈c.2.1,Ye x (c.1.length:Int))(e:∀a∈c.2.2,XC c a):
 decide (Qc3 c.2.1.length (Z4 c.2.2))=decide (SgOk c):=bF.2 ⟨fun h=>⟨b,by omega,by omega,d,e,h⟩,fun g=>g.all⟩
end
theorem Wg (c:ZM)[∀c,Decidable (SgOk c)]:FC Tryz.prog 51 [(true,[.dat Ql c.1,.dat Qb c.2.1,.dat QA c.2.2])] [] 0 (QK (lB (decide (SgOk c)))):=by
 classical
 refine Qj Tryz.func51 rfl rfl Tryz.ntmps51 fun F n E A G C B=> ?_
 refine w_ ?_
 refine xbx 0 ?_
 refine w6 ?_
 refine lc (dK (UB c.1) QeJ) ?_
 refine w2 ?_
 cases o:(decide (Yj c.1))
 have p:=aa o
 refine w16 ?_
 refine w_ ?_
 refine Qe<|fqB n ?_
 exact Qtd ‹_›
 have p:=ab o
 refine w2 ?_
 refine alL 13 fun _=> ?_
 refine w_ ?_
 refine lgy rfl rfl (dK (YA (c.2.1.length:Int) 1 300) Xj) ?_
 refine w3 ?_
 cases q:(decide (1≤(c.2.1.length:Int)∧(c.2.1.length:Int)≤300))
 have r:=aa q
 refine w10 ?_
 refine Qe<|fqB n ?_
 exact Qte ‹_›
 have r:=ab q
 refine w2 ?_
 refine alL 20 fun _=> ?_
 refine w4 ?_
 refine cd_ (fun _ _=> ?_) fun _ _=> ?_
 refine w5 ?_
 refine alL 25 fun _=> ?_
 refine w4 ?_
 refine lpK c.2.1.length (fun k=>∀j,j<k→∀x,c.2.1[j]? =some x→Ye x (c.1.length:Int)) (fun k=>⟨[(1,lP 0 0),(25,lf (.dat Qb c.2.1)),(26,lI (c.2.1.length:Int)),(27,lI (k:Int))],[bx 0 28 [.dat Ql c.1,.dat Qb c.2.1,.dat QA c.2.2]]⟩) ((fun j z=>absurd z (aV j))) ?_ fun k _ w=> ?_
 exact wo []
 refine w4 ?_
 cases s:(decide ((k:Int)<(c.2.1.length:Int)))
 have t:=aa s
 refine w7 ?_
 refine alL 39 fun _=> ?_
 refine w4 ?_
 refine lpK c.2.2.length (fun i=>∀j,j<i→∀a,c.2.2[j]? =some a→XC c a) (fun i=>⟨[(1,lP 0 0),(39,lf (.dat QA c.2.2)),(40,lI (c.2.2.length:Int)),(41,lI (i:Int))],[bx 0 28 [.dat Ql c.1,.dat Qb c.2.1,.dat QA c.2.2]]⟩) ((fun j z=>absurd z (aV j))) ?_ fun i _ y=> ?_
 exact wo []
 refine w4 ?_
 cases b:(decide ((i:Int)<(c.2.2.length:Int)))
 have h:=aa b
 refine w5 ?_
 refine lc (dK (Qgu c (by omega) (fun a D=>Qa9 (Xh y (by omega) a D))) Qk8) ?_
 refine w2 ?_
 refine Qe<|fqB n ?_
 exact Qtc ‹_› ‹_› ‹_› (Xh w (by omega)) (Xh y (by omega))
 have h:=ab b
 refine w5 ?_
 obtain ⟨u,f⟩:=gx c.2.2 i
 refine w2 ?_
 refine lc (xal 1 Yq YJ) ?_
 refine w5 ?_
 refine lc (dK (Qgv c u (Xh w (by omega)) (by have:=(‹Yj c.1›).2.2;omega)) Qk7) ?_
 refine w2 ?_
 cases d:(decide (XC c u))
 have l:=aa d
 refine w4 ?_
 refine Qe<|fqB n ?_
 exact Qgb f ‹_›
 have l:=ab d
 refine w6 ?_
 refine Qd ?_
 refine lK_ ((YM y f ‹_›)) ?_
 exact wo []
 have t:=ab s
 refine w5 ?_
 obtain ⟨v,g⟩:=gx c.2.1 k
 refine w8 ?_
 refine alL 33 fun _=> ?_
 refine w_ ?_
 refine lc (dK (JW v (c.1.length:Int)) QeH) ?_
 refine w2 ?_
 cases e:(decide (Ye v (c.1.length:Int)))
 have m:=aa e
 refine w4 ?_
 refine Qe<|fqB n ?_
 exact Qtg g ‹_›
 have m:=ab e
 refine w6 ?_
 refine Qd ?_
 refine lK_ ((YM w g ‹_›)) ?_
 exact wo []
 refine w3 ?_
 refine Qe<|fqB n ?_
 exact Qtf ‹_›
section
variable {A:Amb}{P:Program}{s:St}{x y:Operand}{d:Nat}{T T' ty:TypeId}{pos:String}{af:Array Edge}{g:Option (Nat×Bool)}{n a b:Int}
theorem QkA (h:0≤n∧n≤9223372036854775807):IntKind.u64.wrap n=n:=by
 simp[IntKind.wrap,IntKind.bits,IntKind.signed]
 omega
theorem Qr6 (h:0≤n∧n≤9223372036854775807):IntKind.i64.wrap n=n:=IntWalk.i64_in _ (by omega)
theorem KB (c:Evl A s x (dI n))(l:P.underlying T=some (.int .i64))(j:P.underlying T'=some (.int .u64))(h0:0≤n)(k:Nat.blt d A.n=true):
 Does A P ⟨some d,.convert T T' x,ty,pos,af,g⟩ s (s.put d (lf (.val (.int .u64 n)))):=
 Qi rfl k fun f a w r=>by
  have h:=c.i r
  have m:=(LVR.int (c f a w r)).2
  have e:=QkA (n:=n) (by omega)
  refine ⟨.int .u64 n,?_,_,rfl,rfl⟩
  simp only[execOp,h,convert,run_underlying l,run_underlying j,aw,aG,Conv.intToInt,e]
  simp
theorem Qag (k:Evl A s x (.val (.int .u64 n)))(j:P.underlying T=some (.int .u64))(h:P.underlying T'=some (.int .i64))(h0:0≤n∧n≤9223372036854775807)(i:Nat.blt d A.n=true):
 Does A P ⟨some d,.convert T T' x,ty,pos,af,g⟩ s (s.put d (lf (dI n))):=
 Qi rfl i fun e a w r=>by
  have f:a.eval x= .int .u64 n:=k e a w r
  have c:=Qr6 h0
  refine ⟨.int .i64 n,?_,_,rfl,Yi (by omega)⟩
  simp only[execOp,f,convert,run_underlying j,run_underlying h,aw,aG,Conv.intToInt,c]
  simp
theorem QgB (j:Evl A s x (.val (.int .u64 a)))(k:Evl A s y (.val (.int .u64 b)))(i:Nat.blt d A.n=true):Does A P ⟨some d,.binOp .gtr T x y T',ty,pos,af,g⟩ s (s.put d (lf (dB (decide (b<a))))):=
 Qi rfl i fun e c w r=>by
  have f:c.eval x= .int .u64 a:=j e c w r
  have h:c.eval y= .int .u64 b:=k e c w r
  refine ⟨.bool (decide (b<a)),?_,_,rfl,ZN⟩
  simp only[execOp,f,h,eqGuard_at_int,binOp,Op.intCmp]
  simp
end
theorem QqY (n:Nat)(c:n≤1000000):bits BinOp.and IntKind.u64 (n:Int) 4294967295=n:=by
 have h:=bits_and_u64_nat n 4294967295 (by omega) (by decide)
 rw[show ((4294967295:Nat):Int)=4294967295 from rfl] at h
 rw[h,show (4294967295:Nat)=2 ^ 32 - 1 from rfl,Nat.and_two_pow_sub_one_eq_mod,dx (by omega)]
theorem QtO (n:Nat)(w:World)(c:n≤1000000):Calls Tryz.prog 232 #[.int .u64 1,.int .u64 n] w fun e w'=>e= .returned (.tuple #[.int .u64 0,.int .u64 n])∧w'=w:=by
 have f:bits BinOp.and IntKind.u64 1 4294967295=1:=by decide
 have h:=QqY n c
 have i:(n:Int) / 4294967296=0:=by omega
 have j:=QkA (n:=n) (by omega)
 have k:IntKind.u64.wrap 0=0:=by decide
 have l:bits BinOp.and IntKind.u64 0 4294967295=0:=by decide
 go_enter Tryz.func232,Tryz.ntmps232
 go_wp2
 go_ret2
 exact ⟨rfl,rfl⟩
theorem Qw2 (a n:Int)(k:a=1)(u:0≤n∧n≤1000000):FC Tryz.prog 232 [(false,[.val (.int .u64 a)]),(false,[.val (.int .u64 n)])] [] 0 (QK (.tup [(false,[.val (.int .u64 0)]),(false,[.val (.int .u64 n)])])):=QqG fun t w B h=>by
 obtain ⟨o,q,rfl,⟨v,i,c⟩,p,r,rfl,⟨z,j,f⟩,rfl⟩:=h
 simp only[aI,and_true] at i j
 subst i j k
 have c:o= .int .u64 1:=c
 have f:p= .int .u64 n:=f
 subst c f
 obtain ⟨m,rfl⟩:∃m:Nat,n=m:=⟨n.toNat,by omega⟩
 refine Calls.mono (QtO m w (by omega)) fun e C l=> ?_
 obtain ⟨rfl,rfl⟩:=l
 exact ⟨_,rfl,QX _,[.int .u64 0,.int .u64 m],rfl,_,_,rfl,⟨_,rfl,rfl⟩,_,_,rfl,⟨_,rfl,rfl⟩,rfl⟩
theorem Qor {v:Int}{m k:Nat}:cpy (List.replicate m v++List.replicate k (0:Int)) m k ((((List.replicate m v++List.replicate k (0:Int))).take (0+m)).drop 0)=List.replicate (m+min m k) v++List.replicate (k - min m k) 0:=by
 have c:(List.replicate m v++List.replicate k (0:Int)).take m=List.replicate m v:=List.take_left' (by simp)
 have e:(List.replicate m v++List.replicate k (0:Int)).drop (m+min m k)=List.replicate (k - min m k) 0:=by
  rw[List.drop_append,az,bR (by simp),db,List.drop_replicate]
  congr 1
  omega
 rw[cpy,bw,dL,c,az,e,List.take_replicate,cF (Nat.min_le_left _ _),List.replicate_append_replicate]
theorem Qp4 {n v:Int}(f:0≤n):cpy (List.replicate n.toNat (Ty.zero .int)) 0 (List.replicate n.toNat (Ty.zero .int)).length [v]=List.replicate (((min [v].length (List.replicate n.toNat (Ty.zero .int)).length:Nat):Int)).toNat v++List.replicate (n.toNat - (((min [v].length (List.replicate n.toNat (Ty.zero .int)).length:Nat):Int)).toNat) 0:=by
 have h:=Qor (v:=v) (m:=0) (k:=n.toNat)
 have e:(Ty.zero .int:Int)=0:=rfl
 cases c:n.toNat with
 | zero=>simp[cpy]
 | succ k=>simp[cpy,e,List.replicate_succ]
theorem Qp3 {n m v:Int}{l:List Int}(h0:0≤m)(h:m≤n)(f:l=List.replicate m.toNat v++List.replicate (n.toNat - m.toNat) 0)(e:l.length=n.toNat):
 cpy l m.toNat (l.length - m.toNat) ((l.take (0+m.toNat)).drop 0)=List.replicate (m+((min ((l.take (0+m.toNat)).drop 0).length (l.length - m.toNat):Nat):Int)).toNat v++List.replicate (n.toNat - (m+((min ((l.take (0+m.toNat)).drop 0).length (l.length - m.toNat):Nat):Int)).toNat) 0:=by
 have c:((l.take (0+m.toNat)).drop 0).length=m.toNat:=by simp[e];omega
 rw[c,e]
 rw[f,Qor]
 congr 2 <;> omega
theorem UQ (s:List Int)(n:Int)(v:Int)(u:s=[v])(F:0≤n∧n≤1000000):FC Tryz.prog 158 [(false,[.dat Qs s]),(false,[dI n])] [] 0 (Xv 3 .int (List.replicate n.toNat v)):=by
 have w:(s.length:Int)=1:=by rw[u];rfl
 have q:decide (n<0)=false:=ay (by omega)
 have p:decide ((9223372036854775807:Int)<n)=false:=ay (by omega)
 have r:(List.replicate n.toNat (Ty.zero .int)).length=n.toNat:=az ..
 refine Qj Tryz.func158 rfl rfl Tryz.ntmps158 fun O L N I Q K J=> ?_
 refine acI 1 fun _=> ?_
 refine w8 ?_
 cases f:(decide (n<0))
 have z:=aa f
 refine w4 ?_
 refine alL 13 fun _=> ?_
 refine w_ ?_
 refine lc (KB (Qa rfl) Qac QiZ (by omega) rfl) ?_
 refine w_ ?_
 refine lc (KB (Qa rfl) Qac QiZ (by omega) rfl) ?_
 refine lc (dK (Qw2 (s.length:Int) n w F) QlM) ?_
 refine w9 ?_
 refine lc (QgB (Qa rfl) Evl.val rfl) ?_
 refine w_ ?_
 cases i:(decide ((0:Int)<(0:Int)))
 have B:=aa i
 refine w_ ?_
 refine lgy rfl rfl (QgB (Qa rfl) Evl.val rfl) ?_
 refine w2 ?_
 cases j:(decide ((9223372036854775807:Int)<n))
 have C:=aa j
 refine w4 ?_
 refine lc (Qag (Qa rfl) QiZ Qac (by omega) rfl)<|lc (Qei 0 (e:= .int) (n:=n) (Qa rfl) (Qa rfl) YV Qn1 rfl (by omega) (by omega) (by omega) rfl (Fresh.of rfl) (nlr rfl)) ?_
 refine w5 ?_
 refine lc (Qeg (e:= .int) (xs:=List.replicate (n).toNat (Ty.zero .int)) (lo:=0) (n:=(List.replicate (n).toNat (Ty.zero .int)).length) (ys:=s) (QqC (Qa rfl) rfl) rfl (by omega) (Evl.rep (Qa rfl)) rfl rfl YV Qn1 rfl) ?_
 refine w4 ?_
 refine Qu (fun G H=>∃(m:Int) (l:List Int),G=(n - m).toNat∧(0≤m∧m≤n∧(0<n→0<m))∧(l=List.replicate m.toNat v++List.replicate (n.toNat - m.toNat) 0)∧(l.length=n.toNat)∧H=⟨[(4,lf (.val (.slice none 0 0))),(7,lR 1),(8,lI m)],[ar 1 3 .int l]⟩) ⟨((min s.length ((List.replicate (n).toNat (Ty.zero .int)).length):Nat):Int),cpy (List.replicate (n).toNat (Ty.zero .int)) 0 ((List.replicate (n).toNat (Ty.zero .int)).length) s,rfl,(by rw[r,u];simp;omega),(by rw[u];exact Qp4 F.1),(by rw[Qic (by omega)];exact r),rfl⟩ ?_ ?_
 exact wp [(1,0)] ⟨(Qm (by first|rfl|simp)),trivial⟩
 rintro G H ⟨m,l,M,E,D,t,rfl⟩
 refine w7 ?_
 cases k:(decide (m<(l.length:Int)))
 have o:=aa k
 refine w7 ?_
 refine Qe<|fo_ L ?_
 rw[D,show n.toNat - m.toNat=0 by omega,show m.toNat=n.toNat by omega];simp
 have o:=ab k
 refine w3 ?_
 apply dV (i3 38 _ _ _ (io 41 (lf (.sub 1 1 ((m).toNat) (l.length - (m).toNat)))::i2 42 _ _ [io 44 (lf (.sub 1 1 0 ((m).toNat))),⟨some 45,lI ((min ((l.take (0+((m).toNat))).drop 0).length (l.length - (m).toNat):Nat):Int),[ar 1 3 .int (cpy l ((m).toNat) (l.length - (m).toNat) ((l.take (0+((m).toNat))).drop 0))]⟩,io 46 _,io 8 _])) [0,1,3,1,15,31,15,1,0,0]
 refine z3 ?_
 refine zz (fun _ c=>ac (Zq (e:= .int) (a:=(m).toNat) (b:=l.length - (m).toNat) (l:=(some m)) (h:=none) (c.v rfl) (c.en 1 rfl) (by exact (c.v rfl)) (by exact trivial) YV Wl rfl (by first|(simp only[ak,aj];omega)|omega|(simp only[ak,aj,ah,ap,az];omega)) (by first|(simp only[ak,aj];omega)|omega|(simp only[ak,aj,ah,ap,az];omega)) (by first|(simp only[ak,aj];omega)|omega|(simp only[ak,aj,ah,ap,az];omega)) (by first|rfl|simp) (by first|rfl|simp)) rfl) ?_
 refine z2 ?_
 refine zz (fun _ c=>ac (Zq (e:= .int) (a:=0) (b:=(m).toNat) (l:=none) (h:=(some m)) (c.v rfl) (c.en 1 rfl) (by exact trivial) (by exact (c.v rfl)) YV Wl rfl (by first|(simp only[ak,aj];omega)|omega|(simp only[ak,aj,ah,ap,az];omega)) (by first|(simp only[ak,aj];omega)|omega|(simp only[ak,aj,ah,ap,az];omega)) (by first|(simp only[ak,aj];omega)|omega|(simp only[ak,aj,ah,ap,az];omega)) (by first|rfl|simp) (by first|rfl|simp)) rfl)<|zz (fun _ c=>ac (Qeg (e:= .int) (xs:=l) (lo:=(m).toNat) (n:=l.length - (m).toNat) (ys:=(l.take (0+((m).toNat))).drop 0) (QqD (c.v rfl) (c.en 1 rfl)) (c.en 1 rfl) (by omega) (VH (e:= .int) (c.v rfl) (c.en 1 rfl) (by omega)) rfl rfl YV Qn1 rfl) rfl) ?_
 exact y2
 refine QV ⟨(m+((min ((l.take (0+((m).toNat))).drop 0).length (l.length - (m).toNat):Nat):Int)),(cpy l ((m).toNat) (l.length - (m).toNat) ((l.take (0+((m).toNat))).drop 0)),rfl,(by simp only[aX,ap,t];omega),(Qp3 E.1 E.2.1 D t),(by rw[Qic (by omega)];exact t),rfl⟩ (by simp only[aX,ap,t];omega) ?_
 exact wp [] ⟨(Qm (by first|rfl|simp)),trivial⟩
 exact absurd (j.symm.trans (show (decide ((9223372036854775807:Int)<n))=false from p)) (by decide)
 exact absurd (i.symm.trans (show (decide ((0:Int)<(0:Int)))=false from (by decide))) (by decide)
 exact absurd (f.symm.trans (show (decide (n<0))=false from q)) (by decide)
end Go.Proofs.YtjfpbcmfbnnooaaGreat
