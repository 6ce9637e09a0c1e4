/- Walks over abstract states: arcs of state graphs. -/
import Derived.Test.YtjaadeknhofhpaaGreatWv
import Derived.Test.YtjaadeknhofhpaaGreatAk
import Derived.Laws.Bits64b
set_option linter.unusedSimpArgs false
set_option linter.unusedVariables false
set_option linter.unusedSectionVars false
namespace Go.Proofs.YtjaadeknhofhpaaGreat
set_option maxHeartbeats 4000000
set_option maxRecDepth 100000
open Go.RowKit
set_option maxRecDepth 100000
set_option maxHeartbeats 4000000
def Qej (c:DSg)(i:Int):ByteArray:=(c.2.1[i.toNat]?).getD ByteArray.empty
def YE (c:DSg)(a:DAr):Prop:=(0≤a.1∧a.1≤(c.2.1.length:Int) - 1)∧(0≤a.2.2.2∧a.2.2.2≤(c.2.1.length:Int) - 1)∧Vs (c.1.length:Int) (a.2.1,a.2.2.1)∧Fit a (Qej c a.1) (Qej c a.2.2.2)
instance (c:DSg) (a:DAr):Decidable (YE c a):=inferInstanceAs (Decidable (_∧_))
section
variable {c:DSg}{a:DAr}{x y b code:ByteArray}{n sig p:Int}{j k m:Nat}
theorem W8 (h:c.2.1[p.toNat]? =some x):Qej c p=x:=by unfold Qej; rw[h]; rfl
theorem UR (m:ByteArray)(p:Int):bAt m p=(m.toList[p.toNat]?).getD 0:=by
  unfold bAt
  rw[bj]
  by_cases h:p.toNat < m.size
  · rw [d8 m p.toNat h, ai (by simpa using h)]
    rfl
  · rw[getElem?_neg m p.toNat h,bu (by simpa using h)]
theorem QgY (hs:x.size=y.size)(h:∀j:Nat,j < x.size→bAt x (j:Int)=bAt y (j:Int)):x=y:=by
  have e:x.toList=y.toList:=bz fun j=>by
    by_cases hj:j < x.size
    · have h1 := h j hj
      rw[UR,UR] at h1
      have h2:j < x.toList.length:=by rw[X7]; exact hj
      have h3:j < y.toList.length:=by rw[X7,← hs]; exact hj
      have e1:((j:Int)).toNat=j:=rfl
      rw[e1,ai h2,ai h3] at h1
      rw[ai h2,ai h3]
      exact congrArg some h1
    · rw[bu (by rw[X7]; omega),bu (by rw[X7]; omega)]
  rw[bj,bj] at e
  exact ByteArray.ext (Array.toList_inj.1 e)
theorem Qgm (code:ByteArray)(sig:Int)(b:ByteArray):(Hj code sig b).toList=code.toList.take sig.toNat++(b.toList++code.toList.drop (sig+1).toNat):=by
  have h:code.data.size=code.size:=rfl
  simp only[Hj,bj,ByteArray.data_append,ByteArray.data_extract,Array.toList_append,Array.toList_extract,aM]
  simp[h,List.extract_eq_take_drop]
  rw[br (by simp[h])]
theorem Qfq (h0:0≤sig)(h1:sig < code.size)(hb:b.size=1):(Hj code sig b).size=code.size:=by
  rw[← X7,Qgm]
  simp only[aa,ak,bn,X7,hb]
  omega
theorem Qmr (h0:0≤sig)(h1:sig < code.size)(hb:b.size=1)(hj:j < code.size):bAt (Hj code sig b) (j:Int)=if (j:Int)=sig then bAt b 0 else bAt code (j:Int):=by
  rw[UR,Qgm,UR,UR]
  have hl:=X7 code
  have hbl:=X7 b
  have e1:((j:Int)).toNat=j:=rfl
  rw[e1]
  by_cases e:(j:Int)=sig
  · rw [if_pos e, bg (by rw [ak]; omega), bd (by rw [ak]; omega)]
    rw[show j - (code.toList.take sig.toNat).length=((0:Int)).toNat by rw[ak]; show _=0; omega]
  · rw [if_neg e]
    by_cases h:(j:Int) < sig
    · rw[bd (by rw[ak]; omega),b8,if_pos (by omega)]
    · rw [bg (by rw [ak]; omega), bg (by rw [ak]; omega), cC]
      congr 2
      rw[ak]
      omega
theorem QcP (h:YC x n)(hj:j < x.size):bAt x (j:Int)=48∨bAt x (j:Int)=49:=by
  have h2:j < x.toList.length:=by rw[X7]; exact hj
  rw[UR]
  have e1:((j:Int)).toNat=j:=rfl
  rw[e1,ai h2]
  exact h.1 _ (cI h2)
theorem Qhd (b:Bool):bAt (Y8 b) 0=if b=true then 49 else 48:=by cases b <;> rfl
theorem WN (b:Bool):(Y8 b).size=1:=rfl
theorem QcK {c:UInt8}{b:Bool}(h:c=48∨c=49):decide (c=49)=b↔c=if b=true then 49 else 48:=by
  rcases h with rfl | rfl <;> cases b <;> decide
theorem QrA (hx:YC x n)(hy:YC y n)(hs:a.2.1 < 0):Fit a x y↔x=y:=by
  have hsz:x.size=y.size:=by have:=hx.2; have:=hy.2; omega
  constructor
  · intro h
    refine QgY hsz fun j hj=> ?_
    have:=h j hj
    unfold Xy at this
    rwa [if_neg (by omega)] at this
  · rintro rfl j hj
    unfold Xy
    rw[if_neg (by omega)]
theorem QlZ (hx:YC x n)(hy:YC y n)(hs:¬a.2.1 < 0)(hn:a.2.1 < n):Fit a x y↔x=Hj y a.2.1 (Y8 (!a.2.2.1))∧y=Hj x a.2.1 (Y8 a.2.2.1):=by
  have hxs:=hx.2
  have hys:=hy.2
  have z1:=Qfq (code:=y) (sig:=a.2.1) (b:=Y8 (!a.2.2.1)) (by omega) (by omega) (WN _)
  have z2:=Qfq (code:=x) (sig:=a.2.1) (b:=Y8 a.2.2.1) (by omega) (by omega) (WN _)
  have g1:=fun (j:Nat) hj=>Qmr (j:=j) (code:=y) (sig:=a.2.1) (b:=Y8 (!a.2.2.1)) (by omega) (by omega) (WN _) hj
  have g2:=fun (j:Nat) hj=>Qmr (j:=j) (code:=x) (sig:=a.2.1) (b:=Y8 a.2.2.1) (by omega) (by omega) (WN _) hj
  constructor
  · intro h
    constructor
    · refine QgY (by omega) fun j hj => ?_
      rw[g1 j (by omega),Qhd]
      have h1:=h j hj
      unfold Xy at h1
      split
      · rename_i e
        rw[if_pos e] at h1
        exact (QcK (QcP hx hj)).1 h1.1
      · rename_i e
        rwa [if_neg e] at h1
    · refine QgY (by omega) fun j hj => ?_
      rw[g2 j (by omega),Qhd]
      have h1:=h j (by omega)
      unfold Xy at h1
      split
      · rename_i e
        rw[if_pos e] at h1
        exact (QcK (QcP hy hj)).1 h1.2
      · rename_i e
        rw[if_neg e] at h1
        exact h1.symm
  · rintro ⟨e1, e2⟩ j hj
    have h1:=g1 j (by omega)
    have h2:=g2 j hj
    rw[← e1,Qhd] at h1
    rw[← e2,Qhd] at h2
    unfold Xy
    split
    · rename_i e
      rw[if_pos e] at h1 h2
      exact ⟨(QcK (QcP hx hj)).2 h1,(QcK (QcP hy (by omega))).2 h2⟩
    · rename_i e
      rwa [if_neg e] at h1
theorem Qsf (h:¬(0≤a.1∧a.1≤(c.2.1.length:Int) - 1)):false=decide (YE c a):=(az fun g=>h g.1).symm
theorem Qsl (h:¬(0≤a.2.2.2∧a.2.2.2≤(c.2.1.length:Int) - 1)):false=decide (YE c a):=(az fun g=>h g.2.1).symm
theorem Qrr (h:¬Vs (c.1.length:Int) (a.2.1,a.2.2.1)):false=decide (YE c a):=(az fun g=>h g.2.2.1).symm
theorem Qjt (h3:Vs (c.1.length:Int) (a.2.1,a.2.2.1))(hs:¬a.2.1 < 0):a.2.1 < (c.1.length:Int):=by
  rcases h3 with h | h
  · have h:0≤a.2.1∧a.2.1≤(c.1.length:Int) - 1:=h; omega
  · have h:a.2.1= -1:=h.1; omega
section
variable (h1:0≤a.1∧a.1≤(c.2.1.length:Int) - 1)(h2:0≤a.2.2.2∧a.2.2.2≤(c.2.1.length:Int) - 1)(h3:Vs (c.1.length:Int) (a.2.1,a.2.2.1))(hx:c.2.1[a.1.toNat]? =some x)(hy:c.2.1[a.2.2.2.toNat]? =some y)
include h1 h2 h3 hx hy
theorem Qgu:YE c a↔Fit a x y:=by
  unfold YE
  rw[W8 hx,W8 hy]
  exact ⟨fun g=>g.2.2.2,fun g=>⟨h1,h2,h3,g⟩⟩
theorem QrP (hb:∀x∈c.2.1,YC x (c.1.length:Int))(hs:a.2.1 < 0):decide (x=y)=decide (YE c a):=cO.2 (by rw[Qgu h1 h2 h3 hx hy,QrA (hb x (a8 hx)) (hb y (a8 hy)) hs])
theorem QoR (hb:∀x∈c.2.1,YC x (c.1.length:Int))(hs:¬a.2.1 < 0)(h:¬x=Hj y a.2.1 (Y8 (!a.2.2.1))):false=decide (YE c a):=(az fun g=>by
  rw[Qgu h1 h2 h3 hx hy,QlZ (hb x (a8 hx)) (hb y (a8 hy)) hs (Qjt h3 hs)] at g
  exact h g.1).symm
theorem Qpy (hb:∀x∈c.2.1,YC x (c.1.length:Int))(hs:¬a.2.1 < 0)(h:x=Hj y a.2.1 (Y8 (!a.2.2.1))):decide (y=Hj x a.2.1 (Y8 a.2.2.1))=decide (YE c a):=cO.2 (by
  rw[Qgu h1 h2 h3 hx hy,QlZ (hb x (a8 hx)) (hb y (a8 hy)) hs (Qjt h3 hs)]
  exact ⟨fun g=>⟨h,g⟩,fun g=>g.2⟩)
end
end
theorem Qfm (c:(List (ByteArray×Int))×List ByteArray×(List (Int×Int×Bool×Int)))(a:Int×Int×Bool×Int)(hcd:∀x∈c.2.1,YC x (c.1.length:Int))(hc1:c.1.length≤1000):FC Tryz.prog 182 [(true,[.dat Qo c.1, .dat Qr c.2.1, .dat QD c.2.2]),(true,[dI a.1,dI a.2.1,dB a.2.2.1,dI a.2.2.2])] [] 0 (Zk (lB (decide (YE c a)))):=by
 refine Qy Tryz.func182 rfl rfl Tryz.ntmps182 fun O_ hO w0_ N0_ X_ h0_ f0_=> ?_
 refine AC.fact (QH (x:= .tmp 1) (i:=0) (Qf rfl) rfl) fun hi1=>AC.fact (QH (x:= .tmp 1) (i:=1) (Qf rfl) rfl) fun hi2=>AC.fact (QH (x:= .tmp 1) (i:=3) (Qf rfl) rfl) fun hi3=> ?_
 refine w_ ?_
 refine xbx 0 ?_
 refine xbx 1 ?_
 iterate 8 refine w_ ?_
 refine AL.fact (Qp (x:= .tmp 10) (Qa rfl)) fun hl4=> ?_
 iterate 2 refine w_ ?_
 refine lc (dK (XB a.1 0 ((c.2.1.length:Int) - 1)) WQ) ?_
 iterate 2 refine w_ ?_
 cases hb5:(decide (0≤a.1∧a.1≤((c.2.1.length:Int) - 1)))
 have hb5':=a6 hb5
 iterate 27 refine w_ ?_
 subst hO
 have e6:(false:Bool)=(decide (YE c a)):=by
  exact Qsf ‹_›
 exact Qe (Res.one rfl (Qb rfl)) (by rw[← e6] <;> rfl) rfl
 have hb5':=a7 hb5
 iterate 4 refine w_ ?_
 refine AL.fact (Qp (x:= .tmp 19) (Qa rfl)) fun hl7=> ?_
 iterate 2 refine w_ ?_
 refine lgy rfl rfl (dK (XB a.2.2.2 0 ((c.2.1.length:Int) - 1)) WQ) ?_
 iterate 3 refine w_ ?_
 cases hb8:(decide (0≤a.2.2.2∧a.2.2.2≤((c.2.1.length:Int) - 1)))
 have hb8':=a6 hb8
 iterate 17 refine w_ ?_
 subst hO
 have e9:(false:Bool)=(decide (YE c a)):=by
  exact Qsl ‹_›
 exact Qe (Res.one rfl (Qb rfl)) (by rw[← e9] <;> rfl) rfl
 have hb8':=a7 hb8
 iterate 4 refine w_ ?_
 refine lgy rfl rfl (Qi XM ⟨_,_,rfl,(Qf rfl),⟨_,_,rfl,(Qf rfl),rfl⟩⟩ (ah.1 rfl) rfl rfl) ?_
 iterate 2 refine w_ ?_
 refine AL.fact (Qp (x:= .tmp 32) (Qa rfl)) fun hl10=> ?_
 refine w_ ?_
 refine lgy rfl rfl (dK (Qcz (a.2.1,a.2.2.1) (c.1.length:Int) (by omega)) Qj1) ?_
 iterate 3 refine w_ ?_
 cases hb11:(decide (Vs (c.1.length:Int) (a.2.1,a.2.2.1)))
 have hb11':=a6 hb11
 iterate 5 refine w_ ?_
 subst hO
 have e12:(false:Bool)=(decide (YE c a)):=by
  exact Qrr ‹_›
 exact Qe (Res.one rfl (Qb rfl)) (by rw[← e12] <;> rfl) rfl
 have hb11':=a7 hb11
 iterate 2 refine w_ ?_
 obtain ⟨cx,hx14⟩:=gx c.2.1 ((a.1).toNat)
 have hzcx:=(hcd _ (a8 hx14)).2
 obtain ⟨cy,hx16⟩:=gx c.2.1 ((a.2.2.2).toNat)
 have hzcy:=(hcd _ (a8 hx16)).2
 apply dW [io 37 _,io 38 _,io 39 _,io 40 _,io 41 _,io 42 _,io 43 _,io 44 _,io 45 _,io 46 _,io 47 _,io 48 _,io 5 _,io 6 _] [0,0,3,3,0,0,63,63,255,255,63,63,4032,0]
 iterate 14 refine z_ ?_
 exact zN
 iterate 6 refine w_ ?_
 cases hb17:(decide (a.2.1 < 0))
 have hb17':=a6 hb17
 iterate 2 refine w_ ?_
 have hsl:=Qjt (c:=c) (a:=a) ‹_› ‹_›
 cases hb18:(decide (cx=(Hj cy a.2.1 (Y8 (!a.2.2.1)))))
 have hb18':=a6 hb18
 apply dW [io 55 _,io 56 _,io 57 _,io 58 _,io 59 _,io 60 _,io 61 _,io 62 (lf (dS (Y8 (!a.2.2.1)))),io 63 (lf (dS (Hj cy a.2.1 (Y8 (!a.2.2.1))))),io 64 (lB false),io 65 _,io 66 _,io 67 _,io 68 _,io 69 _,io 70 _,io 71 _,io 72 _,io 73 _,io 74 _,io 75 _,io 4 _] [0,1,3,3,15,15,15,15,1,0,0,0,2048,6144,6144,30720,30720,30720,2048,0,0,0]
 iterate 7 refine z_ ?_
 refine zz (fun _ h_=>ac (dK (XQ (!a.2.2.1)) VQ) rfl) ?_
 refine zz (fun _ h_=>ac (dK (Uu cy a.2.1 (Y8 (!a.2.2.1)) (by omega) ⟨by omega,by rw[WN]; decide⟩) HZ) rfl) ?_
 refine zz (fun _ h_=>ac (QL (hb18) (VG (h_.v rfl) (h_.v rfl) rfl)) rfl) ?_
 iterate 12 refine z_ ?_
 exact zN
 refine w_ ?_
 subst hO
 have e19:(false:Bool)=(decide (YE c a)):=by
  exact QoR ‹_› ‹_› ‹_› (x:=cx) (y:=cy) ‹_› ‹_› hcd ‹_› ‹_›
 exact Qe (Res.one rfl (Qb rfl)) (by rw[← e19] <;> rfl) rfl
 have hb18':=a7 hb18
 apply dW [io 55 _,io 56 _,io 57 _,io 58 _,io 59 _,io 60 _,io 61 _,io 62 (lf (dS (Y8 (!a.2.2.1)))),io 63 (lf (dS (Hj cy a.2.1 (Y8 (!a.2.2.1))))),io 64 (lB true),io 65 _,io 66 _,io 67 _,io 68 _,io 69 _,io 70 _,io 71 _,io 72 (lf (dS (Y8 a.2.2.1))),io 73 (lf (dS (Hj cx a.2.1 (Y8 a.2.2.1)))),io 74 _,io 75 _,io 4 _] [0,1,3,3,15,15,15,15,1,0,0,0,2048,6144,6144,30720,30720,30720,2048,0,0,0]
 iterate 7 refine z_ ?_
 refine zz (fun _ h_=>ac (dK (XQ (!a.2.2.1)) VQ) rfl) ?_
 refine zz (fun _ h_=>ac (dK (Uu cy a.2.1 (Y8 (!a.2.2.1)) (by omega) ⟨by omega,by rw[WN]; decide⟩) HZ) rfl) ?_
 refine zz (fun _ h_=>ac (QL (hb18) (VG (h_.v rfl) (h_.v rfl) rfl)) rfl) ?_
 iterate 7 refine z_ ?_
 refine zz (fun _ h_=>day rfl (h_.k rfl) (dK (XQ a.2.2.1) VQ) rfl) ?_
 refine zz (fun _ h_=>day rfl (h_.k rfl) (dK (Uu cx a.2.1 (Y8 a.2.2.1) (by omega) ⟨by omega,by rw[WN]; decide⟩) HZ) rfl) ?_
 iterate 3 refine z_ ?_
 exact zN
 refine w_ ?_
 subst hO
 have e20:(decide (cy=(Hj cx a.2.1 (Y8 a.2.2.1))):Bool)=(decide (YE c a)):=by
  exact Qpy ‹_› ‹_› ‹_› (x:=cx) (y:=cy) ‹_› ‹_› hcd ‹_› ‹_›
 exact Qe (Res.one rfl (Qb rfl)) (by rw[e20] <;> rfl) rfl
 have hb17':=a7 hb17
 iterate 8 refine w_ ?_
 subst hO
 have e21:(decide (cx=cy):Bool)=(decide (YE c a)):=by
  exact QrP ‹_› ‹_› ‹_› (x:=cx) (y:=cy) ‹_› ‹_› hcd ‹_›
 exact Qe (Res.one rfl (Qb rfl)) (by rw[e21] <;> rfl) rfl
end Go.Proofs.YtjaadeknhofhpaaGreat
namespace Go.Proofs.YtjaadeknhofhpaaGreat
set_option maxHeartbeats 4000000
set_option maxRecDepth 100000
open Go.RowKit
set_option maxRecDepth 100000
set_option maxHeartbeats 4000000
inductive Rch (es:List (Int×Int)):Int→Prop
  | zero:Rch es 0
  | step {u v:Int}:Rch es u→(u,v)∈es→Rch es v
def ZJ (rs:List DAr):List (Int×Int):=rs.map fun a=>(a.1,a.2.2.2)
def InE (n:Nat)(e:Int×Int):Prop:=(0≤e.1∧e.1 < n)∧0≤e.2∧e.2 < n
def HV (n:Nat)(es:List (Int×Int)):Prop:=∀k:Nat,k < n→Rch es k
def W9 (e:Int×Int)(m:List Bool):List Bool:=if m[e.1.toNat]? =some true then m.set e.2.toNat true else m
def XI:List (Int×Int)→List Bool→List Bool
  | [],m=>m
  | e :: es,m=>XI es (W9 e m)
def XH (es:List (Int×Int)):Nat→List Bool→List Bool
  | 0,m=>m
  | f+1,m=>XH es f (XI es m)
section
variable {es:List (Int×Int)}{e:Int×Int}{m:List Bool}{n f i k:Nat}{rs:List DAr}{a:DAr}{b:Bool}
theorem QfA:(W9 e m).length=m.length:=by unfold W9; split <;> simp
theorem Qnk:(XI es m).length=m.length:=by
  induction es generalizing m with
  | nil=>rfl
  | cons e es ih=>rw[XI,ih,QfA]
theorem QdW (h:m[i]? =some true):(W9 e m)[i]? =some true:=by
  unfold W9
  split
  · by_cases h2 : e.2.toNat = i
    · rw[h2,aR (ab.1 h).1]
    · rw[aZ h2]; exact h
  · exact h
theorem Qd4 (h:m[i]? =some true):(XI es m)[i]? =some true:=by
  induction es generalizing m with
  | nil=>exact h
  | cons e es ih=>rw[XI]; exact ih (QdW h)
theorem QnK (he:e∈es)(h:m[e.1.toNat]? =some true)(hl:e.2.toNat < m.length):(XI es m)[e.2.toNat]? =some true:=by
  induction es generalizing m with
  | nil=>cases he
  | cons d es ih=>
    rw[XI]
    rcases aH.1 he with rfl | he
    · refine Qd4 ?_
      unfold W9
      rw[if_pos h,aR hl]
    · exact ih he (QdW h) (by rw[QfA]; exact hl)
def Qcx (m:List Bool):Nat:=(m.filter fun b=> !b).length
theorem Qi0 (h:m[i]? =some false):Qcx (m.set i true)+1=Qcx m:=by
  induction m generalizing i with
  | nil=>simp at h
  | cons x l ih=>
    cases i with
    | zero=>
      simp only[bJ,ba] at h
      subst h
      simp[Qcx]
    | succ i=>
      have:=ih (i:=i) (by simpa using h)
      simp only[Qcx,cB,List.filter_cons] at this ⊢
      split <;> simp_all
theorem Qnt {α:Type _}{vs:List α}{i:Nat}{c:α}(h:vs[i]? =some c):vs.set i c=vs:=by
  apply bz
  intro j
  by_cases e:i=j
  · subst e; rw[aR (ab.1 h).1,h]
  · rw[aZ e]
theorem QoE:W9 e m=m∨Qcx (W9 e m) < Qcx m:=by
  unfold W9
  split
  · cases h : m[e.2.toNat]? with
    | none=>left; rw[List.set_eq_of_length_le]; rwa [List.getElem?_eq_none_iff] at h
    | some b=>
      cases b with
      | true=>left; exact Qnt h
      | false=>right; have:=Qi0 h; omega
  · exact .inl rfl
theorem Qn0:XI es m=m∨Qcx (XI es m) < Qcx m:=by
  induction es generalizing m with
  | nil=>exact .inl rfl
  | cons e es ih=>
    rw[XI]
    rcases QoE (e:=e) (m:=m) with h | h
    · rw[h]; exact ih
    · rcases ih (m := W9 e m) with h2 | h2
      · rw[h2]; exact .inr h
      · exact .inr (Nat.lt_trans h2 h)
theorem QfB (h:XI es m=m):∀f,XH es f m=m
  | 0=>rfl
  | f+1=>by rw[XH,h]; exact QfB h f
theorem Qhc (h:Qcx m < f):XI es (XH es f m)=XH es f m:=by
  induction f generalizing m with
  | zero=>omega
  | succ f ih=>
    rw[XH]
    rcases Qn0 (es:=es) (m:=m) with h2 | h2
    · rw[h2,QfB h2,h2]
    · exact ih (by omega)
theorem Qjv (h:m[i]? =some true):(XH es f m)[i]? =some true:=by
  induction f generalizing m with
  | zero=>exact h
  | succ f ih=>rw[XH]; exact ih (Qd4 h)
theorem QbP:(XH es f m).length=m.length:=by
  induction f generalizing m with
  | zero=>rfl
  | succ f ih=>rw[XH,ih,Qnk]
def m0 (n:Nat):List Bool:=(List.replicate n false).set 0 true
theorem Qtc (h:1≤n):Qcx (m0 n) < n:=by
  have h1:(List.replicate n false)[0]? =some false:=by rw[bI,if_pos (by omega)]
  have:=Qi0 h1
  have h2:Qcx (List.replicate n false)=n:=by simp[Qcx]
  unfold m0
  omega
theorem Qid (he:(e.1,e.2)∈es)(hr:InE n e)(h:∀k:Nat,m[k]? =some true→Rch es k):∀k:Nat,(W9 e m)[k]? =some true→Rch es k:=fun k hk=>by
  obtain ⟨⟨r1,r2⟩,r3,r4⟩:=hr
  unfold W9 at hk
  split at hk
  · rename_i h1
    by_cases e2:e.2.toNat=k
    · have h3 := h _ h1
      rw[show ((e.1.toNat:Nat):Int)=e.1 by omega] at h3
      rw[show (k:Int)=e.2 by omega]
      exact .step h3 he
    · rw[aZ e2] at hk; exact h k hk
  · exact h k hk
theorem QiL {ds:List (Int×Int)}(hd:∀e∈ds,e∈es)(hr:∀e∈es,InE n e)(h:∀k:Nat,m[k]? =some true→Rch es k):∀k:Nat,(XI ds m)[k]? =some true→Rch es k:=by
  induction ds generalizing m with
  | nil=>exact h
  | cons e ds ih=>rw[XI]; exact ih (fun e he=>hd e (ax _ he)) (Qid (hd e (aA ..)) (hr e (hd e (aA ..))) h)
theorem QiC (hr:∀e∈es,InE n e)(h:∀k:Nat,m[k]? =some true→Rch es k):∀k:Nat,(XH es f m)[k]? =some true→Rch es k:=by
  induction f generalizing m with
  | zero=>exact h
  | succ f ih=>rw[XH]; exact ih (QiL (fun _ h=>h) hr h)
theorem QmU (h1:1≤n)(hr:∀e∈es,InE n e)(k:Nat)(hk:k < n):(XH es n (m0 n))[k]? =some true↔Rch es k:=by
  have hl:(XH es n (m0 n)).length=n:=by rw[QbP]; simp[m0]
  constructor
  · refine QiC hr (fun k hk => ?_) k
    unfold m0 at hk
    by_cases e:0=k
    · subst e; exact .zero
    · rw [aZ e, bI] at hk
      split at hk <;> cases hk
  · intro h
    have main:∀u:Int,Rch es u→0≤u∧u < n∧(XH es n (m0 n))[u.toNat]? =some true:=fun u hu=>by
      induction hu with
      | zero=>exact ⟨by omega,by omega,Qjv (by unfold m0; exact aR (by simp; omega))⟩
      | @step u v _ he ih=>
        obtain ⟨_,r3,r4⟩:=hr _ he
        refine ⟨r3,r4, ?_⟩
        have r3:0≤v:=r3
        have r4:v < (n:Int):=r4
        have:=QnK he ih.2.2 (by rw[hl]; show v.toNat < n; omega)
        rwa [Qhc (Qtc h1)] at this
    exact (main k h).2.2
theorem Qeh {n:Nat}(h:∀a∈rs,InR n a):∀e∈ZJ rs,InE n e:=fun e he=>by
  obtain ⟨a,ha,rfl⟩:=bQ.1 he
  exact h a ha
theorem QfU (hx:rs[i]? =some a):XI ((ZJ rs).drop i) m=XI ((ZJ rs).drop (i+1)) (W9 (a.1,a.2.2.2) m):=by
  rw[Yb (x:=(a.1,a.2.2.2)) (by unfold ZJ; rw[b6,hx]; rfl),XI]
theorem Qgp (h:m[a.1.toNat]? =some b)(hb:b=true):W9 (a.1,a.2.2.2) m=m.set a.2.2.2.toNat true:=by unfold W9; rw[if_pos (by rw[h,hb])]
theorem QiJ (h:m[a.1.toNat]? =some b)(hb:b=false):W9 (a.1,a.2.2.2) m=m:=by unfold W9; rw[if_neg (by rw[h,hb]; intro h; cases h)]
theorem QoX (h:rs.length≤i):XI ((ZJ rs).drop i) m=m:=by rw[bt (by simpa [ZJ] using h),XI]
section
variable [Decidable (HV n es)]
theorem Qs5 (h1:1≤n)(hr:∀e∈es,InE n e)(hm:XH es n (m0 n)=m)(hx:m[k]? =some b)(hb:b=false):false=decide (HV n es):=(az (p:=HV n es) fun h=>by
  have hl:(XH es n (m0 n)).length=n:=by rw[QbP]; simp[m0]
  have hk:k < n:=by rw[← hl,hm]; exact (ab.1 hx).1
  have:=(QmU h1 hr k hk).2 (h k hk)
  rw[hm,hx,hb] at this
  cases this).symm
theorem QrO (h1:1≤n)(hr:∀e∈es,InE n e)(hm:XH es n (m0 n)=m)(h:∀j,j < k→m[j]? =some true)(hk:m.length≤k):true=decide (HV n es):=(aI (p:=HV n es) fun j hj=>by
  have hl:(XH es n (m0 n)).length=n:=by rw[QbP]; simp[m0]
  rw[hm] at hl
  exact (QmU h1 hr j hj).1 (by rw[hm]; exact h j (by omega))).symm
end
end
theorem QqV {m:List Bool}{k:Nat}{b:Bool}(h:∀j,j < k→m[j]? =some true)(hx:m[k]? =some b)(hb:b=true):∀j,j < k+1→m[j]? =some true:=fun j hj=>by
  by_cases e:j=k
  · rw[e,hx,hb]
  · exact h j (by omega)
theorem QbK (as_:List (Int×Int×Bool×Int))(hl:as_.length≤1000000):FC Tryz.prog 180 [(false,[.dat QD as_])] [] 0 (Xe 289 QfZ (ZJ as_)):=by
 refine Qy Tryz.func180 rfl rfl Tryz.ntmps180 fun O_ hO w0_ N0_ X_ h0_ f0_=> ?_
 iterate 4 refine w_ ?_
 refine lc (dBs 0 (e:=QfZ) QcJ) ?_
 iterate 5 refine w_ ?_
 refine AL.fact (Qp (x:= .tmp 7) (Qa rfl)) fun hl1=> ?_
 iterate 4 refine w_ ?_
 refine Qm (fun m_ s_=>∃(k:Nat),k≤as_.length∧m_=as_.length - k∧s_=⟨[(2,lf (.val (.slice none 0 0))),(3,lR 1),(7,lf (.dat QD as_)),(8,lI (as_.length:Int)),(9,lI (k:Int))],[(1,some (.arr 289 QfZ (ZJ (as_.take k))))]⟩) ⟨0,ap _,rfl,rfl⟩ ?_ ?_
 exact wp [(1,0)] ⟨(Qh (by first | rfl | simp)),trivial⟩
 rintro m_ s_ ⟨k,hk2,hm3,rfl⟩
 have hsl:(ZJ (as_.take k)).length≤as_.length:=by simp only[ZJ,aF,ak]; omega
 iterate 4 refine w_ ?_
 cases hb4:(decide ((k:Int) < (as_.length:Int)))
 have hb4':=a6 hb4
 iterate 8 refine w_ ?_
 subst hO
 refine Zc (e:=QfZ) (xs:=(ZJ (as_.take k))) (Res.one rfl (Qb rfl)) rfl ?_
 rw[QN (by omega)]
 have hb4':=a7 hb4
 iterate 5 refine w_ ?_
 obtain ⟨x5,hx6⟩:=gx as_ k
 iterate 2 refine w_ ?_
 refine lc (xal 2 QA Za) ?_
 iterate 6 refine w_ ?_
 refine AL.fact (Ql (x:= .tmp 15) (Qa rfl)) fun hi7=> ?_
 iterate 2 refine w_ ?_
 refine AL.fact (Ql (x:= .tmp 17) (Qa rfl)) fun hi8=>lc (Qi Qsb ⟨_,_,rfl,(Qf rfl),⟨_,_,rfl,(Qf rfl),rfl⟩⟩ (ah.1 rfl) rfl rfl) ?_
 refine lc (dBs 3 (e:=QfZ) QcJ (hab:=by exact ⟨_,_,_,_,rfl,⟨[dI x5.1],[dI x5.2.2.2],_,_,_,_,rfl,rfl,⟨rfl,rfl⟩,⟨rfl,rfl⟩,rfl⟩,⟨rfl,rfl⟩,rfl⟩)) ?_
 refine lc (dA 4 QrK) ?_
 refine w_ ?_
 refine Qc ?_
 iterate 4 refine w_ ?_
 refine Qc<|QE ⟨k+1,by omega,rfl,rfl⟩ (by omega) ?_
 exact wp [(1,4)] ⟨(Qh (by rw[QO hx6]; simp[ZJ])),trivial⟩
theorem UE (s:List Int)(v:Int):FC Tryz.prog 269 [(false,[.dat QI s]),(false,[dI v])] [] 0 (Zk (lI (Ze (fun y=>decide (v=y)) s))):=by
 refine Qy Tryz.func269 rfl rfl Tryz.ntmps269 fun O_ hO w0_ N0_ X_ h0_ f0_=> ?_
 refine AC.fact (Ql (x:= .tmp 1) (Qa rfl)) fun hi1=> ?_
 iterate 6 refine w_ ?_
 refine AL.fact (Qp (x:= .tmp 6) (Qa rfl)) fun hl2=> ?_
 iterate 4 refine w_ ?_
 refine Qm (fun m_ s_=>∃(k:Nat),k≤s.length∧m_=s.length - k∧(NoneTo (fun y=>decide (v=y)) s k)∧s_=⟨[(0,lf (.dat QI s)),(1,lI v),(7,lI (s.length:Int)),(8,lI (k:Int))],[]⟩) ⟨0,ap _,rfl,NoneTo.zero,rfl⟩ ?_ ?_
 exact wo []
 rintro m_ s_ ⟨k,hk3,hm4,hno,rfl⟩
 iterate 4 refine w_ ?_
 cases hb5:(decide ((k:Int) < (s.length:Int)))
 have hb5':=a6 hb5
 iterate 7 refine w_ ?_
 subst hO
 have e6:((-1):Int)=(Ze (fun y=>decide (v=y)) s):=by
  first | exact (hno.no (by omega)).symm
 exact Qe (Res.one rfl (Qb rfl)) (by rw[← e6] <;> rfl) rfl
 have hb5':=a7 hb5
 iterate 12 refine w_ ?_
 obtain ⟨x7,hx8⟩:=gx s k
 iterate 2 refine w_ ?_
 refine AL.fact (Ql (x:= .tmp 15) (Qa rfl)) fun hi9=> ?_
 iterate 2 refine w_ ?_
 cases hb10:(decide (v=x7))
 have hb10':=a6 hb10
 iterate 6 refine w_ ?_
 refine Qc<|QE ⟨k+1,by omega,rfl,hno.step hx8 ‹_›,rfl⟩ (by omega) ?_
 exact wo []
 have hb10':=a7 hb10
 iterate 6 refine w_ ?_
 subst hO
 have e11:((k:Int):Int)=(Ze (fun y=>decide (v=y)) s):=by
  exact (hno.at hx8 ‹_›).symm
 exact Qe (Res.one rfl (Qb rfl)) (by rw[e11] <;> rfl) rfl
theorem Xq (s:List Int)(v:Int):FC Tryz.prog 178 [(false,[.dat QI s]),(false,[dI v])] [] 0 (Zk (lB (s.any (fun y=>decide (v=y))))):=by
 refine Qy Tryz.func178 rfl rfl Tryz.ntmps178 fun O_ hO w0_ N0_ X_ h0_ f0_=> ?_
 refine AC.fact (Ql (x:= .tmp 1) (Qa rfl)) fun hi1=> ?_
 iterate 6 refine w_ ?_
 refine lc (dK (UE s v) Qlq) ?_
 iterate 4 refine w_ ?_
 subst hO
 have e2:(decide (0≤(Ze (fun y=>decide (v=y)) s)):Bool)=(s.any (fun y=>decide (v=y))):=by
  exact VN _ _
 exact Qe (Res.one rfl (Qb rfl)) (by rw[e2] <;> rfl) rfl
theorem Qfj (c:(List (ByteArray×Int))×List ByteArray×(List (Int×Int×Bool×Int)))[Decidable (HV c.2.1.length (ZJ c.2.2))](hn:1≤c.2.1.length∧c.2.1.length≤300)(ha:∀a∈c.2.2,InR c.2.1.length a):FC Tryz.prog 183 [(true,[.dat Qo c.1, .dat Qr c.2.1, .dat QD c.2.2])] [] 0 (Zk (lB (decide (HV c.2.1.length (ZJ c.2.2))))):=by
 have hes:=Qeh ha
 have hrl:(List.replicate c.2.1.length (Ty.zero .bool)).length=c.2.1.length:=ay ..
 refine Qy Tryz.func183 rfl rfl Tryz.ntmps183 fun O_ hO w0_ N0_ X_ h0_ f0_=> ?_
 refine w_ ?_
 refine xbx 0 ?_
 iterate 5 refine w_ ?_
 refine AL.fact (Qp (x:= .tmp 9) (Qa rfl)) fun hl1=> ?_
 refine w_ ?_
 refine lc (Wd 1 (e:= .bool) (n:=c.2.1.length) (Qa rfl) (Qa rfl) Qhi QsE rfl (by omega) (by omega) rfl (Fresh.of rfl) (nlr rfl)) ?_
 iterate 5 refine w_ ?_
 obtain ⟨x2,hx3⟩:=gx (List.replicate c.2.1.length (Ty.zero .bool)) 0
 refine lc (QG (e:= .bool) (z':=true) (Qa rfl) rfl hx3 rfl (Evl.ev Zg) rfl Qa8 rfl rfl) ?_
 iterate 5 refine w_ ?_
 refine AL.fact (Qp (x:= .tmp 15) (Qa rfl)) fun hl4=> ?_
 iterate 4 refine w_ ?_
 refine Qm (fun m_ s_=>∃(p:Nat) (met:List Bool),p≤c.2.1.length∧m_=c.2.1.length - p∧(XH (ZJ c.2.2) c.2.1.length (m0 c.2.1.length)=XH (ZJ c.2.2) (c.2.1.length - p) met)∧(met.length=c.2.1.length)∧s_=⟨[(1,lP 0 0),(2,lB false),(3,lR 2),(16,lI (c.2.1.length:Int)),(17,lI (p:Int))],[(0,some (.box 52 [.dat Qo c.1, .dat Qr c.2.1, .dat QD c.2.2])),(2,some (.arr 4 .bool met))]⟩) ⟨0,(List.replicate c.2.1.length (Ty.zero .bool)).set 0 true,ap _,rfl,rfl,(by simp),rfl⟩ ?_ ?_
 exact wp [(2,1)] ⟨rfl,(Qh (by first | rfl | simp)),trivial⟩
 rintro m_ s_ ⟨p,met,hk5,hm6,hA,hL,rfl⟩
 iterate 4 refine w_ ?_
 cases hb7:(decide ((p:Int) < (c.2.1.length:Int)))
 have hb7':=a6 hb7
 iterate 10 refine w_ ?_
 refine Qm (fun m_ s_=>∃(k:Nat),k≤met.length∧m_=met.length - k∧(∀j,j < k→met[j]? =some true)∧s_=⟨[(37,lR 2),(38,lI (met.length:Int)),(39,lI (k:Int))],[(2,some (.arr 4 .bool met))]⟩) ⟨0,ap _,rfl,(fun j hj=>absurd hj (b7 j)),rfl⟩ ?_ ?_
 exact wo []
 rintro m_ s_ ⟨k,hk8,hm9,hM,rfl⟩
 iterate 4 refine w_ ?_
 cases hb10:(decide ((k:Int) < (met.length:Int)))
 have hb10':=a6 hb10
 iterate 7 refine w_ ?_
 subst hO
 have e11:(true:Bool)=(decide (HV c.2.1.length (ZJ c.2.2))):=by
  first | exact QrO hn.1 hes (by rw[hA,show c.2.1.length - p=0 by omega]; rfl) hM (by omega)
 exact Qe (Res.one rfl (Qb rfl)) (by rw[← e11] <;> rfl) rfl
 have hb10':=a7 hb10
 iterate 6 refine w_ ?_
 obtain ⟨x12,hx13⟩:=gx met k
 iterate 7 refine w_ ?_
 cases hb14:(x12)
 iterate 5 refine w_ ?_
 subst hO
 have e15:(false:Bool)=(decide (HV c.2.1.length (ZJ c.2.2))):=by
  exact Qs5 hn.1 hes (by rw[hA,show c.2.1.length - p=0 by omega]; rfl) hx13 ‹_›
 exact Qe (Res.one rfl (Qb rfl)) (by rw[← e15] <;> rfl) rfl
 iterate 6 refine w_ ?_
 refine Qc<|QE ⟨k+1,by omega,rfl,(QqV hM hx13 ‹_›),rfl⟩ (by omega) ?_
 exact wo []
 have hb7':=a7 hb7
 iterate 7 refine w_ ?_
 refine AL.fact (Qp (x:= .tmp 20) (Qa rfl)) fun hl16=> ?_
 iterate 4 refine w_ ?_
 refine Qm (fun m_ s_=>∃(i:Nat) (met2:List Bool),i≤c.2.2.length∧m_=c.2.2.length - i∧(XI (ZJ c.2.2) met=XI ((ZJ c.2.2).drop i) met2)∧(met2.length=c.2.1.length)∧s_=⟨[(1,lP 0 0),(2,lB false),(3,lR 3),(16,lI (c.2.1.length:Int)),(17,lI (p:Int)),(18,lB true),(19,lP 0 2),(20,lf (.dat QD c.2.2)),(21,lI (c.2.2.length:Int)),(22,lI (i:Int))],[(0,some (.box 52 [.dat Qo c.1, .dat Qr c.2.1, .dat QD c.2.2])),(3,some (.arr 4 .bool met2))]⟩) ⟨0,met,ap _,rfl,rfl,hL,rfl⟩ ?_ ?_
 exact wo [(3,2)]
 rintro m_ s_ ⟨i,met2,hk17,hm18,hA2,hL2,rfl⟩
 iterate 4 refine w_ ?_
 cases hb19:(decide ((i:Int) < (c.2.2.length:Int)))
 have hb19':=a6 hb19
 iterate 6 refine w_ ?_
 refine Qc<|QE ⟨p+1,met2,by omega,rfl,(by rw[hA,show c.2.1.length - p=(c.2.1.length - (p+1))+1 by omega,XH,hA2,QoX (by omega)]),hL2,rfl⟩ (by omega) ?_
 exact wo [(2,3)]
 have hb19':=a7 hb19
 iterate 5 refine w_ ?_
 obtain ⟨ar,hx21⟩:=gx c.2.2 i
 obtain ⟨⟨hr1,hr2⟩,hr3,hr4⟩:=ha _ (a8 hx21)
 iterate 2 refine w_ ?_
 refine lc (xal 4 QA Za) ?_
 iterate 6 refine w_ ?_
 refine AL.fact (Ql (x:= .tmp 28) (Qa rfl)) fun hi22=> ?_
 refine w_ ?_
 obtain ⟨x23,hx24⟩:=gx met2 ((ar.1).toNat)
 iterate 2 refine w_ ?_
 cases hb25:(x23)
 iterate 6 refine w_ ?_
 refine Qc<|QE ⟨i+1,met2,by omega,rfl,(by rw[hA2,QfU hx21]; first | rw[Qgp ‹_› ‹_›] | rw[QiJ ‹_› ‹_›]),(by exact hL2),rfl⟩ (by omega) ?_
 exact wo []
 iterate 5 refine w_ ?_
 refine AL.fact (Ql (x:= .tmp 33) (Qa rfl)) fun hi26=> ?_
 refine w_ ?_
 obtain ⟨x27,hx28⟩:=gx met2 ((ar.2.2.2).toNat)
 refine lc (QG (e:= .bool) (z':=true) (Qa rfl) rfl hx28 rfl (Evl.ev Zg) rfl Qa8 rfl rfl)<|Qc ?_
 iterate 4 refine w_ ?_
 refine Qc<|QE ⟨i+1,(met2.set ((ar.2.2.2).toNat) true),by omega,rfl,(by rw[hA2,QfU hx21]; first | rw[Qgp ‹_› ‹_›] | rw[QiJ ‹_› ‹_›]),(by (rw[au]; exact hL2)),rfl⟩ (by omega) ?_
 exact wp [] ⟨rfl,(Qh (by first | rfl | simp)),trivial⟩
end Go.Proofs.YtjaadeknhofhpaaGreat
namespace Go.Proofs.YtjaadeknhofhpaaGreat
set_option maxHeartbeats 4000000
set_option maxRecDepth 100000
open Go.RowKit
set_option maxRecDepth 100000
set_option maxHeartbeats 4000000
structure SgOk (c:DSg):Prop where
  sigs:XK c.1
  some_:1≤c.2.1.length∧c.2.1.length≤300
  few:c.2.2.length≤4000
  codes:∀x∈c.2.1,YC x (c.1.length:Int)
  arcs:∀a∈c.2.2,YE c a
  all:HV c.2.1.length (ZJ c.2.2)
theorem YM {α:Type}{p:α→Prop}{l:List α}{k:Nat}{x:α}(h:∀j,j < k→∀x,l[j]? =some x→p x)(hx:l[k]? =some x)(hp:p x):∀j,j < k+1→∀x,l[j]? =some x→p x:=fun j hj y hy=>by
  by_cases e:j=k
  · subst e; rw[hx] at hy; cases hy; exact hp
  · exact h j (by omega) y hy
theorem Xr {α:Type}{p:α→Prop}{l:List α}{k:Nat}(h:∀j,j < k→∀x,l[j]? =some x→p x)(hk:l.length≤k):∀x∈l,p x:=fun x hx=>by
  obtain ⟨j,hj⟩:=aJ.1 hx
  have:=(ab.1 hj).1
  exact h j (by omega) x hj
theorem Xi {c:DSg}{a:DAr}(h:YE c a):InR c.2.1.length a:=by
  obtain ⟨⟨h1,h2⟩,⟨h3,h4⟩,_⟩:=h
  exact ⟨⟨h1,by omega⟩,h3,by omega⟩
section
variable {c:DSg}[Decidable (SgOk c)]{x:ByteArray}{a:DAr}{k i:Nat}
theorem QpB (h:¬XK c.1):false=decide (SgOk c):=(az fun g=>h g.sigs).symm
theorem Qpx (h:¬((1:Int)≤(c.2.1.length:Int)∧(c.2.1.length:Int)≤300)):false=decide (SgOk c):=(az fun g=>h (by have:=g.some_; omega)).symm
theorem QqS (h:(4000:Int) < (c.2.2.length:Int)):false=decide (SgOk c):=(az fun g=>by have:=g.few; omega).symm
theorem Qp1 (hx:c.2.1[k]? =some x)(h:¬YC x (c.1.length:Int)):false=decide (SgOk c):=(az fun g=>h (g.codes x (a8 hx))).symm
theorem Qd9 (hx:c.2.2[k]? =some a)(h:¬YE c a):false=decide (SgOk c):=(az fun g=>h (g.arcs a (a8 hx))).symm
theorem QoU [Decidable (HV c.2.1.length (ZJ c.2.2))](h1:XK c.1)(h2:(1:Int)≤(c.2.1.length:Int)∧(c.2.1.length:Int)≤300)(h3:¬(4000:Int) < (c.2.2.length:Int))(h4:∀x∈c.2.1,YC x (c.1.length:Int))(h5:∀a∈c.2.2,YE c a):
    decide (HV c.2.1.length (ZJ c.2.2))=decide (SgOk c):=cO.2 ⟨fun h=>⟨h1,by omega,by omega,h4,h5,h⟩,fun g=>g.all⟩
end
theorem Yn (c:(List (ByteArray×Int))×List ByteArray×(List (Int×Int×Bool×Int)))[∀c,Decidable (SgOk c)]:FC Tryz.prog 90 [(true,[.dat Qo c.1, .dat Qr c.2.1, .dat QD c.2.2])] [] 0 (Zk (lB (decide (SgOk c)))):=by
 classical
 refine Qy Tryz.func90 rfl rfl Tryz.ntmps90 fun O_ hO w0_ N0_ X_ h0_ f0_=> ?_
 refine w_ ?_
 refine xbx 0 ?_
 iterate 6 refine w_ ?_
 refine lc (dK (Qal c.1) QkX) ?_
 iterate 2 refine w_ ?_
 cases hb1:(decide (XK c.1))
 have hb1':=a6 hb1
 iterate 18 refine w_ ?_
 subst hO
 have e2:(false:Bool)=(decide (SgOk c)):=by
  exact QpB ‹_›
 exact Qe (Res.one rfl (Qb rfl)) (by rw[← e2] <;> rfl) rfl
 have hb1':=a7 hb1
 iterate 2 refine w_ ?_
 refine AL.fact (Qp (x:= .tmp 13) (Qa rfl)) fun hl3=> ?_
 refine w_ ?_
 refine lgy rfl rfl (dK (XB (c.2.1.length:Int) 1 300) WQ) ?_
 iterate 3 refine w_ ?_
 cases hb4:(decide (1≤(c.2.1.length:Int)∧(c.2.1.length:Int)≤300))
 have hb4':=a6 hb4
 iterate 11 refine w_ ?_
 subst hO
 have e5:(false:Bool)=(decide (SgOk c)):=by
  exact Qpx ‹_›
 exact Qe (Res.one rfl (Qb rfl)) (by rw[← e5] <;> rfl) rfl
 have hb4':=a7 hb4
 iterate 2 refine w_ ?_
 refine AL.fact (Qp (x:= .tmp 20) (Qa rfl)) fun hl6=> ?_
 iterate 4 refine w_ ?_
 cases hb7:(decide (4000 < (c.2.2.length:Int)))
 have hb7':=a6 hb7
 iterate 6 refine w_ ?_
 refine AL.fact (Qp (x:= .tmp 25) (Qa rfl)) fun hl8=> ?_
 iterate 4 refine w_ ?_
 refine Qm (fun m_ s_=>∃(k:Nat),k≤c.2.1.length∧m_=c.2.1.length - k∧(∀j,j < k→∀x,c.2.1[j]? =some x→YC x (c.1.length:Int))∧s_=⟨[(1,lP 0 0),(25,lf (.dat Qr c.2.1)),(26,lI (c.2.1.length:Int)),(27,lI (k:Int))],[(0,some (.box 52 [.dat Qo c.1, .dat Qr c.2.1, .dat QD c.2.2]))]⟩) ⟨0,ap _,rfl,(fun j hj=>absurd hj (b7 j)),rfl⟩ ?_ ?_
 exact wo []
 rintro m_ s_ ⟨k,hk9,hm10,hB,rfl⟩
 iterate 4 refine w_ ?_
 cases hb11:(decide ((k:Int) < (c.2.1.length:Int)))
 have hb11':=a6 hb11
 iterate 7 refine w_ ?_
 refine AL.fact (Qp (x:= .tmp 39) (Qa rfl)) fun hl12=> ?_
 iterate 4 refine w_ ?_
 refine Qm (fun m_ s_=>∃(i:Nat),i≤c.2.2.length∧m_=c.2.2.length - i∧(∀j,j < i→∀a,c.2.2[j]? =some a→YE c a)∧s_=⟨[(1,lP 0 0),(39,lf (.dat QD c.2.2)),(40,lI (c.2.2.length:Int)),(41,lI (i:Int))],[(0,some (.box 52 [.dat Qo c.1, .dat Qr c.2.1, .dat QD c.2.2]))]⟩) ⟨0,ap _,rfl,(fun j hj=>absurd hj (b7 j)),rfl⟩ ?_ ?_
 exact wo []
 rintro m_ s_ ⟨i,hk13,hm14,hR,rfl⟩
 iterate 4 refine w_ ?_
 cases hb15:(decide ((i:Int) < (c.2.2.length:Int)))
 have hb15':=a6 hb15
 iterate 5 refine w_ ?_
 refine lc (dK (Qfj c (by omega) (fun a ha=>Xi (Xr hR (by omega) a ha))) Qle) ?_
 iterate 3 refine w_ ?_
 subst hO
 have e16:(decide (HV c.2.1.length (ZJ c.2.2)):Bool)=(decide (SgOk c)):=by
  exact QoU ‹_› ‹_› ‹_› (Xr hB (by omega)) (Xr hR (by omega))
 exact Qe (Res.one rfl (Qb rfl)) (by rw[e16] <;> rfl) rfl
 have hb15':=a7 hb15
 iterate 5 refine w_ ?_
 obtain ⟨x17,hx18⟩:=gx c.2.2 i
 iterate 2 refine w_ ?_
 refine lc (xal 1 QA Za) ?_
 iterate 5 refine w_ ?_
 refine lc (dK (Qfm c x17 (Xr hB (by omega)) (by have:=(‹XK c.1›).2.2; omega)) Qlf) ?_
 iterate 2 refine w_ ?_
 cases hb19:(decide (YE c x17))
 have hb19':=a6 hb19
 iterate 5 refine w_ ?_
 subst hO
 have e20:(false:Bool)=(decide (SgOk c)):=by
  exact Qd9 hx18 ‹_›
 exact Qe (Res.one rfl (Qb rfl)) (by rw[← e20] <;> rfl) rfl
 have hb19':=a7 hb19
 iterate 6 refine w_ ?_
 refine Qc<|QE ⟨i+1,by omega,rfl,(YM hR hx18 ‹_›),rfl⟩ (by omega) ?_
 exact wo []
 have hb11':=a7 hb11
 iterate 5 refine w_ ?_
 obtain ⟨x21,hx22⟩:=gx c.2.1 k
 iterate 8 refine w_ ?_
 refine AL.fact (Qp (x:= .tmp 33) (Qa rfl)) fun hl23=> ?_
 refine w_ ?_
 refine lc (dK (QdJ x21 (c.1.length:Int)) QkJ) ?_
 iterate 2 refine w_ ?_
 cases hb24:(decide (YC x21 (c.1.length:Int)))
 have hb24':=a6 hb24
 iterate 5 refine w_ ?_
 subst hO
 have e25:(false:Bool)=(decide (SgOk c)):=by
  exact Qp1 hx22 ‹_›
 exact Qe (Res.one rfl (Qb rfl)) (by rw[← e25] <;> rfl) rfl
 have hb24':=a7 hb24
 iterate 6 refine w_ ?_
 refine Qc<|QE ⟨k+1,by omega,rfl,(YM hB hx22 ‹_›),rfl⟩ (by omega) ?_
 exact wo []
 have hb7':=a7 hb7
 iterate 5 refine w_ ?_
 subst hO
 have e26:(false:Bool)=(decide (SgOk c)):=by
  exact QqS ‹_›
 exact Qe (Res.one rfl (Qb rfl)) (by rw[← e26] <;> rfl) rfl
end Go.Proofs.YtjaadeknhofhpaaGreat
namespace Go.Proofs.YtjaadeknhofhpaaGreat
set_option maxHeartbeats 4000000
set_option maxRecDepth 100000
open Go.RowKit
set_option maxRecDepth 100000
set_option maxHeartbeats 4000000
section
variable {A:Amb}{P:Program}{s:St}{x y:Operand}{d:Nat}{T T' ty:TypeId}{pos:String}{af:Array Edge}{g:Option (Nat×Bool)}{n a b:Int}
theorem Qij (h:0≤n∧n≤9223372036854775807):IntKind.u64.wrap n=n:=by
  simp[IntKind.wrap,IntKind.bits,IntKind.signed]
  omega
theorem QpU (h:0≤n∧n≤9223372036854775807):IntKind.i64.wrap n=n:=IntWalk.i64_in _ (by omega)
theorem Ku (hx:Evl A s x (dI n))(hs:P.underlying T=some (.int .i64))(hd:P.underlying T'=some (.int .u64))(h0:0≤n)(hn:Nat.blt d A.n=true):
    Does A P ⟨some d, .convert T T' x,ty,pos,af,g⟩ s (s.put d (lf (.val (.int .u64 n)))):=
  Qn rfl hn fun gh a w r=>by
    have h2:=hx.i r
    have h3:=(LVR.int (hx gh a w r)).2
    have e2:=Qij (n:=n) (by omega)
    refine ⟨.int .u64 n, ?_,_,rfl,rfl⟩
    simp only[execOp,h2,convert,run_underlying hs,run_underlying hd,aw,aC,Conv.intToInt,e2]
    simp
theorem HK (hx:Evl A s x (.val (.int .u64 n)))(hs:P.underlying T=some (.int .u64))(hd:P.underlying T'=some (.int .i64))(h0:0≤n∧n≤9223372036854775807)(hn:Nat.blt d A.n=true):
    Does A P ⟨some d, .convert T T' x,ty,pos,af,g⟩ s (s.put d (lf (dI n))):=
  Qn rfl hn fun gh a w r=>by
    have h2:a.eval x= .int .u64 n:=hx gh a w r
    have e2:=QpU h0
    refine ⟨.int .i64 n, ?_,_,rfl,Yo (by omega)⟩
    simp only[execOp,h2,convert,run_underlying hs,run_underlying hd,aw,aC,Conv.intToInt,e2]
    simp
theorem QfW (hx:Evl A s x (.val (.int .u64 a)))(hy:Evl A s y (.val (.int .u64 b)))(hn:Nat.blt d A.n=true):Does A P ⟨some d, .binOp .gtr T x y T',ty,pos,af,g⟩ s (s.put d (lf (dB (decide (b < a))))):=
  Qn rfl hn fun gh a' w r=>by
    have h1:a'.eval x= .int .u64 a:=hx gh a' w r
    have h2:a'.eval y= .int .u64 b:=hy gh a' w r
    refine ⟨.bool (decide (b < a)), ?_,_,rfl,Yg⟩
    simp only[execOp,h1,h2,eqGuard_at_int,binOp,Op.intCmp]
    simp
end
theorem Qpi (n:Nat)(hn:n≤1000000):bits BinOp.and IntKind.u64 (n:Int) 4294967295=n:=by
  have h:=bits_and_u64_nat n 4294967295 (by omega) (by decide)
  rw[show ((4294967295:Nat):Int)=4294967295 from rfl] at h
  rw[h,show (4294967295:Nat)=2 ^ 32 - 1 from rfl,Nat.and_two_pow_sub_one_eq_mod,cd (by omega)]
theorem Qr6 (n:Nat)(w:World)(hn:n≤1000000):Calls Tryz.prog 343 #[.int .u64 1, .int .u64 n] w fun e w'=>e= .returned (.tuple #[.int .u64 0, .int .u64 n])∧w'=w:=by
  have h1:bits BinOp.and IntKind.u64 1 4294967295=1:=by decide
  have h2:=Qpi n hn
  have h3:(n:Int) / 4294967296=0:=by omega
  have h4:=Qij (n:=n) (by omega)
  have h5:IntKind.u64.wrap 0=0:=by decide
  have h6:bits BinOp.and IntKind.u64 0 4294967295=0:=by decide
  go_enter Tryz.func343,Tryz.ntmps343
  go_wp2
  go_ret2
  exact ⟨rfl,rfl⟩
theorem QsR (a n:Int)(ha:a=1)(hn:0≤n∧n≤1000000):FC Tryz.prog 343 [(false,[.val (.int .u64 a)]),(false,[.val (.int .u64 n)])] [] 0 (Zk (.tup [(false,[.val (.int .u64 0)]),(false,[.val (.int .u64 n)])])):=QsU fun gh w vs h=>by
  obtain ⟨v1,vs1,rfl,⟨l1,e1,k1⟩,v2,vs2,rfl,⟨l2,e2,k2⟩,rfl⟩:=h
  simp only[aB,and_true] at e1 e2
  subst e1 e2 ha
  have k1:v1= .int .u64 1:=k1
  have k2:v2= .int .u64 n:=k2
  subst k1 k2
  obtain ⟨m,rfl⟩:∃m:Nat,n=m:=⟨n.toNat,by omega⟩
  refine Calls.mono (Qr6 m w (by omega)) fun e w' he=> ?_
  obtain ⟨rfl,rfl⟩:=he
  exact ⟨_,rfl,Q5 _,[.int .u64 0, .int .u64 m],rfl,_,_,rfl,⟨_,rfl,rfl⟩,_,_,rfl,⟨_,rfl,rfl⟩,rfl⟩
theorem QmY {v:Int}{m k:Nat}:cpy (List.replicate m v++List.replicate k (0:Int)) m k ((((List.replicate m v++List.replicate k (0:Int))).take (0+m)).drop 0)=List.replicate (m+min m k) v++List.replicate (k - min m k) 0:=by
  have h1:(List.replicate m v++List.replicate k (0:Int)).take m=List.replicate m v:=List.take_left' (by simp)
  have h2:(List.replicate m v++List.replicate k (0:Int)).drop (m+min m k)=List.replicate (k - min m k) 0:=by
    rw[List.drop_append,ay,bt (by simp),cn,List.drop_replicate]
    congr 1
    omega
  rw[cpy,bP,List.drop_zero,h1,ay,h2,List.take_replicate,cv (Nat.min_le_left _ _),List.replicate_append_replicate]
theorem QnZ {n v:Int}(hn:0≤n):cpy (List.replicate n.toNat (Ty.zero .int)) 0 (List.replicate n.toNat (Ty.zero .int)).length [v]=List.replicate (((min [v].length (List.replicate n.toNat (Ty.zero .int)).length:Nat):Int)).toNat v++List.replicate (n.toNat - (((min [v].length (List.replicate n.toNat (Ty.zero .int)).length:Nat):Int)).toNat) 0:=by
  have h:=QmY (v:=v) (m:=0) (k:=n.toNat)
  have e:(Ty.zero .int:Int)=0:=rfl
  cases hk:n.toNat with
  | zero=>simp[cpy]
  | succ k=>simp[cpy,e,List.replicate_succ]
theorem QnG {n m v:Int}{l:List Int}(h0:0≤m)(h1:m≤n)(hl:l=List.replicate m.toNat v++List.replicate (n.toNat - m.toNat) 0)(hL:l.length=n.toNat):
    cpy l m.toNat (l.length - m.toNat) ((l.take (0+m.toNat)).drop 0)=List.replicate (m+((min ((l.take (0+m.toNat)).drop 0).length (l.length - m.toNat):Nat):Int)).toNat v++List.replicate (n.toNat - (m+((min ((l.take (0+m.toNat)).drop 0).length (l.length - m.toNat):Nat):Int)).toNat) 0:=by
  have hlen:((l.take (0+m.toNat)).drop 0).length=m.toNat:=by simp[hL]; omega
  rw[hlen,hL]
  rw[hl,QmY]
  congr 2 <;> omega
theorem Uz (s:List Int)(n:Int)(v:Int)(hs:s=[v])(hn:0≤n∧n≤1000000):FC Tryz.prog 270 [(false,[.dat QI s]),(false,[dI n])] [] 0 (Xe 3 .int (List.replicate n.toNat v)):=by
 have hs1:(s.length:Int)=1:=by rw[hs]; rfl
 have hneg:decide (n < 0)=false:=az (by omega)
 have hbig:decide ((9223372036854775807:Int) < n)=false:=az (by omega)
 have hrl:(List.replicate n.toNat (Ty.zero .int)).length=n.toNat:=ay ..
 refine Qy Tryz.func270 rfl rfl Tryz.ntmps270 fun O_ hO w0_ N0_ X_ h0_ f0_=> ?_
 refine AC.fact (Ql (x:= .tmp 1) (Qa rfl)) fun hi1=> ?_
 iterate 8 refine w_ ?_
 cases hb2:(decide (n < 0))
 have hb2':=a6 hb2
 iterate 4 refine w_ ?_
 refine AL.fact (Qp (x:= .tmp 13) (Qa rfl)) fun hl3=> ?_
 refine w_ ?_
 refine lc (Ku (Qa rfl) Hy QgR (by omega) rfl) ?_
 refine w_ ?_
 refine lc (Ku (Qa rfl) Hy QgR (by omega) rfl) ?_
 refine lc (dK (QsR (s.length:Int) n hs1 hn) Qji) ?_
 iterate 9 refine w_ ?_
 refine lc (QfW (Qa rfl) Evl.val rfl) ?_
 refine w_ ?_
 cases hb4:(decide ((0:Int) < (0:Int)))
 have hb4':=a6 hb4
 refine w_ ?_
 refine lgy rfl rfl (QfW (Qa rfl) Evl.val rfl) ?_
 iterate 2 refine w_ ?_
 cases hb5:(decide ((9223372036854775807:Int) < n))
 have hb5':=a6 hb5
 iterate 4 refine w_ ?_
 refine lc (HK (Qa rfl) QgR Hy (by omega) rfl)<|lc (Qd1 0 (e:= .int) (n:=n) (Qa rfl) (Qa rfl) YZ Ql3 rfl (by omega) (by omega) (by omega) rfl (Fresh.of rfl) (nlr rfl)) ?_
 iterate 5 refine w_ ?_
 refine lc (Qez (e:= .int) (xs:=List.replicate (n).toNat (Ty.zero .int)) (lo:=0) (n:=(List.replicate (n).toNat (Ty.zero .int)).length) (ys:=s) (QpQ (Qa rfl) rfl) rfl (by omega) (Evl.rep (Qa rfl)) rfl rfl YZ Ql3 rfl) ?_
 iterate 4 refine w_ ?_
 refine Qm (fun m_ s_=>∃(m:Int) (l:List Int),m_=(n - m).toNat∧(0≤m∧m≤n∧(0 < n→0 < m))∧(l=List.replicate m.toNat v++List.replicate (n.toNat - m.toNat) 0)∧(l.length=n.toNat)∧s_=⟨[(4,lf (.val (.slice none 0 0))),(7,lR 1),(8,lI m)],[(1,some (.arr 3 .int l))]⟩) ⟨((min s.length ((List.replicate (n).toNat (Ty.zero .int)).length):Nat):Int),cpy (List.replicate (n).toNat (Ty.zero .int)) 0 ((List.replicate (n).toNat (Ty.zero .int)).length) s,rfl,(by rw[hrl,hs]; simp; omega),(by rw[hs]; exact QnZ hn.1),(by rw[QhE (by omega)]; exact hrl),rfl⟩ ?_ ?_
 exact wp [(1,0)] ⟨(Qh (by first | rfl | simp)),trivial⟩
 rintro m_ s_ ⟨m,l,hm7,hm,hl,hL,rfl⟩
 iterate 7 refine w_ ?_
 cases hb8:(decide (m < (l.length:Int)))
 have hb8':=a6 hb8
 iterate 8 refine w_ ?_
 subst hO
 refine Zc (e:= .int) (xs:=l) (Res.one rfl (Qb rfl)) rfl ?_
 rw[hl,show n.toNat - m.toNat=0 by omega,show m.toNat=n.toNat by omega]; simp
 have hb8':=a7 hb8
 iterate 3 refine w_ ?_
 apply dV [io 38 _,io 39 _,io 40 _,io 41 (lf (.sub 1 1 ((m).toNat) (l.length - (m).toNat))),io 42 _,io 43 _,io 44 (lf (.sub 1 1 0 ((m).toNat))),⟨some 45,lI ((min ((l.take (0+((m).toNat))).drop 0).length (l.length - (m).toNat):Nat):Int),[(1,some (.arr 3 .int (cpy l ((m).toNat) (l.length - (m).toNat) ((l.take (0+((m).toNat))).drop 0))))]⟩,io 46 _,io 8 _] [0,1,3,1,15,31,15,1,0,0]
 iterate 3 refine z_ ?_
 refine zz (fun _ h_=>ac (Yh (e:= .int) (a:=(m).toNat) (b:=l.length - (m).toNat) (l:=(some m)) (h:=none) (h_.v rfl) (h_.en 1 rfl) (by exact (h_.v rfl)) (by exact trivial) YZ WK rfl (by first | (simp only[aj,ae]; omega) | omega | (simp only[aj,ae,aa,ak,ay]; omega)) (by first | (simp only[aj,ae]; omega) | omega | (simp only[aj,ae,aa,ak,ay]; omega)) (by first | (simp only[aj,ae]; omega) | omega | (simp only[aj,ae,aa,ak,ay]; omega)) (by first | rfl | simp) (by first | rfl | simp)) rfl) ?_
 iterate 2 refine z_ ?_
 refine zz (fun _ h_=>ac (Yh (e:= .int) (a:=0) (b:=(m).toNat) (l:=none) (h:=(some m)) (h_.v rfl) (h_.en 1 rfl) (by exact trivial) (by exact (h_.v rfl)) YZ WK rfl (by first | (simp only[aj,ae]; omega) | omega | (simp only[aj,ae,aa,ak,ay]; omega)) (by first | (simp only[aj,ae]; omega) | omega | (simp only[aj,ae,aa,ak,ay]; omega)) (by first | (simp only[aj,ae]; omega) | omega | (simp only[aj,ae,aa,ak,ay]; omega)) (by first | rfl | simp) (by first | rfl | simp)) rfl)<|zz (fun _ h_=>ac (Qez (e:= .int) (xs:=l) (lo:=(m).toNat) (n:=l.length - (m).toNat) (ys:=(l.take (0+((m).toNat))).drop 0) (QoN (h_.v rfl) (h_.en 1 rfl)) (h_.en 1 rfl) (by omega) (VK (e:= .int) (h_.v rfl) (h_.en 1 rfl) (by omega)) rfl rfl YZ Ql3 rfl) rfl) ?_
 iterate 2 refine z_ ?_
 exact zN
 refine QE ⟨(m+((min ((l.take (0+((m).toNat))).drop 0).length (l.length - (m).toNat):Nat):Int)),(cpy l ((m).toNat) (l.length - (m).toNat) ((l.take (0+((m).toNat))).drop 0)),rfl,(by simp only[bn,ak,hL]; omega),(QnG hm.1 hm.2.1 hl hL),(by rw[QhE (by omega)]; exact hL),rfl⟩ (by simp only[bn,ak,hL]; omega) ?_
 exact wp [] ⟨(Qh (by first | rfl | simp)),trivial⟩
 exact absurd (hb5.symm.trans (show (decide ((9223372036854775807:Int) < n))=false from hbig)) (by decide)
 exact absurd (hb4.symm.trans (show (decide ((0:Int) < (0:Int)))=false from (by decide))) (by decide)
 exact absurd (hb2.symm.trans (show (decide (n < 0))=false from hneg)) (by decide)
end Go.Proofs.YtjaadeknhofhpaaGreat
