/- Walks over abstract states: arcs of state graphs. -/
import Derived.Test.YtfkmmpfdncopdaaGreatWv
import Derived.Test.YtfkmmpfdncopdaaGreatAk
import Derived.Laws.Bits64b
set_option linter.unusedSimpArgs false
set_option linter.unusedVariables false
set_option linter.unusedSectionVars false
namespace Go.Proofs.YtfkmmpfdncopdaaGreat
set_option maxHeartbeats 4000000
set_option maxRecDepth 100000
open Go.RowKit
set_option maxRecDepth 100000
set_option maxHeartbeats 4000000
def Xq (c:DSg)(i:Int):ByteArray:=(c.2.1[i.toNat]?).getD ByteArray.empty
def YH (c:DSg)(a:DAr):Prop:=(0≤a.1∧a.1≤(c.2.1.length:Int) - 1)∧(0≤a.2.2.2∧a.2.2.2≤(c.2.1.length:Int) - 1)∧VS (c.1.length:Int) (a.2.1,a.2.2.1)∧Fit a (Xq c a.1) (Xq c a.2.2.2)
instance (c:DSg) (a:DAr):Decidable (YH c a):=inferInstanceAs (Decidable (_∧_))
section
variable {c:DSg}{a:DAr}{x y b code:ByteArray}{n sig p:Int}{j k m:Nat}
theorem XC (h:c.2.1[p.toNat]? =some x):Xq c p=x:=by unfold Xq; rw[h]; rfl
theorem Wj (m:ByteArray)(p:Int):bAt m p=(m.toList[p.toNat]?).getD 0:=by
  unfold bAt
  rw[aZ]
  by_cases h:p.toNat < m.size
  · rw [b5 m p.toNat h, aa (by simpa using h)]
    rfl
  · rw[getElem?_neg m p.toNat h,bl (by simpa using h)]
theorem QdG (hs:x.size=y.size)(h:∀j:Nat,j < x.size→bAt x (j:Int)=bAt y (j:Int)):x=y:=by
  have e:x.toList=y.toList:=bt fun j=>by
    by_cases hj:j < x.size
    · have h1 := h j hj
      rw[Wj,Wj] at h1
      have h2:j < x.toList.length:=by rw[YV]; exact hj
      have h3:j < y.toList.length:=by rw[YV,← hs]; exact hj
      have e1:((j:Int)).toNat=j:=rfl
      rw[e1,aa h2,aa h3] at h1
      rw[aa h2,aa h3]
      exact congrArg some h1
    · rw[bl (by rw[YV]; omega),bl (by rw[YV]; omega)]
  rw[aZ,aZ] at e
  exact ByteArray.ext (Array.toList_inj.1 e)
theorem QbV (code:ByteArray)(sig:Int)(b:ByteArray):(Jt code sig b).toList=code.toList.take sig.toNat++(b.toList++code.toList.drop (sig+1).toNat):=by
  have h:code.data.size=code.size:=rfl
  simp only[Jt,aZ,ByteArray.data_append,ByteArray.data_extract,Array.toList_append,Array.toList_extract,aW]
  simp[h,List.extract_eq_take_drop]
  rw[b7 (by simp[h])]
theorem QcF (h0:0≤sig)(h1:sig < code.size)(hb:b.size=1):(Jt code sig b).size=code.size:=by
  rw[← YV,QbV]
  simp only[ak,ap,bh,YV,hb]
  omega
theorem QhO (h0:0≤sig)(h1:sig < code.size)(hb:b.size=1)(hj:j < code.size):bAt (Jt code sig b) (j:Int)=if (j:Int)=sig then bAt b 0 else bAt code (j:Int):=by
  rw[Wj,QbV,Wj,Wj]
  have hl:=YV code
  have hbl:=YV b
  have e1:((j:Int)).toNat=j:=rfl
  rw[e1]
  by_cases e:(j:Int)=sig
  · rw [if_pos e, bd (by rw [ap]; omega), b9 (by rw [ap]; omega)]
    rw[show j - (code.toList.take sig.toNat).length=((0:Int)).toNat by rw[ap]; show _=0; omega]
  · rw [if_neg e]
    by_cases h:(j:Int) < sig
    · rw[b9 (by rw[ap]; omega),bf,if_pos (by omega)]
    · rw [bd (by rw [ap]; omega), bd (by rw [ap]; omega), bY]
      congr 2
      rw[ap]
      omega
theorem Hy (h:ZN x n)(hj:j < x.size):bAt x (j:Int)=48∨bAt x (j:Int)=49:=by
  have h2:j < x.toList.length:=by rw[YV]; exact hj
  rw[Wj]
  have e1:((j:Int)).toNat=j:=rfl
  rw[e1,aa h2]
  exact h.1 _ (cN h2)
theorem Qdd (b:Bool):bAt (Yv b) 0=if b=true then 49 else 48:=by cases b <;> rfl
theorem Xm (b:Bool):(Yv b).size=1:=rfl
theorem HO {c:UInt8}{b:Bool}(h:c=48∨c=49):decide (c=49)=b↔c=if b=true then 49 else 48:=by
  rcases h with rfl | rfl <;> cases b <;> decide
theorem Qmc (hx:ZN x n)(hy:ZN y n)(hs:a.2.1 < 0):Fit a x y↔x=y:=by
  have hsz:x.size=y.size:=by have:=hx.2; have:=hy.2; omega
  constructor
  · intro h
    refine QdG hsz fun j hj=> ?_
    have:=h j hj
    unfold YC at this
    rwa [if_neg (by omega)] at this
  · rintro rfl j hj
    unfold YC
    rw[if_neg (by omega)]
theorem QhM (hx:ZN x n)(hy:ZN y n)(hs:¬a.2.1 < 0)(hn:a.2.1 < n):Fit a x y↔x=Jt y a.2.1 (Yv (!a.2.2.1))∧y=Jt x a.2.1 (Yv a.2.2.1):=by
  have hxs:=hx.2
  have hys:=hy.2
  have z1:=QcF (code:=y) (sig:=a.2.1) (b:=Yv (!a.2.2.1)) (by omega) (by omega) (Xm _)
  have z2:=QcF (code:=x) (sig:=a.2.1) (b:=Yv a.2.2.1) (by omega) (by omega) (Xm _)
  have g1:=fun (j:Nat) hj=>QhO (j:=j) (code:=y) (sig:=a.2.1) (b:=Yv (!a.2.2.1)) (by omega) (by omega) (Xm _) hj
  have g2:=fun (j:Nat) hj=>QhO (j:=j) (code:=x) (sig:=a.2.1) (b:=Yv a.2.2.1) (by omega) (by omega) (Xm _) hj
  constructor
  · intro h
    constructor
    · refine QdG (by omega) fun j hj => ?_
      rw[g1 j (by omega),Qdd]
      have h1:=h j hj
      unfold YC at h1
      split
      · rename_i e
        rw[if_pos e] at h1
        exact (HO (Hy hx hj)).1 h1.1
      · rename_i e
        rwa [if_neg e] at h1
    · refine QdG (by omega) fun j hj => ?_
      rw[g2 j (by omega),Qdd]
      have h1:=h j (by omega)
      unfold YC at h1
      split
      · rename_i e
        rw[if_pos e] at h1
        exact (HO (Hy hy hj)).1 h1.2
      · rename_i e
        rw[if_neg e] at h1
        exact h1.symm
  · rintro ⟨e1, e2⟩ j hj
    have h1:=g1 j (by omega)
    have h2:=g2 j hj
    rw[← e1,Qdd] at h1
    rw[← e2,Qdd] at h2
    unfold YC
    split
    · rename_i e
      rw[if_pos e] at h1 h2
      exact ⟨(HO (Hy hx hj)).2 h1,(HO (Hy hy (by omega))).2 h2⟩
    · rename_i e
      rwa [if_neg e] at h1
theorem Qnk (h:¬(0≤a.1∧a.1≤(c.2.1.length:Int) - 1)):false=decide (YH c a):=(az fun g=>h g.1).symm
theorem Ql7 (h:¬(0≤a.2.2.2∧a.2.2.2≤(c.2.1.length:Int) - 1)):false=decide (YH c a):=(az fun g=>h g.2.1).symm
theorem QmB (h:¬VS (c.1.length:Int) (a.2.1,a.2.2.1)):false=decide (YH c a):=(az fun g=>h g.2.2.1).symm
theorem QfV (h3:VS (c.1.length:Int) (a.2.1,a.2.2.1))(hs:¬a.2.1 < 0):a.2.1 < (c.1.length:Int):=by
  rcases h3 with h | h
  · have h:0≤a.2.1∧a.2.1≤(c.1.length:Int) - 1:=h; omega
  · have h:a.2.1= -1:=h.1; omega
section
variable (h1:0≤a.1∧a.1≤(c.2.1.length:Int) - 1)(h2:0≤a.2.2.2∧a.2.2.2≤(c.2.1.length:Int) - 1)(h3:VS (c.1.length:Int) (a.2.1,a.2.2.1))(hx:c.2.1[a.1.toNat]? =some x)(hy:c.2.1[a.2.2.2.toNat]? =some y)
include h1 h2 h3 hx hy
theorem QdP:YH c a↔Fit a x y:=by
  unfold YH
  rw[XC hx,XC hy]
  exact ⟨fun g=>g.2.2.2,fun g=>⟨h1,h2,h3,g⟩⟩
theorem QmL (hb:∀x∈c.2.1,ZN x (c.1.length:Int))(hs:a.2.1 < 0):decide (x=y)=decide (YH c a):=bQ.2 (by rw[QdP h1 h2 h3 hx hy,Qmc (hb x (ao hx)) (hb y (ao hy)) hs])
theorem QlQ (hb:∀x∈c.2.1,ZN x (c.1.length:Int))(hs:¬a.2.1 < 0)(h:¬x=Jt y a.2.1 (Yv (!a.2.2.1))):false=decide (YH c a):=(az fun g=>by
  rw[QdP h1 h2 h3 hx hy,QhM (hb x (ao hx)) (hb y (ao hy)) hs (QfV h3 hs)] at g
  exact h g.1).symm
theorem Qk6 (hb:∀x∈c.2.1,ZN x (c.1.length:Int))(hs:¬a.2.1 < 0)(h:x=Jt y a.2.1 (Yv (!a.2.2.1))):decide (y=Jt x a.2.1 (Yv a.2.2.1))=decide (YH c a):=bQ.2 (by
  rw[QdP h1 h2 h3 hx hy,QhM (hb x (ao hx)) (hb y (ao hy)) hs (QfV h3 hs)]
  exact ⟨fun g=>⟨h,g⟩,fun g=>g.2⟩)
end
end
theorem QbF (c:(List (ByteArray×Int))×List ByteArray×(List (Int×Int×Bool×Int)))(a:Int×Int×Bool×Int)(hcd:∀x∈c.2.1,ZN x (c.1.length:Int))(hc1:c.1.length≤1000):FC Tryz.prog 164 [(true,[.dat (.sl 203 (.pr .str .int)) c.1, .dat (.sl 9 .str) c.2.1, .dat (.sl 136 (.pr .int (.pr .int (.pr .bool .int)))) c.2.2]),(true,[dI a.1,dI a.2.1,dB a.2.2.1,dI a.2.2.2])] [] 0 (QU (lB (decide (YH c a)))):=by
 refine Qj Tryz.func164 rfl rfl Tryz.ntmps164 fun O_ hO w0_ N0_ X_ h0_ f0_=> ?_
 refine acG 1 0 fun hi1=> ?_
 refine acG 1 1 fun hi2=> ?_
 refine acG 1 3 fun hi3=> ?_
 refine w_ ?_
 refine xbx 0 ?_
 refine xbx 1 ?_
 iterate 8 refine w_ ?_
 refine alL 10 fun hl4=> ?_
 iterate 2 refine w_ ?_
 refine lc (dK (Z7 a.1 0 ((c.2.1.length:Int) - 1)) Yw) ?_
 iterate 2 refine w_ ?_
 cases hb5:(decide (0≤a.1∧a.1≤((c.2.1.length:Int) - 1)))
 ·have hb5':=ab hb5
  iterate 26 refine w_ ?_
  refine Qb<|fqB hO ?_
  exact Qnk (by assumption)
 ·have hb5':=ae hb5
  iterate 4 refine w_ ?_
  refine alL 19 fun hl6=> ?_
  iterate 2 refine w_ ?_
  refine lgy rfl rfl (dK (Z7 a.2.2.2 0 ((c.2.1.length:Int) - 1)) Yw) ?_
  iterate 3 refine w_ ?_
  cases hb7:(decide (0≤a.2.2.2∧a.2.2.2≤((c.2.1.length:Int) - 1)))
  ·have hb7':=ab hb7
   iterate 16 refine w_ ?_
   refine Qb<|fqB hO ?_
   exact Ql7 (by assumption)
  ·have hb7':=ae hb7
   iterate 4 refine w_ ?_
   refine lgy rfl rfl (Qn Ux ⟨_,_,rfl,(Qm rfl),⟨_,_,rfl,(Qm rfl),rfl⟩⟩ (aw.1 rfl) rfl rfl) ?_
   iterate 2 refine w_ ?_
   refine alL 32 fun hl8=> ?_
   refine w_ ?_
   refine lgy rfl rfl (dK (Hw (a.2.1,a.2.2.1) (c.1.length:Int) (by omega)) Qgg) ?_
   iterate 3 refine w_ ?_
   cases hb9:(decide (VS (c.1.length:Int) (a.2.1,a.2.2.1)))
   ·have hb9':=ab hb9
    iterate 4 refine w_ ?_
    refine Qb<|fqB hO ?_
    exact QmB (by assumption)
   ·have hb9':=ae hb9
    iterate 2 refine w_ ?_
    obtain ⟨cx,hx11⟩:∃z,c.2.1[(a.1).toNat]? =some z:=⟨_,aa (by omega)⟩
    have hzcx:=(hcd _ (ao hx11)).2
    obtain ⟨cy,hx13⟩:∃z,c.2.1[(a.2.2.2).toNat]? =some z:=⟨_,aa (by omega)⟩
    have hzcy:=(hcd _ (ao hx13)).2
    apply dW (i9 37 _ _ _ _ _ _ _ _ _ (i3 46 _ _ _ (i2 5 _ _ []))) [0,0,3,3,0,0,63,63,255,255,63,63,4032,0]
    iterate 14 refine z_ ?_
    exact zN
    iterate 6 refine w_ ?_
    refine cd_ (fun hb14 hb14'=> ?_) fun hb14 hb14'=> ?_
    ·refine w_ ?_
     have hsl:=QfV (c:=c) (a:=a) (by assumption) (by assumption)
     cases hb15:(decide (cx=(Jt cy a.2.1 (Yv (!a.2.2.1)))))
     ·have hb15':=ab hb15
      apply dW (i7 55 _ _ _ _ _ _ _ (io 62 (lf (dS (Yv (!a.2.2.1)))) :: io 63 (lf (dS (Jt cy a.2.1 (Yv (!a.2.2.1))))) :: io 64 (lB false) :: i9 65 _ _ _ _ _ _ _ _ _ (i2 74 _ _ [io 4 _]))) [0,1,3,3,15,15,15,15,1,0,0,0,2048,6144,6144,30720,30720,30720,2048,0,0,0]
      iterate 7 refine z_ ?_
      refine zz (fun _ h_=>ac (dK (YR (!a.2.2.1)) Wf) rfl) ?_
      refine zz (fun _ h_=>ac (dK (WL cy a.2.1 (Yv (!a.2.2.1)) (by omega) ⟨by omega,by rw[Xm]; decide⟩) KC) rfl) ?_
      refine zz (fun _ h_=>ac (QA (hb15) (UA (h_.v rfl) (h_.v rfl) rfl)) rfl) ?_
      iterate 12 refine z_ ?_
      exact zN
      refine Qb<|fqB hO ?_
      exact QlQ (by assumption) (by assumption) (by assumption) (x:=cx) (y:=cy) (by assumption) (by assumption) hcd (by assumption) (by assumption)
     ·have hb15':=ae hb15
      apply dW (i7 55 _ _ _ _ _ _ _ (io 62 (lf (dS (Yv (!a.2.2.1)))) :: io 63 (lf (dS (Jt cy a.2.1 (Yv (!a.2.2.1))))) :: io 64 (lB true) :: i7 65 _ _ _ _ _ _ _ (io 72 (lf (dS (Yv a.2.2.1))) :: io 73 (lf (dS (Jt cx a.2.1 (Yv a.2.2.1)))) :: i2 74 _ _ [io 4 _]))) [0,1,3,3,15,15,15,15,1,0,0,0,2048,6144,6144,30720,30720,30720,2048,0,0,0]
      iterate 7 refine z_ ?_
      refine zz (fun _ h_=>ac (dK (YR (!a.2.2.1)) Wf) rfl) ?_
      refine zz (fun _ h_=>ac (dK (WL cy a.2.1 (Yv (!a.2.2.1)) (by omega) ⟨by omega,by rw[Xm]; decide⟩) KC) rfl) ?_
      refine zz (fun _ h_=>ac (QA (hb15) (UA (h_.v rfl) (h_.v rfl) rfl)) rfl) ?_
      iterate 7 refine z_ ?_
      refine zz (fun _ h_=>day rfl (h_.k rfl) (dK (YR a.2.2.1) Wf) rfl) ?_
      refine zz (fun _ h_=>day rfl (h_.k rfl) (dK (WL cx a.2.1 (Yv a.2.2.1) (by omega) ⟨by omega,by rw[Xm]; decide⟩) KC) rfl) ?_
      iterate 3 refine z_ ?_
      exact zN
      refine Qb<|fqB hO ?_
      exact Qk6 (by assumption) (by assumption) (by assumption) (x:=cx) (y:=cy) (by assumption) (by assumption) hcd (by assumption) (by assumption)
    ·iterate 6 refine w_ ?_
     refine Qb<|fqB hO ?_
     exact QmL (by assumption) (by assumption) (by assumption) (x:=cx) (y:=cy) (by assumption) (by assumption) hcd (by assumption)
end Go.Proofs.YtfkmmpfdncopdaaGreat
namespace Go.Proofs.YtfkmmpfdncopdaaGreat
set_option maxHeartbeats 4000000
set_option maxRecDepth 100000
open Go.RowKit
set_option maxRecDepth 100000
set_option maxHeartbeats 4000000
inductive Rch (es:List (Int×Int)):Int→Prop
  | zero:Rch es 0
  | step {u v:Int}:Rch es u→(u,v)∈es→Rch es v
def ZC (rs:List DAr):List (Int×Int):=rs.map fun a=>(a.1,a.2.2.2)
def InE (n:Nat)(e:Int×Int):Prop:=(0≤e.1∧e.1 < n)∧0≤e.2∧e.2 < n
def Hr (n:Nat)(es:List (Int×Int)):Prop:=∀k:Nat,k < n→Rch es k
def XH (e:Int×Int)(m:List Bool):List Bool:=if m[e.1.toNat]? =some true then m.set e.2.toNat true else m
def YI:List (Int×Int)→List Bool→List Bool
  | [],m=>m
  | e :: es,m=>YI es (XH e m)
def YJ (es:List (Int×Int)):Nat→List Bool→List Bool
  | 0,m=>m
  | f+1,m=>YJ es f (YI es m)
section
variable {es:List (Int×Int)}{e:Int×Int}{m:List Bool}{n f i k:Nat}{rs:List DAr}{a:DAr}{b:Bool}
theorem Qcv:(XH e m).length=m.length:=by unfold XH; split <;> simp
theorem QiN:(YI es m).length=m.length:=by
  induction es generalizing m with
  | nil=>rfl
  | cons e es ih=>rw[YI,ih,Qcv]
theorem Qap (h:m[i]? =some true):(XH e m)[i]? =some true:=by
  unfold XH
  split
  · by_cases h2 : e.2.toNat = i
    · rw[h2,aU (aj.1 h).1]
    · rw[aY h2]; exact h
  · exact h
theorem QaO (h:m[i]? =some true):(YI es m)[i]? =some true:=by
  induction es generalizing m with
  | nil=>exact h
  | cons e es ih=>rw[YI]; exact ih (Qap h)
theorem QiJ (he:e∈es)(h:m[e.1.toNat]? =some true)(hl:e.2.toNat < m.length):(YI es m)[e.2.toNat]? =some true:=by
  induction es generalizing m with
  | nil=>cases he
  | cons d es ih=>
    rw[YI]
    rcases aC.1 he with rfl | he
    · refine QaO ?_
      unfold XH
      rw[if_pos h,aU hl]
    · exact ih he (Qap h) (by rw[Qcv]; exact hl)
def Hx (m:List Bool):Nat:=(m.filter fun b=> !b).length
theorem Qe8 (h:m[i]? =some false):Hx (m.set i true)+1=Hx m:=by
  induction m generalizing i with
  | nil=>simp at h
  | cons x l ih=>
    cases i with
    | zero=>
      simp only[bK,bk] at h
      subst h
      simp[Hx]
    | succ i=>
      have:=ih (i:=i) (by simpa using h)
      simp only[Hx,cE,d7] at this ⊢
      split <;> simp_all
theorem QiS {α:Type _}{vs:List α}{i:Nat}{c:α}(h:vs[i]? =some c):vs.set i c=vs:=by
  apply bt
  intro j
  by_cases e:i=j
  · subst e; rw[aU (aj.1 h).1,h]
  · rw[aY e]
theorem QiO:XH e m=m∨Hx (XH e m) < Hx m:=by
  unfold XH
  split
  · cases h : m[e.2.toNat]? with
    | none=>left; rw[List.set_eq_of_length_le]; rwa [List.getElem?_eq_none_iff] at h
    | some b=>
      cases b with
      | true=>left; exact QiS h
      | false=>right; have:=Qe8 h; omega
  · exact .inl rfl
theorem Qi5:YI es m=m∨Hx (YI es m) < Hx m:=by
  induction es generalizing m with
  | nil=>exact .inl rfl
  | cons e es ih=>
    rw[YI]
    rcases QiO (e:=e) (m:=m) with h | h
    · rw[h]; exact ih
    · rcases ih (m := XH e m) with h2 | h2
      · rw[h2]; exact .inr h
      · exact .inr (Nat.lt_trans h2 h)
theorem QcN (h:YI es m=m):∀f,YJ es f m=m
  | 0=>rfl
  | f+1=>by rw[YJ,h]; exact QcN h f
theorem QdJ (h:Hx m < f):YI es (YJ es f m)=YJ es f m:=by
  induction f generalizing m with
  | zero=>omega
  | succ f ih=>
    rw[YJ]
    rcases Qi5 (es:=es) (m:=m) with h2 | h2
    · rw[h2,QcN h2,h2]
    · exact ih (by omega)
theorem Qgj (h:m[i]? =some true):(YJ es f m)[i]? =some true:=by
  induction f generalizing m with
  | zero=>exact h
  | succ f ih=>rw[YJ]; exact ih (QaO h)
theorem JQ:(YJ es f m).length=m.length:=by
  induction f generalizing m with
  | zero=>rfl
  | succ f ih=>rw[YJ,ih,QiN]
def m0 (n:Nat):List Bool:=(List.replicate n false).set 0 true
theorem Qom (h:1≤n):Hx (m0 n) < n:=by
  have h1:(List.replicate n false)[0]? =some false:=by rw[c9,if_pos (by omega)]
  have:=Qe8 h1
  have h2:Hx (List.replicate n false)=n:=by simp[Hx]
  unfold m0
  omega
theorem Qd2 (he:(e.1,e.2)∈es)(hr:InE n e)(h:∀k:Nat,m[k]? =some true→Rch es k):∀k:Nat,(XH e m)[k]? =some true→Rch es k:=fun k hk=>by
  obtain ⟨⟨r1,r2⟩,r3,r4⟩:=hr
  unfold XH at hk
  split at hk
  · rename_i h1
    by_cases e2:e.2.toNat=k
    · have h3 := h _ h1
      rw[show ((e.1.toNat:Nat):Int)=e.1 by omega] at h3
      rw[show (k:Int)=e.2 by omega]
      exact .step h3 he
    · rw[aY e2] at hk; exact h k hk
  · exact h k hk
theorem QdZ {ds:List (Int×Int)}(hd:∀e∈ds,e∈es)(hr:∀e∈es,InE n e)(h:∀k:Nat,m[k]? =some true→Rch es k):∀k:Nat,(YI ds m)[k]? =some true→Rch es k:=by
  induction ds generalizing m with
  | nil=>exact h
  | cons e ds ih=>rw[YI]; exact ih (fun e he=>hd e (ax _ he)) (Qd2 (hd e (ay ..)) (hr e (hd e (ay ..))) h)
theorem Qe6 (hr:∀e∈es,InE n e)(h:∀k:Nat,m[k]? =some true→Rch es k):∀k:Nat,(YJ es f m)[k]? =some true→Rch es k:=by
  induction f generalizing m with
  | zero=>exact h
  | succ f ih=>rw[YJ]; exact ih (QdZ (fun _ h=>h) hr h)
theorem QhY (h1:1≤n)(hr:∀e∈es,InE n e)(k:Nat)(hk:k < n):(YJ es n (m0 n))[k]? =some true↔Rch es k:=by
  have hl:(YJ es n (m0 n)).length=n:=by rw[JQ]; simp[m0]
  constructor
  · refine Qe6 hr (fun k hk => ?_) k
    unfold m0 at hk
    by_cases e:0=k
    · subst e; exact .zero
    · rw [aY e, c9] at hk
      split at hk <;> cases hk
  · intro h
    have main:∀u:Int,Rch es u→0≤u∧u < n∧(YJ es n (m0 n))[u.toNat]? =some true:=fun u hu=>by
      induction hu with
      | zero=>exact ⟨by omega,by omega,Qgj (by unfold m0; exact aU (by simp; omega))⟩
      | @step u v _ he ih=>
        obtain ⟨_,r3,r4⟩:=hr _ he
        refine ⟨r3,r4, ?_⟩
        have r3:0≤v:=r3
        have r4:v < (n:Int):=r4
        have:=QiJ he ih.2.2 (by rw[hl]; show v.toNat < n; omega)
        rwa [QdJ (Qom h1)] at this
    exact (main k h).2.2
theorem Qak {n:Nat}(h:∀a∈rs,InR n a):∀e∈ZC rs,InE n e:=fun e he=>by
  obtain ⟨a,ha,rfl⟩:=b8.1 he
  exact h a ha
theorem Qb2 (hx:rs[i]? =some a):YI ((ZC rs).drop i) m=YI ((ZC rs).drop (i+1)) (XH (a.1,a.2.2.2) m):=by
  rw[ZU (x:=(a.1,a.2.2.2)) (by unfold ZC; rw[bo,hx]; rfl),YI]
theorem Qck (h:m[a.1.toNat]? =some b)(hb:b=true):XH (a.1,a.2.2.2) m=m.set a.2.2.2.toNat true:=by unfold XH; rw[if_pos (by rw[h,hb])]
theorem Qey (h:m[a.1.toNat]? =some b)(hb:b=false):XH (a.1,a.2.2.2) m=m:=by unfold XH; rw[if_neg (by rw[h,hb]; intro h; cases h)]
theorem QkE (h:rs.length≤i):YI ((ZC rs).drop i) m=m:=by rw[bw (by simpa [ZC] using h),YI]
section
variable [Decidable (Hr n es)]
theorem Qoe (h1:1≤n)(hr:∀e∈es,InE n e)(hm:YJ es n (m0 n)=m)(hx:m[k]? =some b)(hb:b=false):false=decide (Hr n es):=(az (p:=Hr n es) fun h=>by
  have hl:(YJ es n (m0 n)).length=n:=by rw[JQ]; simp[m0]
  have hk:k < n:=by rw[← hl,hm]; exact (aj.1 hx).1
  have:=(QhY h1 hr k hk).2 (h k hk)
  rw[hm,hx,hb] at this
  cases this).symm
theorem Qnm (h1:1≤n)(hr:∀e∈es,InE n e)(hm:YJ es n (m0 n)=m)(h:∀j,j < k→m[j]? =some true)(hk:m.length≤k):true=decide (Hr n es):=(aJ (p:=Hr n es) fun j hj=>by
  have hl:(YJ es n (m0 n)).length=n:=by rw[JQ]; simp[m0]
  rw[hm] at hl
  exact (QhY h1 hr j hj).1 (by rw[hm]; exact h j (by omega))).symm
end
end
theorem Qkb {m:List Bool}{k:Nat}{b:Bool}(h:∀j,j < k→m[j]? =some true)(hx:m[k]? =some b)(hb:b=true):∀j,j < k+1→m[j]? =some true:=fun j hj=>by
  by_cases e:j=k
  · rw[e,hx,hb]
  · exact h j (by omega)
theorem Jx (as_:List (Int×Int×Bool×Int))(hl:as_.length≤1000000):FC Tryz.prog 159 [(false,[.dat (.sl 136 (.pr .int (.pr .int (.pr .bool .int)))) as_])] [] 0 (Wv 258 (.pr .int .int) (ZC as_)):=by
 refine Qj Tryz.func159 rfl rfl Tryz.ntmps159 fun O_ hO w0_ N0_ X_ h0_ f0_=> ?_
 iterate 4 refine w_ ?_
 refine lc (dBs 0 (e:=(.pr .int .int)) H1) ?_
 iterate 5 refine w_ ?_
 refine alL 7 fun hl1=> ?_
 iterate 4 refine w_ ?_
 refine lp0 as_.length (fun k=>⟨[(2,lf (.val (.slice none 0 0))),(3,lR 1),(7,lf (.dat (.sl 136 (.pr .int (.pr .int (.pr .bool .int)))) as_)),(8,lI (as_.length:Int)),(9,lI (k:Int))],[ar 1 258 (.pr .int .int) (ZC (as_.take k))]⟩) ?_ fun k hk2=> ?_
 · exact Wk.of [(1,0)] rfl ⟨rfl,rfl,rfl,rfl,rfl,trivial⟩ ⟨(Qk (by first | rfl | simp)),trivial⟩ rfl rfl
 have hsl:(ZC (as_.take k)).length≤as_.length:=by simp only[ZC,aQ,ap]; omega
 iterate 4 refine w_ ?_
 cases hb3:(decide ((k:Int) < (as_.length:Int)))
 ·have hb3':=ab hb3
  refine w_ ?_
  refine Qi ?_
  refine (?_:AC _ _ _ _ _)
  iterate 4 refine w_ ?_
  refine Qb<|fo_ hO ?_
  rw[ZG (by omega)]
 ·have hb3':=ae hb3
  iterate 5 refine w_ ?_
  obtain ⟨x4,hx5⟩:∃z,as_[k]? =some z:=⟨_,aa (by omega)⟩
  iterate 2 refine w_ ?_
  refine lc (xal 2 (.pr .int (.pr .int (.pr .bool .int))) Vr) ?_
  iterate 6 refine w_ ?_
  refine alI 15 fun hi6=> ?_
  iterate 2 refine w_ ?_
  refine alI 17 fun hi7=> ?_
  refine lc (Qn Qm5 ⟨_,_,rfl,(Qm rfl),⟨_,_,rfl,(Qm rfl),rfl⟩⟩ (aw.1 rfl) rfl rfl) ?_
  refine lc (dBs 3 (e:=(.pr .int .int)) H1 (hab:=by exact ⟨_,_,_,_,rfl,⟨[dI x4.1],[dI x4.2.2.2],_,_,_,_,rfl,rfl,⟨rfl,rfl⟩,⟨rfl,rfl⟩,rfl⟩,⟨rfl,rfl⟩,rfl⟩)) ?_
  refine lc (dA 4 Qm2) ?_
  refine w_ ?_
  refine Qd ?_
  refine (?_:AC _ _ _ _ _)
  iterate 3 refine w_ ?_
  refine Qd ?_
  refine l0_ ?_
  exact Wk.of [(1,4)] rfl ⟨rfl,rfl,rfl,rfl,rfl,trivial⟩ ⟨(Qk (by rw[Q0 hx5]; simp[ZC])),trivial⟩ rfl rfl
theorem Vf (s:List Int)(v:Int):FC Tryz.prog 245 [(false,[.dat (.sl 3 .int) s]),(false,[dI v])] [] 0 (QU (lI (Zb (fun y=>decide (v=y)) s))):=by
 refine Qj Tryz.func245 rfl rfl Tryz.ntmps245 fun O_ hO w0_ N0_ X_ h0_ f0_=> ?_
 refine acI 1 fun hi1=> ?_
 iterate 6 refine w_ ?_
 refine alL 6 fun hl2=> ?_
 iterate 4 refine w_ ?_
 refine lpK s.length (fun k=>NoneTo (fun y=>decide (v=y)) s k) (fun k=>⟨[(0,lf (.dat (.sl 3 .int) s)),(1,lI v),(7,lI (s.length:Int)),(8,lI (k:Int))],[]⟩) (NoneTo.zero) ?_ fun k hk3 hno=> ?_
 · exact Wk.of [] rfl ⟨rfl,rfl,rfl,rfl,trivial⟩ trivial rfl rfl
 iterate 4 refine w_ ?_
 cases hb4:(decide ((k:Int) < (s.length:Int)))
 ·have hb4':=ab hb4
  refine w_ ?_
  refine Qi ?_
  refine (?_:AC _ _ _ _ _)
  iterate 3 refine w_ ?_
  refine Qb<|fqI hO ?_
  first | exact (hno.no (by omega)).symm
 ·have hb4':=ae hb4
  iterate 12 refine w_ ?_
  obtain ⟨x5,hx6⟩:∃z,s[k]? =some z:=⟨_,aa (by omega)⟩
  iterate 2 refine w_ ?_
  refine alI 15 fun hi7=> ?_
  iterate 2 refine w_ ?_
  cases hb8:(decide (v=x5))
  ·have hb8':=ab hb8
   refine w_ ?_
   refine AC.skip ?_
   refine (?_:AC _ _ _ _ _)
   iterate 3 refine w_ ?_
   refine Qd ?_
   refine lK_ (hno.step hx6 (by assumption)) ?_
   exact Wk.of [] rfl ⟨rfl,rfl,rfl,rfl,trivial⟩ trivial rfl rfl
  ·have hb8':=ae hb8
   iterate 5 refine w_ ?_
   refine Qb<|fqI hO ?_
   exact (hno.at hx6 (by assumption)).symm
theorem Wr (s:List Int)(v:Int):FC Tryz.prog 157 [(false,[.dat (.sl 3 .int) s]),(false,[dI v])] [] 0 (QU (lB (s.any (fun y=>decide (v=y))))):=by
 refine Qj Tryz.func157 rfl rfl Tryz.ntmps157 fun O_ hO w0_ N0_ X_ h0_ f0_=> ?_
 refine acI 1 fun hi1=> ?_
 iterate 6 refine w_ ?_
 refine lc (dK (Vf s v) QgP) ?_
 iterate 3 refine w_ ?_
 refine Qb<|fqB hO ?_
 exact Xz _ _
theorem QbH (c:(List (ByteArray×Int))×List ByteArray×(List (Int×Int×Bool×Int)))[Decidable (Hr c.2.1.length (ZC c.2.2))](hn:1≤c.2.1.length∧c.2.1.length≤300)(ha:∀a∈c.2.2,InR c.2.1.length a):FC Tryz.prog 165 [(true,[.dat (.sl 203 (.pr .str .int)) c.1, .dat (.sl 9 .str) c.2.1, .dat (.sl 136 (.pr .int (.pr .int (.pr .bool .int)))) c.2.2])] [] 0 (QU (lB (decide (Hr c.2.1.length (ZC c.2.2))))):=by
 have hes:=Qak ha
 have hrl:(List.replicate c.2.1.length (Ty.zero .bool)).length=c.2.1.length:=aB ..
 refine Qj Tryz.func165 rfl rfl Tryz.ntmps165 fun O_ hO w0_ N0_ X_ h0_ f0_=> ?_
 refine w_ ?_
 refine xbx 0 ?_
 iterate 5 refine w_ ?_
 refine alL 9 fun hl1=> ?_
 refine w_ ?_
 refine lc (UG 1 (e:= .bool) (n:=c.2.1.length) (Qa rfl) (Qa rfl) Qmk Qqo rfl (by omega) (by omega) rfl (Fresh.of rfl) (nlr rfl)) ?_
 iterate 5 refine w_ ?_
 obtain ⟨x2,hx3⟩:∃z,(List.replicate c.2.1.length (Ty.zero .bool))[0]? =some z:=⟨_,aa (by omega)⟩
 refine lc (Qs (e:= .bool) (z':=true) (Qa rfl) rfl hx3 rfl (Evl.ev Zi) rfl Qes rfl rfl) ?_
 iterate 5 refine w_ ?_
 refine alL 15 fun hl4=> ?_
 iterate 4 refine w_ ?_
 refine QE (fun m_ s_=>∃(p:Nat) (met:List Bool),p≤c.2.1.length∧m_=c.2.1.length - p∧(YJ (ZC c.2.2) c.2.1.length (m0 c.2.1.length)=YJ (ZC c.2.2) (c.2.1.length - p) met)∧(met.length=c.2.1.length)∧s_=⟨[(1,lP 0 0),(2,lB false),(3,lR 2),(16,lI (c.2.1.length:Int)),(17,lI (p:Int))],[bx 0 28 [.dat (.sl 203 (.pr .str .int)) c.1, .dat (.sl 9 .str) c.2.1, .dat (.sl 136 (.pr .int (.pr .int (.pr .bool .int)))) c.2.2],(2,some (.arr 4 .bool met))]⟩) ⟨0,(List.replicate c.2.1.length (Ty.zero .bool)).set 0 true,aS _,rfl,rfl,(by simp),rfl⟩ ?_ ?_
 · exact Wk.of [(2,1)] rfl ⟨rfl,rfl,rfl,rfl,rfl,trivial⟩ ⟨rfl,(Qk (by first | rfl | simp)),trivial⟩ rfl rfl
 rintro m_ s_ ⟨p,met,hk5,hm6,hA,hL,rfl⟩
 iterate 4 refine w_ ?_
 cases hb7:(decide ((p:Int) < (c.2.1.length:Int)))
 ·have hb7':=ab hb7
  refine w_ ?_
  refine Qi ?_
  refine (?_:AC _ _ _ _ _)
  iterate 7 refine w_ ?_
  refine lpK met.length (fun k=>∀j,j < k→met[j]? =some true) (fun k=>⟨[(37,lR 2),(38,lI (met.length:Int)),(39,lI (k:Int))],[(2,some (.arr 4 .bool met))]⟩) ((fun j hj=>absurd hj (bc j))) ?_ fun k hk8 hM=> ?_
  · exact Wk.of [] rfl ⟨rfl,rfl,rfl,trivial⟩ ⟨rfl,trivial⟩ rfl rfl
  iterate 4 refine w_ ?_
  cases hb9:(decide ((k:Int) < (met.length:Int)))
  ·have hb9':=ab hb9
   refine w_ ?_
   refine Qi ?_
   refine (?_:AC _ _ _ _ _)
   iterate 3 refine w_ ?_
   refine Qb<|fqB hO ?_
   first | exact Qnm hn.1 hes (by rw[hA,show c.2.1.length - p=0 by omega]; rfl) hM (by omega)
  ·have hb9':=ae hb9
   iterate 6 refine w_ ?_
   obtain ⟨x10,hx11⟩:∃z,met[k]? =some z:=⟨_,aa (by omega)⟩
   iterate 7 refine w_ ?_
   cases hb12:(x10)
   ·iterate 4 refine w_ ?_
    refine Qb<|fqB hO ?_
    exact Qoe hn.1 hes (by rw[hA,show c.2.1.length - p=0 by omega]; rfl) hx11 (by assumption)
   ·refine w_ ?_
    refine AC.skip ?_
    refine (?_:AC _ _ _ _ _)
    iterate 3 refine w_ ?_
    refine Qd ?_
    refine lK_ ((Qkb hM hx11 (by assumption))) ?_
    exact Wk.of [] rfl ⟨rfl,rfl,rfl,trivial⟩ ⟨rfl,trivial⟩ rfl rfl
 ·have hb7':=ae hb7
  iterate 7 refine w_ ?_
  refine alL 20 fun hl13=> ?_
  iterate 4 refine w_ ?_
  refine QE (fun m_ s_=>∃(i:Nat) (met2:List Bool),i≤c.2.2.length∧m_=c.2.2.length - i∧(YI (ZC c.2.2) met=YI ((ZC c.2.2).drop i) met2)∧(met2.length=c.2.1.length)∧s_=⟨[(1,lP 0 0),(2,lB false),(3,lR 3),(16,lI (c.2.1.length:Int)),(17,lI (p:Int)),(18,lB true),(19,lP 0 2),(20,lf (.dat (.sl 136 (.pr .int (.pr .int (.pr .bool .int)))) c.2.2)),(21,lI (c.2.2.length:Int)),(22,lI (i:Int))],[bx 0 28 [.dat (.sl 203 (.pr .str .int)) c.1, .dat (.sl 9 .str) c.2.1, .dat (.sl 136 (.pr .int (.pr .int (.pr .bool .int)))) c.2.2],(3,some (.arr 4 .bool met2))]⟩) ⟨0,met,aS _,rfl,rfl,hL,rfl⟩ ?_ ?_
  · exact Wk.of [(3,2)] rfl ⟨rfl,rfl,rfl,rfl,rfl,rfl,rfl,rfl,rfl,rfl,trivial⟩ ⟨rfl,rfl,trivial⟩ rfl rfl
  rintro m_ s_ ⟨i,met2,hk14,hm15,hA2,hL2,rfl⟩
  iterate 4 refine w_ ?_
  cases hb16:(decide ((i:Int) < (c.2.2.length:Int)))
  ·have hb16':=ab hb16
   refine w_ ?_
   refine Qi ?_
   refine (?_:AC _ _ _ _ _)
   iterate 3 refine w_ ?_
   refine Qd<|Q5 ⟨p+1,met2,by omega,rfl,(by rw[hA,show c.2.1.length - p=(c.2.1.length - (p+1))+1 by omega,YJ,hA2,QkE (by omega)]),hL2,rfl⟩ (by omega) ?_
   exact Wk.of [(2,3)] rfl ⟨rfl,rfl,rfl,rfl,rfl,trivial⟩ ⟨rfl,rfl,trivial⟩ rfl rfl
  ·have hb16':=ae hb16
   iterate 5 refine w_ ?_
   obtain ⟨ar,hx18⟩:∃z,c.2.2[i]? =some z:=⟨_,aa (by omega)⟩
   obtain ⟨⟨hr1,hr2⟩,hr3,hr4⟩:=ha _ (ao hx18)
   iterate 2 refine w_ ?_
   refine lc (xal 4 (.pr .int (.pr .int (.pr .bool .int))) Vr) ?_
   iterate 6 refine w_ ?_
   refine alI 28 fun hi19=> ?_
   refine w_ ?_
   obtain ⟨x20,hx21⟩:∃z,met2[(ar.1).toNat]? =some z:=⟨_,aa (by omega)⟩
   iterate 2 refine w_ ?_
   cases hb22:(x20)
   ·refine w_ ?_
    refine AC.skip ?_
    refine (?_:AC _ _ _ _ _)
    iterate 3 refine w_ ?_
    refine Qd<|Q5 ⟨i+1,met2,by omega,rfl,(by rw[hA2,Qb2 hx18]; first | rw[Qck (by assumption) (by assumption)] | rw[Qey (by assumption) (by assumption)]),(by exact hL2),rfl⟩ (by omega) ?_
    exact Wk.of [] rfl ⟨rfl,rfl,rfl,rfl,rfl,rfl,rfl,rfl,rfl,rfl,trivial⟩ ⟨rfl,rfl,trivial⟩ rfl rfl
   ·iterate 5 refine w_ ?_
    refine alI 33 fun hi23=> ?_
    refine w_ ?_
    obtain ⟨x24,hx25⟩:∃z,met2[(ar.2.2.2).toNat]? =some z:=⟨_,aa (by omega)⟩
    refine lc (Qs (e:= .bool) (z':=true) (Qa rfl) rfl hx25 rfl (Evl.ev Zi) rfl Qes rfl rfl)<|Qd ?_
    refine (?_:AC _ _ _ _ _)
    iterate 3 refine w_ ?_
    refine Qd<|Q5 ⟨i+1,(met2.set ((ar.2.2.2).toNat) true),by omega,rfl,(by rw[hA2,Qb2 hx18]; first | rw[Qck (by assumption) (by assumption)] | rw[Qey (by assumption) (by assumption)]),(by (rw[aA]; exact hL2)),rfl⟩ (by omega) ?_
    exact Wk.of [] rfl ⟨rfl,rfl,rfl,rfl,rfl,rfl,rfl,rfl,rfl,rfl,trivial⟩ ⟨rfl,(Qk (by first | rfl | simp)),trivial⟩ rfl rfl
end Go.Proofs.YtfkmmpfdncopdaaGreat
namespace Go.Proofs.YtfkmmpfdncopdaaGreat
set_option maxHeartbeats 4000000
set_option maxRecDepth 100000
open Go.RowKit
set_option maxRecDepth 100000
set_option maxHeartbeats 4000000
structure SgOk (c:DSg):Prop where
  sigs:YQ c.1
  some_:1≤c.2.1.length∧c.2.1.length≤300
  few:c.2.2.length≤4000
  codes:∀x∈c.2.1,ZN x (c.1.length:Int)
  arcs:∀a∈c.2.2,YH c a
  all:Hr c.2.1.length (ZC c.2.2)
theorem Y5 {α:Type}{p:α→Prop}{l:List α}{k:Nat}{x:α}(h:∀j,j < k→∀x,l[j]? =some x→p x)(hx:l[k]? =some x)(hp:p x):∀j,j < k+1→∀x,l[j]? =some x→p x:=fun j hj y hy=>by
  by_cases e:j=k
  · subst e; rw[hx] at hy; cases hy; exact hp
  · exact h j (by omega) y hy
theorem YB {α:Type}{p:α→Prop}{l:List α}{k:Nat}(h:∀j,j < k→∀x,l[j]? =some x→p x)(hk:l.length≤k):∀x∈l,p x:=fun x hx=>by
  obtain ⟨j,hj⟩:=aM.1 hx
  have:=(aj.1 hj).1
  exact h j (by omega) x hj
theorem KW {c:DSg}{a:DAr}(h:YH c a):InR c.2.1.length a:=by
  obtain ⟨⟨h1,h2⟩,⟨h3,h4⟩,_⟩:=h
  exact ⟨⟨h1,by omega⟩,h3,by omega⟩
section
variable {c:DSg}[Decidable (SgOk c)]{x:ByteArray}{a:DAr}{k i:Nat}
theorem Ql5 (h:¬YQ c.1):false=decide (SgOk c):=(az fun g=>h g.sigs).symm
theorem Ql0 (h:¬((1:Int)≤(c.2.1.length:Int)∧(c.2.1.length:Int)≤300)):false=decide (SgOk c):=(az fun g=>h (by have:=g.some_; omega)).symm
theorem QkN (h:(4000:Int) < (c.2.2.length:Int)):false=decide (SgOk c):=(az fun g=>by have:=g.few; omega).symm
theorem Ql2 (hx:c.2.1[k]? =some x)(h:¬ZN x (c.1.length:Int)):false=decide (SgOk c):=(az fun g=>h (g.codes x (ao hx))).symm
theorem Qby (hx:c.2.2[k]? =some a)(h:¬YH c a):false=decide (SgOk c):=(az fun g=>h (g.arcs a (ao hx))).symm
theorem QlW [Decidable (Hr c.2.1.length (ZC c.2.2))](h1:YQ c.1)(h2:(1:Int)≤(c.2.1.length:Int)∧(c.2.1.length:Int)≤300)(h3:¬(4000:Int) < (c.2.2.length:Int))(h4:∀x∈c.2.1,ZN x (c.1.length:Int))(h5:∀a∈c.2.2,YH c a):
    decide (Hr c.2.1.length (ZC c.2.2))=decide (SgOk c):=bQ.2 ⟨fun h=>⟨h1,by omega,by omega,h4,h5,h⟩,fun g=>g.all⟩
end
theorem VY (c:(List (ByteArray×Int))×List ByteArray×(List (Int×Int×Bool×Int)))[∀c,Decidable (SgOk c)]:FC Tryz.prog 67 [(true,[.dat (.sl 203 (.pr .str .int)) c.1, .dat (.sl 9 .str) c.2.1, .dat (.sl 136 (.pr .int (.pr .int (.pr .bool .int)))) c.2.2])] [] 0 (QU (lB (decide (SgOk c)))):=by
 classical
 refine Qj Tryz.func67 rfl rfl Tryz.ntmps67 fun O_ hO w0_ N0_ X_ h0_ f0_=> ?_
 refine w_ ?_
 refine xbx 0 ?_
 iterate 6 refine w_ ?_
 refine lc (dK (Js c.1) QgI) ?_
 iterate 2 refine w_ ?_
 cases hb1:(decide (YQ c.1))
 ·have hb1':=ab hb1
  iterate 17 refine w_ ?_
  refine Qb<|fqB hO ?_
  exact Ql5 (by assumption)
 ·have hb1':=ae hb1
  iterate 2 refine w_ ?_
  refine alL 13 fun hl2=> ?_
  refine w_ ?_
  refine lgy rfl rfl (dK (Z7 (c.2.1.length:Int) 1 300) Yw) ?_
  iterate 3 refine w_ ?_
  cases hb3:(decide (1≤(c.2.1.length:Int)∧(c.2.1.length:Int)≤300))
  ·have hb3':=ab hb3
   iterate 10 refine w_ ?_
   refine Qb<|fqB hO ?_
   exact Ql0 (by assumption)
  ·have hb3':=ae hb3
   iterate 2 refine w_ ?_
   refine alL 20 fun hl4=> ?_
   iterate 4 refine w_ ?_
   refine cd_ (fun hb5 hb5'=> ?_) fun hb5 hb5'=> ?_
   ·iterate 5 refine w_ ?_
    refine alL 25 fun hl6=> ?_
    iterate 4 refine w_ ?_
    refine lpK c.2.1.length (fun k=>∀j,j < k→∀x,c.2.1[j]? =some x→ZN x (c.1.length:Int)) (fun k=>⟨[(1,lP 0 0),(25,lf (.dat (.sl 9 .str) c.2.1)),(26,lI (c.2.1.length:Int)),(27,lI (k:Int))],[bx 0 28 [.dat (.sl 203 (.pr .str .int)) c.1, .dat (.sl 9 .str) c.2.1, .dat (.sl 136 (.pr .int (.pr .int (.pr .bool .int)))) c.2.2]]⟩) ((fun j hj=>absurd hj (bc j))) ?_ fun k hk7 hB=> ?_
    · exact Wk.of [] rfl ⟨rfl,rfl,rfl,rfl,trivial⟩ ⟨rfl,trivial⟩ rfl rfl
    iterate 4 refine w_ ?_
    cases hb8:(decide ((k:Int) < (c.2.1.length:Int)))
    ·have hb8':=ab hb8
     refine w_ ?_
     refine Qi ?_
     refine (?_:AC _ _ _ _ _)
     iterate 4 refine w_ ?_
     refine alL 39 fun hl9=> ?_
     iterate 4 refine w_ ?_
     refine lpK c.2.2.length (fun i=>∀j,j < i→∀a,c.2.2[j]? =some a→YH c a) (fun i=>⟨[(1,lP 0 0),(39,lf (.dat (.sl 136 (.pr .int (.pr .int (.pr .bool .int)))) c.2.2)),(40,lI (c.2.2.length:Int)),(41,lI (i:Int))],[bx 0 28 [.dat (.sl 203 (.pr .str .int)) c.1, .dat (.sl 9 .str) c.2.1, .dat (.sl 136 (.pr .int (.pr .int (.pr .bool .int)))) c.2.2]]⟩) ((fun j hj=>absurd hj (bc j))) ?_ fun i hk10 hR=> ?_
     · exact Wk.of [] rfl ⟨rfl,rfl,rfl,rfl,trivial⟩ ⟨rfl,trivial⟩ rfl rfl
     iterate 4 refine w_ ?_
     cases hb11:(decide ((i:Int) < (c.2.2.length:Int)))
     ·have hb11':=ab hb11
      refine w_ ?_
      refine Qi ?_
      refine (?_:AC _ _ _ _ _)
      iterate 2 refine w_ ?_
      refine lc (dK (QbH c (by omega) (fun a ha=>KW (YB hR (by omega) a ha))) Qgd) ?_
      iterate 2 refine w_ ?_
      refine Qb<|fqB hO ?_
      exact QlW (by assumption) (by assumption) (by assumption) (YB hB (by omega)) (YB hR (by omega))
     ·have hb11':=ae hb11
      iterate 5 refine w_ ?_
      obtain ⟨x12,hx13⟩:∃z,c.2.2[i]? =some z:=⟨_,aa (by omega)⟩
      iterate 2 refine w_ ?_
      refine lc (xal 1 (.pr .int (.pr .int (.pr .bool .int))) Vr) ?_
      iterate 5 refine w_ ?_
      refine lc (dK (QbF c x12 (YB hB (by omega)) (by have:=(‹YQ c.1›).2.2; omega)) Qf6) ?_
      iterate 2 refine w_ ?_
      cases hb14:(decide (YH c x12))
      ·have hb14':=ab hb14
       iterate 4 refine w_ ?_
       refine Qb<|fqB hO ?_
       exact Qby hx13 (by assumption)
      ·have hb14':=ae hb14
       refine w_ ?_
       refine AC.skip ?_
       refine (?_:AC _ _ _ _ _)
       iterate 3 refine w_ ?_
       refine Qd ?_
       refine lK_ ((Y5 hR hx13 (by assumption))) ?_
       exact Wk.of [] rfl ⟨rfl,rfl,rfl,rfl,trivial⟩ ⟨rfl,trivial⟩ rfl rfl
    ·have hb8':=ae hb8
     iterate 5 refine w_ ?_
     obtain ⟨x15,hx16⟩:∃z,c.2.1[k]? =some z:=⟨_,aa (by omega)⟩
     iterate 8 refine w_ ?_
     refine alL 33 fun hl17=> ?_
     refine w_ ?_
     refine lc (dK (Ud x15 (c.1.length:Int)) QaG) ?_
     iterate 2 refine w_ ?_
     cases hb18:(decide (ZN x15 (c.1.length:Int)))
     ·have hb18':=ab hb18
      iterate 4 refine w_ ?_
      refine Qb<|fqB hO ?_
      exact Ql2 hx16 (by assumption)
     ·have hb18':=ae hb18
      refine w_ ?_
      refine AC.skip ?_
      refine (?_:AC _ _ _ _ _)
      iterate 3 refine w_ ?_
      refine Qd ?_
      refine lK_ ((Y5 hB hx16 (by assumption))) ?_
      exact Wk.of [] rfl ⟨rfl,rfl,rfl,rfl,trivial⟩ ⟨rfl,trivial⟩ rfl rfl
   ·iterate 3 refine w_ ?_
    refine Qb<|fqB hO ?_
    exact QkN (by assumption)
end Go.Proofs.YtfkmmpfdncopdaaGreat
namespace Go.Proofs.YtfkmmpfdncopdaaGreat
set_option maxHeartbeats 4000000
set_option maxRecDepth 100000
open Go.RowKit
set_option maxRecDepth 100000
set_option maxHeartbeats 4000000
section
variable {A:Amb}{P:Program}{s:St}{x y:Operand}{d:Nat}{T T' ty:TypeId}{pos:String}{af:Array Edge}{g:Option (Nat×Bool)}{n a b:Int}
theorem QeZ (h:0≤n∧n≤9223372036854775807):IntKind.u64.wrap n=n:=by
  simp[IntKind.wrap,IntKind.bits,IntKind.signed]
  omega
theorem Qlo (h:0≤n∧n≤9223372036854775807):IntKind.i64.wrap n=n:=IntWalk.i64_in _ (by omega)
theorem Vt (hx:Evl A s x (dI n))(hs:P.underlying T=some (.int .i64))(hd:P.underlying T'=some (.int .u64))(h0:0≤n)(hn:Nat.blt d A.n=true):
    Does A P ⟨some d, .convert T T' x,ty,pos,af,g⟩ s (s.put d (lf (.val (.int .u64 n)))):=
  Qe rfl hn fun gh a w r=>by
    have h2:=hx.i r
    have h3:=(LVR.int (hx gh a w r)).2
    have e2:=QeZ (n:=n) (by omega)
    refine ⟨.int .u64 n, ?_,_,rfl,rfl⟩
    simp only[execOp,h2,convert,run_underlying hs,run_underlying hd,au,aF,Conv.intToInt,e2]
    simp
theorem KG (hx:Evl A s x (.val (.int .u64 n)))(hs:P.underlying T=some (.int .u64))(hd:P.underlying T'=some (.int .i64))(h0:0≤n∧n≤9223372036854775807)(hn:Nat.blt d A.n=true):
    Does A P ⟨some d, .convert T T' x,ty,pos,af,g⟩ s (s.put d (lf (dI n))):=
  Qe rfl hn fun gh a w r=>by
    have h2:a.eval x= .int .u64 n:=hx gh a w r
    have e2:=Qlo h0
    refine ⟨.int .i64 n, ?_,_,rfl,Ye (by omega)⟩
    simp only[execOp,h2,convert,run_underlying hs,run_underlying hd,au,aF,Conv.intToInt,e2]
    simp
theorem Qcw (hx:Evl A s x (.val (.int .u64 a)))(hy:Evl A s y (.val (.int .u64 b)))(hn:Nat.blt d A.n=true):Does A P ⟨some d, .binOp .gtr T x y T',ty,pos,af,g⟩ s (s.put d (lf (dB (decide (b < a))))):=
  Qe rfl hn fun gh a' w r=>by
    have h1:a'.eval x= .int .u64 a:=hx gh a' w r
    have h2:a'.eval y= .int .u64 b:=hy gh a' w r
    refine ⟨.bool (decide (b < a)), ?_,_,rfl,ZJ⟩
    simp only[execOp,h1,h2,eqGuard_at_int,binOp,Op.intCmp]
    simp
end
theorem Qke (n:Nat)(hn:n≤1000000):bits BinOp.and IntKind.u64 (n:Int) 4294967295=n:=by
  have h:=bits_and_u64_nat n 4294967295 (by omega) (by decide)
  rw[show ((4294967295:Nat):Int)=4294967295 from rfl] at h
  rw[h,show (4294967295:Nat)=2 ^ 32 - 1 from rfl,Nat.and_two_pow_sub_one_eq_mod,cY (by omega)]
theorem QmW (n:Nat)(w:World)(hn:n≤1000000):Calls Tryz.prog 284 #[.int .u64 1, .int .u64 n] w fun e w'=>e= .returned (.tuple #[.int .u64 0, .int .u64 n])∧w'=w:=by
  have h1:bits BinOp.and IntKind.u64 1 4294967295=1:=by decide
  have h2:=Qke n hn
  have h3:(n:Int) / 4294967296=0:=by omega
  have h4:=QeZ (n:=n) (by omega)
  have h5:IntKind.u64.wrap 0=0:=by decide
  have h6:bits BinOp.and IntKind.u64 0 4294967295=0:=by decide
  go_enter Tryz.func284,Tryz.ntmps284
  go_wp2
  go_ret2
  exact ⟨rfl,rfl⟩
theorem Qoq (a n:Int)(ha:a=1)(hn:0≤n∧n≤1000000):FC Tryz.prog 284 [(false,[.val (.int .u64 a)]),(false,[.val (.int .u64 n)])] [] 0 (QU (.tup [(false,[.val (.int .u64 0)]),(false,[.val (.int .u64 n)])])):=QkO fun gh w vs h=>by
  obtain ⟨v1,vs1,rfl,⟨l1,e1,k1⟩,v2,vs2,rfl,⟨l2,e2,k2⟩,rfl⟩:=h
  simp only[aI,and_true] at e1 e2
  subst e1 e2 ha
  have k1:v1= .int .u64 1:=k1
  have k2:v2= .int .u64 n:=k2
  subst k1 k2
  obtain ⟨m,rfl⟩:∃m:Nat,n=m:=⟨n.toNat,by omega⟩
  refine Calls.mono (QmW m w (by omega)) fun e w' he=> ?_
  obtain ⟨rfl,rfl⟩:=he
  exact ⟨_,rfl,QL _,[.int .u64 0, .int .u64 m],rfl,_,_,rfl,⟨_,rfl,rfl⟩,_,_,rfl,⟨_,rfl,rfl⟩,rfl⟩
theorem Qhh {v:Int}{m k:Nat}:cpy (List.replicate m v++List.replicate k (0:Int)) m k ((((List.replicate m v++List.replicate k (0:Int))).take (0+m)).drop 0)=List.replicate (m+min m k) v++List.replicate (k - min m k) 0:=by
  have h1:(List.replicate m v++List.replicate k (0:Int)).take m=List.replicate m v:=List.take_left' (by simp)
  have h2:(List.replicate m v++List.replicate k (0:Int)).drop (m+min m k)=List.replicate (k - min m k) 0:=by
    rw[List.drop_append,aB,bw (by simp),cI,List.drop_replicate]
    congr 1
    omega
  rw[cpy,bF,dd,h1,aB,h2,List.take_replicate,ce (Nat.min_le_left _ _),List.replicate_append_replicate]
theorem Qi1 {n v:Int}(hn:0≤n):cpy (List.replicate n.toNat (Ty.zero .int)) 0 (List.replicate n.toNat (Ty.zero .int)).length [v]=List.replicate (((min [v].length (List.replicate n.toNat (Ty.zero .int)).length:Nat):Int)).toNat v++List.replicate (n.toNat - (((min [v].length (List.replicate n.toNat (Ty.zero .int)).length:Nat):Int)).toNat) 0:=by
  have h:=Qhh (v:=v) (m:=0) (k:=n.toNat)
  have e:(Ty.zero .int:Int)=0:=rfl
  cases hk:n.toNat with
  | zero=>simp[cpy]
  | succ k=>simp[cpy,e,List.replicate_succ]
theorem Qjt {n m v:Int}{l:List Int}(h0:0≤m)(h1:m≤n)(hl:l=List.replicate m.toNat v++List.replicate (n.toNat - m.toNat) 0)(hL:l.length=n.toNat):
    cpy l m.toNat (l.length - m.toNat) ((l.take (0+m.toNat)).drop 0)=List.replicate (m+((min ((l.take (0+m.toNat)).drop 0).length (l.length - m.toNat):Nat):Int)).toNat v++List.replicate (n.toNat - (m+((min ((l.take (0+m.toNat)).drop 0).length (l.length - m.toNat):Nat):Int)).toNat) 0:=by
  have hlen:((l.take (0+m.toNat)).drop 0).length=m.toNat:=by simp[hL]; omega
  rw[hlen,hL]
  rw[hl,Qhh]
  congr 2 <;> omega
theorem WJ (s:List Int)(n:Int)(v:Int)(hs:s=[v])(hn:0≤n∧n≤1000000):FC Tryz.prog 246 [(false,[.dat (.sl 3 .int) s]),(false,[dI n])] [] 0 (Wv 3 .int (List.replicate n.toNat v)):=by
 have hs1:(s.length:Int)=1:=by rw[hs]; rfl
 have hneg:decide (n < 0)=false:=az (by omega)
 have hbig:decide ((9223372036854775807:Int) < n)=false:=az (by omega)
 have hrl:(List.replicate n.toNat (Ty.zero .int)).length=n.toNat:=aB ..
 refine Qj Tryz.func246 rfl rfl Tryz.ntmps246 fun O_ hO w0_ N0_ X_ h0_ f0_=> ?_
 refine acI 1 fun hi1=> ?_
 iterate 8 refine w_ ?_
 cases hb2:(decide (n < 0))
 ·have hb2':=ab hb2
  iterate 4 refine w_ ?_
  refine alL 13 fun hl3=> ?_
  refine w_ ?_
  refine lc (Vt (Qa rfl) K5 QdA (by omega) rfl) ?_
  refine w_ ?_
  refine lc (Vt (Qa rfl) K5 QdA (by omega) rfl) ?_
  refine lc (dK (Qoq (s.length:Int) n hs1 hn) QfO) ?_
  iterate 9 refine w_ ?_
  refine lc (Qcw (Qa rfl) Evl.val rfl) ?_
  refine w_ ?_
  cases hb4:(decide ((0:Int) < (0:Int)))
  ·have hb4':=ab hb4
   refine w_ ?_
   refine lgy rfl rfl (Qcw (Qa rfl) Evl.val rfl) ?_
   iterate 2 refine w_ ?_
   cases hb5:(decide ((9223372036854775807:Int) < n))
   ·have hb5':=ab hb5
    iterate 4 refine w_ ?_
    refine lc (KG (Qa rfl) QdA K5 (by omega) rfl)<|lc (Qam 0 (e:= .int) (n:=n) (Qa rfl) (Qa rfl) Xg Qj0 rfl (by omega) (by omega) (by omega) rfl (Fresh.of rfl) (nlr rfl)) ?_
    iterate 5 refine w_ ?_
    refine lc (Qbz (e:= .int) (xs:=List.replicate (n).toNat (Ty.zero .int)) (lo:=0) (n:=(List.replicate (n).toNat (Ty.zero .int)).length) (ys:=s) (QlS (Qa rfl) rfl) rfl (by omega) (Evl.rep (Qa rfl)) rfl rfl Xg Qj0 rfl) ?_
    iterate 4 refine w_ ?_
    refine QE (fun m_ s_=>∃(m:Int) (l:List Int),m_=(n - m).toNat∧(0≤m∧m≤n∧(0 < n→0 < m))∧(l=List.replicate m.toNat v++List.replicate (n.toNat - m.toNat) 0)∧(l.length=n.toNat)∧s_=⟨[(4,lf (.val (.slice none 0 0))),(7,lR 1),(8,lI m)],[ar 1 3 .int l]⟩) ⟨((min s.length ((List.replicate (n).toNat (Ty.zero .int)).length):Nat):Int),cpy (List.replicate (n).toNat (Ty.zero .int)) 0 ((List.replicate (n).toNat (Ty.zero .int)).length) s,rfl,(by rw[hrl,hs]; simp; omega),(by rw[hs]; exact Qi1 hn.1),(by rw[Qdy (by omega)]; exact hrl),rfl⟩ ?_ ?_
    · exact Wk.of [(1,0)] rfl ⟨rfl,rfl,rfl,trivial⟩ ⟨(Qk (by first | rfl | simp)),trivial⟩ rfl rfl
    rintro m_ s_ ⟨m,l,hm7,hm,hl,hL,rfl⟩
    iterate 7 refine w_ ?_
    cases hb8:(decide (m < (l.length:Int)))
    ·have hb8':=ab hb8
     refine w_ ?_
     refine Qi ?_
     refine (?_:AC _ _ _ _ _)
     iterate 4 refine w_ ?_
     refine Qb<|fo_ hO ?_
     rw[hl,show n.toNat - m.toNat=0 by omega,show m.toNat=n.toNat by omega]; simp
    ·have hb8':=ae hb8
     iterate 3 refine w_ ?_
     apply dV (i3 38 _ _ _ (io 41 (lf (.sub 1 1 ((m).toNat) (l.length - (m).toNat))) :: i2 42 _ _ [io 44 (lf (.sub 1 1 0 ((m).toNat))),⟨some 45,lI ((min ((l.take (0+((m).toNat))).drop 0).length (l.length - (m).toNat):Nat):Int),[ar 1 3 .int (cpy l ((m).toNat) (l.length - (m).toNat) ((l.take (0+((m).toNat))).drop 0))]⟩,io 46 _,io 8 _])) [0,1,3,1,15,31,15,1,0,0]
     iterate 3 refine z_ ?_
     refine zz (fun _ h_=>ac (ZF (e:= .int) (a:=(m).toNat) (b:=l.length - (m).toNat) (l:=(some m)) (h:=none) (h_.v rfl) (h_.en 1 rfl) (by exact (h_.v rfl)) (by exact trivial) Xg U8 rfl (by first | (simp only[ai,ah]; omega) | omega | (simp only[ai,ah,ak,ap,aB]; omega)) (by first | (simp only[ai,ah]; omega) | omega | (simp only[ai,ah,ak,ap,aB]; omega)) (by first | (simp only[ai,ah]; omega) | omega | (simp only[ai,ah,ak,ap,aB]; omega)) (by first | rfl | simp) (by first | rfl | simp)) rfl) ?_
     iterate 2 refine z_ ?_
     refine zz (fun _ h_=>ac (ZF (e:= .int) (a:=0) (b:=(m).toNat) (l:=none) (h:=(some m)) (h_.v rfl) (h_.en 1 rfl) (by exact trivial) (by exact (h_.v rfl)) Xg U8 rfl (by first | (simp only[ai,ah]; omega) | omega | (simp only[ai,ah,ak,ap,aB]; omega)) (by first | (simp only[ai,ah]; omega) | omega | (simp only[ai,ah,ak,ap,aB]; omega)) (by first | (simp only[ai,ah]; omega) | omega | (simp only[ai,ah,ak,ap,aB]; omega)) (by first | rfl | simp) (by first | rfl | simp)) rfl)<|zz (fun _ h_=>ac (Qbz (e:= .int) (xs:=l) (lo:=(m).toNat) (n:=l.length - (m).toNat) (ys:=(l.take (0+((m).toNat))).drop 0) (QkA (h_.v rfl) (h_.en 1 rfl)) (h_.en 1 rfl) (by omega) (Wp (e:= .int) (h_.v rfl) (h_.en 1 rfl) (by omega)) rfl rfl Xg Qj0 rfl) rfl) ?_
     iterate 2 refine z_ ?_
     exact zN
     refine Q5 ⟨(m+((min ((l.take (0+((m).toNat))).drop 0).length (l.length - (m).toNat):Nat):Int)),(cpy l ((m).toNat) (l.length - (m).toNat) ((l.take (0+((m).toNat))).drop 0)),rfl,(by simp only[bh,ap,hL]; omega),(Qjt hm.1 hm.2.1 hl hL),(by rw[Qdy (by omega)]; exact hL),rfl⟩ (by simp only[bh,ap,hL]; omega) ?_
     exact Wk.of [] rfl ⟨rfl,rfl,rfl,trivial⟩ ⟨(Qk (by first | rfl | simp)),trivial⟩ rfl rfl
   · exact absurd (hb5.symm.trans (show (decide ((9223372036854775807:Int) < n))=false from hbig)) (by decide)
  · exact absurd (hb4.symm.trans (show (decide ((0:Int) < (0:Int)))=false from (by decide))) (by decide)
 · exact absurd (hb2.symm.trans (show (decide (n < 0))=false from hneg)) (by decide)
end Go.Proofs.YtfkmmpfdncopdaaGreat
