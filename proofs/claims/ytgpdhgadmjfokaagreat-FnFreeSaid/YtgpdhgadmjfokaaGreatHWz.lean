/- Walks over abstract states: arcs of state graphs. -/
import Derived.Test.YtgpdhgadmjfokaaGreatHWv
import Derived.Test.YtgpdhgadmjfokaaGreatHAk
import Derived.Laws.Bits64b
set_option linter.unusedSimpArgs false
set_option linter.unusedVariables false
set_option linter.unusedSectionVars false
namespace Go.Proofs.YtgpdhgadmjfokaaGreat
set_option maxHeartbeats 4000000
set_option maxRecDepth 100000
open Go.RowKit
set_option maxRecDepth 100000
set_option maxHeartbeats 4000000
def Xj (c:DSg)(i:Int):ByteArray:=(c.2.1[i.toNat]?).getD ByteArray.empty
def YK (c:DSg)(a:DAr):Prop:=(0≤a.1∧a.1≤(c.2.1.length:Int) - 1)∧(0≤a.2.2.2∧a.2.2.2≤(c.2.1.length:Int) - 1)∧V5 (c.1.length:Int) (a.2.1,a.2.2.1)∧Fit a (Xj c a.1) (Xj c a.2.2.2)
instance (c:DSg) (a:DAr):Decidable (YK c a):=inferInstanceAs (Decidable (_∧_))
section
variable {c:DSg}{a:DAr}{x y b code:ByteArray}{n sig p:Int}{j k m:Nat}
theorem XH (h:c.2.1[p.toNat]? =some x):Xj c p=x:=by unfold Xj; rw[h]; rfl
theorem Wq (m:ByteArray)(p:Int):bAt m p=(m.toList[p.toNat]?).getD 0:=by
  unfold bAt
  rw[b5]
  by_cases h:p.toNat < m.size
  · rw [b6 m p.toNat h, aa (by simpa using h)]
    rfl
  · rw[getElem?_neg m p.toNat h,bl (by simpa using h)]
theorem QdF (hs:x.size=y.size)(h:∀j:Nat,j < x.size→bAt x (j:Int)=bAt y (j:Int)):x=y:=by
  have e:x.toList=y.toList:=bt fun j=>by
    by_cases hj:j < x.size
    · have h1 := h j hj
      rw[Wq,Wq] at h1
      have h2:j < x.toList.length:=by rw[YW]; exact hj
      have h3:j < y.toList.length:=by rw[YW,← hs]; exact hj
      have e1:((j:Int)).toNat=j:=rfl
      rw[e1,aa h2,aa h3] at h1
      rw[aa h2,aa h3]
      exact congrArg some h1
    · rw[bl (by rw[YW]; omega),bl (by rw[YW]; omega)]
  rw[b5,b5] at e
  exact ByteArray.ext (Array.toList_inj.1 e)
theorem Qc3 (code:ByteArray)(sig:Int)(b:ByteArray):(Jy code sig b).toList=code.toList.take sig.toNat++(b.toList++code.toList.drop (sig+1).toNat):=by
  have h:code.data.size=code.size:=rfl
  simp only[Jy,b5,ByteArray.data_append,ByteArray.data_extract,Array.toList_append,Array.toList_extract,aS]
  simp[h,List.extract_eq_take_drop]
  rw[b9 (by simp[h])]
theorem QcL (h0:0≤sig)(h1:sig < code.size)(hb:b.size=1):(Jy code sig b).size=code.size:=by
  rw[← YW,Qc3]
  simp only[ak,ap,bh,YW,hb]
  omega
theorem QiJ (h0:0≤sig)(h1:sig < code.size)(hb:b.size=1)(hj:j < code.size):bAt (Jy code sig b) (j:Int)=if (j:Int)=sig then bAt b 0 else bAt code (j:Int):=by
  rw[Wq,Qc3,Wq,Wq]
  have hl:=YW code
  have hbl:=YW b
  have e1:((j:Int)).toNat=j:=rfl
  rw[e1]
  by_cases e:(j:Int)=sig
  · rw [if_pos e, be (by rw [ap]; omega), bd (by rw [ap]; omega)]
    rw[show j - (code.toList.take sig.toNat).length=((0:Int)).toNat by rw[ap]; show _=0; omega]
  · rw [if_neg e]
    by_cases h:(j:Int) < sig
    · rw[bd (by rw[ap]; omega),bg,if_pos (by omega)]
    · rw [be (by rw [ap]; omega), be (by rw [ap]; omega), c9]
      congr 2
      rw[ap]
      omega
theorem H8 (h:ZN x n)(hj:j < x.size):bAt x (j:Int)=48∨bAt x (j:Int)=49:=by
  have h2:j < x.toList.length:=by rw[YW]; exact hj
  rw[Wq]
  have e1:((j:Int)).toNat=j:=rfl
  rw[e1,aa h2]
  exact h.1 _ (cN h2)
theorem QdJ (b:Bool):bAt (YG b) 0=if b=true then 49 else 48:=by cases b <;> rfl
theorem Xp (b:Bool):(YG b).size=1:=rfl
theorem HU {c:UInt8}{b:Bool}(h:c=48∨c=49):decide (c=49)=b↔c=if b=true then 49 else 48:=by
  rcases h with rfl | rfl <;> cases b <;> decide
theorem Qne (hx:ZN x n)(hy:ZN y n)(hs:a.2.1 < 0):Fit a x y↔x=y:=by
  have hsz:x.size=y.size:=by have:=hx.2; have:=hy.2; omega
  constructor
  · intro h
    refine QdF hsz fun j hj=> ?_
    have:=h j hj
    unfold Yy at this
    rwa [if_neg (by omega)] at this
  · rintro rfl j hj
    unfold Yy
    rw[if_neg (by omega)]
theorem QhP (hx:ZN x n)(hy:ZN y n)(hs:¬a.2.1 < 0)(hn:a.2.1 < n):Fit a x y↔x=Jy y a.2.1 (YG (!a.2.2.1))∧y=Jy x a.2.1 (YG a.2.2.1):=by
  have hxs:=hx.2
  have hys:=hy.2
  have z1:=QcL (code:=y) (sig:=a.2.1) (b:=YG (!a.2.2.1)) (by omega) (by omega) (Xp _)
  have z2:=QcL (code:=x) (sig:=a.2.1) (b:=YG a.2.2.1) (by omega) (by omega) (Xp _)
  have g1:=fun (j:Nat) hj=>QiJ (j:=j) (code:=y) (sig:=a.2.1) (b:=YG (!a.2.2.1)) (by omega) (by omega) (Xp _) hj
  have g2:=fun (j:Nat) hj=>QiJ (j:=j) (code:=x) (sig:=a.2.1) (b:=YG a.2.2.1) (by omega) (by omega) (Xp _) hj
  constructor
  · intro h
    constructor
    · refine QdF (by omega) fun j hj => ?_
      rw[g1 j (by omega),QdJ]
      have h1:=h j hj
      unfold Yy at h1
      split
      · rename_i e
        rw[if_pos e] at h1
        exact (HU (H8 hx hj)).1 h1.1
      · rename_i e
        rwa [if_neg e] at h1
    · refine QdF (by omega) fun j hj => ?_
      rw[g2 j (by omega),QdJ]
      have h1:=h j (by omega)
      unfold Yy at h1
      split
      · rename_i e
        rw[if_pos e] at h1
        exact (HU (H8 hy hj)).1 h1.2
      · rename_i e
        rw[if_neg e] at h1
        exact h1.symm
  · rintro ⟨e1, e2⟩ j hj
    have h1:=g1 j (by omega)
    have h2:=g2 j hj
    rw[← e1,QdJ] at h1
    rw[← e2,QdJ] at h2
    unfold Yy
    split
    · rename_i e
      rw[if_pos e] at h1 h2
      exact ⟨(HU (H8 hx hj)).2 h1,(HU (H8 hy (by omega))).2 h2⟩
    · rename_i e
      rwa [if_neg e] at h1
theorem Qny (h:¬(0≤a.1∧a.1≤(c.2.1.length:Int) - 1)):false=decide (YK c a):=(az fun g=>h g.1).symm
theorem QmH (h:¬(0≤a.2.2.2∧a.2.2.2≤(c.2.1.length:Int) - 1)):false=decide (YK c a):=(az fun g=>h g.2.1).symm
theorem QnI (h:¬V5 (c.1.length:Int) (a.2.1,a.2.2.1)):false=decide (YK c a):=(az fun g=>h g.2.2.1).symm
theorem QhD (h3:V5 (c.1.length:Int) (a.2.1,a.2.2.1))(hs:¬a.2.1 < 0):a.2.1 < (c.1.length:Int):=by
  rcases h3 with h | h
  · have h:0≤a.2.1∧a.2.1≤(c.1.length:Int) - 1:=h; omega
  · have h:a.2.1= -1:=h.1; omega
section
variable (h1:0≤a.1∧a.1≤(c.2.1.length:Int) - 1)(h2:0≤a.2.2.2∧a.2.2.2≤(c.2.1.length:Int) - 1)(h3:V5 (c.1.length:Int) (a.2.1,a.2.2.1))(hx:c.2.1[a.1.toNat]? =some x)(hy:c.2.1[a.2.2.2.toNat]? =some y)
include h1 h2 h3 hx hy
theorem QdC:YK c a↔Fit a x y:=by
  unfold YK
  rw[XH hx,XH hy]
  exact ⟨fun g=>g.2.2.2,fun g=>⟨h1,h2,h3,g⟩⟩
theorem QmC (hb:∀x∈c.2.1,ZN x (c.1.length:Int))(hs:a.2.1 < 0):decide (x=y)=decide (YK c a):=bQ.2 (by rw[QdC h1 h2 h3 hx hy,Qne (hb x (ao hx)) (hb y (ao hy)) hs])
theorem QlC (hb:∀x∈c.2.1,ZN x (c.1.length:Int))(hs:¬a.2.1 < 0)(h:¬x=Jy y a.2.1 (YG (!a.2.2.1))):false=decide (YK c a):=(az fun g=>by
  rw[QdC h1 h2 h3 hx hy,QhP (hb x (ao hx)) (hb y (ao hy)) hs (QhD h3 hs)] at g
  exact h g.1).symm
theorem Qkq (hb:∀x∈c.2.1,ZN x (c.1.length:Int))(hs:¬a.2.1 < 0)(h:x=Jy y a.2.1 (YG (!a.2.2.1))):decide (y=Jy x a.2.1 (YG a.2.2.1))=decide (YK c a):=bQ.2 (by
  rw[QdC h1 h2 h3 hx hy,QhP (hb x (ao hx)) (hb y (ao hy)) hs (QhD h3 hs)]
  exact ⟨fun g=>⟨h,g⟩,fun g=>g.2⟩)
end
end
theorem Qcd (c:(List (ByteArray×Int))×List ByteArray×(List (Int×Int×Bool×Int)))(a:Int×Int×Bool×Int)(hcd:∀x∈c.2.1,ZN x (c.1.length:Int))(hc1:c.1.length≤1000):FC Tryz.prog 209 [(true,[.dat (.sl 44 (.pr .str .int)) c.1, .dat (.sl 9 .str) c.2.1, .dat (.sl 46 (.pr .int (.pr .int (.pr .bool .int)))) c.2.2]),(true,[dI a.1,dI a.2.1,dB a.2.2.1,dI a.2.2.2])] [] 0 (QV (lB (decide (YK c a)))):=by
 refine Qj Tryz.func209 rfl rfl Tryz.ntmps209 fun O_ hO w0_ N0_ X_ h0_ f0_=> ?_
 refine acG 1 0 fun hi1=> ?_
 refine acG 1 1 fun hi2=> ?_
 refine acG 1 3 fun hi3=> ?_
 refine w_ ?_
 refine xbx 0 ?_
 refine xbx 1 ?_
 iterate 8 refine w_ ?_
 refine alL 10 fun hl4=> ?_
 iterate 2 refine w_ ?_
 refine lc (dK (Z8 a.1 0 ((c.2.1.length:Int) - 1)) YB) ?_
 iterate 2 refine w_ ?_
 cases hb5:(decide (0≤a.1∧a.1≤((c.2.1.length:Int) - 1)))
 ·have hb5':=ab hb5
  iterate 26 refine w_ ?_
  refine Qb<|fqB hO ?_
  exact Qny (by assumption)
 ·have hb5':=ae hb5
  iterate 4 refine w_ ?_
  refine alL 19 fun hl6=> ?_
  iterate 2 refine w_ ?_
  refine lgy rfl rfl (dK (Z8 a.2.2.2 0 ((c.2.1.length:Int) - 1)) YB) ?_
  iterate 3 refine w_ ?_
  cases hb7:(decide (0≤a.2.2.2∧a.2.2.2≤((c.2.1.length:Int) - 1)))
  ·have hb7':=ab hb7
   iterate 16 refine w_ ?_
   refine Qb<|fqB hO ?_
   exact QmH (by assumption)
  ·have hb7':=ae hb7
   iterate 4 refine w_ ?_
   refine lgy rfl rfl (Qn JD ⟨_,_,rfl,(Qm rfl),⟨_,_,rfl,(Qm rfl),rfl⟩⟩ (aw.1 rfl) rfl rfl) ?_
   iterate 2 refine w_ ?_
   refine alL 32 fun hl8=> ?_
   refine w_ ?_
   refine lgy rfl rfl (dK (HH (a.2.1,a.2.2.1) (c.1.length:Int) (by omega)) Qf7) ?_
   iterate 3 refine w_ ?_
   cases hb9:(decide (V5 (c.1.length:Int) (a.2.1,a.2.2.1)))
   ·have hb9':=ab hb9
    iterate 4 refine w_ ?_
    refine Qb<|fqB hO ?_
    exact QnI (by assumption)
   ·have hb9':=ae hb9
    iterate 2 refine w_ ?_
    obtain ⟨cx,hx11⟩:∃z,c.2.1[(a.1).toNat]? =some z:=⟨_,aa (by omega)⟩
    have hzcx:=(hcd _ (ao hx11)).2
    obtain ⟨cy,hx13⟩:∃z,c.2.1[(a.2.2.2).toNat]? =some z:=⟨_,aa (by omega)⟩
    have hzcy:=(hcd _ (ao hx13)).2
    apply dW (i9 37 _ _ _ _ _ _ _ _ _ (i3 46 _ _ _ (i2 5 _ _ []))) [0,0,3,3,0,0,63,63,255,255,63,63,4032,0]
    iterate 14 refine z_ ?_
    exact zN
    iterate 6 refine w_ ?_
    refine cd_ (fun hb14 hb14'=> ?_) fun hb14 hb14'=> ?_
    ·refine w_ ?_
     have hsl:=QhD (c:=c) (a:=a) (by assumption) (by assumption)
     cases hb15:(decide (cx=(Jy cy a.2.1 (YG (!a.2.2.1)))))
     ·have hb15':=ab hb15
      apply dW (i7 55 _ _ _ _ _ _ _ (io 62 (lf (dS (YG (!a.2.2.1)))) :: io 63 (lf (dS (Jy cy a.2.1 (YG (!a.2.2.1))))) :: io 64 (lB false) :: i9 65 _ _ _ _ _ _ _ _ _ (i2 74 _ _ [io 4 _]))) [0,1,3,3,15,15,15,15,1,0,0,0,2048,6144,6144,30720,30720,30720,2048,0,0,0]
      iterate 7 refine z_ ?_
      refine zz (fun _ h_=>ac (dK (YS (!a.2.2.1)) Wl) rfl) ?_
      refine zz (fun _ h_=>ac (dK (WP cy a.2.1 (YG (!a.2.2.1)) (by omega) ⟨by omega,by rw[Xp]; decide⟩) Kr) rfl) ?_
      refine zz (fun _ h_=>ac (QB (hb15) (UQ (h_.v rfl) (h_.v rfl) rfl)) rfl) ?_
      iterate 12 refine z_ ?_
      exact zN
      refine Qb<|fqB hO ?_
      exact QlC (by assumption) (by assumption) (by assumption) (x:=cx) (y:=cy) (by assumption) (by assumption) hcd (by assumption) (by assumption)
     ·have hb15':=ae hb15
      apply dW (i7 55 _ _ _ _ _ _ _ (io 62 (lf (dS (YG (!a.2.2.1)))) :: io 63 (lf (dS (Jy cy a.2.1 (YG (!a.2.2.1))))) :: io 64 (lB true) :: i7 65 _ _ _ _ _ _ _ (io 72 (lf (dS (YG a.2.2.1))) :: io 73 (lf (dS (Jy cx a.2.1 (YG a.2.2.1)))) :: i2 74 _ _ [io 4 _]))) [0,1,3,3,15,15,15,15,1,0,0,0,2048,6144,6144,30720,30720,30720,2048,0,0,0]
      iterate 7 refine z_ ?_
      refine zz (fun _ h_=>ac (dK (YS (!a.2.2.1)) Wl) rfl) ?_
      refine zz (fun _ h_=>ac (dK (WP cy a.2.1 (YG (!a.2.2.1)) (by omega) ⟨by omega,by rw[Xp]; decide⟩) Kr) rfl) ?_
      refine zz (fun _ h_=>ac (QB (hb15) (UQ (h_.v rfl) (h_.v rfl) rfl)) rfl) ?_
      iterate 7 refine z_ ?_
      refine zz (fun _ h_=>day rfl (h_.k rfl) (dK (YS a.2.2.1) Wl) rfl) ?_
      refine zz (fun _ h_=>day rfl (h_.k rfl) (dK (WP cx a.2.1 (YG a.2.2.1) (by omega) ⟨by omega,by rw[Xp]; decide⟩) Kr) rfl) ?_
      iterate 3 refine z_ ?_
      exact zN
      refine Qb<|fqB hO ?_
      exact Qkq (by assumption) (by assumption) (by assumption) (x:=cx) (y:=cy) (by assumption) (by assumption) hcd (by assumption) (by assumption)
    ·iterate 6 refine w_ ?_
     refine Qb<|fqB hO ?_
     exact QmC (by assumption) (by assumption) (by assumption) (x:=cx) (y:=cy) (by assumption) (by assumption) hcd (by assumption)
end Go.Proofs.YtgpdhgadmjfokaaGreat
namespace Go.Proofs.YtgpdhgadmjfokaaGreat
set_option maxHeartbeats 4000000
set_option maxRecDepth 100000
open Go.RowKit
set_option maxRecDepth 100000
set_option maxHeartbeats 4000000
inductive Rch (es:List (Int×Int)):Int→Prop
  | zero:Rch es 0
  | step {u v:Int}:Rch es u→(u,v)∈es→Rch es v
def ZJ (rs:List DAr):List (Int×Int):=rs.map fun a=>(a.1,a.2.2.2)
def InE (n:Nat)(e:Int×Int):Prop:=(0≤e.1∧e.1 < n)∧0≤e.2∧e.2 < n
def Hl (n:Nat)(es:List (Int×Int)):Prop:=∀k:Nat,k < n→Rch es k
def XK (e:Int×Int)(m:List Bool):List Bool:=if m[e.1.toNat]? =some true then m.set e.2.toNat true else m
def YJ:List (Int×Int)→List Bool→List Bool
  | [],m=>m
  | e :: es,m=>YJ es (XK e m)
def YM (es:List (Int×Int)):Nat→List Bool→List Bool
  | 0,m=>m
  | f+1,m=>YM es f (YJ es m)
section
variable {es:List (Int×Int)}{e:Int×Int}{m:List Bool}{n f i k:Nat}{rs:List DAr}{a:DAr}{b:Bool}
theorem QcF:(XK e m).length=m.length:=by unfold XK; split <;> simp
theorem Qjs:(YJ es m).length=m.length:=by
  induction es generalizing m with
  | nil=>rfl
  | cons e es ih=>rw[YJ,ih,QcF]
theorem QaA (h:m[i]? =some true):(XK e m)[i]? =some true:=by
  unfold XK
  split
  · by_cases h2 : e.2.toNat = i
    · rw[h2,aV (aj.1 h).1]
    · rw[aY h2]; exact h
  · exact h
theorem Qa9 (h:m[i]? =some true):(YJ es m)[i]? =some true:=by
  induction es generalizing m with
  | nil=>exact h
  | cons e es ih=>rw[YJ]; exact ih (QaA h)
theorem QjL (he:e∈es)(h:m[e.1.toNat]? =some true)(hl:e.2.toNat < m.length):(YJ es m)[e.2.toNat]? =some true:=by
  induction es generalizing m with
  | nil=>cases he
  | cons d es ih=>
    rw[YJ]
    rcases aD.1 he with rfl | he
    · refine Qa9 ?_
      unfold XK
      rw[if_pos h,aV hl]
    · exact ih he (QaA h) (by rw[QcF]; exact hl)
def HE (m:List Bool):Nat:=(m.filter fun b=> !b).length
theorem Qff (h:m[i]? =some false):HE (m.set i true)+1=HE m:=by
  induction m generalizing i with
  | nil=>simp at h
  | cons x l ih=>
    cases i with
    | zero=>
      simp only[bL,bk] at h
      subst h
      simp[HE]
    | succ i=>
      have:=ih (i:=i) (by simpa using h)
      simp only[HE,cF,d8] at this ⊢
      split <;> simp_all
theorem Qkh {α:Type _}{vs:List α}{i:Nat}{c:α}(h:vs[i]? =some c):vs.set i c=vs:=by
  apply bt
  intro j
  by_cases e:i=j
  · subst e; rw[aV (aj.1 h).1,h]
  · rw[aY e]
theorem Qkf:XK e m=m∨HE (XK e m) < HE m:=by
  unfold XK
  split
  · cases h : m[e.2.toNat]? with
    | none=>left; rw[List.set_eq_of_length_le]; rwa [List.getElem?_eq_none_iff] at h
    | some b=>
      cases b with
      | true=>left; exact Qkh h
      | false=>right; have:=Qff h; omega
  · exact .inl rfl
theorem QjU:YJ es m=m∨HE (YJ es m) < HE m:=by
  induction es generalizing m with
  | nil=>exact .inl rfl
  | cons e es ih=>
    rw[YJ]
    rcases Qkf (e:=e) (m:=m) with h | h
    · rw[h]; exact ih
    · rcases ih (m := XK e m) with h2 | h2
      · rw[h2]; exact .inr h
      · exact .inr (Nat.lt_trans h2 h)
theorem Qc5 (h:YJ es m=m):∀f,YM es f m=m
  | 0=>rfl
  | f+1=>by rw[YM,h]; exact Qc5 h f
theorem Qdk (h:HE m < f):YJ es (YM es f m)=YM es f m:=by
  induction f generalizing m with
  | zero=>omega
  | succ f ih=>
    rw[YM]
    rcases QjU (es:=es) (m:=m) with h2 | h2
    · rw[h2,Qc5 h2,h2]
    · exact ih (by omega)
theorem QgY (h:m[i]? =some true):(YM es f m)[i]? =some true:=by
  induction f generalizing m with
  | zero=>exact h
  | succ f ih=>rw[YM]; exact ih (Qa9 h)
theorem JC:(YM es f m).length=m.length:=by
  induction f generalizing m with
  | zero=>rfl
  | succ f ih=>rw[YM,ih,Qjs]
def m0 (n:Nat):List Bool:=(List.replicate n false).set 0 true
theorem Qpo (h:1≤n):HE (m0 n) < n:=by
  have h1:(List.replicate n false)[0]? =some false:=by rw[cd,if_pos (by omega)]
  have:=Qff h1
  have h2:HE (List.replicate n false)=n:=by simp[HE]
  unfold m0
  omega
theorem Qej (he:(e.1,e.2)∈es)(hr:InE n e)(h:∀k:Nat,m[k]? =some true→Rch es k):∀k:Nat,(XK e m)[k]? =some true→Rch es k:=fun k hk=>by
  obtain ⟨⟨r1,r2⟩,r3,r4⟩:=hr
  unfold XK at hk
  split at hk
  · rename_i h1
    by_cases e2:e.2.toNat=k
    · have h3 := h _ h1
      rw[show ((e.1.toNat:Nat):Int)=e.1 by omega] at h3
      rw[show (k:Int)=e.2 by omega]
      exact .step h3 he
    · rw[aY e2] at hk; exact h k hk
  · exact h k hk
theorem Qfz {ds:List (Int×Int)}(hd:∀e∈ds,e∈es)(hr:∀e∈es,InE n e)(h:∀k:Nat,m[k]? =some true→Rch es k):∀k:Nat,(YJ ds m)[k]? =some true→Rch es k:=by
  induction ds generalizing m with
  | nil=>exact h
  | cons e ds ih=>rw[YJ]; exact ih (fun e he=>hd e (ax _ he)) (Qej (hd e (ay ..)) (hr e (hd e (ay ..))) h)
theorem QeT (hr:∀e∈es,InE n e)(h:∀k:Nat,m[k]? =some true→Rch es k):∀k:Nat,(YM es f m)[k]? =some true→Rch es k:=by
  induction f generalizing m with
  | zero=>exact h
  | succ f ih=>rw[YM]; exact ih (Qfz (fun _ h=>h) hr h)
theorem QiD (h1:1≤n)(hr:∀e∈es,InE n e)(k:Nat)(hk:k < n):(YM es n (m0 n))[k]? =some true↔Rch es k:=by
  have hl:(YM es n (m0 n)).length=n:=by rw[JC]; simp[m0]
  constructor
  · refine QeT hr (fun k hk => ?_) k
    unfold m0 at hk
    by_cases e:0=k
    · subst e; exact .zero
    · rw [aY e, cd] at hk
      split at hk <;> cases hk
  · intro h
    have main:∀u:Int,Rch es u→0≤u∧u < n∧(YM es n (m0 n))[u.toNat]? =some true:=fun u hu=>by
      induction hu with
      | zero=>exact ⟨by omega,by omega,QgY (by unfold m0; exact aV (by simp; omega))⟩
      | @step u v _ he ih=>
        obtain ⟨_,r3,r4⟩:=hr _ he
        refine ⟨r3,r4, ?_⟩
        have r3:0≤v:=r3
        have r4:v < (n:Int):=r4
        have:=QjL he ih.2.2 (by rw[hl]; show v.toNat < n; omega)
        rwa [Qdk (Qpo h1)] at this
    exact (main k h).2.2
theorem QbX {n:Nat}(h:∀a∈rs,InR n a):∀e∈ZJ rs,InE n e:=fun e he=>by
  obtain ⟨a,ha,rfl⟩:=b8.1 he
  exact h a ha
theorem QcD (hx:rs[i]? =some a):YJ ((ZJ rs).drop i) m=YJ ((ZJ rs).drop (i+1)) (XK (a.1,a.2.2.2) m):=by
  rw[ZX (x:=(a.1,a.2.2.2)) (by unfold ZJ; rw[bo,hx]; rfl),YJ]
theorem QcW (h:m[a.1.toNat]? =some b)(hb:b=true):XK (a.1,a.2.2.2) m=m.set a.2.2.2.toNat true:=by unfold XK; rw[if_pos (by rw[h,hb])]
theorem Qfm (h:m[a.1.toNat]? =some b)(hb:b=false):XK (a.1,a.2.2.2) m=m:=by unfold XK; rw[if_neg (by rw[h,hb]; intro h; cases h)]
theorem QkG (h:rs.length≤i):YJ ((ZJ rs).drop i) m=m:=by rw[bz (by simpa [ZJ] using h),YJ]
section
variable [Decidable (Hl n es)]
theorem QpK (h1:1≤n)(hr:∀e∈es,InE n e)(hm:YM es n (m0 n)=m)(hx:m[k]? =some b)(hb:b=false):false=decide (Hl n es):=(az (p:=Hl n es) fun h=>by
  have hl:(YM es n (m0 n)).length=n:=by rw[JC]; simp[m0]
  have hk:k < n:=by rw[← hl,hm]; exact (aj.1 hx).1
  have:=(QiD h1 hr k hk).2 (h k hk)
  rw[hm,hx,hb] at this
  cases this).symm
theorem Qnc (h1:1≤n)(hr:∀e∈es,InE n e)(hm:YM es n (m0 n)=m)(h:∀j,j < k→m[j]? =some true)(hk:m.length≤k):true=decide (Hl n es):=(aJ (p:=Hl n es) fun j hj=>by
  have hl:(YM es n (m0 n)).length=n:=by rw[JC]; simp[m0]
  rw[hm] at hl
  exact (QiD h1 hr j hj).1 (by rw[hm]; exact h j (by omega))).symm
end
end
theorem Ql6 {m:List Bool}{k:Nat}{b:Bool}(h:∀j,j < k→m[j]? =some true)(hx:m[k]? =some b)(hb:b=true):∀j,j < k+1→m[j]? =some true:=fun j hj=>by
  by_cases e:j=k
  · rw[e,hx,hb]
  · exact h j (by omega)
theorem JM (as_:List (Int×Int×Bool×Int))(hl:as_.length≤1000000):FC Tryz.prog 217 [(false,[.dat (.sl 46 (.pr .int (.pr .int (.pr .bool .int)))) as_])] [] 0 (Wy 295 (.pr .int .int) (ZJ as_)):=by
 refine Qj Tryz.func217 rfl rfl Tryz.ntmps217 fun O_ hO w0_ N0_ X_ h0_ f0_=> ?_
 iterate 4 refine w_ ?_
 refine lc (dBs 0 (e:=(.pr .int .int)) Qak) ?_
 iterate 5 refine w_ ?_
 refine alL 7 fun hl1=> ?_
 iterate 4 refine w_ ?_
 refine lp0 as_.length (fun k=>⟨[(2,lf (.val (.slice none 0 0))),(3,lR 1),(7,lf (.dat (.sl 46 (.pr .int (.pr .int (.pr .bool .int)))) as_)),(8,lI (as_.length:Int)),(9,lI (k:Int))],[ar 1 295 (.pr .int .int) (ZJ (as_.take k))]⟩) ?_ fun k hk2=> ?_
 · exact Wk.of [(1,0)] rfl ⟨rfl,rfl,rfl,rfl,rfl,trivial⟩ ⟨(Qk (by first | rfl | simp)),trivial⟩ rfl rfl
 have hsl:(ZJ (as_.take k)).length≤as_.length:=by simp only[ZJ,aQ,ap]; omega
 iterate 4 refine w_ ?_
 cases hb3:(decide ((k:Int) < (as_.length:Int)))
 ·have hb3':=ab hb3
  refine w_ ?_
  refine Qi ?_
  refine (?_:AC _ _ _ _ _)
  iterate 4 refine w_ ?_
  refine Qb<|fo_ hO ?_
  rw[ZH (by omega)]
 ·have hb3':=ae hb3
  iterate 5 refine w_ ?_
  obtain ⟨x4,hx5⟩:∃z,as_[k]? =some z:=⟨_,aa (by omega)⟩
  iterate 2 refine w_ ?_
  refine lc (xal 2 (.pr .int (.pr .int (.pr .bool .int))) KH) ?_
  iterate 6 refine w_ ?_
  refine alI 15 fun hi6=> ?_
  iterate 2 refine w_ ?_
  refine alI 17 fun hi7=> ?_
  refine lc (Qn QmP ⟨_,_,rfl,(Qm rfl),⟨_,_,rfl,(Qm rfl),rfl⟩⟩ (aw.1 rfl) rfl rfl) ?_
  refine lc (dBs 3 (e:=(.pr .int .int)) Qak (hab:=by exact ⟨_,_,_,_,rfl,⟨[dI x4.1],[dI x4.2.2.2],_,_,_,_,rfl,rfl,⟨rfl,rfl⟩,⟨rfl,rfl⟩,rfl⟩,⟨rfl,rfl⟩,rfl⟩)) ?_
  refine lc (dA 4 QnC) ?_
  refine w_ ?_
  refine Qd ?_
  refine (?_:AC _ _ _ _ _)
  iterate 3 refine w_ ?_
  refine Qd ?_
  refine l0_ ?_
  exact Wk.of [(1,4)] rfl ⟨rfl,rfl,rfl,rfl,rfl,trivial⟩ ⟨(Qk (by rw[Q1 hx5]; simp[ZJ])),trivial⟩ rfl rfl
theorem W2 (s:List Int)(v:Int):FC Tryz.prog 319 [(false,[.dat (.sl 3 .int) s]),(false,[dI v])] [] 0 (QV (lI (Ze (fun y=>decide (v=y)) s))):=by
 refine Qj Tryz.func319 rfl rfl Tryz.ntmps319 fun O_ hO w0_ N0_ X_ h0_ f0_=> ?_
 refine acI 1 fun hi1=> ?_
 iterate 6 refine w_ ?_
 refine alL 6 fun hl2=> ?_
 iterate 4 refine w_ ?_
 refine lpK s.length (fun k=>NoneTo (fun y=>decide (v=y)) s k) (fun k=>⟨[(0,lf (.dat (.sl 3 .int) s)),(1,lI v),(7,lI (s.length:Int)),(8,lI (k:Int))],[]⟩) (NoneTo.zero) ?_ fun k hk3 hno=> ?_
 · exact Wk.of [] rfl ⟨rfl,rfl,rfl,rfl,trivial⟩ trivial rfl rfl
 iterate 4 refine w_ ?_
 cases hb4:(decide ((k:Int) < (s.length:Int)))
 ·have hb4':=ab hb4
  refine w_ ?_
  refine Qi ?_
  refine (?_:AC _ _ _ _ _)
  iterate 3 refine w_ ?_
  refine Qb<|fqI hO ?_
  first | exact (hno.no (by omega)).symm
 ·have hb4':=ae hb4
  iterate 12 refine w_ ?_
  obtain ⟨x5,hx6⟩:∃z,s[k]? =some z:=⟨_,aa (by omega)⟩
  iterate 2 refine w_ ?_
  refine alI 15 fun hi7=> ?_
  iterate 2 refine w_ ?_
  cases hb8:(decide (v=x5))
  ·have hb8':=ab hb8
   refine w_ ?_
   refine AC.skip ?_
   refine (?_:AC _ _ _ _ _)
   iterate 3 refine w_ ?_
   refine Qd ?_
   refine lK_ (hno.step hx6 (by assumption)) ?_
   exact Wk.of [] rfl ⟨rfl,rfl,rfl,rfl,trivial⟩ trivial rfl rfl
  ·have hb8':=ae hb8
   iterate 5 refine w_ ?_
   refine Qb<|fqI hO ?_
   exact (hno.at hx6 (by assumption)).symm
theorem Wn (s:List Int)(v:Int):FC Tryz.prog 215 [(false,[.dat (.sl 3 .int) s]),(false,[dI v])] [] 0 (QV (lB (s.any (fun y=>decide (v=y))))):=by
 refine Qj Tryz.func215 rfl rfl Tryz.ntmps215 fun O_ hO w0_ N0_ X_ h0_ f0_=> ?_
 refine acI 1 fun hi1=> ?_
 iterate 6 refine w_ ?_
 refine lc (dK (W2 s v) Qf3) ?_
 iterate 3 refine w_ ?_
 refine Qb<|fqB hO ?_
 exact XD _ _
theorem Qb7 (c:(List (ByteArray×Int))×List ByteArray×(List (Int×Int×Bool×Int)))[Decidable (Hl c.2.1.length (ZJ c.2.2))](hn:1≤c.2.1.length∧c.2.1.length≤300)(ha:∀a∈c.2.2,InR c.2.1.length a):FC Tryz.prog 210 [(true,[.dat (.sl 44 (.pr .str .int)) c.1, .dat (.sl 9 .str) c.2.1, .dat (.sl 46 (.pr .int (.pr .int (.pr .bool .int)))) c.2.2])] [] 0 (QV (lB (decide (Hl c.2.1.length (ZJ c.2.2))))):=by
 have hes:=QbX ha
 have hrl:(List.replicate c.2.1.length (Ty.zero .bool)).length=c.2.1.length:=aB ..
 refine Qj Tryz.func210 rfl rfl Tryz.ntmps210 fun O_ hO w0_ N0_ X_ h0_ f0_=> ?_
 refine w_ ?_
 refine xbx 0 ?_
 iterate 5 refine w_ ?_
 refine alL 9 fun hl1=> ?_
 refine w_ ?_
 refine lc (US 1 (e:= .bool) (n:=c.2.1.length) (Qa rfl) (Qa rfl) QoX Qqy rfl (by omega) (by omega) rfl (Fresh.of rfl) (nlr rfl)) ?_
 iterate 5 refine w_ ?_
 obtain ⟨x2,hx3⟩:∃z,(List.replicate c.2.1.length (Ty.zero .bool))[0]? =some z:=⟨_,aa (by omega)⟩
 refine lc (Qu (e:= .bool) (z':=true) (Qa rfl) rfl hx3 rfl (Evl.ev Zk) rfl QeX rfl rfl) ?_
 iterate 5 refine w_ ?_
 refine alL 15 fun hl4=> ?_
 iterate 4 refine w_ ?_
 refine QF (fun m_ s_=>∃(p:Nat) (met:List Bool),p≤c.2.1.length∧m_=c.2.1.length - p∧(YM (ZJ c.2.2) c.2.1.length (m0 c.2.1.length)=YM (ZJ c.2.2) (c.2.1.length - p) met)∧(met.length=c.2.1.length)∧s_=⟨[(1,lP 0 0),(2,lB false),(3,lR 2),(16,lI (c.2.1.length:Int)),(17,lI (p:Int))],[bx 0 27 [.dat (.sl 44 (.pr .str .int)) c.1, .dat (.sl 9 .str) c.2.1, .dat (.sl 46 (.pr .int (.pr .int (.pr .bool .int)))) c.2.2],(2,some (.arr 4 .bool met))]⟩) ⟨0,(List.replicate c.2.1.length (Ty.zero .bool)).set 0 true,aT _,rfl,rfl,(by simp),rfl⟩ ?_ ?_
 · exact Wk.of [(2,1)] rfl ⟨rfl,rfl,rfl,rfl,rfl,trivial⟩ ⟨rfl,(Qk (by first | rfl | simp)),trivial⟩ rfl rfl
 rintro m_ s_ ⟨p,met,hk5,hm6,hA,hL,rfl⟩
 iterate 4 refine w_ ?_
 cases hb7:(decide ((p:Int) < (c.2.1.length:Int)))
 ·have hb7':=ab hb7
  refine w_ ?_
  refine Qi ?_
  refine (?_:AC _ _ _ _ _)
  iterate 7 refine w_ ?_
  refine lpK met.length (fun k=>∀j,j < k→met[j]? =some true) (fun k=>⟨[(37,lR 2),(38,lI (met.length:Int)),(39,lI (k:Int))],[(2,some (.arr 4 .bool met))]⟩) ((fun j hj=>absurd hj (bc j))) ?_ fun k hk8 hM=> ?_
  · exact Wk.of [] rfl ⟨rfl,rfl,rfl,trivial⟩ ⟨rfl,trivial⟩ rfl rfl
  iterate 4 refine w_ ?_
  cases hb9:(decide ((k:Int) < (met.length:Int)))
  ·have hb9':=ab hb9
   refine w_ ?_
   refine Qi ?_
   refine (?_:AC _ _ _ _ _)
   iterate 3 refine w_ ?_
   refine Qb<|fqB hO ?_
   first | exact Qnc hn.1 hes (by rw[hA,show c.2.1.length - p=0 by omega]; rfl) hM (by omega)
  ·have hb9':=ae hb9
   iterate 6 refine w_ ?_
   obtain ⟨x10,hx11⟩:∃z,met[k]? =some z:=⟨_,aa (by omega)⟩
   iterate 7 refine w_ ?_
   cases hb12:(x10)
   ·iterate 4 refine w_ ?_
    refine Qb<|fqB hO ?_
    exact QpK hn.1 hes (by rw[hA,show c.2.1.length - p=0 by omega]; rfl) hx11 (by assumption)
   ·refine w_ ?_
    refine AC.skip ?_
    refine (?_:AC _ _ _ _ _)
    iterate 3 refine w_ ?_
    refine Qd ?_
    refine lK_ ((Ql6 hM hx11 (by assumption))) ?_
    exact Wk.of [] rfl ⟨rfl,rfl,rfl,trivial⟩ ⟨rfl,trivial⟩ rfl rfl
 ·have hb7':=ae hb7
  iterate 7 refine w_ ?_
  refine alL 20 fun hl13=> ?_
  iterate 4 refine w_ ?_
  refine QF (fun m_ s_=>∃(i:Nat) (met2:List Bool),i≤c.2.2.length∧m_=c.2.2.length - i∧(YJ (ZJ c.2.2) met=YJ ((ZJ c.2.2).drop i) met2)∧(met2.length=c.2.1.length)∧s_=⟨[(1,lP 0 0),(2,lB false),(3,lR 3),(16,lI (c.2.1.length:Int)),(17,lI (p:Int)),(18,lB true),(19,lP 0 2),(20,lf (.dat (.sl 46 (.pr .int (.pr .int (.pr .bool .int)))) c.2.2)),(21,lI (c.2.2.length:Int)),(22,lI (i:Int))],[bx 0 27 [.dat (.sl 44 (.pr .str .int)) c.1, .dat (.sl 9 .str) c.2.1, .dat (.sl 46 (.pr .int (.pr .int (.pr .bool .int)))) c.2.2],(3,some (.arr 4 .bool met2))]⟩) ⟨0,met,aT _,rfl,rfl,hL,rfl⟩ ?_ ?_
  · exact Wk.of [(3,2)] rfl ⟨rfl,rfl,rfl,rfl,rfl,rfl,rfl,rfl,rfl,rfl,trivial⟩ ⟨rfl,rfl,trivial⟩ rfl rfl
  rintro m_ s_ ⟨i,met2,hk14,hm15,hA2,hL2,rfl⟩
  iterate 4 refine w_ ?_
  cases hb16:(decide ((i:Int) < (c.2.2.length:Int)))
  ·have hb16':=ab hb16
   refine w_ ?_
   refine Qi ?_
   refine (?_:AC _ _ _ _ _)
   iterate 3 refine w_ ?_
   refine Qd<|Q8 ⟨p+1,met2,by omega,rfl,(by rw[hA,show c.2.1.length - p=(c.2.1.length - (p+1))+1 by omega,YM,hA2,QkG (by omega)]),hL2,rfl⟩ (by omega) ?_
   exact Wk.of [(2,3)] rfl ⟨rfl,rfl,rfl,rfl,rfl,trivial⟩ ⟨rfl,rfl,trivial⟩ rfl rfl
  ·have hb16':=ae hb16
   iterate 5 refine w_ ?_
   obtain ⟨ar,hx18⟩:∃z,c.2.2[i]? =some z:=⟨_,aa (by omega)⟩
   obtain ⟨⟨hr1,hr2⟩,hr3,hr4⟩:=ha _ (ao hx18)
   iterate 2 refine w_ ?_
   refine lc (xal 4 (.pr .int (.pr .int (.pr .bool .int))) KH) ?_
   iterate 6 refine w_ ?_
   refine alI 28 fun hi19=> ?_
   refine w_ ?_
   obtain ⟨x20,hx21⟩:∃z,met2[(ar.1).toNat]? =some z:=⟨_,aa (by omega)⟩
   iterate 2 refine w_ ?_
   cases hb22:(x20)
   ·refine w_ ?_
    refine AC.skip ?_
    refine (?_:AC _ _ _ _ _)
    iterate 3 refine w_ ?_
    refine Qd<|Q8 ⟨i+1,met2,by omega,rfl,(by rw[hA2,QcD hx18]; first | rw[QcW (by assumption) (by assumption)] | rw[Qfm (by assumption) (by assumption)]),(by exact hL2),rfl⟩ (by omega) ?_
    exact Wk.of [] rfl ⟨rfl,rfl,rfl,rfl,rfl,rfl,rfl,rfl,rfl,rfl,trivial⟩ ⟨rfl,rfl,trivial⟩ rfl rfl
   ·iterate 5 refine w_ ?_
    refine alI 33 fun hi23=> ?_
    refine w_ ?_
    obtain ⟨x24,hx25⟩:∃z,met2[(ar.2.2.2).toNat]? =some z:=⟨_,aa (by omega)⟩
    refine lc (Qu (e:= .bool) (z':=true) (Qa rfl) rfl hx25 rfl (Evl.ev Zk) rfl QeX rfl rfl)<|Qd ?_
    refine (?_:AC _ _ _ _ _)
    iterate 3 refine w_ ?_
    refine Qd<|Q8 ⟨i+1,(met2.set ((ar.2.2.2).toNat) true),by omega,rfl,(by rw[hA2,QcD hx18]; first | rw[QcW (by assumption) (by assumption)] | rw[Qfm (by assumption) (by assumption)]),(by (rw[aA]; exact hL2)),rfl⟩ (by omega) ?_
    exact Wk.of [] rfl ⟨rfl,rfl,rfl,rfl,rfl,rfl,rfl,rfl,rfl,rfl,trivial⟩ ⟨rfl,(Qk (by first | rfl | simp)),trivial⟩ rfl rfl
end Go.Proofs.YtgpdhgadmjfokaaGreat
namespace Go.Proofs.YtgpdhgadmjfokaaGreat
set_option maxHeartbeats 4000000
set_option maxRecDepth 100000
open Go.RowKit
set_option maxRecDepth 100000
set_option maxHeartbeats 4000000
structure SgOk (c:DSg):Prop where
  sigs:YO c.1
  some_:1≤c.2.1.length∧c.2.1.length≤300
  few:c.2.2.length≤4000
  codes:∀x∈c.2.1,ZN x (c.1.length:Int)
  arcs:∀a∈c.2.2,YK c a
  all:Hl c.2.1.length (ZJ c.2.2)
theorem Y5 {α:Type}{p:α→Prop}{l:List α}{k:Nat}{x:α}(h:∀j,j < k→∀x,l[j]? =some x→p x)(hx:l[k]? =some x)(hp:p x):∀j,j < k+1→∀x,l[j]? =some x→p x:=fun j hj y hy=>by
  by_cases e:j=k
  · subst e; rw[hx] at hy; cases hy; exact hp
  · exact h j (by omega) y hy
theorem Yz {α:Type}{p:α→Prop}{l:List α}{k:Nat}(h:∀j,j < k→∀x,l[j]? =some x→p x)(hk:l.length≤k):∀x∈l,p x:=fun x hx=>by
  obtain ⟨j,hj⟩:=aM.1 hx
  have:=(aj.1 hj).1
  exact h j (by omega) x hj
theorem Jh {c:DSg}{a:DAr}(h:YK c a):InR c.2.1.length a:=by
  obtain ⟨⟨h1,h2⟩,⟨h3,h4⟩,_⟩:=h
  exact ⟨⟨h1,by omega⟩,h3,by omega⟩
section
variable {c:DSg}[Decidable (SgOk c)]{x:ByteArray}{a:DAr}{k i:Nat}
theorem Qln (h:¬YO c.1):false=decide (SgOk c):=(az fun g=>h g.sigs).symm
theorem Qmm (h:¬((1:Int)≤(c.2.1.length:Int)∧(c.2.1.length:Int)≤300)):false=decide (SgOk c):=(az fun g=>h (by have:=g.some_; omega)).symm
theorem Qlr (h:(4000:Int) < (c.2.2.length:Int)):false=decide (SgOk c):=(az fun g=>by have:=g.few; omega).symm
theorem Qk2 (hx:c.2.1[k]? =some x)(h:¬ZN x (c.1.length:Int)):false=decide (SgOk c):=(az fun g=>h (g.codes x (ao hx))).symm
theorem QbZ (hx:c.2.2[k]? =some a)(h:¬YK c a):false=decide (SgOk c):=(az fun g=>h (g.arcs a (ao hx))).symm
theorem Qmb [Decidable (Hl c.2.1.length (ZJ c.2.2))](h1:YO c.1)(h2:(1:Int)≤(c.2.1.length:Int)∧(c.2.1.length:Int)≤300)(h3:¬(4000:Int) < (c.2.2.length:Int))(h4:∀x∈c.2.1,ZN x (c.1.length:Int))(h5:∀a∈c.2.2,YK c a):
    decide (Hl c.2.1.length (ZJ c.2.2))=decide (SgOk c):=bQ.2 ⟨fun h=>⟨h1,by omega,by omega,h4,h5,h⟩,fun g=>g.all⟩
end
theorem Un (c:(List (ByteArray×Int))×List ByteArray×(List (Int×Int×Bool×Int)))[∀c,Decidable (SgOk c)]:FC Tryz.prog 105 [(true,[.dat (.sl 44 (.pr .str .int)) c.1, .dat (.sl 9 .str) c.2.1, .dat (.sl 46 (.pr .int (.pr .int (.pr .bool .int)))) c.2.2])] [] 0 (QV (lB (decide (SgOk c)))):=by
 classical
 refine Qj Tryz.func105 rfl rfl Tryz.ntmps105 fun O_ hO w0_ N0_ X_ h0_ f0_=> ?_
 refine w_ ?_
 refine xbx 0 ?_
 iterate 6 refine w_ ?_
 refine lc (dK (Jb c.1) Qhh) ?_
 iterate 2 refine w_ ?_
 cases hb1:(decide (YO c.1))
 ·have hb1':=ab hb1
  iterate 17 refine w_ ?_
  refine Qb<|fqB hO ?_
  exact Qln (by assumption)
 ·have hb1':=ae hb1
  iterate 2 refine w_ ?_
  refine alL 13 fun hl2=> ?_
  refine w_ ?_
  refine lgy rfl rfl (dK (Z8 (c.2.1.length:Int) 1 300) YB) ?_
  iterate 3 refine w_ ?_
  cases hb3:(decide (1≤(c.2.1.length:Int)∧(c.2.1.length:Int)≤300))
  ·have hb3':=ab hb3
   iterate 10 refine w_ ?_
   refine Qb<|fqB hO ?_
   exact Qmm (by assumption)
  ·have hb3':=ae hb3
   iterate 2 refine w_ ?_
   refine alL 20 fun hl4=> ?_
   iterate 4 refine w_ ?_
   refine cd_ (fun hb5 hb5'=> ?_) fun hb5 hb5'=> ?_
   ·iterate 5 refine w_ ?_
    refine alL 25 fun hl6=> ?_
    iterate 4 refine w_ ?_
    refine lpK c.2.1.length (fun k=>∀j,j < k→∀x,c.2.1[j]? =some x→ZN x (c.1.length:Int)) (fun k=>⟨[(1,lP 0 0),(25,lf (.dat (.sl 9 .str) c.2.1)),(26,lI (c.2.1.length:Int)),(27,lI (k:Int))],[bx 0 27 [.dat (.sl 44 (.pr .str .int)) c.1, .dat (.sl 9 .str) c.2.1, .dat (.sl 46 (.pr .int (.pr .int (.pr .bool .int)))) c.2.2]]⟩) ((fun j hj=>absurd hj (bc j))) ?_ fun k hk7 hB=> ?_
    · exact Wk.of [] rfl ⟨rfl,rfl,rfl,rfl,trivial⟩ ⟨rfl,trivial⟩ rfl rfl
    iterate 4 refine w_ ?_
    cases hb8:(decide ((k:Int) < (c.2.1.length:Int)))
    ·have hb8':=ab hb8
     refine w_ ?_
     refine Qi ?_
     refine (?_:AC _ _ _ _ _)
     iterate 4 refine w_ ?_
     refine alL 39 fun hl9=> ?_
     iterate 4 refine w_ ?_
     refine lpK c.2.2.length (fun i=>∀j,j < i→∀a,c.2.2[j]? =some a→YK c a) (fun i=>⟨[(1,lP 0 0),(39,lf (.dat (.sl 46 (.pr .int (.pr .int (.pr .bool .int)))) c.2.2)),(40,lI (c.2.2.length:Int)),(41,lI (i:Int))],[bx 0 27 [.dat (.sl 44 (.pr .str .int)) c.1, .dat (.sl 9 .str) c.2.1, .dat (.sl 46 (.pr .int (.pr .int (.pr .bool .int)))) c.2.2]]⟩) ((fun j hj=>absurd hj (bc j))) ?_ fun i hk10 hR=> ?_
     · exact Wk.of [] rfl ⟨rfl,rfl,rfl,rfl,trivial⟩ ⟨rfl,trivial⟩ rfl rfl
     iterate 4 refine w_ ?_
     cases hb11:(decide ((i:Int) < (c.2.2.length:Int)))
     ·have hb11':=ab hb11
      refine w_ ?_
      refine Qi ?_
      refine (?_:AC _ _ _ _ _)
      iterate 2 refine w_ ?_
      refine lc (dK (Qb7 c (by omega) (fun a ha=>Jh (Yz hR (by omega) a ha))) Qgv) ?_
      iterate 2 refine w_ ?_
      refine Qb<|fqB hO ?_
      exact Qmb (by assumption) (by assumption) (by assumption) (Yz hB (by omega)) (Yz hR (by omega))
     ·have hb11':=ae hb11
      iterate 5 refine w_ ?_
      obtain ⟨x12,hx13⟩:∃z,c.2.2[i]? =some z:=⟨_,aa (by omega)⟩
      iterate 2 refine w_ ?_
      refine lc (xal 1 (.pr .int (.pr .int (.pr .bool .int))) KH) ?_
      iterate 5 refine w_ ?_
      refine lc (dK (Qcd c x12 (Yz hB (by omega)) (by have:=(‹YO c.1›).2.2; omega)) Qhy) ?_
      iterate 2 refine w_ ?_
      cases hb14:(decide (YK c x12))
      ·have hb14':=ab hb14
       iterate 4 refine w_ ?_
       refine Qb<|fqB hO ?_
       exact QbZ hx13 (by assumption)
      ·have hb14':=ae hb14
       refine w_ ?_
       refine AC.skip ?_
       refine (?_:AC _ _ _ _ _)
       iterate 3 refine w_ ?_
       refine Qd ?_
       refine lK_ ((Y5 hR hx13 (by assumption))) ?_
       exact Wk.of [] rfl ⟨rfl,rfl,rfl,rfl,trivial⟩ ⟨rfl,trivial⟩ rfl rfl
    ·have hb8':=ae hb8
     iterate 5 refine w_ ?_
     obtain ⟨x15,hx16⟩:∃z,c.2.1[k]? =some z:=⟨_,aa (by omega)⟩
     iterate 8 refine w_ ?_
     refine alL 33 fun hl17=> ?_
     refine w_ ?_
     refine lc (dK (VZ x15 (c.1.length:Int)) Qa2) ?_
     iterate 2 refine w_ ?_
     cases hb18:(decide (ZN x15 (c.1.length:Int)))
     ·have hb18':=ab hb18
      iterate 4 refine w_ ?_
      refine Qb<|fqB hO ?_
      exact Qk2 hx16 (by assumption)
     ·have hb18':=ae hb18
      refine w_ ?_
      refine AC.skip ?_
      refine (?_:AC _ _ _ _ _)
      iterate 3 refine w_ ?_
      refine Qd ?_
      refine lK_ ((Y5 hB hx16 (by assumption))) ?_
      exact Wk.of [] rfl ⟨rfl,rfl,rfl,rfl,trivial⟩ ⟨rfl,trivial⟩ rfl rfl
   ·iterate 3 refine w_ ?_
    refine Qb<|fqB hO ?_
    exact Qlr (by assumption)
end Go.Proofs.YtgpdhgadmjfokaaGreat
namespace Go.Proofs.YtgpdhgadmjfokaaGreat
set_option maxHeartbeats 4000000
set_option maxRecDepth 100000
open Go.RowKit
set_option maxRecDepth 100000
set_option maxHeartbeats 4000000
section
variable {A:Amb}{P:Program}{s:St}{x y:Operand}{d:Nat}{T T' ty:TypeId}{pos:String}{af:Array Edge}{g:Option (Nat×Bool)}{n a b:Int}
theorem Qe3 (h:0≤n∧n≤9223372036854775807):IntKind.u64.wrap n=n:=by
  simp[IntKind.wrap,IntKind.bits,IntKind.signed]
  omega
theorem QlP (h:0≤n∧n≤9223372036854775807):IntKind.i64.wrap n=n:=IntWalk.i64_in _ (by omega)
theorem VB (hx:Evl A s x (dI n))(hs:P.underlying T=some (.int .i64))(hd:P.underlying T'=some (.int .u64))(h0:0≤n)(hn:Nat.blt d A.n=true):
    Does A P ⟨some d, .convert T T' x,ty,pos,af,g⟩ s (s.put d (lf (.val (.int .u64 n)))):=
  Qe rfl hn fun gh a w r=>by
    have h2:=hx.i r
    have h3:=(LVR.int (hx gh a w r)).2
    have e2:=Qe3 (n:=n) (by omega)
    refine ⟨.int .u64 n, ?_,_,rfl,rfl⟩
    simp only[execOp,h2,convert,run_underlying hs,run_underlying hd,au,aF,Conv.intToInt,e2]
    simp
theorem Kk (hx:Evl A s x (.val (.int .u64 n)))(hs:P.underlying T=some (.int .u64))(hd:P.underlying T'=some (.int .i64))(h0:0≤n∧n≤9223372036854775807)(hn:Nat.blt d A.n=true):
    Does A P ⟨some d, .convert T T' x,ty,pos,af,g⟩ s (s.put d (lf (dI n))):=
  Qe rfl hn fun gh a w r=>by
    have h2:a.eval x= .int .u64 n:=hx gh a w r
    have e2:=QlP h0
    refine ⟨.int .i64 n, ?_,_,rfl,Yf (by omega)⟩
    simp only[execOp,h2,convert,run_underlying hs,run_underlying hd,au,aF,Conv.intToInt,e2]
    simp
theorem QcP (hx:Evl A s x (.val (.int .u64 a)))(hy:Evl A s y (.val (.int .u64 b)))(hn:Nat.blt d A.n=true):Does A P ⟨some d, .binOp .gtr T x y T',ty,pos,af,g⟩ s (s.put d (lf (dB (decide (b < a))))):=
  Qe rfl hn fun gh a' w r=>by
    have h1:a'.eval x= .int .u64 a:=hx gh a' w r
    have h2:a'.eval y= .int .u64 b:=hy gh a' w r
    refine ⟨.bool (decide (b < a)), ?_,_,rfl,ZM⟩
    simp only[execOp,h1,h2,eqGuard_at_int,binOp,Op.intCmp]
    simp
end
theorem Qkl (n:Nat)(hn:n≤1000000):bits BinOp.and IntKind.u64 (n:Int) 4294967295=n:=by
  have h:=bits_and_u64_nat n 4294967295 (by omega) (by decide)
  rw[show ((4294967295:Nat):Int)=4294967295 from rfl] at h
  rw[h,show (4294967295:Nat)=2 ^ 32 - 1 from rfl,Nat.and_two_pow_sub_one_eq_mod,cZ (by omega)]
theorem Qnr (n:Nat)(w:World)(hn:n≤1000000):Calls Tryz.prog 402 #[.int .u64 1, .int .u64 n] w fun e w'=>e= .returned (.tuple #[.int .u64 0, .int .u64 n])∧w'=w:=by
  have h1:bits BinOp.and IntKind.u64 1 4294967295=1:=by decide
  have h2:=Qkl n hn
  have h3:(n:Int) / 4294967296=0:=by omega
  have h4:=Qe3 (n:=n) (by omega)
  have h5:IntKind.u64.wrap 0=0:=by decide
  have h6:bits BinOp.and IntKind.u64 0 4294967295=0:=by decide
  go_enter Tryz.func402,Tryz.ntmps402
  go_wp2
  go_ret2
  exact ⟨rfl,rfl⟩
theorem QpH (a n:Int)(ha:a=1)(hn:0≤n∧n≤1000000):FC Tryz.prog 402 [(false,[.val (.int .u64 a)]),(false,[.val (.int .u64 n)])] [] 0 (QV (.tup [(false,[.val (.int .u64 0)]),(false,[.val (.int .u64 n)])])):=Qms fun gh w vs h=>by
  obtain ⟨v1,vs1,rfl,⟨l1,e1,k1⟩,v2,vs2,rfl,⟨l2,e2,k2⟩,rfl⟩:=h
  simp only[aH,and_true] at e1 e2
  subst e1 e2 ha
  have k1:v1= .int .u64 1:=k1
  have k2:v2= .int .u64 n:=k2
  subst k1 k2
  obtain ⟨m,rfl⟩:∃m:Nat,n=m:=⟨n.toNat,by omega⟩
  refine Calls.mono (Qnr m w (by omega)) fun e w' he=> ?_
  obtain ⟨rfl,rfl⟩:=he
  exact ⟨_,rfl,QO _,[.int .u64 0, .int .u64 m],rfl,_,_,rfl,⟨_,rfl,rfl⟩,_,_,rfl,⟨_,rfl,rfl⟩,rfl⟩
theorem Qh4 {v:Int}{m k:Nat}:cpy (List.replicate m v++List.replicate k (0:Int)) m k ((((List.replicate m v++List.replicate k (0:Int))).take (0+m)).drop 0)=List.replicate (m+min m k) v++List.replicate (k - min m k) 0:=by
  have h1:(List.replicate m v++List.replicate k (0:Int)).take m=List.replicate m v:=List.take_left' (by simp)
  have h2:(List.replicate m v++List.replicate k (0:Int)).drop (m+min m k)=List.replicate (k - min m k) 0:=by
    rw[List.drop_append,aB,bz (by simp),bY,List.drop_replicate]
    congr 1
    omega
  rw[cpy,bI,dd,h1,aB,h2,List.take_replicate,ck (Nat.min_le_left _ _),List.replicate_append_replicate]
theorem QjT {n v:Int}(hn:0≤n):cpy (List.replicate n.toNat (Ty.zero .int)) 0 (List.replicate n.toNat (Ty.zero .int)).length [v]=List.replicate (((min [v].length (List.replicate n.toNat (Ty.zero .int)).length:Nat):Int)).toNat v++List.replicate (n.toNat - (((min [v].length (List.replicate n.toNat (Ty.zero .int)).length:Nat):Int)).toNat) 0:=by
  have h:=Qh4 (v:=v) (m:=0) (k:=n.toNat)
  have e:(Ty.zero .int:Int)=0:=rfl
  cases hk:n.toNat with
  | zero=>simp[cpy]
  | succ k=>simp[cpy,e,List.replicate_succ]
theorem Qjq {n m v:Int}{l:List Int}(h0:0≤m)(h1:m≤n)(hl:l=List.replicate m.toNat v++List.replicate (n.toNat - m.toNat) 0)(hL:l.length=n.toNat):
    cpy l m.toNat (l.length - m.toNat) ((l.take (0+m.toNat)).drop 0)=List.replicate (m+((min ((l.take (0+m.toNat)).drop 0).length (l.length - m.toNat):Nat):Int)).toNat v++List.replicate (n.toNat - (m+((min ((l.take (0+m.toNat)).drop 0).length (l.length - m.toNat):Nat):Int)).toNat) 0:=by
  have hlen:((l.take (0+m.toNat)).drop 0).length=m.toNat:=by simp[hL]; omega
  rw[hlen,hL]
  rw[hl,Qh4]
  congr 2 <;> omega
theorem WL (s:List Int)(n:Int)(v:Int)(hs:s=[v])(hn:0≤n∧n≤1000000):FC Tryz.prog 320 [(false,[.dat (.sl 3 .int) s]),(false,[dI n])] [] 0 (Wy 3 .int (List.replicate n.toNat v)):=by
 have hs1:(s.length:Int)=1:=by rw[hs]; rfl
 have hneg:decide (n < 0)=false:=az (by omega)
 have hbig:decide ((9223372036854775807:Int) < n)=false:=az (by omega)
 have hrl:(List.replicate n.toNat (Ty.zero .int)).length=n.toNat:=aB ..
 refine Qj Tryz.func320 rfl rfl Tryz.ntmps320 fun O_ hO w0_ N0_ X_ h0_ f0_=> ?_
 refine acI 1 fun hi1=> ?_
 iterate 8 refine w_ ?_
 cases hb2:(decide (n < 0))
 ·have hb2':=ab hb2
  iterate 4 refine w_ ?_
  refine alL 13 fun hl3=> ?_
  refine w_ ?_
  refine lc (VB (Qa rfl) Jl QdO (by omega) rfl) ?_
  refine w_ ?_
  refine lc (VB (Qa rfl) Jl QdO (by omega) rfl) ?_
  refine lc (dK (QpH (s.length:Int) n hs1 hn) Qgx) ?_
  iterate 9 refine w_ ?_
  refine lc (QcP (Qa rfl) Evl.val rfl) ?_
  refine w_ ?_
  cases hb4:(decide ((0:Int) < (0:Int)))
  ·have hb4':=ab hb4
   refine w_ ?_
   refine lgy rfl rfl (QcP (Qa rfl) Evl.val rfl) ?_
   iterate 2 refine w_ ?_
   cases hb5:(decide ((9223372036854775807:Int) < n))
   ·have hb5':=ab hb5
    iterate 4 refine w_ ?_
    refine lc (Kk (Qa rfl) QdO Jl (by omega) rfl)<|lc (QaX 0 (e:= .int) (n:=n) (Qa rfl) (Qa rfl) Xf Qmn rfl (by omega) (by omega) (by omega) rfl (Fresh.of rfl) (nlr rfl)) ?_
    iterate 5 refine w_ ?_
    refine lc (Qb4 (e:= .int) (xs:=List.replicate (n).toNat (Ty.zero .int)) (lo:=0) (n:=(List.replicate (n).toNat (Ty.zero .int)).length) (ys:=s) (Qlx (Qa rfl) rfl) rfl (by omega) (Evl.rep (Qa rfl)) rfl rfl Xf Qmn rfl) ?_
    iterate 4 refine w_ ?_
    refine QF (fun m_ s_=>∃(m:Int) (l:List Int),m_=(n - m).toNat∧(0≤m∧m≤n∧(0 < n→0 < m))∧(l=List.replicate m.toNat v++List.replicate (n.toNat - m.toNat) 0)∧(l.length=n.toNat)∧s_=⟨[(4,lf (.val (.slice none 0 0))),(7,lR 1),(8,lI m)],[ar 1 3 .int l]⟩) ⟨((min s.length ((List.replicate (n).toNat (Ty.zero .int)).length):Nat):Int),cpy (List.replicate (n).toNat (Ty.zero .int)) 0 ((List.replicate (n).toNat (Ty.zero .int)).length) s,rfl,(by rw[hrl,hs]; simp; omega),(by rw[hs]; exact QjT hn.1),(by rw[Qdv (by omega)]; exact hrl),rfl⟩ ?_ ?_
    · exact Wk.of [(1,0)] rfl ⟨rfl,rfl,rfl,trivial⟩ ⟨(Qk (by first | rfl | simp)),trivial⟩ rfl rfl
    rintro m_ s_ ⟨m,l,hm7,hm,hl,hL,rfl⟩
    iterate 7 refine w_ ?_
    cases hb8:(decide (m < (l.length:Int)))
    ·have hb8':=ab hb8
     refine w_ ?_
     refine Qi ?_
     refine (?_:AC _ _ _ _ _)
     iterate 4 refine w_ ?_
     refine Qb<|fo_ hO ?_
     rw[hl,show n.toNat - m.toNat=0 by omega,show m.toNat=n.toNat by omega]; simp
    ·have hb8':=ae hb8
     iterate 3 refine w_ ?_
     apply dV (i3 38 _ _ _ (io 41 (lf (.sub 1 1 ((m).toNat) (l.length - (m).toNat))) :: i2 42 _ _ [io 44 (lf (.sub 1 1 0 ((m).toNat))),⟨some 45,lI ((min ((l.take (0+((m).toNat))).drop 0).length (l.length - (m).toNat):Nat):Int),[ar 1 3 .int (cpy l ((m).toNat) (l.length - (m).toNat) ((l.take (0+((m).toNat))).drop 0))]⟩,io 46 _,io 8 _])) [0,1,3,1,15,31,15,1,0,0]
     iterate 3 refine z_ ?_
     refine zz (fun _ h_=>ac (ZG (e:= .int) (a:=(m).toNat) (b:=l.length - (m).toNat) (l:=(some m)) (h:=none) (h_.v rfl) (h_.en 1 rfl) (by exact (h_.v rfl)) (by exact trivial) Xf Kd rfl (by first | (simp only[ai,ah]; omega) | omega | (simp only[ai,ah,ak,ap,aB]; omega)) (by first | (simp only[ai,ah]; omega) | omega | (simp only[ai,ah,ak,ap,aB]; omega)) (by first | (simp only[ai,ah]; omega) | omega | (simp only[ai,ah,ak,ap,aB]; omega)) (by first | rfl | simp) (by first | rfl | simp)) rfl) ?_
     iterate 2 refine z_ ?_
     refine zz (fun _ h_=>ac (ZG (e:= .int) (a:=0) (b:=(m).toNat) (l:=none) (h:=(some m)) (h_.v rfl) (h_.en 1 rfl) (by exact trivial) (by exact (h_.v rfl)) Xf Kd rfl (by first | (simp only[ai,ah]; omega) | omega | (simp only[ai,ah,ak,ap,aB]; omega)) (by first | (simp only[ai,ah]; omega) | omega | (simp only[ai,ah,ak,ap,aB]; omega)) (by first | (simp only[ai,ah]; omega) | omega | (simp only[ai,ah,ak,ap,aB]; omega)) (by first | rfl | simp) (by first | rfl | simp)) rfl)<|zz (fun _ h_=>ac (Qb4 (e:= .int) (xs:=l) (lo:=(m).toNat) (n:=l.length - (m).toNat) (ys:=(l.take (0+((m).toNat))).drop 0) (Qml (h_.v rfl) (h_.en 1 rfl)) (h_.en 1 rfl) (by omega) (Wt (e:= .int) (h_.v rfl) (h_.en 1 rfl) (by omega)) rfl rfl Xf Qmn rfl) rfl) ?_
     iterate 2 refine z_ ?_
     exact zN
     refine Q8 ⟨(m+((min ((l.take (0+((m).toNat))).drop 0).length (l.length - (m).toNat):Nat):Int)),(cpy l ((m).toNat) (l.length - (m).toNat) ((l.take (0+((m).toNat))).drop 0)),rfl,(by simp only[bh,ap,hL]; omega),(Qjq hm.1 hm.2.1 hl hL),(by rw[Qdv (by omega)]; exact hL),rfl⟩ (by simp only[bh,ap,hL]; omega) ?_
     exact Wk.of [] rfl ⟨rfl,rfl,rfl,trivial⟩ ⟨(Qk (by first | rfl | simp)),trivial⟩ rfl rfl
   · exact absurd (hb5.symm.trans (show (decide ((9223372036854775807:Int) < n))=false from hbig)) (by decide)
  · exact absurd (hb4.symm.trans (show (decide ((0:Int) < (0:Int)))=false from (by decide))) (by decide)
 · exact absurd (hb2.symm.trans (show (decide (n < 0))=false from hneg)) (by decide)
end Go.Proofs.YtgpdhgadmjfokaaGreat
