/- Walks over abstract states: arcs of state graphs. -/
import Derived.Test.YtnakmhfjafecpaaGreatWv
set_option linter.unusedSimpArgs false
set_option linter.unusedVariables false
set_option linter.unusedSectionVars false
namespace Go.Proofs.YtnakmhfjafecpaaGreat
open Go.RowKit
set_option maxRecDepth 100000
set_option maxHeartbeats 4000000
def QbX (c:DSg)(i:Int):ByteArray:=(c.2.1[i.toNat]?).getD ByteArray.empty
def YS (c:DSg)(a:DAr):Prop:=(0≤a.1∧a.1≤(c.2.1.length:Int) - 1)∧(0≤a.2.2.2∧a.2.2.2≤(c.2.1.length:Int) - 1)∧Vk (c.1.length:Int) (a.2.1,a.2.2.1)∧Fit a (QbX c a.1) (QbX c a.2.2.2)
instance (c:DSg) (a:DAr):Decidable (YS c a):=inferInstanceAs (Decidable (_∧_))
section
variable {c:DSg}{a:DAr}{x y b code:ByteArray}{n sig p:Int}{j k m:Nat}
theorem WS (h:c.2.1[p.toNat]? =some x):QbX c p=x:=by unfold QbX; rw[h]; rfl
theorem Uj (m:ByteArray)(p:Int):bAt m p=(m.toList[p.toNat]?).getD 0:=by
  unfold bAt
  rw[ByteArray.toList_eq]
  by_cases h:p.toNat < m.size
  · rw [getElem?_pos m p.toNat h, List.getElem?_eq_getElem (by simpa using h)]
    rfl
  · rw[getElem?_neg m p.toNat h,List.getElem?_eq_none (by simpa using h)]
theorem QeO (hs:x.size=y.size)(h:∀j:Nat,j < x.size→bAt x (j:Int)=bAt y (j:Int)):x=y:=by
  have e:x.toList=y.toList:=List.ext_getElem? fun j=>by
    by_cases hj:j < x.size
    · have h1 := h j hj
      rw[Uj,Uj] at h1
      have h2:j < x.toList.length:=by rw[WB]; exact hj
      have h3:j < y.toList.length:=by rw[WB,← hs]; exact hj
      have e1:((j:Int)).toNat=j:=rfl
      rw[e1,List.getElem?_eq_getElem h2,List.getElem?_eq_getElem h3] at h1
      rw[List.getElem?_eq_getElem h2,List.getElem?_eq_getElem h3]
      exact congrArg some h1
    · rw[List.getElem?_eq_none (by rw[WB]; omega),List.getElem?_eq_none (by rw[WB]; omega)]
  rw[ByteArray.toList_eq,ByteArray.toList_eq] at e
  exact ByteArray.ext (Array.toList_inj.1 e)
theorem Qeq (code:ByteArray)(sig:Int)(b:ByteArray):(UH code sig b).toList=code.toList.take sig.toNat++(b.toList++code.toList.drop (sig+1).toNat):=by
  have h:code.data.size=code.size:=rfl
  simp only[UH,ByteArray.toList_eq,ByteArray.data_append,ByteArray.data_extract,Array.toList_append,Array.toList_extract,List.append_assoc]
  simp[h,List.extract_eq_take_drop]
  rw[List.take_of_length_le (by simp[h])]
theorem QdT (h0:0≤sig)(h1:sig < code.size)(hb:b.size=1):(UH code sig b).size=code.size:=by
  rw[← WB,Qeq]
  simp only[List.length_append,List.length_take,List.length_drop,WB,hb]
  omega
theorem Qi7 (h0:0≤sig)(h1:sig < code.size)(hb:b.size=1)(hj:j < code.size):bAt (UH code sig b) (j:Int)=if (j:Int)=sig then bAt b 0 else bAt code (j:Int):=by
  rw[Uj,Qeq,Uj,Uj]
  have hl:=WB code
  have hbl:=WB b
  have e1:((j:Int)).toNat=j:=rfl
  rw[e1]
  by_cases e:(j:Int)=sig
  · rw [if_pos e, List.getElem?_append_right (by rw [List.length_take]; omega), List.getElem?_append_left (by rw [List.length_take]; omega)]
    rw[show j - (code.toList.take sig.toNat).length=((0:Int)).toNat by rw[List.length_take]; show _=0; omega]
  · rw [if_neg e]
    by_cases h:(j:Int) < sig
    · rw[List.getElem?_append_left (by rw[List.length_take]; omega),List.getElem?_take,if_pos (by omega)]
    · rw [List.getElem?_append_right (by rw [List.length_take]; omega), List.getElem?_append_right (by rw [List.length_take]; omega), List.getElem?_drop]
      congr 2
      rw[List.length_take]
      omega
theorem Qby (h:YQ x n)(hj:j < x.size):bAt x (j:Int)=48∨bAt x (j:Int)=49:=by
  have h2:j < x.toList.length:=by rw[WB]; exact hj
  rw[Uj]
  have e1:((j:Int)).toNat=j:=rfl
  rw[e1,List.getElem?_eq_getElem h2]
  exact h.1 _ (List.getElem_mem h2)
theorem Qe3 (b:Bool):bAt (X3 b) 0=if b=true then 49 else 48:=by cases b <;> rfl
theorem WF (b:Bool):(X3 b).size=1:=rfl
theorem QbM {c:UInt8}{b:Bool}(h:c=48∨c=49):decide (c=49)=b↔c=if b=true then 49 else 48:=by
  rcases h with rfl | rfl <;> cases b <;> decide
theorem Qne (hx:YQ x n)(hy:YQ y n)(hs:a.2.1 < 0):Fit a x y↔x=y:=by
  have hsz:x.size=y.size:=by have:=hx.2; have:=hy.2; omega
  constructor
  · intro h
    refine QeO hsz fun j hj=> ?_
    have:=h j hj
    unfold Xq at this
    rwa [if_neg (by omega)] at this
  · rintro rfl j hj
    unfold Xq
    rw[if_neg (by omega)]
theorem Qjn (hx:YQ x n)(hy:YQ y n)(hs:¬a.2.1 < 0)(hn:a.2.1 < n):Fit a x y↔x=UH y a.2.1 (X3 (!a.2.2.1))∧y=UH x a.2.1 (X3 a.2.2.1):=by
  have hxs:=hx.2
  have hys:=hy.2
  have z1:=QdT (code:=y) (sig:=a.2.1) (b:=X3 (!a.2.2.1)) (by omega) (by omega) (WF _)
  have z2:=QdT (code:=x) (sig:=a.2.1) (b:=X3 a.2.2.1) (by omega) (by omega) (WF _)
  have g1:=fun (j:Nat) hj=>Qi7 (j:=j) (code:=y) (sig:=a.2.1) (b:=X3 (!a.2.2.1)) (by omega) (by omega) (WF _) hj
  have g2:=fun (j:Nat) hj=>Qi7 (j:=j) (code:=x) (sig:=a.2.1) (b:=X3 a.2.2.1) (by omega) (by omega) (WF _) hj
  constructor
  · intro h
    constructor
    · refine QeO (by omega) fun j hj => ?_
      rw[g1 j (by omega),Qe3]
      have h1:=h j hj
      unfold Xq at h1
      split
      · rename_i e
        rw[if_pos e] at h1
        exact (QbM (Qby hx hj)).1 h1.1
      · rename_i e
        rwa [if_neg e] at h1
    · refine QeO (by omega) fun j hj => ?_
      rw[g2 j (by omega),Qe3]
      have h1:=h j (by omega)
      unfold Xq at h1
      split
      · rename_i e
        rw[if_pos e] at h1
        exact (QbM (Qby hy hj)).1 h1.2
      · rename_i e
        rw[if_neg e] at h1
        exact h1.symm
  · rintro ⟨e1, e2⟩ j hj
    have h1:=g1 j (by omega)
    have h2:=g2 j hj
    rw[← e1,Qe3] at h1
    rw[← e2,Qe3] at h2
    unfold Xq
    split
    · rename_i e
      rw[if_pos e] at h1 h2
      exact ⟨(QbM (Qby hx hj)).2 h1,(QbM (Qby hy (by omega))).2 h2⟩
    · rename_i e
      rwa [if_neg e] at h1
theorem Qn9 (h:¬(0≤a.1∧a.1≤(c.2.1.length:Int) - 1)):false=decide (YS c a):=(decide_eq_false fun g=>h g.1).symm
theorem Qni (h:¬(0≤a.2.2.2∧a.2.2.2≤(c.2.1.length:Int) - 1)):false=decide (YS c a):=(decide_eq_false fun g=>h g.2.1).symm
theorem QnA (h:¬Vk (c.1.length:Int) (a.2.1,a.2.2.1)):false=decide (YS c a):=(decide_eq_false fun g=>h g.2.2.1).symm
theorem Qhr (h3:Vk (c.1.length:Int) (a.2.1,a.2.2.1))(hs:¬a.2.1 < 0):a.2.1 < (c.1.length:Int):=by
  rcases h3 with h | h
  · have h:0≤a.2.1∧a.2.1≤(c.1.length:Int) - 1:=h; omega
  · have h:a.2.1= -1:=h.1; omega
section
variable (h1:0≤a.1∧a.1≤(c.2.1.length:Int) - 1)(h2:0≤a.2.2.2∧a.2.2.2≤(c.2.1.length:Int) - 1)(h3:Vk (c.1.length:Int) (a.2.1,a.2.2.1))(hx:c.2.1[a.1.toNat]? =some x)(hy:c.2.1[a.2.2.2.toNat]? =some y)
include h1 h2 h3 hx hy
theorem Qfr:YS c a↔Fit a x y:=by
  unfold YS
  rw[WS hx,WS hy]
  exact ⟨fun g=>g.2.2.2,fun g=>⟨h1,h2,h3,g⟩⟩
theorem Qoa (hb:∀x∈c.2.1,YQ x (c.1.length:Int))(hs:a.2.1 < 0):decide (x=y)=decide (YS c a):=decide_eq_decide.2 (by rw[Qfr h1 h2 h3 hx hy,Qne (hb x (List.mem_of_getElem? hx)) (hb y (List.mem_of_getElem? hy)) hs])
theorem Qmf (hb:∀x∈c.2.1,YQ x (c.1.length:Int))(hs:¬a.2.1 < 0)(h:¬x=UH y a.2.1 (X3 (!a.2.2.1))):false=decide (YS c a):=(decide_eq_false fun g=>by
  rw[Qfr h1 h2 h3 hx hy,Qjn (hb x (List.mem_of_getElem? hx)) (hb y (List.mem_of_getElem? hy)) hs (Qhr h3 hs)] at g
  exact h g.1).symm
theorem Qmu (hb:∀x∈c.2.1,YQ x (c.1.length:Int))(hs:¬a.2.1 < 0)(h:x=UH y a.2.1 (X3 (!a.2.2.1))):decide (y=UH x a.2.1 (X3 a.2.2.1))=decide (YS c a):=decide_eq_decide.2 (by
  rw[Qfr h1 h2 h3 hx hy,Qjn (hb x (List.mem_of_getElem? hx)) (hb y (List.mem_of_getElem? hy)) hs (Qhr h3 hs)]
  exact ⟨fun g=>⟨h,g⟩,fun g=>g.2⟩)
end
end
theorem QdA (c:(List (ByteArray×Int))×List ByteArray×(List (Int×Int×Bool×Int)))(a:Int×Int×Bool×Int)(hcd:∀x∈c.2.1,YQ x (c.1.length:Int))(hc1:c.1.length≤1000):FC Tryz.prog 151 [(true,[.dat (.sl 145 (.pr .str .int)) c.1, .dat (.sl 9 .str) c.2.1, .dat (.sl 179 (.pr .int (.pr .int (.pr .bool .int)))) c.2.2]),(true,[dI a.1,dI a.2.1,dB a.2.2.1,dI a.2.2.2])] [] 0 (Zy (lB (decide (YS c a)))):=by
 refine QQ Tryz.func151 rfl rfl Tryz.ntmps151 fun O_ hO w0_ N0_ X_ h0_ f0_=> ?_
 refine AC.fact (Q3 (x:= .tmp 1) (i:=0) (Qb rfl) rfl) fun hi1=>AC.fact (Q3 (x:= .tmp 1) (i:=1) (Qb rfl) rfl) fun hi2=>AC.fact (Q3 (x:= .tmp 1) (i:=3) (Qb rfl) rfl) fun hi3=> ?_
 refine w_ ?_
 refine lc (Qr 0 (Qb rfl) rfl rfl (Fresh.of rfl) (nlr rfl))<|lc (Qr 1 (Qb rfl) rfl rfl (Fresh.of rfl) (nlr rfl)) ?_
 iterate 8 refine w_ ?_
 refine AL.fact (QB (x:= .tmp 10) (Qa rfl)) fun hl4=> ?_
 iterate 2 refine w_ ?_
 refine lc (Qh (XE a.1 0 ((c.2.1.length:Int) - 1)) WI ⟨_,_,rfl,(Qb rfl),⟨_,_,rfl,(Evl.ev (QE rfl)),⟨_,_,rfl,(Qb rfl),rfl⟩⟩⟩ rfl rfl) ?_
 iterate 2 refine w_ ?_
 cases hb5:(decide (0≤a.1∧a.1≤((c.2.1.length:Int) - 1)))
 ·have hb5':=of_decide_eq_false hb5
  iterate 26 refine w_ ?_
  refine Qe ?_
  subst hO
  have e6:(false:Bool)=(decide (YS c a)):=by
   exact Qn9 (by assumption)
  exact Qg (Qd rfl (Qc rfl)) ((congrArg (fun z_=>lB z_) e6)) rfl
 ·have hb5':=of_decide_eq_true hb5
  iterate 4 refine w_ ?_
  refine AL.fact (QB (x:= .tmp 19) (Qa rfl)) fun hl7=> ?_
  iterate 2 refine w_ ?_
  refine lgy rfl rfl (Qh (XE a.2.2.2 0 ((c.2.1.length:Int) - 1)) WI ⟨_,_,rfl,(Qb rfl),⟨_,_,rfl,(Evl.ev (QE rfl)),⟨_,_,rfl,(Qb rfl),rfl⟩⟩⟩ rfl rfl) ?_
  iterate 3 refine w_ ?_
  cases hb8:(decide (0≤a.2.2.2∧a.2.2.2≤((c.2.1.length:Int) - 1)))
  ·have hb8':=of_decide_eq_false hb8
   iterate 16 refine w_ ?_
   refine Qe ?_
   subst hO
   have e9:(false:Bool)=(decide (YS c a)):=by
    exact Qni (by assumption)
   exact Qg (Qd rfl (Qc rfl)) ((congrArg (fun z_=>lB z_) e9)) rfl
  ·have hb8':=of_decide_eq_true hb8
   iterate 4 refine w_ ?_
   refine lgy rfl rfl (QC W5 ⟨_,_,rfl,(Qb rfl),⟨_,_,rfl,(Qb rfl),rfl⟩⟩ (List.all_eq_true.1 rfl) rfl rfl) ?_
   iterate 2 refine w_ ?_
   refine AL.fact (QB (x:= .tmp 32) (Qa rfl)) fun hl10=> ?_
   refine w_ ?_
   refine lgy rfl rfl (Qh (Qbr (a.2.1,a.2.2.1) (c.1.length:Int) (by omega)) Qhu ⟨_,_,rfl,(Qb rfl),⟨_,_,rfl,(Qb rfl),rfl⟩⟩ rfl rfl) ?_
   iterate 3 refine w_ ?_
   cases hb11:(decide (Vk (c.1.length:Int) (a.2.1,a.2.2.1)))
   ·have hb11':=of_decide_eq_false hb11
    iterate 4 refine w_ ?_
    refine Qe ?_
    subst hO
    have e12:(false:Bool)=(decide (YS c a)):=by
     exact QnA (by assumption)
    exact Qg (Qd rfl (Qc rfl)) ((congrArg (fun z_=>lB z_) e12)) rfl
   ·have hb11':=of_decide_eq_true hb11
    iterate 2 refine w_ ?_
    obtain ⟨cx,hx14⟩:∃z,c.2.1[(a.1).toNat]? =some z:=⟨_,List.getElem?_eq_getElem (by omega)⟩
    have hzcx:=(hcd _ (List.mem_of_getElem? hx14)).2
    obtain ⟨cy,hx16⟩:∃z,c.2.1[(a.2.2.2).toNat]? =some z:=⟨_,List.getElem?_eq_getElem (by omega)⟩
    have hzcy:=(hcd _ (List.mem_of_getElem? hx16)).2
    refine dw [io 37 (lP 0 1),io 38 (lf (.dat (.sl 9 .str) c.2.1)),io 39 (lP 1 0),io 40 (lI a.1),io 41 (lf (.elt .str cx 0)),io 42 (lf (dS cx)),io 43 (lP 0 1),io 44 (lf (.dat (.sl 9 .str) c.2.1)),io 45 (lP 1 3),io 46 (lI a.2.2.2),io 47 (lf (.elt .str cy 0)),io 48 (lf (dS cy)),io 5 (lf (dS cx)),io 6 (lf (dS cy))] [0,1,0,4,15,31,0,64,0,256,960,1984,63,8191] mixed rfl (by kernel_rfl) ⟨dxf Z9 rfl rfl rfl,dxl Xc rfl rfl rfl rfl rfl,dxf Zr rfl rfl rfl,dxl QD rfl rfl rfl rfl rfl,fun _ h_=>ac (Qm (h_.v rfl) (h_.v rfl) ZL Zx rfl (by omega) hx14) rfl,fun _ h_=>ac (Zv (h_.v rfl) Zx rfl rfl) rfl,dxf Z9 rfl rfl rfl,dxl Xc rfl rfl rfl rfl rfl,dxf Zg rfl rfl rfl,dxl QD rfl rfl rfl rfl rfl,fun _ h_=>ac (Qm (h_.v rfl) (h_.v rfl) ZL Zx rfl (by omega) hx16) rfl,fun _ h_=>ac (Zv (h_.v rfl) Zx rfl rfl) rfl,dxt rfl rfl,dxt rfl rfl,⟨⟩⟩ ?_
    iterate 6 refine w_ ?_
    cases hb17:(decide (a.2.1 < 0))
    ·have hb17':=of_decide_eq_false hb17
     iterate 2 refine w_ ?_
     have hsl:=Qhr (c:=c) (a:=a) (by assumption) (by assumption)
     cases hb18:(decide (cx=(UH cy a.2.1 (X3 (!a.2.2.1)))))
     ·have hb18':=of_decide_eq_false hb18
      refine dw [io 55 (lf (dS cx)),io 56 (lf (dS cy)),io 57 (lP 1 1),io 58 (lI a.2.1),io 59 (lP 1 2),io 60 (lB a.2.2.1),io 61 (lB (!a.2.2.1)),io 62 (lf (dS (X3 (!a.2.2.1)))),io 63 (lf (dS (UH cy a.2.1 (X3 (!a.2.2.1))))),io 64 (lB false),io 65 (lB false),io 66 (lf (.val undef)),io 67 (lf (.val undef)),io 68 (lf (.val undef)),io 69 (lf (.val undef)),io 70 (lf (.val undef)),io 71 (lf (.val undef)),io 72 (lf (.val undef)),io 73 (lf (.val undef)),io 74 (lf (.val undef)),io 75 (lB false),io 4 (lB false)] [0,0,0,4,0,16,48,112,254,511,1023,2047,2047,2047,10239,2047,34815,100351,260095,524287,1048575,2097151] mixed rfl (by kernel_rfl) ⟨dxm rfl rfl,dxm rfl rfl,dxf ZN rfl rfl rfl,dxl QD rfl rfl rfl rfl rfl,dxf YY rfl rfl rfl,dxl ZH rfl rfl rfl rfl rfl,fun _ h_=>ac (ZK (h_.v rfl) rfl) rfl,fun _ h_=>ac (Qh (V4 (!a.2.2.1)) JP ⟨_,_,rfl,(h_.w rfl),rfl⟩ rfl rfl) rfl,fun _ h_=>ac (Qh (V6 cy a.2.1 (X3 (!a.2.2.1)) (by omega) ⟨by omega,by rw[WF]; decide⟩) JF ⟨_,_,rfl,(h_.w rfl),⟨_,_,rfl,(h_.w rfl),⟨_,_,rfl,(h_.w rfl),rfl⟩⟩⟩ rfl rfl) rfl,fun _ h_=>ac (QZ (hb18) (Vq (h_.v rfl) (h_.v rfl) rfl)) rfl,dxm rfl rfl,dxo rfl rfl rfl,dxo rfl rfl rfl,dxo rfl rfl rfl,dxo rfl rfl rfl,dxo rfl rfl rfl,dxo rfl rfl rfl,dxo rfl rfl rfl,dxo rfl rfl rfl,dxo rfl rfl rfl,fun _ h_=>ac (QM (h_.v rfl) (Evl.ev QU) rfl) rfl,dxt rfl rfl,⟨⟩⟩<|Qe ?_
      subst hO
      have e19:(false:Bool)=(decide (YS c a)):=by
       exact Qmf (by assumption) (by assumption) (by assumption) (x:=cx) (y:=cy) (by assumption) (by assumption) hcd (by assumption) (by assumption)
      exact Qg (Qd rfl (Qc rfl)) ((congrArg (fun z_=>lB z_) e19)) rfl
     ·have hb18':=of_decide_eq_true hb18
      refine dw [io 55 (lf (dS cx)),io 56 (lf (dS cy)),io 57 (lP 1 1),io 58 (lI a.2.1),io 59 (lP 1 2),io 60 (lB a.2.2.1),io 61 (lB (!a.2.2.1)),io 62 (lf (dS (X3 (!a.2.2.1)))),io 63 (lf (dS (UH cy a.2.1 (X3 (!a.2.2.1))))),io 64 (lB true),io 65 (lB true),io 66 (lf (dS cy)),io 67 (lf (dS cx)),io 68 (lP 1 1),io 69 (lI a.2.1),io 70 (lP 1 2),io 71 (lB a.2.2.1),io 72 (lf (dS (X3 a.2.2.1))),io 73 (lf (dS (UH cx a.2.1 (X3 a.2.2.1)))),io 74 (lB (decide (cy=(UH cx a.2.1 (X3 a.2.2.1))))),io 75 (lB (decide (cy=(UH cx a.2.1 (X3 a.2.2.1))))),io 4 (lB (decide (cy=(UH cx a.2.1 (X3 a.2.2.1)))))] [0,0,0,4,0,16,48,112,254,511,1023,2047,2047,2047,10239,2047,34815,100351,260095,524287,1048575,2097151] mixed rfl (by kernel_rfl) ⟨dxm rfl rfl,dxm rfl rfl,dxf ZN rfl rfl rfl,dxl QD rfl rfl rfl rfl rfl,dxf YY rfl rfl rfl,dxl ZH rfl rfl rfl rfl rfl,fun _ h_=>ac (ZK (h_.v rfl) rfl) rfl,fun _ h_=>ac (Qh (V4 (!a.2.2.1)) JP ⟨_,_,rfl,(h_.w rfl),rfl⟩ rfl rfl) rfl,fun _ h_=>ac (Qh (V6 cy a.2.1 (X3 (!a.2.2.1)) (by omega) ⟨by omega,by rw[WF]; decide⟩) JF ⟨_,_,rfl,(h_.w rfl),⟨_,_,rfl,(h_.w rfl),⟨_,_,rfl,(h_.w rfl),rfl⟩⟩⟩ rfl rfl) rfl,fun _ h_=>ac (QZ (hb18) (Vq (h_.v rfl) (h_.v rfl) rfl)) rfl,dxm rfl rfl,fun _ h_=>day rfl (h_.k rfl) (QF (h_.k rfl) rfl) rfl,fun _ h_=>day rfl (h_.k rfl) (QF (h_.k rfl) rfl) rfl,fun _ h_=>day rfl (h_.k rfl) (Qz (h_.v rfl) ZN (by rw[(h_.en 1 rfl)]; rfl) rfl) rfl,fun _ h_=>day rfl (h_.k rfl) (QI (h_.v rfl) (h_.n 1 rfl) QD rfl rfl) rfl,fun _ h_=>day rfl (h_.k rfl) (Qz (h_.v rfl) YY (by rw[(h_.en 1 rfl)]; rfl) rfl) rfl,fun _ h_=>day rfl (h_.k rfl) (QI (h_.v rfl) (h_.n 1 rfl) ZH rfl rfl) rfl,fun _ h_=>day rfl (h_.k rfl) (Qh (V4 a.2.2.1) JP ⟨_,_,rfl,(h_.w rfl),rfl⟩ rfl rfl) rfl,fun _ h_=>day rfl (h_.k rfl) (Qh (V6 cx a.2.1 (X3 a.2.2.1) (by omega) ⟨by omega,by rw[WF]; decide⟩) JF ⟨_,_,rfl,(h_.w rfl),⟨_,_,rfl,(h_.w rfl),⟨_,_,rfl,(h_.w rfl),rfl⟩⟩⟩ rfl rfl) rfl,fun _ h_=>day rfl (h_.k rfl) (Vq (h_.v rfl) (h_.v rfl) rfl) rfl,fun _ h_=>ac (QV (h_.v rfl) (h_.w rfl) rfl) rfl,dxt rfl rfl,⟨⟩⟩<|Qe ?_
      subst hO
      have e20:(decide (cy=(UH cx a.2.1 (X3 a.2.2.1))):Bool)=(decide (YS c a)):=by
       exact Qmu (by assumption) (by assumption) (by assumption) (x:=cx) (y:=cy) (by assumption) (by assumption) hcd (by assumption) (by assumption)
      exact Qg (Qd rfl (Qc rfl)) ((congrArg (fun z_=>lB z_) e20)) rfl
    ·have hb17':=of_decide_eq_true hb17
     iterate 7 refine w_ ?_
     refine Qe ?_
     subst hO
     have e21:(decide (cx=cy):Bool)=(decide (YS c a)):=by
      exact Qoa (by assumption) (by assumption) (by assumption) (x:=cx) (y:=cy) (by assumption) (by assumption) hcd (by assumption)
     exact Qg (Qd rfl (Qc rfl)) ((congrArg (fun z_=>lB z_) e21)) rfl
end Go.Proofs.YtnakmhfjafecpaaGreat
namespace Go.Proofs.YtnakmhfjafecpaaGreat
open Go.RowKit
set_option maxRecDepth 100000
set_option maxHeartbeats 4000000
inductive Rch (es:List (Int×Int)):Int→Prop
  | zero:Rch es 0
  | step {u v:Int}:Rch es u→(u,v)∈es→Rch es v
def ZM (rs:List DAr):List (Int×Int):=rs.map fun a=>(a.1,a.2.2.2)
def InE (n:Nat)(e:Int×Int):Prop:=(0≤e.1∧e.1 < n)∧0≤e.2∧e.2 < n
def JC (n:Nat)(es:List (Int×Int)):Prop:=∀k:Nat,k < n→Rch es k
def W1 (e:Int×Int)(m:List Bool):List Bool:=if m[e.1.toNat]? =some true then m.set e.2.toNat true else m
def XJ:List (Int×Int)→List Bool→List Bool
  | [],m=>m
  | e :: es,m=>XJ es (W1 e m)
def XK (es:List (Int×Int)):Nat→List Bool→List Bool
  | 0,m=>m
  | f+1,m=>XK es f (XJ es m)
section
variable {es:List (Int×Int)}{e:Int×Int}{m:List Bool}{n f i k:Nat}{rs:List DAr}{a:DAr}{b:Bool}
theorem QdY:(W1 e m).length=m.length:=by unfold W1; split <;> simp
theorem Qk7:(XJ es m).length=m.length:=by
  induction es generalizing m with
  | nil=>rfl
  | cons e es ih=>rw[XJ,ih,QdY]
theorem QcC (h:m[i]? =some true):(W1 e m)[i]? =some true:=by
  unfold W1
  split
  · by_cases h2 : e.2.toNat = i
    · rw[h2,List.getElem?_set_self (List.getElem?_eq_some_iff.1 h).1]
    · rw[List.getElem?_set_ne h2]; exact h
  · exact h
theorem Qb6 (h:m[i]? =some true):(XJ es m)[i]? =some true:=by
  induction es generalizing m with
  | nil=>exact h
  | cons e es ih=>rw[XJ]; exact ih (QcC h)
theorem Qkv (he:e∈es)(h:m[e.1.toNat]? =some true)(hl:e.2.toNat < m.length):(XJ es m)[e.2.toNat]? =some true:=by
  induction es generalizing m with
  | nil=>cases he
  | cons d es ih=>
    rw[XJ]
    rcases List.mem_cons.1 he with rfl | he
    · refine Qb6 ?_
      unfold W1
      rw[if_pos h,List.getElem?_set_self hl]
    · exact ih he (QcC h) (by rw[QdY]; exact hl)
def Qbi (m:List Bool):Nat:=(m.filter fun b=> !b).length
theorem QgO (h:m[i]? =some false):Qbi (m.set i true)+1=Qbi m:=by
  induction m generalizing i with
  | nil=>simp at h
  | cons x l ih=>
    cases i with
    | zero=>
      simp only[List.getElem?_cons_zero,Option.some.injEq] at h
      subst h
      simp[Qbi]
    | succ i=>
      have:=ih (i:=i) (by simpa using h)
      simp only[Qbi,List.set_cons_succ,List.filter_cons] at this ⊢
      split <;> simp_all
theorem Qk0 {α:Type _}{vs:List α}{i:Nat}{c:α}(h:vs[i]? =some c):vs.set i c=vs:=by
  apply List.ext_getElem?
  intro j
  by_cases e:i=j
  · subst e; rw[List.getElem?_set_self (List.getElem?_eq_some_iff.1 h).1,h]
  · rw[List.getElem?_set_ne e]
theorem Qlg:W1 e m=m∨Qbi (W1 e m) < Qbi m:=by
  unfold W1
  split
  · cases h : m[e.2.toNat]? with
    | none=>left; rw[List.set_eq_of_length_le]; rwa [List.getElem?_eq_none_iff] at h
    | some b=>
      cases b with
      | true=>left; exact Qk0 h
      | false=>right; have:=QgO h; omega
  · exact .inl rfl
theorem QkB:XJ es m=m∨Qbi (XJ es m) < Qbi m:=by
  induction es generalizing m with
  | nil=>exact .inl rfl
  | cons e es ih=>
    rw[XJ]
    rcases Qlg (e:=e) (m:=m) with h | h
    · rw[h]; exact ih
    · rcases ih (m := W1 e m) with h2 | h2
      · rw[h2]; exact .inr h
      · exact .inr (Nat.lt_trans h2 h)
theorem QdX (h:XJ es m=m):∀f,XK es f m=m
  | 0=>rfl
  | f+1=>by rw[XK,h]; exact QdX h f
theorem Qfv (h:Qbi m < f):XJ es (XK es f m)=XK es f m:=by
  induction f generalizing m with
  | zero=>omega
  | succ f ih=>
    rw[XK]
    rcases QkB (es:=es) (m:=m) with h2 | h2
    · rw[h2,QdX h2,h2]
    · exact ih (by omega)
theorem QiP (h:m[i]? =some true):(XK es f m)[i]? =some true:=by
  induction f generalizing m with
  | zero=>exact h
  | succ f ih=>rw[XK]; exact ih (Qb6 h)
theorem Qav:(XK es f m).length=m.length:=by
  induction f generalizing m with
  | zero=>rfl
  | succ f ih=>rw[XK,ih,Qk7]
def m0 (n:Nat):List Bool:=(List.replicate n false).set 0 true
theorem QoU (h:1≤n):Qbi (m0 n) < n:=by
  have h1:(List.replicate n false)[0]? =some false:=by rw[List.getElem?_replicate,if_pos (by omega)]
  have:=QgO h1
  have h2:Qbi (List.replicate n false)=n:=by simp[Qbi]
  unfold m0
  omega
theorem QgD (he:(e.1,e.2)∈es)(hr:InE n e)(h:∀k:Nat,m[k]? =some true→Rch es k):∀k:Nat,(W1 e m)[k]? =some true→Rch es k:=fun k hk=>by
  obtain ⟨⟨r1,r2⟩,r3,r4⟩:=hr
  unfold W1 at hk
  split at hk
  · rename_i h1
    by_cases e2:e.2.toNat=k
    · have h3 := h _ h1
      rw[show ((e.1.toNat:Nat):Int)=e.1 by omega] at h3
      rw[show (k:Int)=e.2 by omega]
      exact .step h3 he
    · rw[List.getElem?_set_ne e2] at hk; exact h k hk
  · exact h k hk
theorem Qg1 {ds:List (Int×Int)}(hd:∀e∈ds,e∈es)(hr:∀e∈es,InE n e)(h:∀k:Nat,m[k]? =some true→Rch es k):∀k:Nat,(XJ ds m)[k]? =some true→Rch es k:=by
  induction ds generalizing m with
  | nil=>exact h
  | cons e ds ih=>rw[XJ]; exact ih (fun e he=>hd e (List.mem_cons_of_mem _ he)) (QgD (hd e (List.mem_cons_self ..)) (hr e (hd e (List.mem_cons_self ..))) h)
theorem QfL (hr:∀e∈es,InE n e)(h:∀k:Nat,m[k]? =some true→Rch es k):∀k:Nat,(XK es f m)[k]? =some true→Rch es k:=by
  induction f generalizing m with
  | zero=>exact h
  | succ f ih=>rw[XK]; exact ih (Qg1 (fun _ h=>h) hr h)
theorem Qjo (h1:1≤n)(hr:∀e∈es,InE n e)(k:Nat)(hk:k < n):(XK es n (m0 n))[k]? =some true↔Rch es k:=by
  have hl:(XK es n (m0 n)).length=n:=by rw[Qav]; simp[m0]
  constructor
  · refine QfL hr (fun k hk => ?_) k
    unfold m0 at hk
    by_cases e:0=k
    · subst e; exact .zero
    · rw [List.getElem?_set_ne e, List.getElem?_replicate] at hk
      split at hk <;> cases hk
  · intro h
    have main:∀u:Int,Rch es u→0≤u∧u < n∧(XK es n (m0 n))[u.toNat]? =some true:=fun u hu=>by
      induction hu with
      | zero=>exact ⟨by omega,by omega,QiP (by unfold m0; exact List.getElem?_set_self (by simp; omega))⟩
      | @step u v _ he ih=>
        obtain ⟨_,r3,r4⟩:=hr _ he
        refine ⟨r3,r4, ?_⟩
        have r3:0≤v:=r3
        have r4:v < (n:Int):=r4
        have:=Qkv he ih.2.2 (by rw[hl]; show v.toNat < n; omega)
        rwa [Qfv (QoU h1)] at this
    exact (main k h).2.2
theorem Qcx {n:Nat}(h:∀a∈rs,InR n a):∀e∈ZM rs,InE n e:=fun e he=>by
  obtain ⟨a,ha,rfl⟩:=List.mem_map.1 he
  exact h a ha
theorem Qd2 (hx:rs[i]? =some a):XJ ((ZM rs).drop i) m=XJ ((ZM rs).drop (i+1)) (W1 (a.1,a.2.2.2) m):=by
  rw[K6 (x:=(a.1,a.2.2.2)) (by unfold ZM; rw[List.getElem?_map,hx]; rfl),XJ]
theorem Qd8 (h:m[a.1.toNat]? =some b)(hb:b=true):W1 (a.1,a.2.2.2) m=m.set a.2.2.2.toNat true:=by unfold W1; rw[if_pos (by rw[h,hb])]
theorem QgR (h:m[a.1.toNat]? =some b)(hb:b=false):W1 (a.1,a.2.2.2) m=m:=by unfold W1; rw[if_neg (by rw[h,hb]; intro h; cases h)]
theorem Qlq (h:rs.length≤i):XJ ((ZM rs).drop i) m=m:=by rw[List.drop_eq_nil_of_le (by simpa [ZM] using h),XJ]
section
variable [Decidable (JC n es)]
theorem QoN (h1:1≤n)(hr:∀e∈es,InE n e)(hm:XK es n (m0 n)=m)(hx:m[k]? =some b)(hb:b=false):false=decide (JC n es):=(decide_eq_false (p:=JC n es) fun h=>by
  have hl:(XK es n (m0 n)).length=n:=by rw[Qav]; simp[m0]
  have hk:k < n:=by rw[← hl,hm]; exact (List.getElem?_eq_some_iff.1 hx).1
  have:=(Qjo h1 hr k hk).2 (h k hk)
  rw[hm,hx,hb] at this
  cases this).symm
theorem QnR (h1:1≤n)(hr:∀e∈es,InE n e)(hm:XK es n (m0 n)=m)(h:∀j,j < k→m[j]? =some true)(hk:m.length≤k):true=decide (JC n es):=(decide_eq_true (p:=JC n es) fun j hj=>by
  have hl:(XK es n (m0 n)).length=n:=by rw[Qav]; simp[m0]
  rw[hm] at hl
  exact (Qjo h1 hr j hj).1 (by rw[hm]; exact h j (by omega))).symm
end
end
theorem Qmd {m:List Bool}{k:Nat}{b:Bool}(h:∀j,j < k→m[j]? =some true)(hx:m[k]? =some b)(hb:b=true):∀j,j < k+1→m[j]? =some true:=fun j hj=>by
  by_cases e:j=k
  · rw[e,hx,hb]
  · exact h j (by omega)
theorem Qam (as_:List (Int×Int×Bool×Int))(hl:as_.length≤1000000):FC Tryz.prog 160 [(false,[.dat (.sl 179 (.pr .int (.pr .int (.pr .bool .int)))) as_])] [] 0 (XZ 258 (.pr .int .int) (ZM as_)):=by
 refine QQ Tryz.func160 rfl rfl Tryz.ntmps160 fun O_ hO w0_ N0_ X_ h0_ f0_=> ?_
 iterate 4 refine w_ ?_
 refine lc (Qk 0 (e:=(.pr .int .int)) QbA QbK QbN rfl rfl (List.all_eq_true.1 rfl) ⟨rfl,rfl⟩ (by decide) rfl rfl (Fresh.of rfl) (nlr rfl)) ?_
 iterate 5 refine w_ ?_
 refine AL.fact (QB (x:= .tmp 7) (Qa rfl)) fun hl1=> ?_
 iterate 4 refine w_ ?_
 refine Qy (fun m_ s_=>∃(k:Nat),k≤as_.length∧m_=as_.length - k∧s_=⟨[(2,lf (.val (.slice none 0 0))),(3,lR 1),(7,lf (.dat (.sl 179 (.pr .int (.pr .int (.pr .bool .int)))) as_)),(8,lI (as_.length:Int)),(9,lI (k:Int))],[(1,some (.arr 258 (.pr .int .int) (ZM (as_.take k))))]⟩) ⟨0,Nat.zero_le _,rfl,rfl⟩ ?_ ?_
 · exact Wk.of [(1,0)] rfl ⟨rfl,rfl,rfl,rfl,rfl,trivial⟩ ⟨(Qv (by first | rfl | simp)),trivial⟩ rfl rfl
 rintro m_ s_ ⟨k,hk2,hm3,rfl⟩
 have hsl:(ZM (as_.take k)).length≤as_.length:=by simp only[ZM,List.length_map,List.length_take]; omega
 iterate 4 refine w_ ?_
 cases hb4:(decide ((k:Int) < (as_.length:Int)))
 ·have hb4':=of_decide_eq_false hb4
  refine w_ ?_
  refine QA ?_
  refine (?_:AC _ _ _ _ _)
  iterate 4 refine w_ ?_
  refine Qe ?_
  subst hO
  refine ZC (e:=(.pr .int .int)) (xs:=(ZM (as_.take k))) (Qd rfl (Qc rfl)) rfl ?_
  rw[Zh (by omega)]
 ·have hb4':=of_decide_eq_true hb4
  iterate 5 refine w_ ?_
  obtain ⟨x5,hx6⟩:∃z,as_[k]? =some z:=⟨_,List.getElem?_eq_getElem (by omega)⟩
  refine lc (Qm (Qa rfl) (Qa rfl) Q9 QJ rfl (by omega) hx6) ?_
  refine w_ ?_
  refine lc (Qw 2 (.pr .int (.pr .int (.pr .bool .int))) Zq rfl rfl (Fresh.of rfl) (nlr rfl))<|lc (Qf (Qa rfl) rfl (Qb rfl) rfl QJ rfl) ?_
  iterate 5 refine w_ ?_
  refine AL.fact (Qs (x:= .tmp 15) (Qa rfl)) fun hi7=> ?_
  iterate 2 refine w_ ?_
  refine AL.fact (Qs (x:= .tmp 17) (Qa rfl)) fun hi8=>lc (QC QnP ⟨_,_,rfl,(Qb rfl),⟨_,_,rfl,(Qb rfl),rfl⟩⟩ (List.all_eq_true.1 rfl) rfl rfl)<|lc (Qk 3 (e:=(.pr .int .int)) QbA QbK QbN rfl ⟨_,_,rfl,(Qb rfl),rfl⟩ (List.all_eq_true.1 rfl) ⟨_,_,_,_,rfl,⟨[dI x5.1],[dI x5.2.2.2],_,_,_,_,rfl,rfl,⟨rfl,rfl⟩,⟨rfl,rfl⟩,rfl⟩,⟨rfl,rfl⟩,rfl⟩ (by decide) rfl rfl (Fresh.of rfl) (nlr rfl))<|lc (Q0 4 (Qa rfl) rfl (Qa rfl) rfl rfl QbA Qny (by first | omega | (simp only[List.length_append,List.length_map,List.length_take,List.length_cons,List.length_nil]; omega) | (simp only[List.length_append,List.length_drop,List.length_take,List.length_cons,List.length_nil]; omega)) rfl (Fresh.of rfl) (nlr rfl)) ?_
  refine w_ ?_
  refine Qj ?_
  refine (?_:AC _ _ _ _ _)
  iterate 3 refine w_ ?_
  refine Qj<|QS ⟨k+1,by omega,rfl,rfl⟩ (by omega) ?_
  exact Wk.of [(1,4)] rfl ⟨rfl,rfl,rfl,rfl,rfl,trivial⟩ ⟨(Qv (by rw[Za hx6]; simp[ZM])),trivial⟩ rfl rfl
theorem UE (s:List Int)(v:Int):FC Tryz.prog 224 [(false,[.dat (.sl 3 .int) s]),(false,[dI v])] [] 0 (Zy (lI (ZJ (fun y=>decide (v=y)) s))):=by
 refine QQ Tryz.func224 rfl rfl Tryz.ntmps224 fun O_ hO w0_ N0_ X_ h0_ f0_=> ?_
 refine AC.fact (Qs (x:= .tmp 1) (Qa rfl)) fun hi1=> ?_
 iterate 6 refine w_ ?_
 refine AL.fact (QB (x:= .tmp 6) (Qa rfl)) fun hl2=> ?_
 iterate 4 refine w_ ?_
 refine Qy (fun m_ s_=>∃(k:Nat),k≤s.length∧m_=s.length - k∧(NoneTo (fun y=>decide (v=y)) s k)∧s_=⟨[(0,lf (.dat (.sl 3 .int) s)),(1,lI v),(7,lI (s.length:Int)),(8,lI (k:Int))],[]⟩) ⟨0,Nat.zero_le _,rfl,NoneTo.zero,rfl⟩ ?_ ?_
 · exact Wk.of [] rfl ⟨rfl,rfl,rfl,rfl,trivial⟩ trivial rfl rfl
 rintro m_ s_ ⟨k,hk3,hm4,hno,rfl⟩
 iterate 4 refine w_ ?_
 cases hb5:(decide ((k:Int) < (s.length:Int)))
 ·have hb5':=of_decide_eq_false hb5
  refine w_ ?_
  refine QA ?_
  refine (?_:AC _ _ _ _ _)
  iterate 3 refine w_ ?_
  refine Qe ?_
  subst hO
  have e6:((-1):Int)=(ZJ (fun y=>decide (v=y)) s):=by
   first | exact (hno.no (by omega)).symm
  exact Qg (Qd rfl (Qc rfl)) ((congrArg (fun z_=>lI z_) e6)) rfl
 ·have hb5':=of_decide_eq_true hb5
  iterate 12 refine w_ ?_
  obtain ⟨x7,hx8⟩:∃z,s[k]? =some z:=⟨_,List.getElem?_eq_getElem (by omega)⟩
  refine lc (Qm (Qa rfl) (Qa rfl) QO QD rfl (by omega) hx8) ?_
  refine w_ ?_
  refine AL.fact (Qs (x:= .tmp 15) (Qa rfl)) fun hi9=> ?_
  iterate 2 refine w_ ?_
  cases hb10:(decide (v=x7))
  ·have hb10':=of_decide_eq_false hb10
   refine w_ ?_
   refine AC.skip ?_
   refine (?_:AC _ _ _ _ _)
   iterate 3 refine w_ ?_
   refine Qj<|QS ⟨k+1,by omega,rfl,hno.step hx8 (by assumption),rfl⟩ (by omega) ?_
   exact Wk.of [] rfl ⟨rfl,rfl,rfl,rfl,trivial⟩ trivial rfl rfl
  ·have hb10':=of_decide_eq_true hb10
   iterate 5 refine w_ ?_
   refine Qe ?_
   subst hO
   have e11:((k:Int):Int)=(ZJ (fun y=>decide (v=y)) s):=by
    exact (hno.at hx8 (by assumption)).symm
   exact Qg (Qd rfl (Qc rfl)) ((congrArg (fun z_=>lI z_) e11)) rfl
theorem Xz (s:List Int)(v:Int):FC Tryz.prog 158 [(false,[.dat (.sl 3 .int) s]),(false,[dI v])] [] 0 (Zy (lB (s.any (fun y=>decide (v=y))))):=by
 refine QQ Tryz.func158 rfl rfl Tryz.ntmps158 fun O_ hO w0_ N0_ X_ h0_ f0_=> ?_
 refine AC.fact (Qs (x:= .tmp 1) (Qa rfl)) fun hi1=> ?_
 iterate 6 refine w_ ?_
 refine lc (Qh (UE s v) Qiv ⟨_,_,rfl,(Qb rfl),⟨_,_,rfl,(Qb rfl),rfl⟩⟩ rfl rfl) ?_
 iterate 3 refine w_ ?_
 refine Qe ?_
 subst hO
 have e2:(decide (0≤(ZJ (fun y=>decide (v=y)) s)):Bool)=(s.any (fun y=>decide (v=y))):=by
  exact Ua _ _
 exact Qg (Qd rfl (Qc rfl)) ((congrArg (fun z_=>lB z_) e2)) rfl
theorem Qdy (c:(List (ByteArray×Int))×List ByteArray×(List (Int×Int×Bool×Int)))[Decidable (JC c.2.1.length (ZM c.2.2))](hn:1≤c.2.1.length∧c.2.1.length≤300)(ha:∀a∈c.2.2,InR c.2.1.length a):FC Tryz.prog 152 [(true,[.dat (.sl 145 (.pr .str .int)) c.1, .dat (.sl 9 .str) c.2.1, .dat (.sl 179 (.pr .int (.pr .int (.pr .bool .int)))) c.2.2])] [] 0 (Zy (lB (decide (JC c.2.1.length (ZM c.2.2))))):=by
 have hes:=Qcx ha
 have hrl:(List.replicate c.2.1.length (Ty.zero .bool)).length=c.2.1.length:=List.length_replicate ..
 refine QQ Tryz.func152 rfl rfl Tryz.ntmps152 fun O_ hO w0_ N0_ X_ h0_ f0_=> ?_
 refine w_ ?_
 refine lc (Qr 0 (Qb rfl) rfl rfl (Fresh.of rfl) (nlr rfl)) ?_
 iterate 5 refine w_ ?_
 refine AL.fact (QB (x:= .tmp 9) (Qa rfl)) fun hl1=> ?_
 refine w_ ?_
 refine lc (Vo 1 (e:= .bool) (n:=c.2.1.length) (Qa rfl) (Qa rfl) Wr Qom rfl (by omega) (by omega) rfl (Fresh.of rfl) (nlr rfl)) ?_
 iterate 4 refine w_ ?_
 refine lc (Qq (e:= .bool) (Qa rfl) rfl (QE rfl) Wr ZH rfl (by omega) (by first | omega | (simp only[List.length_set]; omega))) ?_
 obtain ⟨x2,hx3⟩:∃z,(List.replicate c.2.1.length (Ty.zero .bool))[0]? =some z:=⟨_,List.getElem?_eq_getElem (by omega)⟩
 refine lc (Q5 (e:= .bool) (z':=true) (Qa rfl) rfl hx3 rfl (Evl.ev QU) rfl ZH rfl rfl) ?_
 iterate 5 refine w_ ?_
 refine AL.fact (QB (x:= .tmp 15) (Qa rfl)) fun hl4=> ?_
 iterate 4 refine w_ ?_
 refine Qy (fun m_ s_=>∃(p:Nat) (met:List Bool),p≤c.2.1.length∧m_=c.2.1.length - p∧(XK (ZM c.2.2) c.2.1.length (m0 c.2.1.length)=XK (ZM c.2.2) (c.2.1.length - p) met)∧(met.length=c.2.1.length)∧s_=⟨[(1,lP 0 0),(2,lB false),(3,lR 2),(16,lI (c.2.1.length:Int)),(17,lI (p:Int))],[(0,some (.box 59 [.dat (.sl 145 (.pr .str .int)) c.1, .dat (.sl 9 .str) c.2.1, .dat (.sl 179 (.pr .int (.pr .int (.pr .bool .int)))) c.2.2])),(2,some (.arr 4 .bool met))]⟩) ⟨0,(List.replicate c.2.1.length (Ty.zero .bool)).set 0 true,Nat.zero_le _,rfl,rfl,(by simp),rfl⟩ ?_ ?_
 · exact Wk.of [(0,0),(2,1)] rfl ⟨rfl,rfl,rfl,rfl,rfl,trivial⟩ ⟨rfl,(Qv (by first | rfl | simp)),trivial⟩ rfl rfl
 rintro m_ s_ ⟨p,met,hk5,hm6,hA,hL,rfl⟩
 iterate 4 refine w_ ?_
 cases hb7:(decide ((p:Int) < (c.2.1.length:Int)))
 ·have hb7':=of_decide_eq_false hb7
  refine w_ ?_
  refine QA ?_
  refine (?_:AC _ _ _ _ _)
  iterate 7 refine w_ ?_
  refine Qy (fun m_ s_=>∃(k:Nat),k≤met.length∧m_=met.length - k∧(∀j,j < k→met[j]? =some true)∧s_=⟨[(37,lR 2),(38,lI (met.length:Int)),(39,lI (k:Int))],[(2,some (.arr 4 .bool met))]⟩) ⟨0,Nat.zero_le _,rfl,(fun j hj=>absurd hj (Nat.not_lt_zero j)),rfl⟩ ?_ ?_
  · exact Wk.of [(2,2)] rfl ⟨rfl,rfl,rfl,trivial⟩ ⟨rfl,trivial⟩ rfl rfl
  rintro m_ s_ ⟨k,hk8,hm9,hM,rfl⟩
  iterate 4 refine w_ ?_
  cases hb10:(decide ((k:Int) < (met.length:Int)))
  ·have hb10':=of_decide_eq_false hb10
   refine w_ ?_
   refine QA ?_
   refine (?_:AC _ _ _ _ _)
   iterate 3 refine w_ ?_
   refine Qe ?_
   subst hO
   have e11:(true:Bool)=(decide (JC c.2.1.length (ZM c.2.2))):=by
    first | exact QnR hn.1 hes (by rw[hA,show c.2.1.length - p=0 by omega]; rfl) hM (by omega)
   exact Qg (Qd rfl (Qc rfl)) ((congrArg (fun z_=>lB z_) e11)) rfl
  ·have hb10':=of_decide_eq_true hb10
   iterate 5 refine w_ ?_
   refine lc (Qq (e:= .bool) (Qa rfl) rfl (Qa rfl) Wr ZH rfl (by omega) (by first | omega | (simp only[List.length_set]; omega))) ?_
   obtain ⟨x12,hx13⟩:∃z,met[k]? =some z:=⟨_,List.getElem?_eq_getElem (by omega)⟩
   refine lc (Q7 (e:= .bool) (Qa rfl) rfl hx13 rfl ZH rfl rfl) ?_
   iterate 6 refine w_ ?_
   cases hb14:(x12)
   ·iterate 4 refine w_ ?_
    refine Qe ?_
    subst hO
    have e15:(false:Bool)=(decide (JC c.2.1.length (ZM c.2.2))):=by
     exact QoN hn.1 hes (by rw[hA,show c.2.1.length - p=0 by omega]; rfl) hx13 (by assumption)
    exact Qg (Qd rfl (Qc rfl)) ((congrArg (fun z_=>lB z_) e15)) rfl
   ·refine w_ ?_
    refine AC.skip ?_
    refine (?_:AC _ _ _ _ _)
    iterate 3 refine w_ ?_
    refine Qj<|QS ⟨k+1,by omega,rfl,(Qmd hM hx13 (by assumption)),rfl⟩ (by omega) ?_
    exact Wk.of [(2,2)] rfl ⟨rfl,rfl,rfl,trivial⟩ ⟨rfl,trivial⟩ rfl rfl
 ·have hb7':=of_decide_eq_true hb7
  iterate 7 refine w_ ?_
  refine AL.fact (QB (x:= .tmp 20) (Qa rfl)) fun hl16=> ?_
  iterate 4 refine w_ ?_
  refine Qy (fun m_ s_=>∃(i:Nat) (met2:List Bool),i≤c.2.2.length∧m_=c.2.2.length - i∧(XJ (ZM c.2.2) met=XJ ((ZM c.2.2).drop i) met2)∧(met2.length=c.2.1.length)∧s_=⟨[(1,lP 0 0),(2,lB false),(3,lR 3),(16,lI (c.2.1.length:Int)),(17,lI (p:Int)),(18,lB true),(19,lP 0 2),(20,lf (.dat (.sl 179 (.pr .int (.pr .int (.pr .bool .int)))) c.2.2)),(21,lI (c.2.2.length:Int)),(22,lI (i:Int))],[(0,some (.box 59 [.dat (.sl 145 (.pr .str .int)) c.1, .dat (.sl 9 .str) c.2.1, .dat (.sl 179 (.pr .int (.pr .int (.pr .bool .int)))) c.2.2])),(3,some (.arr 4 .bool met2))]⟩) ⟨0,met,Nat.zero_le _,rfl,rfl,hL,rfl⟩ ?_ ?_
  · exact Wk.of [(0,0),(3,2)] rfl ⟨rfl,rfl,rfl,rfl,rfl,rfl,rfl,rfl,rfl,rfl,trivial⟩ ⟨rfl,rfl,trivial⟩ rfl rfl
  rintro m_ s_ ⟨i,met2,hk17,hm18,hA2,hL2,rfl⟩
  iterate 4 refine w_ ?_
  cases hb19:(decide ((i:Int) < (c.2.2.length:Int)))
  ·have hb19':=of_decide_eq_false hb19
   refine w_ ?_
   refine QA ?_
   refine (?_:AC _ _ _ _ _)
   iterate 3 refine w_ ?_
   refine Qj<|QS ⟨p+1,met2,by omega,rfl,(by rw[hA,show c.2.1.length - p=(c.2.1.length - (p+1))+1 by omega,XK,hA2,Qlq (by omega)]),hL2,rfl⟩ (by omega) ?_
   exact Wk.of [(0,0),(2,3)] rfl ⟨rfl,rfl,rfl,rfl,rfl,trivial⟩ ⟨rfl,rfl,trivial⟩ rfl rfl
  ·have hb19':=of_decide_eq_true hb19
   iterate 5 refine w_ ?_
   obtain ⟨ar,hx21⟩:∃z,c.2.2[i]? =some z:=⟨_,List.getElem?_eq_getElem (by omega)⟩
   obtain ⟨⟨hr1,hr2⟩,hr3,hr4⟩:=ha _ (List.mem_of_getElem? hx21)
   refine lc (Qm (Qa rfl) (Qa rfl) Q9 QJ rfl (by omega) hx21) ?_
   refine w_ ?_
   refine lc (Qw 4 (.pr .int (.pr .int (.pr .bool .int))) Zq rfl rfl (Fresh.of rfl) (nlr rfl))<|lc (Qf (Qa rfl) rfl (Qb rfl) rfl QJ rfl) ?_
   iterate 5 refine w_ ?_
   refine AL.fact (Qs (x:= .tmp 28) (Qa rfl)) fun hi22=>lc (Qq (e:= .bool) (Qa rfl) rfl (Qa rfl) Wr ZH rfl (by omega) (by first | omega | (simp only[List.length_set]; omega))) ?_
   obtain ⟨x23,hx24⟩:∃z,met2[(ar.1).toNat]? =some z:=⟨_,List.getElem?_eq_getElem (by omega)⟩
   refine lc (Q7 (e:= .bool) (Qa rfl) rfl hx24 rfl ZH rfl rfl) ?_
   refine w_ ?_
   cases hb25:(x23)
   ·refine w_ ?_
    refine AC.skip ?_
    refine (?_:AC _ _ _ _ _)
    iterate 3 refine w_ ?_
    refine Qj<|QS ⟨i+1,met2,by omega,rfl,(by rw[hA2,Qd2 hx21]; first | rw[Qd8 (by assumption) (by assumption)] | rw[QgR (by assumption) (by assumption)]),(by exact hL2),rfl⟩ (by omega) ?_
    exact Wk.of [(0,0),(3,3)] rfl ⟨rfl,rfl,rfl,rfl,rfl,rfl,rfl,rfl,rfl,rfl,trivial⟩ ⟨rfl,rfl,trivial⟩ rfl rfl
   ·iterate 5 refine w_ ?_
    refine AL.fact (Qs (x:= .tmp 33) (Qa rfl)) fun hi26=>lc (Qq (e:= .bool) (Qa rfl) rfl (Qa rfl) Wr ZH rfl (by omega) (by first | omega | (simp only[List.length_set]; omega))) ?_
    obtain ⟨x27,hx28⟩:∃z,met2[(ar.2.2.2).toNat]? =some z:=⟨_,List.getElem?_eq_getElem (by omega)⟩
    refine lc (Q5 (e:= .bool) (z':=true) (Qa rfl) rfl hx28 rfl (Evl.ev QU) rfl ZH rfl rfl)<|Qj ?_
    refine (?_:AC _ _ _ _ _)
    iterate 3 refine w_ ?_
    refine Qj<|QS ⟨i+1,(met2.set ((ar.2.2.2).toNat) true),by omega,rfl,(by rw[hA2,Qd2 hx21]; first | rw[Qd8 (by assumption) (by assumption)] | rw[QgR (by assumption) (by assumption)]),(by (rw[List.length_set]; exact hL2)),rfl⟩ (by omega) ?_
    exact Wk.of [(0,0),(3,3)] rfl ⟨rfl,rfl,rfl,rfl,rfl,rfl,rfl,rfl,rfl,rfl,trivial⟩ ⟨rfl,(Qv (by first | rfl | simp)),trivial⟩ rfl rfl
end Go.Proofs.YtnakmhfjafecpaaGreat
namespace Go.Proofs.YtnakmhfjafecpaaGreat
open Go.RowKit
set_option maxRecDepth 100000
set_option maxHeartbeats 4000000
structure SgOk (c:DSg):Prop where
  sigs:XL c.1
  some_:1≤c.2.1.length∧c.2.1.length≤300
  few:c.2.2.length≤4000
  codes:∀x∈c.2.1,YQ x (c.1.length:Int)
  arcs:∀a∈c.2.2,YS c a
  all:JC c.2.1.length (ZM c.2.2)
theorem YW {α:Type}{p:α→Prop}{l:List α}{k:Nat}{x:α}(h:∀j,j < k→∀x,l[j]? =some x→p x)(hx:l[k]? =some x)(hp:p x):∀j,j < k+1→∀x,l[j]? =some x→p x:=fun j hj y hy=>by
  by_cases e:j=k
  · subst e; rw[hx] at hy; cases hy; exact hp
  · exact h j (by omega) y hy
theorem Xw {α:Type}{p:α→Prop}{l:List α}{k:Nat}(h:∀j,j < k→∀x,l[j]? =some x→p x)(hk:l.length≤k):∀x∈l,p x:=fun x hx=>by
  obtain ⟨j,hj⟩:=List.mem_iff_getElem?.1 hx
  have:=(List.getElem?_eq_some_iff.1 hj).1
  exact h j (by omega) x hj
theorem XG {c:DSg}{a:DAr}(h:YS c a):InR c.2.1.length a:=by
  obtain ⟨⟨h1,h2⟩,⟨h3,h4⟩,_⟩:=h
  exact ⟨⟨h1,by omega⟩,h3,by omega⟩
section
variable {c:DSg}[Decidable (SgOk c)]{x:ByteArray}{a:DAr}{k i:Nat}
theorem Qna (h:¬XL c.1):false=decide (SgOk c):=(decide_eq_false fun g=>h g.sigs).symm
theorem QmN (h:¬((1:Int)≤(c.2.1.length:Int)∧(c.2.1.length:Int)≤300)):false=decide (SgOk c):=(decide_eq_false fun g=>h (by have:=g.some_; omega)).symm
theorem QmK (h:(4000:Int) < (c.2.2.length:Int)):false=decide (SgOk c):=(decide_eq_false fun g=>by have:=g.few; omega).symm
theorem QlJ (hx:c.2.1[k]? =some x)(h:¬YQ x (c.1.length:Int)):false=decide (SgOk c):=(decide_eq_false fun g=>h (g.codes x (List.mem_of_getElem? hx))).symm
theorem Qdl (hx:c.2.2[k]? =some a)(h:¬YS c a):false=decide (SgOk c):=(decide_eq_false fun g=>h (g.arcs a (List.mem_of_getElem? hx))).symm
theorem QmM [Decidable (JC c.2.1.length (ZM c.2.2))](h1:XL c.1)(h2:(1:Int)≤(c.2.1.length:Int)∧(c.2.1.length:Int)≤300)(h3:¬(4000:Int) < (c.2.2.length:Int))(h4:∀x∈c.2.1,YQ x (c.1.length:Int))(h5:∀a∈c.2.2,YS c a):
    decide (JC c.2.1.length (ZM c.2.2))=decide (SgOk c):=decide_eq_decide.2 ⟨fun h=>⟨h1,by omega,by omega,h4,h5,h⟩,fun g=>g.all⟩
end
theorem Y2 (c:(List (ByteArray×Int))×List ByteArray×(List (Int×Int×Bool×Int)))[∀c,Decidable (SgOk c)]:FC Tryz.prog 80 [(true,[.dat (.sl 145 (.pr .str .int)) c.1, .dat (.sl 9 .str) c.2.1, .dat (.sl 179 (.pr .int (.pr .int (.pr .bool .int)))) c.2.2])] [] 0 (Zy (lB (decide (SgOk c)))):=by
 classical
 refine QQ Tryz.func80 rfl rfl Tryz.ntmps80 fun O_ hO w0_ N0_ X_ h0_ f0_=> ?_
 refine w_ ?_
 refine lc (Qr 0 (Qb rfl) rfl rfl (Fresh.of rfl) (nlr rfl)) ?_
 iterate 6 refine w_ ?_
 refine lc (Qh (Hf c.1) QhB ⟨_,_,rfl,(Qb rfl),rfl⟩ rfl rfl) ?_
 iterate 2 refine w_ ?_
 cases hb1:(decide (XL c.1))
 ·have hb1':=of_decide_eq_false hb1
  iterate 17 refine w_ ?_
  refine Qe ?_
  subst hO
  have e2:(false:Bool)=(decide (SgOk c)):=by
   exact Qna (by assumption)
  exact Qg (Qd rfl (Qc rfl)) ((congrArg (fun z_=>lB z_) e2)) rfl
 ·have hb1':=of_decide_eq_true hb1
  iterate 2 refine w_ ?_
  refine AL.fact (QB (x:= .tmp 13) (Qa rfl)) fun hl3=> ?_
  refine w_ ?_
  refine lgy rfl rfl (Qh (XE (c.2.1.length:Int) 1 300) WI ⟨_,_,rfl,(Qb rfl),⟨_,_,rfl,(Evl.ev (QE rfl)),⟨_,_,rfl,(Evl.ev (QE rfl)),rfl⟩⟩⟩ rfl rfl) ?_
  iterate 3 refine w_ ?_
  cases hb4:(decide (1≤(c.2.1.length:Int)∧(c.2.1.length:Int)≤300))
  ·have hb4':=of_decide_eq_false hb4
   iterate 10 refine w_ ?_
   refine Qe ?_
   subst hO
   have e5:(false:Bool)=(decide (SgOk c)):=by
    exact QmN (by assumption)
   exact Qg (Qd rfl (Qc rfl)) ((congrArg (fun z_=>lB z_) e5)) rfl
  ·have hb4':=of_decide_eq_true hb4
   iterate 2 refine w_ ?_
   refine AL.fact (QB (x:= .tmp 20) (Qa rfl)) fun hl6=> ?_
   iterate 4 refine w_ ?_
   cases hb7:(decide (4000 < (c.2.2.length:Int)))
   ·have hb7':=of_decide_eq_false hb7
    iterate 6 refine w_ ?_
    refine AL.fact (QB (x:= .tmp 25) (Qa rfl)) fun hl8=> ?_
    iterate 4 refine w_ ?_
    refine Qy (fun m_ s_=>∃(k:Nat),k≤c.2.1.length∧m_=c.2.1.length - k∧(∀j,j < k→∀x,c.2.1[j]? =some x→YQ x (c.1.length:Int))∧s_=⟨[(1,lP 0 0),(25,lf (.dat (.sl 9 .str) c.2.1)),(26,lI (c.2.1.length:Int)),(27,lI (k:Int))],[(0,some (.box 59 [.dat (.sl 145 (.pr .str .int)) c.1, .dat (.sl 9 .str) c.2.1, .dat (.sl 179 (.pr .int (.pr .int (.pr .bool .int)))) c.2.2]))]⟩) ⟨0,Nat.zero_le _,rfl,(fun j hj=>absurd hj (Nat.not_lt_zero j)),rfl⟩ ?_ ?_
    · exact Wk.of [(0,0)] rfl ⟨rfl,rfl,rfl,rfl,trivial⟩ ⟨rfl,trivial⟩ rfl rfl
    rintro m_ s_ ⟨k,hk9,hm10,hB,rfl⟩
    iterate 4 refine w_ ?_
    cases hb11:(decide ((k:Int) < (c.2.1.length:Int)))
    ·have hb11':=of_decide_eq_false hb11
     refine w_ ?_
     refine QA ?_
     refine (?_:AC _ _ _ _ _)
     iterate 4 refine w_ ?_
     refine AL.fact (QB (x:= .tmp 39) (Qa rfl)) fun hl12=> ?_
     iterate 4 refine w_ ?_
     refine Qy (fun m_ s_=>∃(i:Nat),i≤c.2.2.length∧m_=c.2.2.length - i∧(∀j,j < i→∀a,c.2.2[j]? =some a→YS c a)∧s_=⟨[(1,lP 0 0),(39,lf (.dat (.sl 179 (.pr .int (.pr .int (.pr .bool .int)))) c.2.2)),(40,lI (c.2.2.length:Int)),(41,lI (i:Int))],[(0,some (.box 59 [.dat (.sl 145 (.pr .str .int)) c.1, .dat (.sl 9 .str) c.2.1, .dat (.sl 179 (.pr .int (.pr .int (.pr .bool .int)))) c.2.2]))]⟩) ⟨0,Nat.zero_le _,rfl,(fun j hj=>absurd hj (Nat.not_lt_zero j)),rfl⟩ ?_ ?_
     · exact Wk.of [(0,0)] rfl ⟨rfl,rfl,rfl,rfl,trivial⟩ ⟨rfl,trivial⟩ rfl rfl
     rintro m_ s_ ⟨i,hk13,hm14,hR,rfl⟩
     iterate 4 refine w_ ?_
     cases hb15:(decide ((i:Int) < (c.2.2.length:Int)))
     ·have hb15':=of_decide_eq_false hb15
      refine w_ ?_
      refine QA ?_
      refine (?_:AC _ _ _ _ _)
      iterate 2 refine w_ ?_
      refine lc (Qh (Qdy c (by omega) (fun a ha=>XG (Xw hR (by omega) a ha))) Qid ⟨_,_,rfl,(Qb rfl),rfl⟩ rfl rfl) ?_
      iterate 2 refine w_ ?_
      refine Qe ?_
      subst hO
      have e16:(decide (JC c.2.1.length (ZM c.2.2)):Bool)=(decide (SgOk c)):=by
       exact QmM (by assumption) (by assumption) (by assumption) (Xw hB (by omega)) (Xw hR (by omega))
      exact Qg (Qd rfl (Qc rfl)) ((congrArg (fun z_=>lB z_) e16)) rfl
     ·have hb15':=of_decide_eq_true hb15
      iterate 5 refine w_ ?_
      obtain ⟨x17,hx18⟩:∃z,c.2.2[i]? =some z:=⟨_,List.getElem?_eq_getElem (by omega)⟩
      refine lc (Qm (Qa rfl) (Qa rfl) Q9 QJ rfl (by omega) hx18) ?_
      refine w_ ?_
      refine lc (Qw 1 (.pr .int (.pr .int (.pr .bool .int))) Zq rfl rfl (Fresh.of rfl) (nlr rfl))<|lc (Qf (Qa rfl) rfl (Qb rfl) rfl QJ rfl) ?_
      iterate 4 refine w_ ?_
      refine lc (Qh (QdA c x17 (Xw hB (by omega)) (by have:=(‹XL c.1›).2.2; omega)) Qh5 ⟨_,_,rfl,(Qb rfl),⟨_,_,rfl,(Qb rfl),rfl⟩⟩ rfl rfl) ?_
      iterate 2 refine w_ ?_
      cases hb19:(decide (YS c x17))
      ·have hb19':=of_decide_eq_false hb19
       iterate 4 refine w_ ?_
       refine Qe ?_
       subst hO
       have e20:(false:Bool)=(decide (SgOk c)):=by
        exact Qdl hx18 (by assumption)
       exact Qg (Qd rfl (Qc rfl)) ((congrArg (fun z_=>lB z_) e20)) rfl
      ·have hb19':=of_decide_eq_true hb19
       refine w_ ?_
       refine AC.skip ?_
       refine (?_:AC _ _ _ _ _)
       iterate 3 refine w_ ?_
       refine Qj<|QS ⟨i+1,by omega,rfl,(YW hR hx18 (by assumption)),rfl⟩ (by omega) ?_
       exact Wk.of [(0,0)] rfl ⟨rfl,rfl,rfl,rfl,trivial⟩ ⟨rfl,trivial⟩ rfl rfl
    ·have hb11':=of_decide_eq_true hb11
     iterate 5 refine w_ ?_
     obtain ⟨x21,hx22⟩:∃z,c.2.1[k]? =some z:=⟨_,List.getElem?_eq_getElem (by omega)⟩
     refine lc (Qm (Qa rfl) (Qa rfl) ZL Zx rfl (by omega) hx22) ?_
     iterate 7 refine w_ ?_
     refine AL.fact (QB (x:= .tmp 33) (Qa rfl)) fun hl23=> ?_
     refine w_ ?_
     refine lc (Qh (QcF x21 (c.1.length:Int)) Qh8 ⟨_,_,rfl,(Qb rfl),⟨_,_,rfl,(Qb rfl),rfl⟩⟩ rfl rfl) ?_
     iterate 2 refine w_ ?_
     cases hb24:(decide (YQ x21 (c.1.length:Int)))
     ·have hb24':=of_decide_eq_false hb24
      iterate 4 refine w_ ?_
      refine Qe ?_
      subst hO
      have e25:(false:Bool)=(decide (SgOk c)):=by
       exact QlJ hx22 (by assumption)
      exact Qg (Qd rfl (Qc rfl)) ((congrArg (fun z_=>lB z_) e25)) rfl
     ·have hb24':=of_decide_eq_true hb24
      refine w_ ?_
      refine AC.skip ?_
      refine (?_:AC _ _ _ _ _)
      iterate 3 refine w_ ?_
      refine Qj<|QS ⟨k+1,by omega,rfl,(YW hB hx22 (by assumption)),rfl⟩ (by omega) ?_
      exact Wk.of [(0,0)] rfl ⟨rfl,rfl,rfl,rfl,trivial⟩ ⟨rfl,trivial⟩ rfl rfl
   ·have hb7':=of_decide_eq_true hb7
    iterate 4 refine w_ ?_
    refine Qe ?_
    subst hO
    have e26:(false:Bool)=(decide (SgOk c)):=by
     exact QmK (by assumption)
    exact Qg (Qd rfl (Qc rfl)) ((congrArg (fun z_=>lB z_) e26)) rfl
end Go.Proofs.YtnakmhfjafecpaaGreat
