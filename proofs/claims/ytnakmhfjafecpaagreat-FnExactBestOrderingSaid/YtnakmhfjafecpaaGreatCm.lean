/- Walks over abstract states: what an ordering costs, the best ordering, both sides. -/
import Derived.Test.YtnakmhfjafecpaaGreatCk
import Derived.Test.YtnakmhfjafecpaaGreatCa
set_option linter.unusedSimpArgs false
set_option linter.unusedVariables false
set_option linter.unusedSectionVars false
namespace Go.Proofs.YtnakmhfjafecpaaGreat
open Go.RowKit
set_option maxRecDepth 100000
set_option maxHeartbeats 4000000
theorem Qjx {n:Nat}{arcs:List DAr}:∀{f k:Nat} {c d:List ByteArray},goS n arcs f k c=some d→d.length=c.length
  | 0,_,c,d,h=>by rw[goS] at h; cases h; rfl
  | f+1,k,c,d,h=>by
    rw[goS] at h
    split at h
    · rw[Qjx h,Qgm]
    · cases h
theorem Qna (p r:QD):Ty.beq (.pr .int (.pr .int .bool)) p r=decide (p=r):=by rw[Bool.eq_iff_iff,Ty.beq_iff,decide_eq_true_iff]
section
variable [∀s,Decidable (StgOk s)]{s:Q5}{o x:QD}{k:Nat}{l:List QD}
theorem QnX (h:(sgV s).2=true):SgW (sgV s).1:=by
  unfold sgV at h ⊢
  split at h
  · rename_i h1
    rw[if_pos h1]
    obtain ⟨hs,hN1,hN2,_,hM,hL⟩:=Zo h1.1
    split at h
    · rename_i c hg
      have hl:=Qjx hg
      rw[List.length_replicate] at hl
      refine ⟨hs.sigs.2.2,⟨by show 1≤c.length; omega,by show c.length≤300; omega⟩, ?_, ?_⟩
      · show (QP _ _).length ≤ _
        unfold QP
        rw[List.length_map]; omega
      · intro a ha
        refine ⟨?_, ?_⟩
        · show InR c.length a
          rw[hl]; exact Vi hM a ha
        · obtain ⟨v, hv, rfl⟩ := List.mem_map.1 ha
          obtain ⟨_,⟨h2,h3⟩,_⟩:=hM v hv
          obtain ⟨l,hl2⟩:∃l,s.2.2.1[v.2.1.toNat]? =some l:=⟨_,List.getElem?_eq_getElem (by omega)⟩
          have h4:=hs.labs l (List.mem_of_getElem? hl2)
          show Qkn (s.2.1.length:Int) ((Qb9 s.2.2.1 v.2.1).1,(Qb9 s.2.2.1 v.2.1).2)
          rw[Qbj hl2]; exact h4
    · cases h
  · cases h
theorem QjF (h:Zw s o=true):J3 s o∧(ZB s o).1=Q2 s o∧(Zf s o).1=Q2 s o∧(sgV (Q2 s o)).2=true:=by
  unfold Zw at h
  simp only[Bool.and_eq_true] at h
  obtain ⟨h1,h2,_⟩:=h
  have h3:J3 s o∧(ZB s o).1=Q2 s o:=by
    unfold ZB at h1 ⊢
    split at h1
    · rename_i g
      rw[if_pos g]
      unfold Zu at h1 ⊢
      split at h1
      · rename_i g2; rw[if_pos g2]; exact ⟨g,rfl⟩
      · cases h1
    · cases h1
  refine ⟨h3.1,h3.2, ?_, ?_⟩
  · rw[Vd.2 (by rw[Vd.1]; exact h1),h3.2]
  · rw [h3.2] at h2
    cases hb:(sgV (Q2 s o)).2 with
    | true=>rfl
    | false=>rw[QfG hb] at h2; cases h2
theorem QmI {a b:Int}{ms:List Bool}(h:o∈Wq s a b ms):Zw s o=true:=by
  unfold Wq at h
  obtain ⟨m,hm,rfl⟩:=List.mem_map.1 h
  have:=(List.mem_filter.1 hm).2
  simp only[Bool.and_eq_true] at this
  exact this.2
theorem Qgp (h:o∈Yc s):Zw s o=true:=by
  rw[Qg4] at h
  obtain ⟨p,_,h⟩:=List.mem_flatMap.1 h
  exact QmI h
theorem QdM (h:o∈XP s):Zw s o=true:=by
  unfold XP at h
  split at h
  · exact Qgp h
  · cases h
def ocG (s:Q5)(o:QD):DSg:=(sgV (Q2 s o)).1
def oc1 (s:Q5)(o:QD):Int:=((W7 (ocG s o)).length:Int)
def oc2 (s:Q5)(o:QD):Int:=((ocG s o).2.1.length:Int)
def ocB (s:Q5)(o:QD):Bool:=(XP s).any fun y=>decide (o=y)
def ox1 (s:Q5)(o:QD):Int:=if ocB s o=true then oc1 s o else 0
def ox2 (s:Q5)(o:QD):Int:=if ocB s o=true then oc2 s o else 0
theorem QfP (h:ocB s o=true):Zw s o=true:=by
  obtain ⟨y,hy,e⟩:=List.any_eq_true.1 h
  rw[of_decide_eq_true e]; exact QdM hy
theorem UV (h:ocB s o=false):ox1 s o=0∧ox2 s o=0∧false=ocB s o:=⟨if_neg (by rw[h]; decide),if_neg (by rw[h]; decide),h.symm⟩
theorem Qai (h:ocB s o=true):ox1 s o=oc1 s o∧ox2 s o=oc2 s o∧true=ocB s o:=⟨if_pos h,if_pos h,h.symm⟩
theorem K3 (h:(sgV s).2=false):ocB s o=false:=by unfold ocB; rw[← QeS h]; rfl
theorem Qfe (h:(sgV s).2=true)(hx:(Yc s)[k]? =some x)(e:Ty.beq (.pr .int (.pr .int .bool)) x o=true):ocB s o=true:=by
  unfold ocB
  rw[← Hu h]
  exact List.any_eq_true.2 ⟨x,List.mem_of_getElem? hx,by rw[Qna] at e; rw[of_decide_eq_true e]; exact decide_eq_true rfl⟩
theorem QfF (h:(sgV s).2=true)(hn:NoneTo (fun y=>Ty.beq (.pr .int (.pr .int .bool)) y o) (Yc s) k)(hk:(Yc s).length≤k):ocB s o=false:=by
  unfold ocB
  rw[← Hu h,← hn.any_no hk]
  congr 1
  funext y
  rw[Qna]
  exact decide_eq_decide.2 eq_comm
theorem Qov:0≤oc1 s o:=Int.natCast_nonneg _
def Qlt (s:Q5)(a:QD×Int×Int)(o:QD):QD×Int×Int:=
  if a.2.1 < 0∨oc1 s o < a.2.1∨(oc1 s o=a.2.1∧a.2.2 < oc2 s o) then (o,oc1 s o,oc2 s o) else a
def Jm (s:Q5)(l:List QD):QD×Int×Int:=l.foldl (Qlt s) ((0,0,false), -1,0)
theorem W4 (hx:l[k]? =some x):Jm s (l.take (k+1))=Qlt s (Jm s (l.take k)) x:=by
  unfold Jm; rw[QW hx,List.foldl_append]; rfl
theorem QmD (hx:l[k]? =some x):0≤(Jm s (l.take (k+1))).2.1:=by
  rw[W4 hx]
  unfold Qlt
  split
  · exact Qov
  · rename_i h
    have:¬(Jm s (l.take k)).2.1 < 0:=fun g=>h (.inl g)
    omega
theorem QdQ (hk:0 < k)(hl:k≤l.length):0≤(Jm s (l.take k)).2.1:=by
  obtain ⟨j,rfl⟩:∃j,k=j+1:=⟨k - 1,by omega⟩
  exact QmD (List.getElem?_eq_getElem (by omega))
def BeS (s:Q5)(l:List QD)(k:Nat)(b:QD)(c t:Int):Prop:=Jm s (l.take k)=(b,c,t)
def BeI (s:Q5)(l:List QD)(k:Nat)(b:QD)(c t:Int):Prop:=Jm s (l.take k)=(b,if k=0 then -1 else c,t)∧(k=0→c=0)
theorem QeQ {b:QD}{c t:Int}(hx:l[k]? =some x)(h:BeS s l k b c t)(hc:c < 0∨oc1 s x < c∨(oc1 s x=c∧t < oc2 s x)):BeS s l (k+1) x (oc1 s x) (oc2 s x):=by
  unfold BeS at*
  rw[W4 hx,h]; exact if_pos hc
theorem Qjl {b:QD}{c t:Int}(hx:l[k]? =some x)(h:BeS s l k b c t)(hc:¬(c < 0∨oc1 s x < c∨(oc1 s x=c∧t < oc2 s x))):BeS s l (k+1) b c t:=by
  unfold BeS at*
  rw[W4 hx,h]; exact if_neg hc
theorem Qfa {b:QD}{c t:Int}(hx:l[k]? =some x)(h:BeI s l k b c t)(hc:k=0∨oc1 s x < c∨(oc1 s x=c∧t < oc2 s x)):BeI s l (k+1) x (oc1 s x) (oc2 s x):=by
  unfold BeI at*
  refine ⟨?_,fun e=>by omega⟩
  rw[W4 hx,h.1,if_neg (Nat.succ_ne_zero k)]
  refine if_pos ?_
  by_cases e:k=0
  · left; show (if k=0 then -1 else c) < 0; rw[if_pos e]; decide
  · right
    show oc1 s x < (if k=0 then -1 else c)∨(oc1 s x=(if k=0 then -1 else c)∧t < oc2 s x)
    rw[if_neg e]
    rcases hc with hc | hc
    · exact absurd hc e
    · exact hc
theorem Qjh {b:QD}{c t:Int}(hx:l[k]? =some x)(h:BeI s l k b c t)(h0:¬k=0)(h1:¬oc1 s x < c)(h2:¬(oc1 s x=c∧t < oc2 s x)):BeI s l (k+1) b c t:=by
  have hp:=QdQ (s:=s) (Nat.pos_of_ne_zero h0) (Nat.le_of_lt (List.getElem?_eq_some_iff.1 hx).1)
  unfold BeI at*
  refine ⟨?_,fun e=>by omega⟩
  obtain ⟨h,_⟩:=h
  rw[if_neg h0] at h
  rw[W4 hx,h,if_neg (Nat.succ_ne_zero k)]
  rw[h] at hp
  have hp:0≤c:=hp
  refine if_neg ?_
  rintro (g | g | g)
  · have g : c < 0 := g
    omega
  · exact h1 g
  · exact h2 g
def boV (s:Q5):QD:=(Jm s (XP s)).1
def boB (s:Q5):Bool:=decide (0 < ((XP s).length:Int))
theorem Qfp (h:(sgV s).2=false):boV s=(0,0,false)∧boB s=false:=by unfold boV boB; rw[← QeS h]; exact ⟨rfl,rfl⟩
theorem Qfw {b:QD}{c t:Int}(h:BeI s (XP s) k b c t)(hk:(XP s).length≤k):b=boV s:=by
  unfold BeI at h
  rw[List.take_of_length_le hk] at h
  unfold boV; rw[h.1]
theorem Qbf {b:QD}{c t:Int}(hs:(sgV s).2=true)(h:BeS s (Yc s) k b c t)(hk:(Yc s).length≤k):b=boV s∧decide (0≤c)=boB s:=by
  unfold BeS at h
  rw[List.take_of_length_le hk] at h
  unfold boV boB
  rw[← Hu hs,h]
  refine ⟨rfl,decide_eq_decide.2 ⟨fun g=> ?_,fun g=> ?_⟩⟩
  · by_cases e : Yc s = []
    · rw[e] at h; unfold Jm at h; cases h; omega
    · have:=List.length_pos_iff.2 e; omega
  · have hp := QdQ (s := s) (l := Yc s) (k := (Yc s).length) (by omega) (Nat.le_refl _)
    rw[List.take_length,h] at hp; exact hp
end
theorem Wl (s:(Int×(List (List Int×List Int)))×(List (ByteArray×Int))×(List (Int×Bool))×ByteArray)(o:Int×Int×Bool)[∀s,Decidable (StgOk s)](hz:Ty.tot Y8 s≤2000000)(hg:Zw s o=true):FC Tryz.prog 98 [(true,[dI s.1.1, .dat (.sl 159 (.pr (.sl 3 .int) (.sl 3 .int))) s.1.2, .dat (.sl 145 (.pr .str .int)) s.2.1, .dat (.sl 61 (.pr .int .bool)) s.2.2.1,dS s.2.2.2]),(true,[dI o.1,dI o.2.1,dB o.2.2])] [] 0 (Zq (PV.tup [(false,[dI (oc1 s o)]),(false,[dI (oc2 s o)])])):=by
 obtain ⟨⟨hso,hoa,hob,hoc⟩,hv1,hv2,hv3⟩:=QjF hg
 have hll:=Qv hso
 refine QN Tryz.func98 rfl rfl Tryz.ntmps98 fun O_ hO w0_ N0_ X_ h0_ f0_=> ?_
 refine AC.fact (QG (x:= .tmp 0) (i:=0) (Qb rfl) rfl) fun hi1=>AC.fact (QG (x:= .tmp 1) (i:=0) (Qb rfl) rfl) fun hi2=>AC.fact (QG (x:= .tmp 1) (i:=1) (Qb rfl) rfl) fun hi3=> ?_
 refine w_ ?_
 refine lc (Qw 0 (Qb rfl) rfl rfl (Fresh.of rfl) (nlr rfl))<|lc (Qw 1 (Qb rfl) rfl rfl (Fresh.of rfl) (nlr rfl)) ?_
 iterate 6 refine w_ ?_
 refine lc (Qn (UW s o hz hoa hob hoc (Jy hso)).frozenG QbS ⟨_,_,rfl,(Qb rfl),⟨_,_,rfl,(Qb rfl),rfl⟩⟩ rfl rfl)<|lc (Qn (Yn (Q2 s o)).frozenG Qaw ⟨_,_,rfl,(Qb rfl),rfl⟩ rfl rfl) ?_
 iterate 3 refine w_ ?_
 refine lc (Qp 2 (.pr (.sl 145 (.pr .str .int)) (.pr (.sl 9 .str) (.sl 179 (.pr .int (.pr .int (.pr .bool .int)))))) VR rfl rfl (Fresh.of rfl) (nlr rfl))<|lc (Qe (Qa rfl) rfl (Qb rfl) rfl ZA rfl) ?_
 iterate 2 refine w_ ?_
 refine dw [io 15 (ag [.dat (.sl 145 (.pr .str .int)) (((sgV (Q2 s o)).1).1), .dat (.sl 9 .str) (((sgV (Q2 s o)).1).2.1), .dat (.sl 179 (.pr .int (.pr .int (.pr .bool .int)))) (((sgV (Q2 s o)).1).2.2)]),io 16 (lf (.dat (.sl 106 (.sl 3 .int)) (W7 ((sgV (Q2 s o)).1)))),io 17 (lI ((W7 ((sgV (Q2 s o)).1)).length:Int)),io 18 (lP 2 1),io 19 (lf (.dat (.sl 9 .str) (((sgV (Q2 s o)).1).2.1))),io 20 (lI ((((sgV (Q2 s o)).1).2.1).length:Int)),io 4 (lI ((W7 ((sgV (Q2 s o)).1)).length:Int)),io 5 (lI ((((sgV (Q2 s o)).1).2.1).length:Int))] [0,1,3,0,8,24,7,127] mixed rfl (by kernel_rfl) ⟨dxa ZA rfl rfl rfl rfl,fun _ h_=>ac (Qn (HT ((sgV (Q2 s o)).1) (QnX hv3)) QkF ⟨_,_,rfl,(h_.w rfl),rfl⟩ rfl rfl) rfl,fun _ h_=>ac (V5 (h_.v rfl) rfl Q1) rfl,dxf W8 rfl rfl rfl,dxl Xe rfl rfl rfl rfl rfl,fun _ h_=>ac (V5 (h_.v rfl) rfl Zi) rfl,dxt rfl rfl,dxt rfl rfl,⟨⟩⟩<|Qf ?_
 subst hO
 have e4:(((W7 ((sgV (Q2 s o)).1)).length:Int):Int)=(oc1 s o):=by
  rfl
 have e5:(((((sgV (Q2 s o)).1).2.1).length:Int):Int)=(oc2 s o):=by
  rfl
 exact Ql (QC rfl (Qd rfl) (Qd rfl)) (((congrArg (fun z_=>PV.tup [(false,[dI z_]),(false,[dI ((((sgV (Q2 s o)).1).2.1).length:Int)])]) e4)).trans (congrArg (fun z_=>PV.tup [(false,[dI (oc1 s o)]),(false,[dI z_])]) e5)) rfl
theorem UX (s:(Int×(List (List Int×List Int)))×(List (ByteArray×Int))×(List (Int×Bool))×ByteArray)(o:Int×Int×Bool)[∀s,Decidable (StgOk s)](hz:Ty.tot Y8 s≤2000000)(hg:Zw s o=true):FC Tryz.prog 96 [(true,[dI s.1.1, .dat (.sl 159 (.pr (.sl 3 .int) (.sl 3 .int))) s.1.2, .dat (.sl 145 (.pr .str .int)) s.2.1, .dat (.sl 61 (.pr .int .bool)) s.2.2.1,dS s.2.2.2]),(true,[dI o.1,dI o.2.1,dB o.2.2])] [] 0 (Zq (PV.tup [(false,[dI (oc1 s o)]),(false,[dI (oc2 s o)])])):=by
 obtain ⟨⟨hso,hoa,hob,hoc⟩,hv1,hv2,hv3⟩:=QjF hg
 have hll:=Qv hso
 refine QN Tryz.func96 rfl rfl Tryz.ntmps96 fun O_ hO w0_ N0_ X_ h0_ f0_=> ?_
 refine AC.fact (QG (x:= .tmp 0) (i:=0) (Qb rfl) rfl) fun hi1=>AC.fact (QG (x:= .tmp 1) (i:=0) (Qb rfl) rfl) fun hi2=>AC.fact (QG (x:= .tmp 1) (i:=1) (Qb rfl) rfl) fun hi3=> ?_
 refine w_ ?_
 refine lc (Qw 0 (Qb rfl) rfl rfl (Fresh.of rfl) (nlr rfl))<|lc (Qw 1 (Qb rfl) rfl rfl (Fresh.of rfl) (nlr rfl)) ?_
 iterate 6 refine w_ ?_
 refine lc (Qn (Kz s o hz).frozenG Qcs ⟨_,_,rfl,(Qb rfl),⟨_,_,rfl,(Qb rfl),rfl⟩⟩ rfl rfl) ?_
 iterate 3 refine w_ ?_
 refine lc (Qp 2 (.pr (.pr .int (.sl 159 (.pr (.sl 3 .int) (.sl 3 .int)))) (.pr (.sl 145 (.pr .str .int)) (.pr (.sl 61 (.pr .int .bool)) .str))) XH rfl rfl (Fresh.of rfl) (nlr rfl))<|lc (Qe (Qa rfl) rfl (Qb rfl) rfl Q9 rfl) ?_
 iterate 4 refine w_ ?_
 refine lc (Qn (Xt ((Zf s o).1)).frozenG QcG ⟨_,_,rfl,(Qb rfl),rfl⟩ rfl rfl) ?_
 iterate 3 refine w_ ?_
 refine lc (Qp 3 (.pr (.sl 145 (.pr .str .int)) (.pr (.sl 9 .str) (.sl 179 (.pr .int (.pr .int (.pr .bool .int)))))) VR rfl rfl (Fresh.of rfl) (nlr rfl))<|lc (Qe (Qa rfl) rfl (Qb rfl) rfl ZA rfl) ?_
 iterate 2 refine w_ ?_
 refine dw [io 21 (ag [.dat (.sl 145 (.pr .str .int)) (((sgV ((Zf s o).1)).1).1), .dat (.sl 9 .str) (((sgV ((Zf s o).1)).1).2.1), .dat (.sl 179 (.pr .int (.pr .int (.pr .bool .int)))) (((sgV ((Zf s o).1)).1).2.2)]),⟨some 22,lR 4,[(4,some (.arr 106 (.sl 3 .int) (W7 ((sgV ((Zf s o).1)).1))))]⟩,io 23 (lI ((W7 ((sgV ((Zf s o).1)).1)).length:Int)),io 24 (lP 3 1),io 25 (lf (.dat (.sl 9 .str) (((sgV ((Zf s o).1)).1).2.1))),io 26 (lI ((((sgV ((Zf s o).1)).1).2.1).length:Int)),io 4 (lI ((W7 ((sgV ((Zf s o).1)).1)).length:Int)),io 5 (lI ((((sgV ((Zf s o).1)).1).2.1).length:Int))] [0,1,3,0,8,24,7,127] mixed rfl (by kernel_rfl) ⟨dxa ZA rfl rfl rfl rfl,fun _ h_=>ac (Yq 4 (Jv ((sgV ((Zf s o).1)).1) (by rw[hv2]; exact QnX hv3)) Qkr ⟨_,_,rfl,(h_.w rfl),rfl⟩ rfl (h_.fr 4 rfl) (nlr rfl)) rfl,fun _ h_=>ac (KU (h_.v rfl) (h_.n 4 rfl) rfl Q1) rfl,dxf W8 rfl rfl rfl,dxl Xe rfl rfl rfl rfl rfl,fun _ h_=>ac (V5 (h_.v rfl) rfl Zi) rfl,dxt rfl rfl,dxt rfl rfl,⟨⟩⟩<|Qf ?_
 subst hO
 have e4:(((W7 ((sgV ((Zf s o).1)).1)).length:Int):Int)=(oc1 s o):=by
  (rw[hv2]; rfl)
 have e5:(((((sgV ((Zf s o).1)).1).2.1).length:Int):Int)=(oc2 s o):=by
  (rw[hv2]; rfl)
 exact Ql (QC rfl (Qd rfl) (Qd rfl)) (((congrArg (fun z_=>PV.tup [(false,[dI z_]),(false,[dI ((((sgV ((Zf s o).1)).1).2.1).length:Int)])]) e4)).trans (congrArg (fun z_=>PV.tup [(false,[dI (oc1 s o)]),(false,[dI z_])]) e5)) rfl
theorem Yp (s:List (Int×Int×Bool))(v:Int×Int×Bool):FC Tryz.prog 177 [(false,[.dat (.sl 85 (.pr .int (.pr .int .bool))) s]),(true,[dI v.1,dI v.2.1,dB v.2.2])] [] 0 (Zq (lI (ZH (fun y=>decide (v=y)) s))):=by
 refine QN Tryz.func177 rfl rfl Tryz.ntmps177 fun O_ hO w0_ N0_ X_ h0_ f0_=> ?_
 refine AC.fact (QG (x:= .tmp 1) (i:=0) (Qb rfl) rfl) fun hi1=>AC.fact (QG (x:= .tmp 1) (i:=1) (Qb rfl) rfl) fun hi2=> ?_
 refine w_ ?_
 refine lc (Qw 0 (Qb rfl) rfl rfl (Fresh.of rfl) (nlr rfl)) ?_
 iterate 5 refine w_ ?_
 refine AL.fact (Qq (x:= .tmp 6) (Qa rfl)) fun hl3=> ?_
 iterate 4 refine w_ ?_
 refine Qx (fun m_ s_=>∃(k:Nat),k≤s.length∧m_=s.length - k∧(NoneTo (fun y=>decide (v=y)) s k)∧s_=⟨[(0,lf (.dat (.sl 85 (.pr .int (.pr .int .bool))) s)),(3,lP 0 0),(7,lI (s.length:Int)),(8,lI (k:Int))],[(0,some (.box 85 [dI v.1,dI v.2.1,dB v.2.2]))]⟩) ⟨0,Nat.zero_le _,rfl,NoneTo.zero,rfl⟩ ?_ ?_
 · exact Wk.of [(0,0)] rfl ⟨rfl,rfl,rfl,rfl,trivial⟩ ⟨rfl,trivial⟩ rfl rfl
 rintro m_ s_ ⟨k,hk4,hm5,hno,rfl⟩
 iterate 4 refine w_ ?_
 cases hb6:(decide ((k:Int) < (s.length:Int)))
 ·have hb6':=of_decide_eq_false hb6
  refine w_ ?_
  refine QB ?_
  refine (?_:AC _ _ _ _ _)
  iterate 3 refine w_ ?_
  refine Qf ?_
  subst hO
  have e7:((-1):Int)=(ZH (fun y=>decide (v=y)) s):=by
   first | exact (hno.no (by omega)).symm
  exact Ql (Qm rfl (Qd rfl)) ((congrArg (fun z_=>lI z_) e7)) rfl
 ·have hb6':=of_decide_eq_true hb6
  iterate 8 refine w_ ?_
  obtain ⟨x8,hx9⟩:∃z,s[k]? =some z:=⟨_,List.getElem?_eq_getElem (by omega)⟩
  refine dw [io 11 (ag [dI v.1,dI v.2.1,dB v.2.2]),io 12 (lf (.dat (.sl 85 (.pr .int (.pr .int .bool))) s)),io 13 (lI (k:Int)),io 14 (lf (.elt (.pr .int (.pr .int .bool)) x8 0)),io 15 (ag [dI x8.1,dI x8.2.1,dB x8.2.2]),io 16 (lB (Ty.beq (.pr .int (.pr .int .bool)) v x8))] [0,0,0,6,14,31] mixed rfl (by kernel_rfl) ⟨dxa ZF rfl rfl rfl rfl,dxm rfl rfl,dxm rfl rfl,fun _ h_=>ac (Qh (h_.v rfl) (h_.v rfl) Uz ZF rfl (by omega) hx9) rfl,fun _ h_=>ac (Z1 (h_.v rfl) ZF rfl rfl) rfl,fun _ h_=>ac (Qew Qlb Qmh (h_.w rfl) (h_.w rfl) (p:=v) (q:=x8) rfl rfl rfl) rfl,⟨⟩⟩ ?_
  cases hb10:(Ty.beq (.pr .int (.pr .int .bool)) v x8)
  ·refine w_ ?_
   refine AC.skip ?_
   refine (?_:AC _ _ _ _ _)
   iterate 3 refine w_ ?_
   refine Qk<|QU ⟨k+1,by omega,rfl,hno.step hx9 ((Qna _ _).symm.trans (by assumption)),rfl⟩ (by omega) ?_
   exact Wk.of [(0,0)] rfl ⟨rfl,rfl,rfl,rfl,trivial⟩ ⟨rfl,trivial⟩ rfl rfl
  ·iterate 5 refine w_ ?_
   refine Qf ?_
   subst hO
   have e11:((k:Int):Int)=(ZH (fun y=>decide (v=y)) s):=by
    exact (hno.at hx9 ((Qna _ _).symm.trans (by assumption))).symm
   exact Ql (Qm rfl (Qd rfl)) ((congrArg (fun z_=>lI z_) e11)) rfl
theorem Ye (s:List (Int×Int×Bool))(v:Int×Int×Bool):FC Tryz.prog 97 [(false,[.dat (.sl 85 (.pr .int (.pr .int .bool))) s]),(true,[dI v.1,dI v.2.1,dB v.2.2])] [] 0 (Zq (lB (s.any (fun y=>decide (v=y))))):=by
 refine QN Tryz.func97 rfl rfl Tryz.ntmps97 fun O_ hO w0_ N0_ X_ h0_ f0_=> ?_
 refine AC.fact (QG (x:= .tmp 1) (i:=0) (Qb rfl) rfl) fun hi1=>AC.fact (QG (x:= .tmp 1) (i:=1) (Qb rfl) rfl) fun hi2=> ?_
 refine w_ ?_
 refine lc (Qw 0 (Qb rfl) rfl rfl (Fresh.of rfl) (nlr rfl)) ?_
 iterate 5 refine w_ ?_
 refine lc (Qn (Yp s v) Qh9 ⟨_,_,rfl,(Qb rfl),⟨_,_,rfl,(Qb rfl),rfl⟩⟩ rfl rfl) ?_
 iterate 3 refine w_ ?_
 refine Qf ?_
 subst hO
 have e3:(decide (0≤(ZH (fun y=>decide (v=y)) s)):Bool)=(s.any (fun y=>decide (v=y))):=by
  exact W6 _ _
 exact Ql (Qm rfl (Qd rfl)) ((congrArg (fun z_=>lB z_) e3)) rfl
theorem KE (s:(Int×(List (List Int×List Int)))×(List (ByteArray×Int))×(List (Int×Bool))×ByteArray)(o:Int×Int×Bool)[∀s,Decidable (StgOk s)](hz:Ty.tot Y8 s≤2000000):FC Tryz.prog 42 [(true,[dI s.1.1, .dat (.sl 159 (.pr (.sl 3 .int) (.sl 3 .int))) s.1.2, .dat (.sl 145 (.pr .str .int)) s.2.1, .dat (.sl 61 (.pr .int .bool)) s.2.2.1,dS s.2.2.2]),(true,[dI o.1,dI o.2.1,dB o.2.2])] [] 0 (Zq (PV.tup [(false,[dI (ox1 s o)]),(false,[dI (ox2 s o)]),(false,[dB (ocB s o)])])):=by
 refine QN Tryz.func42 rfl rfl Tryz.ntmps42 fun O_ hO w0_ N0_ X_ h0_ f0_=> ?_
 refine AC.fact (QG (x:= .tmp 0) (i:=0) (Qb rfl) rfl) fun hi1=>AC.fact (QG (x:= .tmp 1) (i:=0) (Qb rfl) rfl) fun hi2=>AC.fact (QG (x:= .tmp 1) (i:=1) (Qb rfl) rfl) fun hi3=> ?_
 refine w_ ?_
 refine lc (Qw 0 (Qb rfl) rfl rfl (Fresh.of rfl) (nlr rfl))<|lc (Qw 1 (Qb rfl) rfl rfl (Fresh.of rfl) (nlr rfl)) ?_
 iterate 6 refine w_ ?_
 refine lc (Qn (YE s hz).frozenG Qeq ⟨_,_,rfl,(Qb rfl),rfl⟩ rfl rfl) ?_
 iterate 11 refine w_ ?_
 cases hb4:((sgV s).2)
 ·iterate 12 refine w_ ?_
  refine Qf ?_
  subst hO
  have e5:(0:Int)=(ox1 s o):=by
   exact Eq.symm (UV (K3 (by assumption))).1
  have e6:(0:Int)=(ox2 s o):=by
   exact Eq.symm (UV (K3 (by assumption))).2.1
  have e7:(false:Bool)=(ocB s o):=by
   exact (UV (K3 (by assumption))).2.2
  exact Ql (XA rfl (Qd rfl) (Qd rfl) (Qd rfl)) ((((congrArg (fun z_=>PV.tup [(false,[dI z_]),(false,[dI 0]),(false,[dB false])]) e5)).trans (congrArg (fun z_=>PV.tup [(false,[dI (ox1 s o)]),(false,[dI z_]),(false,[dB false])]) e6)).trans (congrArg (fun z_=>PV.tup [(false,[dI (ox1 s o)]),(false,[dI (ox2 s o)]),(false,[dB z_])]) e7)) rfl
 ·iterate 2 refine w_ ?_
  refine lgy rfl rfl (Qn (Ye (XP s) o) Qku ⟨_,_,rfl,(Qb rfl),⟨_,_,rfl,(Qb rfl),rfl⟩⟩ rfl rfl) ?_
  iterate 3 refine w_ ?_
  cases hb8:((XP s).any (fun y=>decide (o=y)))
  ·iterate 6 refine w_ ?_
   refine Qf ?_
   subst hO
   have e9:(0:Int)=(ox1 s o):=by
    exact Eq.symm (UV (by assumption)).1
   have e10:(0:Int)=(ox2 s o):=by
    exact Eq.symm (UV (by assumption)).2.1
   have e11:(false:Bool)=(ocB s o):=by
    exact (UV (by assumption)).2.2
   exact Ql (XA rfl (Qd rfl) (Qd rfl) (Qd rfl)) ((((congrArg (fun z_=>PV.tup [(false,[dI z_]),(false,[dI 0]),(false,[dB false])]) e9)).trans (congrArg (fun z_=>PV.tup [(false,[dI (ox1 s o)]),(false,[dI z_]),(false,[dB false])]) e10)).trans (congrArg (fun z_=>PV.tup [(false,[dI (ox1 s o)]),(false,[dI (ox2 s o)]),(false,[dB z_])]) e11)) rfl
  ·iterate 5 refine w_ ?_
   refine lc (Qn (Wl s o hz (QfP (by assumption))) QdK ⟨_,_,rfl,(Qb rfl),⟨_,_,rfl,(Qb rfl),rfl⟩⟩ rfl rfl) ?_
   iterate 13 refine w_ ?_
   refine Qf ?_
   subst hO
   have e12:(oc1 s o:Int)=(ox1 s o):=by
    exact Eq.symm (Qai (by assumption)).1
   have e13:(oc2 s o:Int)=(ox2 s o):=by
    exact Eq.symm (Qai (by assumption)).2.1
   have e14:(true:Bool)=(ocB s o):=by
    exact (Qai (by assumption)).2.2
   exact Ql (XA rfl (Qd rfl) (Qd rfl) (Qd rfl)) ((((congrArg (fun z_=>PV.tup [(false,[dI z_]),(false,[dI (oc2 s o)]),(false,[dB true])]) e12)).trans (congrArg (fun z_=>PV.tup [(false,[dI (ox1 s o)]),(false,[dI z_]),(false,[dB true])]) e13)).trans (congrArg (fun z_=>PV.tup [(false,[dI (ox1 s o)]),(false,[dI (ox2 s o)]),(false,[dB z_])]) e14)) rfl
theorem Kk (s:(Int×(List (List Int×List Int)))×(List (ByteArray×Int))×(List (Int×Bool))×ByteArray)(o:Int×Int×Bool)[∀s,Decidable (StgOk s)](hz:Ty.tot Y8 s≤2000000):FC Tryz.prog 40 [(true,[dI s.1.1, .dat (.sl 159 (.pr (.sl 3 .int) (.sl 3 .int))) s.1.2, .dat (.sl 145 (.pr .str .int)) s.2.1, .dat (.sl 61 (.pr .int .bool)) s.2.2.1,dS s.2.2.2]),(true,[dI o.1,dI o.2.1,dB o.2.2])] [] 0 (Zq (PV.tup [(false,[dI (ox1 s o)]),(false,[dI (ox2 s o)]),(false,[dB (ocB s o)])])):=by
 refine QN Tryz.func40 rfl rfl Tryz.ntmps40 fun O_ hO w0_ N0_ X_ h0_ f0_=> ?_
 refine AC.fact (QG (x:= .tmp 0) (i:=0) (Qb rfl) rfl) fun hi1=>AC.fact (QG (x:= .tmp 1) (i:=0) (Qb rfl) rfl) fun hi2=>AC.fact (QG (x:= .tmp 1) (i:=1) (Qb rfl) rfl) fun hi3=> ?_
 refine w_ ?_
 refine lc (Qw 0 (Qb rfl) rfl rfl (Fresh.of rfl) (nlr rfl))<|lc (Qw 1 (Qb rfl) rfl rfl (Fresh.of rfl) (nlr rfl)) ?_
 iterate 7 refine w_ ?_
 refine lc (Qn (Y3 s) KX ⟨_,_,rfl,(Qb rfl),rfl⟩ rfl rfl) ?_
 iterate 2 refine w_ ?_
 cases hb4:((sgV s).2)
 ·iterate 6 refine w_ ?_
  refine Qf ?_
  subst hO
  have e5:(0:Int)=(ox1 s o):=by
   exact Eq.symm (UV (K3 (by assumption))).1
  have e6:(0:Int)=(ox2 s o):=by
   exact Eq.symm (UV (K3 (by assumption))).2.1
  have e7:(false:Bool)=(ocB s o):=by
   exact (UV (K3 (by assumption))).2.2
  exact Ql (XA rfl (Qd rfl) (Qd rfl) (Qd rfl)) ((((congrArg (fun z_=>PV.tup [(false,[dI z_]),(false,[dI 0]),(false,[dB false])]) e5)).trans (congrArg (fun z_=>PV.tup [(false,[dI (ox1 s o)]),(false,[dI z_]),(false,[dB false])]) e6)).trans (congrArg (fun z_=>PV.tup [(false,[dI (ox1 s o)]),(false,[dI (ox2 s o)]),(false,[dB z_])]) e7)) rfl
 ·iterate 5 refine w_ ?_
  refine lc (Qn (VD s hz (Qbz (by assumption))).frozen Qed ⟨_,_,rfl,(Qb rfl),rfl⟩ rfl rfl)<|AL.fact (Qq (x:= .tmp 15) (Qa rfl)) fun hl8=> ?_
  iterate 4 refine w_ ?_
  refine Qx (fun m_ s_=>∃(k:Nat),k≤(Yc s).length∧m_=(Yc s).length - k∧(NoneTo (fun y=>Ty.beq (.pr .int (.pr .int .bool)) y o) (Yc s) k)∧s_=⟨[(2,lP 0 0),(3,lP 1 0),(15,lf (.dat (.sl 85 (.pr .int (.pr .int .bool))) (Yc s))),(16,lI ((Yc s).length:Int)),(17,lI (k:Int))],[(0,some (.box 39 [dI s.1.1, .dat (.sl 159 (.pr (.sl 3 .int) (.sl 3 .int))) s.1.2, .dat (.sl 145 (.pr .str .int)) s.2.1, .dat (.sl 61 (.pr .int .bool)) s.2.2.1,dS s.2.2.2])),(1,some (.box 85 [dI o.1,dI o.2.1,dB o.2.2]))]⟩) ⟨0,Nat.zero_le _,rfl,NoneTo.zero,rfl⟩ ?_ ?_
  · exact Wk.of [(0,0),(1,1)] rfl ⟨rfl,rfl,rfl,rfl,rfl,trivial⟩ ⟨rfl,rfl,trivial⟩ rfl rfl
  rintro m_ s_ ⟨k,hk9,hm10,hno,rfl⟩
  iterate 4 refine w_ ?_
  cases hb11:(decide ((k:Int) < ((Yc s).length:Int)))
  ·have hb11':=of_decide_eq_false hb11
   refine w_ ?_
   refine QB ?_
   refine (?_:AC _ _ _ _ _)
   iterate 5 refine w_ ?_
   refine Qf ?_
   subst hO
   have e12:(0:Int)=(ox1 s o):=by
    exact Eq.symm (UV (QfF (by assumption) hno (by omega))).1
   have e13:(0:Int)=(ox2 s o):=by
    exact Eq.symm (UV (QfF (by assumption) hno (by omega))).2.1
   have e14:(false:Bool)=(ocB s o):=by
    exact (UV (QfF (by assumption) hno (by omega))).2.2
   exact Ql (XA rfl (Qd rfl) (Qd rfl) (Qd rfl)) ((((congrArg (fun z_=>PV.tup [(false,[dI z_]),(false,[dI 0]),(false,[dB false])]) e12)).trans (congrArg (fun z_=>PV.tup [(false,[dI (ox1 s o)]),(false,[dI z_]),(false,[dB false])]) e13)).trans (congrArg (fun z_=>PV.tup [(false,[dI (ox1 s o)]),(false,[dI (ox2 s o)]),(false,[dB z_])]) e14)) rfl
  ·have hb11':=of_decide_eq_true hb11
   iterate 5 refine w_ ?_
   obtain ⟨x15,hx16⟩:∃z,(Yc s)[k]? =some z:=⟨_,List.getElem?_eq_getElem (by omega)⟩
   refine lc (Qh (Qa rfl) (Qa rfl) Uz ZF rfl (by omega) hx16) ?_
   refine w_ ?_
   refine lc (Qp 2 (.pr .int (.pr .int .bool)) Xj rfl rfl (Fresh.of rfl) (nlr rfl))<|lc (Qe (Qa rfl) rfl (Qb rfl) rfl ZF rfl) ?_
   iterate 4 refine w_ ?_
   refine lc (Qew Qlb Qmh (Qb rfl) (Qb rfl) (p:=x15) (q:=o) rfl rfl rfl) ?_
   refine w_ ?_
   cases hb17:(Ty.beq (.pr .int (.pr .int .bool)) x15 o)
   ·refine w_ ?_
    refine AC.skip ?_
    refine (?_:AC _ _ _ _ _)
    iterate 3 refine w_ ?_
    refine Qk<|QU ⟨k+1,by omega,rfl,hno.step hx16 (by assumption),rfl⟩ (by omega) ?_
    exact Wk.of [(0,0),(1,1)] rfl ⟨rfl,rfl,rfl,rfl,rfl,trivial⟩ ⟨rfl,rfl,trivial⟩ rfl rfl
   ·iterate 4 refine w_ ?_
    refine lc (Qn (UX s o hz (QfP (Qfe (by assumption) hx16 (by assumption)))) Qea ⟨_,_,rfl,(Qb rfl),⟨_,_,rfl,(Qb rfl),rfl⟩⟩ rfl rfl) ?_
    iterate 13 refine w_ ?_
    refine Qf ?_
    subst hO
    have e18:(oc1 s o:Int)=(ox1 s o):=by
     exact Eq.symm (Qai (Qfe (by assumption) hx16 (by assumption))).1
    have e19:(oc2 s o:Int)=(ox2 s o):=by
     exact Eq.symm (Qai (Qfe (by assumption) hx16 (by assumption))).2.1
    have e20:(true:Bool)=(ocB s o):=by
     exact (Qai (Qfe (by assumption) hx16 (by assumption))).2.2
    exact Ql (XA rfl (Qd rfl) (Qd rfl) (Qd rfl)) ((((congrArg (fun z_=>PV.tup [(false,[dI z_]),(false,[dI (oc2 s o)]),(false,[dB true])]) e18)).trans (congrArg (fun z_=>PV.tup [(false,[dI (ox1 s o)]),(false,[dI z_]),(false,[dB true])]) e19)).trans (congrArg (fun z_=>PV.tup [(false,[dI (ox1 s o)]),(false,[dI (ox2 s o)]),(false,[dB z_])]) e20)) rfl
theorem Kv (s:(Int×(List (List Int×List Int)))×(List (ByteArray×Int))×(List (Int×Bool))×ByteArray)[∀s,Decidable (StgOk s)](hz:Ty.tot Y8 s≤2000000):FC Tryz.prog 44 [(true,[dI s.1.1, .dat (.sl 159 (.pr (.sl 3 .int) (.sl 3 .int))) s.1.2, .dat (.sl 145 (.pr .str .int)) s.2.1, .dat (.sl 61 (.pr .int .bool)) s.2.2.1,dS s.2.2.2])] [] 0 (Zq (PV.tup [(true,[dI ((boV s).1),dI ((boV s).2.1),dB ((boV s).2.2)]),(false,[dB (boB s)])])):=by
 have hvl:=QlB s
 refine QN Tryz.func44 rfl rfl Tryz.ntmps44 fun O_ hO w0_ N0_ X_ h0_ f0_=> ?_
 refine AC.fact (QG (x:= .tmp 0) (i:=0) (Qb rfl) rfl) fun hi1=> ?_
 refine w_ ?_
 refine lc (Qw 0 (Qb rfl) rfl rfl (Fresh.of rfl) (nlr rfl))<|lc (Qp 1 (.pr .int (.pr .int .bool)) Xj rfl rfl (Fresh.of rfl) (nlr rfl)) ?_
 iterate 4 refine w_ ?_
 refine lc (Qn (YE s hz).frozenG Qeq ⟨_,_,rfl,(Qb rfl),rfl⟩ rfl rfl) ?_
 iterate 7 refine w_ ?_
 refine lc (QH Qfu rfl (List.all_eq_true.1 rfl) rfl rfl)<|lc (Qp 2 (.pr .int (.pr .int .bool)) Xj rfl rfl (Fresh.of rfl) (nlr rfl))<|lc (Qe (Qa rfl) rfl (Qb rfl) rfl ZF rfl) ?_
 iterate 6 refine w_ ?_
 refine AL.fact (Qq (x:= .tmp 19) (Qa rfl)) fun hl2=> ?_
 iterate 4 refine w_ ?_
 refine Qx (fun m_ s_=>∃(k:Nat) (bo:Int×Int×Bool) (few:Int) (mo:Int),k≤(XP s).length∧m_=(XP s).length - k∧(BeI s (XP s) k bo few mo)∧s_=⟨[(1,lP 0 0),(2,lP 1 0),(3,lB false),(4,lf (.dat (.sl 85 (.pr .int (.pr .int .bool))) (XP s))),(6,lP 2 0),(7,lI few),(8,lI mo),(19,lf (.dat (.sl 85 (.pr .int (.pr .int .bool))) (XP s))),(20,lI ((XP s).length:Int)),(21,lI (k:Int))],[(0,some (.box 39 [dI s.1.1, .dat (.sl 159 (.pr (.sl 3 .int) (.sl 3 .int))) s.1.2, .dat (.sl 145 (.pr .str .int)) s.2.1, .dat (.sl 61 (.pr .int .bool)) s.2.2.1,dS s.2.2.2])),(1,some (.box 85 [dI 0,dI 0,dB false])),(2,some (.box 85 [dI bo.1,dI bo.2.1,dB bo.2.2]))]⟩) ⟨0,(0,0,false),0,0,Nat.zero_le _,rfl,⟨rfl,fun _=>rfl⟩,rfl⟩ ?_ ?_
 · exact Wk.of [(0,0),(1,1),(2,2)] rfl ⟨rfl,rfl,rfl,rfl,rfl,rfl,rfl,rfl,rfl,rfl,trivial⟩ ⟨rfl,rfl,rfl,trivial⟩ rfl rfl
 rintro m_ s_ ⟨k,bo,few,mo,hk3,hm4,hB,rfl⟩
 iterate 4 refine w_ ?_
 cases hb5:(decide ((k:Int) < ((XP s).length:Int)))
 ·have hb5':=of_decide_eq_false hb5
  refine w_ ?_
  refine QB ?_
  refine (?_:AC _ _ _ _ _)
  iterate 3 refine w_ ?_
  refine AL.fact (Qq (x:= .tmp 54) (Qa rfl)) fun hl6=> ?_
  iterate 2 refine w_ ?_
  refine lc (Qe (Qa rfl) rfl (Qb rfl) rfl ZF rfl) ?_
  iterate 2 refine w_ ?_
  refine Qf ?_
  subst hO
  have e7:(bo.1:Int)=((boV s).1):=by
   (rw[Qfw hB (by omega)]; done)
  have e8:(bo.2.1:Int)=((boV s).2.1):=by
   (rw[Qfw hB (by omega)]; done)
  have e9:(bo.2.2:Bool)=((boV s).2.2):=by
   (rw[Qfw hB (by omega)]; done)
  have e10:(decide (0 < ((XP s).length:Int)):Bool)=(boB s):=by
   rfl
  exact Ql (QC rfl (Q3 rfl rfl ZF rfl) (Qd rfl)) (((((congrArg (fun z_=>PV.tup [(true,[dI z_,dI bo.2.1,dB bo.2.2]),(false,[dB (decide (0 < ((XP s).length:Int)))])]) e7)).trans (congrArg (fun z_=>PV.tup [(true,[dI ((boV s).1),dI z_,dB bo.2.2]),(false,[dB (decide (0 < ((XP s).length:Int)))])]) e8)).trans (congrArg (fun z_=>PV.tup [(true,[dI ((boV s).1),dI ((boV s).2.1),dB z_]),(false,[dB (decide (0 < ((XP s).length:Int)))])]) e9)).trans (congrArg (fun z_=>PV.tup [(true,[dI ((boV s).1),dI ((boV s).2.1),dB ((boV s).2.2)]),(false,[dB z_])]) e10)) rfl
 ·have hb5':=of_decide_eq_true hb5
  iterate 6 refine w_ ?_
  obtain ⟨x11,hx12⟩:∃z,(XP s)[k]? =some z:=⟨_,List.getElem?_eq_getElem (by omega)⟩
  refine lc (Qh (Qa rfl) (Qa rfl) Uz ZF rfl (by omega) hx12) ?_
  refine w_ ?_
  refine lc (Qp 3 (.pr .int (.pr .int .bool)) Xj rfl rfl (Fresh.of rfl) (nlr rfl)) ?_
  refine w_ ?_
  refine lc (Qe (Qa rfl) rfl (Qb rfl) rfl ZF rfl) ?_
  iterate 4 refine w_ ?_
  refine lc (Qn (Wl s x11 hz (QdM (List.mem_of_getElem? hx12))) QdK ⟨_,_,rfl,(Qb rfl),⟨_,_,rfl,(Qb rfl),rfl⟩⟩ rfl rfl) ?_
  iterate 10 refine w_ ?_
  cases hb13:(decide ((k:Int)=0))
  ·have hb13':=of_decide_eq_false hb13
   iterate 5 refine w_ ?_
   cases hb14:(decide ((oc1 s x11) < few))
   ·have hb14':=of_decide_eq_false hb14
    iterate 4 refine w_ ?_
    cases hb15:(decide ((oc1 s x11)=few))
    ·have hb15':=of_decide_eq_false hb15
     iterate 7 refine w_ ?_
     refine AC.skip ?_
     refine (?_:AC _ _ _ _ _)
     iterate 3 refine w_ ?_
     refine Qk<|QU ⟨k+1,bo,few,mo,by omega,rfl,(by exact Qjh hx12 hB (by omega) (by assumption) (fun g=>absurd g.1 (by assumption))),rfl⟩ (by omega) ?_
     exact Wk.of [(0,0),(1,1),(2,2)] rfl ⟨rfl,rfl,rfl,rfl,rfl,rfl,rfl,rfl,rfl,rfl,trivial⟩ ⟨rfl,rfl,rfl,trivial⟩ rfl rfl
    ·have hb15':=of_decide_eq_true hb15
     iterate 6 refine w_ ?_
     cases hb16:(decide (mo < (oc2 s x11)))
     ·have hb16':=of_decide_eq_false hb16
      refine w_ ?_
      refine AC.skip ?_
      refine (?_:AC _ _ _ _ _)
      iterate 3 refine w_ ?_
      refine Qk<|QU ⟨k+1,bo,few,mo,by omega,rfl,(by exact Qjh hx12 hB (by omega) (by assumption) (fun g=>absurd g.2 (by assumption))),rfl⟩ (by omega) ?_
      exact Wk.of [(0,0),(1,1),(2,2)] rfl ⟨rfl,rfl,rfl,rfl,rfl,rfl,rfl,rfl,rfl,rfl,trivial⟩ ⟨rfl,rfl,rfl,trivial⟩ rfl rfl
     ·have hb16':=of_decide_eq_true hb16
      iterate 5 refine w_ ?_
      refine lc (Qe (Qa rfl) rfl (Qb rfl) rfl ZF rfl) ?_
      iterate 2 refine w_ ?_
      refine Qk ?_
      refine (?_:AC _ _ _ _ _)
      iterate 3 refine w_ ?_
      refine Qk<|QU ⟨k+1,x11,(oc1 s x11),(oc2 s x11),by omega,rfl,(by exact Qfa hx12 hB (.inr (.inr ⟨by assumption,by assumption⟩))),rfl⟩ (by omega) ?_
      exact Wk.of [(0,0),(1,1),(2,2)] rfl ⟨rfl,rfl,rfl,rfl,rfl,rfl,rfl,rfl,rfl,rfl,trivial⟩ ⟨rfl,rfl,rfl,trivial⟩ rfl rfl
   ·have hb14':=of_decide_eq_true hb14
    iterate 4 refine w_ ?_
    refine Q8 rfl rfl rfl ?_ rfl
    refine Q8 rfl rfl rfl ?_ rfl
    refine Q8 rfl rfl rfl ?_ rfl
    iterate 8 refine w_ ?_
    refine lc (Qe (Qa rfl) rfl (Qb rfl) rfl ZF rfl) ?_
    iterate 2 refine w_ ?_
    refine Qk ?_
    refine (?_:AC _ _ _ _ _)
    iterate 3 refine w_ ?_
    refine Qk<|QU ⟨k+1,x11,(oc1 s x11),(oc2 s x11),by omega,rfl,(by exact Qfa hx12 hB (.inr (.inl (by assumption)))),rfl⟩ (by omega) ?_
    exact Wk.of [(0,0),(1,1),(2,2)] rfl ⟨rfl,rfl,rfl,rfl,rfl,rfl,rfl,rfl,rfl,rfl,trivial⟩ ⟨rfl,rfl,rfl,trivial⟩ rfl rfl
  ·have hb13':=of_decide_eq_true hb13
   iterate 9 refine w_ ?_
   refine Q8 rfl rfl rfl ?_ rfl
   refine Q8 rfl rfl rfl ?_ rfl
   refine Q8 rfl rfl rfl ?_ rfl
   iterate 8 refine w_ ?_
   refine lc (Qe (Qa rfl) rfl (Qb rfl) rfl ZF rfl) ?_
   iterate 2 refine w_ ?_
   refine Qk ?_
   refine (?_:AC _ _ _ _ _)
   iterate 3 refine w_ ?_
   refine Qk<|QU ⟨k+1,x11,(oc1 s x11),(oc2 s x11),by omega,rfl,(by exact Qfa hx12 hB (.inl (by omega))),rfl⟩ (by omega) ?_
   exact Wk.of [(0,0),(1,1),(2,2)] rfl ⟨rfl,rfl,rfl,rfl,rfl,rfl,rfl,rfl,rfl,rfl,trivial⟩ ⟨rfl,rfl,rfl,trivial⟩ rfl rfl
theorem Kg (s:(Int×(List (List Int×List Int)))×(List (ByteArray×Int))×(List (Int×Bool))×ByteArray)[∀s,Decidable (StgOk s)](hz:Ty.tot Y8 s≤2000000):FC Tryz.prog 43 [(true,[dI s.1.1, .dat (.sl 159 (.pr (.sl 3 .int) (.sl 3 .int))) s.1.2, .dat (.sl 145 (.pr .str .int)) s.2.1, .dat (.sl 61 (.pr .int .bool)) s.2.2.1,dS s.2.2.2])] [] 0 (Zq (PV.tup [(true,[dI ((boV s).1),dI ((boV s).2.1),dB ((boV s).2.2)]),(false,[dB (boB s)])])):=by
 refine QN Tryz.func43 rfl rfl Tryz.ntmps43 fun O_ hO w0_ N0_ X_ h0_ f0_=> ?_
 refine AC.fact (QG (x:= .tmp 0) (i:=0) (Qb rfl) rfl) fun hi1=> ?_
 refine w_ ?_
 refine lc (Qw 0 (Qb rfl) rfl rfl (Fresh.of rfl) (nlr rfl))<|lc (Qp 1 (.pr .int (.pr .int .bool)) Xj rfl rfl (Fresh.of rfl) (nlr rfl)) ?_
 iterate 5 refine w_ ?_
 refine lc (Qn (Y3 s) KX ⟨_,_,rfl,(Qb rfl),rfl⟩ rfl rfl) ?_
 iterate 2 refine w_ ?_
 cases hb2:((sgV s).2)
 ·iterate 2 refine w_ ?_
  refine lc (QH Qfu rfl (List.all_eq_true.1 rfl) rfl rfl)<|lc (Qe (Qa rfl) rfl (Qb rfl) rfl ZF rfl) ?_
  iterate 2 refine w_ ?_
  refine Qf ?_
  subst hO
  have e3:(0:Int)=((boV s).1):=by
   (rw[(Qfp (by assumption)).1]; done)
  have e4:(0:Int)=((boV s).2.1):=by
   (rw[(Qfp (by assumption)).1]; done)
  have e5:(false:Bool)=((boV s).2.2):=by
   (rw[(Qfp (by assumption)).1]; done)
  have e6:(false:Bool)=(boB s):=by
   (rw[(Qfp (by assumption)).2]; done)
  exact Ql (QC rfl (Q3 rfl rfl ZF rfl) (Qd rfl)) (((((congrArg (fun z_=>PV.tup [(true,[dI z_,dI 0,dB false]),(false,[dB false])]) e3)).trans (congrArg (fun z_=>PV.tup [(true,[dI ((boV s).1),dI z_,dB false]),(false,[dB false])]) e4)).trans (congrArg (fun z_=>PV.tup [(true,[dI ((boV s).1),dI ((boV s).2.1),dB z_]),(false,[dB false])]) e5)).trans (congrArg (fun z_=>PV.tup [(true,[dI ((boV s).1),dI ((boV s).2.1),dB ((boV s).2.2)]),(false,[dB z_])]) e6)) rfl
 ·iterate 3 refine w_ ?_
  refine lc (Qp 2 (.pr .int (.pr .int .bool)) Xj rfl rfl (Fresh.of rfl) (nlr rfl)) ?_
  iterate 8 refine w_ ?_
  refine lc (Qn (VD s hz (Qbz (by assumption))).frozen Qed ⟨_,_,rfl,(Qb rfl),rfl⟩ rfl rfl)<|AL.fact (Qq (x:= .tmp 16) (Qa rfl)) fun hl7=> ?_
  iterate 4 refine w_ ?_
  refine Qx (fun m_ s_=>∃(k:Nat) (bo:Int×Int×Bool) (few:Int) (mo:Int),k≤(Yc s).length∧m_=(Yc s).length - k∧(BeS s (Yc s) k bo few mo)∧s_=⟨[(1,lP 0 0),(2,lP 1 0),(3,lB false),(4,lP 2 0),(5,lI few),(6,lI mo),(16,lf (.dat (.sl 85 (.pr .int (.pr .int .bool))) (Yc s))),(17,lI ((Yc s).length:Int)),(18,lI (k:Int))],[(0,some (.box 39 [dI s.1.1, .dat (.sl 159 (.pr (.sl 3 .int) (.sl 3 .int))) s.1.2, .dat (.sl 145 (.pr .str .int)) s.2.1, .dat (.sl 61 (.pr .int .bool)) s.2.2.1,dS s.2.2.2])),(1,some (.box 85 [dI 0,dI 0,dB false])),(2,some (.box 85 [dI bo.1,dI bo.2.1,dB bo.2.2]))]⟩) ⟨0,(0,0,false),(-1),0,Nat.zero_le _,rfl,rfl,rfl⟩ ?_ ?_
  · exact Wk.of [(0,0),(1,1),(2,2)] rfl ⟨rfl,rfl,rfl,rfl,rfl,rfl,rfl,rfl,rfl,trivial⟩ ⟨rfl,rfl,rfl,trivial⟩ rfl rfl
  rintro m_ s_ ⟨k,bo,few,mo,hk8,hm9,hB,rfl⟩
  iterate 4 refine w_ ?_
  cases hb10:(decide ((k:Int) < ((Yc s).length:Int)))
  ·have hb10':=of_decide_eq_false hb10
   refine w_ ?_
   refine QB ?_
   refine (?_:AC _ _ _ _ _)
   iterate 4 refine w_ ?_
   refine lc (Qe (Qa rfl) rfl (Qb rfl) rfl ZF rfl) ?_
   iterate 2 refine w_ ?_
   refine Qf ?_
   subst hO
   have e11:(bo.1:Int)=((boV s).1):=by
    (rw[(Qbf (by assumption) hB (by omega)).1]; done)
   have e12:(bo.2.1:Int)=((boV s).2.1):=by
    (rw[(Qbf (by assumption) hB (by omega)).1]; done)
   have e13:(bo.2.2:Bool)=((boV s).2.2):=by
    (rw[(Qbf (by assumption) hB (by omega)).1]; done)
   have e14:(decide (0≤few):Bool)=(boB s):=by
    (rw[(Qbf (by assumption) hB (by omega)).2]; done)
   exact Ql (QC rfl (Q3 rfl rfl ZF rfl) (Qd rfl)) (((((congrArg (fun z_=>PV.tup [(true,[dI z_,dI bo.2.1,dB bo.2.2]),(false,[dB (decide (0≤few))])]) e11)).trans (congrArg (fun z_=>PV.tup [(true,[dI ((boV s).1),dI z_,dB bo.2.2]),(false,[dB (decide (0≤few))])]) e12)).trans (congrArg (fun z_=>PV.tup [(true,[dI ((boV s).1),dI ((boV s).2.1),dB z_]),(false,[dB (decide (0≤few))])]) e13)).trans (congrArg (fun z_=>PV.tup [(true,[dI ((boV s).1),dI ((boV s).2.1),dB ((boV s).2.2)]),(false,[dB z_])]) e14)) rfl
  ·have hb10':=of_decide_eq_true hb10
   iterate 5 refine w_ ?_
   obtain ⟨x15,hx16⟩:∃z,(Yc s)[k]? =some z:=⟨_,List.getElem?_eq_getElem (by omega)⟩
   refine lc (Qh (Qa rfl) (Qa rfl) Uz ZF rfl (by omega) hx16) ?_
   refine w_ ?_
   refine lc (Qp 3 (.pr .int (.pr .int .bool)) Xj rfl rfl (Fresh.of rfl) (nlr rfl))<|lc (Qe (Qa rfl) rfl (Qb rfl) rfl ZF rfl) ?_
   iterate 4 refine w_ ?_
   refine lc (Qn (UX s x15 hz (Qgp (List.mem_of_getElem? hx16))) Qea ⟨_,_,rfl,(Qb rfl),⟨_,_,rfl,(Qb rfl),rfl⟩⟩ rfl rfl) ?_
   iterate 10 refine w_ ?_
   cases hb17:(decide (few < 0))
   ·have hb17':=of_decide_eq_false hb17
    iterate 5 refine w_ ?_
    cases hb18:(decide ((oc1 s x15) < few))
    ·have hb18':=of_decide_eq_false hb18
     iterate 4 refine w_ ?_
     cases hb19:(decide ((oc1 s x15)=few))
     ·have hb19':=of_decide_eq_false hb19
      iterate 7 refine w_ ?_
      refine AC.skip ?_
      refine (?_:AC _ _ _ _ _)
      iterate 3 refine w_ ?_
      refine Qk<|QU ⟨k+1,bo,few,mo,by omega,rfl,(by exact Qjl hx16 hB (by omega)),rfl⟩ (by omega) ?_
      exact Wk.of [(0,0),(1,1),(2,2)] rfl ⟨rfl,rfl,rfl,rfl,rfl,rfl,rfl,rfl,rfl,trivial⟩ ⟨rfl,rfl,rfl,trivial⟩ rfl rfl
     ·have hb19':=of_decide_eq_true hb19
      iterate 6 refine w_ ?_
      cases hb20:(decide (mo < (oc2 s x15)))
      ·have hb20':=of_decide_eq_false hb20
       refine w_ ?_
       refine AC.skip ?_
       refine (?_:AC _ _ _ _ _)
       iterate 3 refine w_ ?_
       refine Qk<|QU ⟨k+1,bo,few,mo,by omega,rfl,(by exact Qjl hx16 hB (by omega)),rfl⟩ (by omega) ?_
       exact Wk.of [(0,0),(1,1),(2,2)] rfl ⟨rfl,rfl,rfl,rfl,rfl,rfl,rfl,rfl,rfl,trivial⟩ ⟨rfl,rfl,rfl,trivial⟩ rfl rfl
      ·have hb20':=of_decide_eq_true hb20
       iterate 3 refine w_ ?_
       refine lc (Qe (Qa rfl) rfl (Qb rfl) rfl ZF rfl) ?_
       iterate 8 refine w_ ?_
       refine Qk ?_
       refine (?_:AC _ _ _ _ _)
       iterate 3 refine w_ ?_
       refine Qk<|QU ⟨k+1,x15,(oc1 s x15),(oc2 s x15),by omega,rfl,(by exact QeQ hx16 hB (.inr (.inr ⟨by assumption,by assumption⟩))),rfl⟩ (by omega) ?_
       exact Wk.of [(0,0),(1,1),(2,2)] rfl ⟨rfl,rfl,rfl,rfl,rfl,rfl,rfl,rfl,rfl,trivial⟩ ⟨rfl,rfl,rfl,trivial⟩ rfl rfl
    ·have hb18':=of_decide_eq_true hb18
     iterate 4 refine w_ ?_
     refine Q8 rfl rfl rfl ?_ rfl
     refine Q8 rfl rfl rfl ?_ rfl
     refine Q8 rfl rfl rfl ?_ rfl
     iterate 6 refine w_ ?_
     refine lc (Qe (Qa rfl) rfl (Qb rfl) rfl ZF rfl) ?_
     iterate 8 refine w_ ?_
     refine Qk ?_
     refine (?_:AC _ _ _ _ _)
     iterate 3 refine w_ ?_
     refine Qk<|QU ⟨k+1,x15,(oc1 s x15),(oc2 s x15),by omega,rfl,(by exact QeQ hx16 hB (.inr (.inl (by assumption)))),rfl⟩ (by omega) ?_
     exact Wk.of [(0,0),(1,1),(2,2)] rfl ⟨rfl,rfl,rfl,rfl,rfl,rfl,rfl,rfl,rfl,trivial⟩ ⟨rfl,rfl,rfl,trivial⟩ rfl rfl
   ·have hb17':=of_decide_eq_true hb17
    iterate 9 refine w_ ?_
    refine Q8 rfl rfl rfl ?_ rfl
    refine Q8 rfl rfl rfl ?_ rfl
    refine Q8 rfl rfl rfl ?_ rfl
    iterate 6 refine w_ ?_
    refine lc (Qe (Qa rfl) rfl (Qb rfl) rfl ZF rfl) ?_
    iterate 8 refine w_ ?_
    refine Qk ?_
    refine (?_:AC _ _ _ _ _)
    iterate 3 refine w_ ?_
    refine Qk<|QU ⟨k+1,x15,(oc1 s x15),(oc2 s x15),by omega,rfl,(by exact QeQ hx16 hB (.inl (by assumption))),rfl⟩ (by omega) ?_
    exact Wk.of [(0,0),(1,1),(2,2)] rfl ⟨rfl,rfl,rfl,rfl,rfl,rfl,rfl,rfl,rfl,trivial⟩ ⟨rfl,rfl,rfl,trivial⟩ rfl rfl
end Go.Proofs.YtnakmhfjafecpaaGreat
namespace Go.Proofs.YtnakmhfjafecpaaGreat
open Go.RowKit
set_option maxRecDepth 100000
set_option maxHeartbeats 4000000
theorem WD (aS:(Int×(List (List Int×List Int)))×(List (ByteArray×Int))×(List (Int×Bool))×ByteArray)(aO:Int×Int×Bool):FC Tryz.prog 8 [(true,[dI aS.1.1, .dat (.sl 222 (.pr (.sl 3 .int) (.sl 3 .int))) aS.1.2, .dat (.sl 153 (.pr .str .int)) aS.2.1, .dat (.sl 51 (.pr .int .bool)) aS.2.2.1,dS aS.2.2.2]),(true,[dI aO.1,dI aO.2.1,dB aO.2.2])] [] 0 (Zq (lB true)):=by
 classical
 have hs:=Hh 1048576 (Ty.tot UM aS)
 have ht:Ty.tot Y8 aS=Ty.tot UM aS:=rfl
 have hc:=Qgs aS 1
 have hto:Ty.tot YZ aO≤1048576:=by have:Ty.tot YZ aO=0+(0+0):=rfl; omega
 refine QN Tryz.func8 rfl rfl Tryz.ntmps8 fun O_ hO w0_ N0_ X_ h0_ f0_=> ?_
 refine AC.fact (QG (x:= .tmp 0) (i:=0) (Qb rfl) rfl) fun hi1=>AC.fact (QG (x:= .tmp 1) (i:=0) (Qb rfl) rfl) fun hi2=>AC.fact (QG (x:= .tmp 1) (i:=1) (Qb rfl) rfl) fun hi3=> ?_
 refine w_ ?_
 refine lc (Qw 0 (Qb rfl) rfl rfl (Fresh.of rfl) (nlr rfl))<|lc (Qw 1 (Qb rfl) rfl rfl (Fresh.of rfl) (nlr rfl)) ?_
 iterate 8 refine w_ ?_
 refine lc (Qn (Qg5 aS 1048576 (by omega) (by omega)) QdP ⟨_,_,rfl,(Qb rfl),⟨_,_,rfl,(Qb rfl),rfl⟩⟩ rfl rfl) ?_
 iterate 7 refine w_ ?_
 cases hb4:(decide ((szv 1048576 (Ty.tot UM aS)) < 0))
 ·have hb4':=of_decide_eq_false hb4
  iterate 2 refine w_ ?_
  refine dw [io 19 (ag [dI aS.1.1, .dat (.sl 222 (.pr (.sl 3 .int) (.sl 3 .int))) aS.1.2, .dat (.sl 153 (.pr .str .int)) aS.2.1, .dat (.sl 51 (.pr .int .bool)) aS.2.2.1,dS aS.2.2.2]),⟨some 20,ag [dI aS.1.1, .ref 2, .ref 3, .ref 4,dS aS.2.2.2],[(2,some (.arr 159 (.pr (.sl 3 .int) (.sl 3 .int)) aS.1.2)),(3,some (.arr 145 (.pr .str .int) aS.2.1)),(4,some (.arr 61 (.pr .int .bool) aS.2.2.1))]⟩,io 21 (ag [dI aO.1,dI aO.2.1,dB aO.2.2]),io 22 (ag [dI aO.1,dI aO.2.1,dB aO.2.2]),io 23 (PV.tup [(false,[dI (ox1 aS aO)]),(false,[dI (ox2 aS aO)]),(false,[dB (ocB aS aO)])]),io 18 (PV.tup [(false,[dI (ox1 aS aO)]),(false,[dI (ox2 aS aO)]),(false,[dB (ocB aS aO)])]),io 24 (lI (ox1 aS aO)),io 25 (lI (ox2 aS aO)),io 26 (lB (ocB aS aO)),io 6 (lI (ox1 aS aO)),io 7 (lI (ox2 aS aO)),io 8 (lB (ocB aS aO))] [0,1,0,7,15,31,63,63,63,127,767,2047] mixed rfl (by kernel_rfl) ⟨dxa QhS rfl rfl rfl rfl,fun _ h_=>ac (Q6 2 (VZ aS (by omega)) WM ⟨_,_,rfl,(h_.w rfl),rfl⟩ rfl rfl ⟨(h_.fr 2 rfl),(h_.fr 3 rfl),(h_.fr 4 rfl),trivial⟩ (nlr rfl)) rfl,dxa QkZ rfl rfl rfl rfl,fun _ h_=>ac (Qn (Jl aO hto) Qd6 ⟨_,_,rfl,(h_.w rfl),rfl⟩ rfl rfl) rfl,fun _ h_=>ac (Zm (Kk aS aO (by omega)) QkB ⟨_,_,rfl,(XR (h_.w rfl) ⟨_,_,rfl, .inl rfl,⟨_,_,rfl, .inr ⟨_,_,_,_,rfl,(h_.en 2 rfl),rfl⟩,⟨_,_,rfl, .inr ⟨_,_,_,_,rfl,(h_.en 3 rfl),rfl⟩,⟨_,_,rfl, .inr ⟨_,_,_,_,rfl,(h_.en 4 rfl),rfl⟩,⟨_,_,rfl, .inl rfl,rfl⟩⟩⟩⟩⟩),⟨_,_,rfl,(Ev.b (h_.w rfl)),rfl⟩⟩ rfl rfl rfl) rfl,dxm rfl rfl,fun _ h_=>ac (Zz (h_.k rfl) rfl rfl) rfl,fun _ h_=>ac (Zz (h_.k rfl) rfl rfl) rfl,fun _ h_=>ac (Zz (h_.k rfl) rfl rfl) rfl,dxt rfl rfl,dxt rfl rfl,dxt rfl rfl,⟨⟩⟩ ?_
  iterate 2 refine w_ ?_
  refine lc (Q6 5 (VZ aS (by omega)) WM ⟨_,_,rfl,(Qb rfl),rfl⟩ rfl rfl ⟨Fresh.of rfl,Fresh.of rfl,Fresh.of rfl,trivial⟩ (nlr rfl))<|lc (Qp 8 (.pr (.pr .int (.sl 159 (.pr (.sl 3 .int) (.sl 3 .int)))) (.pr (.sl 145 (.pr .str .int)) (.pr (.sl 61 (.pr .int .bool)) .str))) XH rfl rfl (Fresh.of rfl) (nlr rfl))<|lc (Qe (Qa rfl) rfl (Qb rfl) rfl Q9 rfl) ?_
  refine w_ ?_
  refine dw [io 30 (ag [dI aS.1.1, .ref 5, .ref 6, .ref 7,dS aS.2.2.2]),io 31 (ag [dI aO.1,dI aO.2.1,dB aO.2.2]),io 32 (ag [dI aO.1,dI aO.2.1,dB aO.2.2]),io 33 (PV.tup [(false,[dI (ox1 aS aO)]),(false,[dI (ox2 aS aO)]),(false,[dB (ocB aS aO)])]),io 29 (PV.tup [(false,[dI (ox1 aS aO)]),(false,[dI (ox2 aS aO)]),(false,[dB (ocB aS aO)])]),io 34 (lI (ox1 aS aO)),io 35 (lI (ox2 aS aO)),io 36 (lB (ocB aS aO)),io 10 (lI (ox1 aS aO)),io 11 (lI (ox2 aS aO)),io 12 (lB (ocB aS aO))] [0,0,2,7,15,31,31,31,63,383,1023] mixed rfl (by kernel_rfl) ⟨dxa Q9 rfl rfl rfl rfl,dxa QkZ rfl rfl rfl rfl,fun _ h_=>ac (Qn (Jl aO hto) Qd6 ⟨_,_,rfl,(h_.w rfl),rfl⟩ rfl rfl) rfl,fun _ h_=>ac (Zm (KE aS aO (by omega)) QkS ⟨_,_,rfl,(XR (h_.w rfl) ⟨_,_,rfl, .inl rfl,⟨_,_,rfl, .inr ⟨_,_,_,_,rfl,(h_.en 5 rfl),rfl⟩,⟨_,_,rfl, .inr ⟨_,_,_,_,rfl,(h_.en 6 rfl),rfl⟩,⟨_,_,rfl, .inr ⟨_,_,_,_,rfl,(h_.en 7 rfl),rfl⟩,⟨_,_,rfl, .inl rfl,rfl⟩⟩⟩⟩⟩),⟨_,_,rfl,(Ev.b (h_.w rfl)),rfl⟩⟩ rfl rfl rfl) rfl,dxm rfl rfl,fun _ h_=>ac (Zz (h_.k rfl) rfl rfl) rfl,fun _ h_=>ac (Zz (h_.k rfl) rfl rfl) rfl,fun _ h_=>ac (Zz (h_.k rfl) rfl rfl) rfl,dxt rfl rfl,dxt rfl rfl,dxt rfl rfl,⟨⟩⟩ ?_
  iterate 6 refine w_ ?_
  cases hb5:(!decide ((ox1 aS aO)=(ox1 aS aO)))
  ·have hb5':((ox1 aS aO)=(ox1 aS aO)):=Zb hb5
   iterate 5 refine w_ ?_
   cases hb6:(!decide ((ox2 aS aO)=(ox2 aS aO)))
   ·have hb6':((ox2 aS aO)=(ox2 aS aO)):=Zb hb6
    iterate 2 refine w_ ?_
    refine lgy rfl rfl (Qae (Qa rfl) (Qa rfl) rfl QgP) ?_
    iterate 2 refine w_ ?_
    cases hb7:((ocB aS aO)==(ocB aS aO))
    ·iterate 4 refine w_ ?_
     refine Qf ?_
     subst hO
     have e8:(false:Bool)=true:=by
      exfalso; first | omega | (simp at hb7; done)
     exact Ql (Qm rfl (Qd rfl)) ((congrArg (fun z_=>lB z_) e8)) rfl
    ·iterate 3 refine w_ ?_
     refine dw [io 50 (ag [dI aS.1.1, .ref 5, .ref 6, .ref 7,dS aS.2.2.2]),io 51 (ag [dI aS.1.1, .dat (.sl 222 (.pr (.sl 3 .int) (.sl 3 .int))) aS.1.2, .dat (.sl 153 (.pr .str .int)) aS.2.1, .dat (.sl 51 (.pr .int .bool)) aS.2.2.1,dS aS.2.2.2]),⟨some 52,ag [dI aS.1.1, .ref 9, .ref 10, .ref 11,dS aS.2.2.2],[(9,some (.arr 159 (.pr (.sl 3 .int) (.sl 3 .int)) aS.1.2)),(10,some (.arr 145 (.pr .str .int) aS.2.1)),(11,some (.arr 61 (.pr .int .bool) aS.2.2.1))]⟩,io 53 (lB true),io 54 (lB false)] [0,0,2,7,15] mixed rfl (by kernel_rfl) ⟨dxa Q9 rfl rfl rfl rfl,dxa QhS rfl rfl rfl rfl,fun _ h_=>ac (Q6 9 (VZ aS (by omega)) WM ⟨_,_,rfl,(h_.w rfl),rfl⟩ rfl rfl ⟨(h_.fr 9 rfl),(h_.fr 10 rfl),(h_.fr 11 rfl),trivial⟩ (nlr rfl)) rfl,fun _ h_=>ac (Zm (Qgc aS aS rfl) QeF ⟨_,_,rfl,(XR (h_.w rfl) ⟨_,_,rfl, .inl rfl,⟨_,_,rfl, .inr ⟨_,_,_,_,rfl,(h_.n 5 rfl),rfl⟩,⟨_,_,rfl, .inr ⟨_,_,_,_,rfl,(h_.n 6 rfl),rfl⟩,⟨_,_,rfl, .inr ⟨_,_,_,_,rfl,(h_.n 7 rfl),rfl⟩,⟨_,_,rfl, .inl rfl,rfl⟩⟩⟩⟩⟩),⟨_,_,rfl,(XR (h_.w rfl) ⟨_,_,rfl, .inl rfl,⟨_,_,rfl, .inr ⟨_,_,_,_,rfl,(h_.n 9 rfl),rfl⟩,⟨_,_,rfl, .inr ⟨_,_,_,_,rfl,(h_.n 10 rfl),rfl⟩,⟨_,_,rfl, .inr ⟨_,_,_,_,rfl,(h_.n 11 rfl),rfl⟩,⟨_,_,rfl, .inl rfl,rfl⟩⟩⟩⟩⟩),rfl⟩⟩ rfl rfl rfl) rfl,fun _ h_=>ac (Wn (h_.v rfl) rfl) rfl,⟨⟩⟩ ?_
     iterate 5 refine w_ ?_
     refine Qf ?_
     subst hO
     exact Ql (Qm rfl (Qd rfl)) rfl rfl
   ·have hb6':¬((ox2 aS aO)=(ox2 aS aO)):=Zk hb6
    iterate 9 refine w_ ?_
    refine Qf ?_
    subst hO
    have e9:(false:Bool)=true:=by
     exfalso; first | omega | (simp at hb7; done)
    exact Ql (Qm rfl (Qd rfl)) ((congrArg (fun z_=>lB z_) e9)) rfl
  ·have hb5':¬((ox1 aS aO)=(ox1 aS aO)):=Zk hb5
   iterate 14 refine w_ ?_
   refine Qf ?_
   subst hO
   have e10:(false:Bool)=true:=by
    exfalso; first | omega | (simp at hb7; done)
   exact Ql (Qm rfl (Qd rfl)) ((congrArg (fun z_=>lB z_) e10)) rfl
 ·have hb4':=of_decide_eq_true hb4
  iterate 4 refine w_ ?_
  refine Qf ?_
  subst hO
  exact Ql (Qm rfl (Qd rfl)) rfl rfl
theorem WE (aS:(Int×(List (List Int×List Int)))×(List (ByteArray×Int))×(List (Int×Bool))×ByteArray):FC Tryz.prog 9 [(true,[dI aS.1.1, .dat (.sl 222 (.pr (.sl 3 .int) (.sl 3 .int))) aS.1.2, .dat (.sl 153 (.pr .str .int)) aS.2.1, .dat (.sl 51 (.pr .int .bool)) aS.2.2.1,dS aS.2.2.2])] [] 0 (Zq (lB true)):=by
 classical
 have hs:=Hh 1048576 (Ty.tot UM aS)
 have ht:Ty.tot Y8 aS=Ty.tot UM aS:=rfl
 have hc:=Qgs aS 1
 refine QN Tryz.func9 rfl rfl Tryz.ntmps9 fun O_ hO w0_ N0_ X_ h0_ f0_=> ?_
 refine AC.fact (QG (x:= .tmp 0) (i:=0) (Qb rfl) rfl) fun hi1=> ?_
 refine w_ ?_
 refine lc (Qw 0 (Qb rfl) rfl rfl (Fresh.of rfl) (nlr rfl)) ?_
 iterate 8 refine w_ ?_
 refine lc (Qn (Qg5 aS 1048576 (by omega) (by omega)) QdP ⟨_,_,rfl,(Qb rfl),⟨_,_,rfl,(Qb rfl),rfl⟩⟩ rfl rfl) ?_
 iterate 7 refine w_ ?_
 cases hb2:(decide ((szv 1048576 (Ty.tot UM aS)) < 0))
 ·have hb2':=of_decide_eq_false hb2
  iterate 4 refine w_ ?_
  refine lc (Q6 1 (VZ aS (by omega)) WM ⟨_,_,rfl,(Qb rfl),rfl⟩ rfl rfl ⟨Fresh.of rfl,Fresh.of rfl,Fresh.of rfl,trivial⟩ (nlr rfl))<|lc (Zm (Kg aS (by omega)) Qke ⟨_,_,rfl,(XR (Qb rfl) ⟨_,_,rfl, .inl rfl,⟨_,_,rfl, .inr ⟨_,_,_,_,rfl,rfl,rfl⟩,⟨_,_,rfl, .inr ⟨_,_,_,_,rfl,rfl,rfl⟩,⟨_,_,rfl, .inr ⟨_,_,_,_,rfl,rfl,rfl⟩,⟨_,_,rfl, .inl rfl,rfl⟩⟩⟩⟩⟩),rfl⟩ rfl rfl rfl) ?_
  iterate 3 refine w_ ?_
  refine lc (Qp 4 (.pr .int (.pr .int .bool)) Xj rfl rfl (Fresh.of rfl) (nlr rfl))<|lc (Qe (Qa rfl) rfl (Qb rfl) rfl ZF rfl) ?_
  iterate 4 refine w_ ?_
  refine lc (Q6 5 (VZ aS (by omega)) WM ⟨_,_,rfl,(Qb rfl),rfl⟩ rfl rfl ⟨Fresh.of rfl,Fresh.of rfl,Fresh.of rfl,trivial⟩ (nlr rfl))<|lc (Qp 8 (.pr (.pr .int (.sl 159 (.pr (.sl 3 .int) (.sl 3 .int)))) (.pr (.sl 145 (.pr .str .int)) (.pr (.sl 61 (.pr .int .bool)) .str))) XH rfl rfl (Fresh.of rfl) (nlr rfl))<|lc (Qe (Qa rfl) rfl (Qb rfl) rfl Q9 rfl) ?_
  iterate 3 refine w_ ?_
  refine lc (Zm (Kv aS (by omega)) Qj7 ⟨_,_,rfl,(XR (Qb rfl) ⟨_,_,rfl, .inl rfl,⟨_,_,rfl, .inr ⟨_,_,_,_,rfl,rfl,rfl⟩,⟨_,_,rfl, .inr ⟨_,_,_,_,rfl,rfl,rfl⟩,⟨_,_,rfl, .inr ⟨_,_,_,_,rfl,rfl,rfl⟩,⟨_,_,rfl, .inl rfl,rfl⟩⟩⟩⟩⟩),rfl⟩ rfl rfl rfl) ?_
  iterate 3 refine w_ ?_
  refine lc (Qp 9 (.pr .int (.pr .int .bool)) Xj rfl rfl (Fresh.of rfl) (nlr rfl))<|lc (Qe (Qa rfl) rfl (Qb rfl) rfl ZF rfl) ?_
  iterate 6 refine w_ ?_
  refine lc (Qn (Qdy (boV aS) (boV aS) rfl) Qj1 ⟨_,_,rfl,(Qb rfl),⟨_,_,rfl,(Qb rfl),rfl⟩⟩ rfl rfl) ?_
  iterate 4 refine w_ ?_
  refine lgy rfl rfl (Qae (Qa rfl) (Qa rfl) rfl QgP) ?_
  iterate 2 refine w_ ?_
  cases hb3:((boB aS)==(boB aS))
  ·iterate 4 refine w_ ?_
   refine Qf ?_
   subst hO
   have e4:(false:Bool)=true:=by
    exfalso; first | omega | (simp at hb3; done)
   exact Ql (Qm rfl (Qd rfl)) ((congrArg (fun z_=>lB z_) e4)) rfl
  ·iterate 3 refine w_ ?_
   refine dw [io 36 (ag [dI aS.1.1, .ref 5, .ref 6, .ref 7,dS aS.2.2.2]),io 37 (ag [dI aS.1.1, .dat (.sl 222 (.pr (.sl 3 .int) (.sl 3 .int))) aS.1.2, .dat (.sl 153 (.pr .str .int)) aS.2.1, .dat (.sl 51 (.pr .int .bool)) aS.2.2.1,dS aS.2.2.2]),⟨some 38,ag [dI aS.1.1, .ref 10, .ref 11, .ref 12,dS aS.2.2.2],[(10,some (.arr 159 (.pr (.sl 3 .int) (.sl 3 .int)) aS.1.2)),(11,some (.arr 145 (.pr .str .int) aS.2.1)),(12,some (.arr 61 (.pr .int .bool) aS.2.2.1))]⟩,io 39 (lB true),io 40 (lB false)] [0,0,2,7,15] mixed rfl (by kernel_rfl) ⟨dxa Q9 rfl rfl rfl rfl,dxa QhS rfl rfl rfl rfl,fun _ h_=>ac (Q6 10 (VZ aS (by omega)) WM ⟨_,_,rfl,(h_.w rfl),rfl⟩ rfl rfl ⟨(h_.fr 10 rfl),(h_.fr 11 rfl),(h_.fr 12 rfl),trivial⟩ (nlr rfl)) rfl,fun _ h_=>ac (Zm (Qgc aS aS rfl) QeF ⟨_,_,rfl,(XR (h_.w rfl) ⟨_,_,rfl, .inl rfl,⟨_,_,rfl, .inr ⟨_,_,_,_,rfl,(h_.n 5 rfl),rfl⟩,⟨_,_,rfl, .inr ⟨_,_,_,_,rfl,(h_.n 6 rfl),rfl⟩,⟨_,_,rfl, .inr ⟨_,_,_,_,rfl,(h_.n 7 rfl),rfl⟩,⟨_,_,rfl, .inl rfl,rfl⟩⟩⟩⟩⟩),⟨_,_,rfl,(XR (h_.w rfl) ⟨_,_,rfl, .inl rfl,⟨_,_,rfl, .inr ⟨_,_,_,_,rfl,(h_.n 10 rfl),rfl⟩,⟨_,_,rfl, .inr ⟨_,_,_,_,rfl,(h_.n 11 rfl),rfl⟩,⟨_,_,rfl, .inr ⟨_,_,_,_,rfl,(h_.n 12 rfl),rfl⟩,⟨_,_,rfl, .inl rfl,rfl⟩⟩⟩⟩⟩),rfl⟩⟩ rfl rfl rfl) rfl,fun _ h_=>ac (Wn (h_.v rfl) rfl) rfl,⟨⟩⟩ ?_
   iterate 5 refine w_ ?_
   refine Qf ?_
   subst hO
   exact Ql (Qm rfl (Qd rfl)) rfl rfl
 ·have hb2':=of_decide_eq_true hb2
  iterate 4 refine w_ ?_
  refine Qf ?_
  subst hO
  exact Ql (Qm rfl (Qd rfl)) rfl rfl
end Go.Proofs.YtnakmhfjafecpaaGreat
