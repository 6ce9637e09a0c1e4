/- Walks over abstract states: the state graph, both sides. -/
import Derived.Test.YtnakmhfjafecpaaGreatWl
import Derived.Test.YtnakmhfjafecpaaGreatWo
set_option linter.unusedSimpArgs false
set_option linter.unusedVariables false
set_option linter.unusedSectionVars false
namespace Go.Proofs.YtnakmhfjafecpaaGreat
open Go.RowKit
set_option maxRecDepth 100000
set_option maxHeartbeats 4000000
structure Rok (m:Nat) (st:RS):Prop where
  one:1≤st.1.length
  most:st.1.length≤300
  nd:st.1.Nodup
  mv:∀v∈st.2.1,MvOk st.1.length m v
section
variable {n:Y0}{k f:Nat}{mk:ByteArray}{t:Int}{ts:List Int}{st:RS}{s:Q5}{l:List ByteArray}{x:ByteArray}
theorem QlT (h:0≤ZQ l x):ZQ l x < l.length:=by
  unfold ZQ ZH at h ⊢
  cases hf:l.findIdx? (fun y=>decide (y=x)) with
  | none=>rw[hf] at h; simp at h
  | some i=>
    obtain ⟨h1,_⟩:=List.findIdx?_eq_some_iff_getElem.1 hf
    simp; omega
theorem Qec (h:¬0≤ZQ l x):x∉l:=fun hm=>by
  unfold ZQ ZH at h
  cases hf:l.findIdx? (fun y=>decide (y=x)) with
  | none=>
    have:=List.findIdx?_eq_none_iff.1 hf x hm
    simp at this
  | some i=>rw[hf] at h; simp at h
theorem MvOk.grow {a b m:Nat}{v:DMv}(h:MvOk a m v)(hab:a≤b):MvOk b m v:=by
  obtain ⟨⟨h1,h2⟩,h3,h4,h5⟩:=h
  exact ⟨⟨h1,by omega⟩,h3,h4,by omega⟩
theorem Qox (hk:k < st.1.length)(hts:∀t∈ts,0≤t∧t < n.2.length)(h:Rok n.2.length st):Rok n.2.length (goT n k mk ts st).1∧(goT n k mk ts st).1.2.1.length≤st.2.1.length+ts.length∧st.1.length≤(goT n k mk ts st).1.1.length:=by
  induction ts generalizing st with
  | nil=>rw[goT]; exact ⟨h,by simp,Nat.le_refl _⟩
  | cons t ts ih=>
    have ht:=hts t (List.mem_cons_self ..)
    have hts':∀t∈ts,0≤t∧t < n.2.length:=fun t h=>hts t (List.mem_cons_of_mem _ h)
    rw[goT]
    split
    · exact ⟨h,by simp,Nat.le_refl _⟩
    · split
      · rename_i h0
        have hlt:=QlT h0
        obtain ⟨h1,h2,h3⟩:=ih (st:=(st.1,st.2.1++[((k:Int),t,ZQ st.1 (Zy n mk t).1)],st.2.2)) hk hts' ⟨h.one,h.most,h.nd,fun v hv=>by
          rcases List.mem_append.1 hv with hv | hv
          · exact h.mv v hv
          · rw[List.mem_singleton.1 hv]; exact ⟨⟨Int.natCast_nonneg _,by simpa using hk⟩,ht,h0,hlt⟩⟩
        exact ⟨h1,by simp at h2 ⊢; omega,h3⟩
      · rename_i h0
        split
        · exact ⟨h,by simp,Nat.le_refl _⟩
        · rename_i h4
          have hm:=h.most
          obtain ⟨h1,h2,h3⟩:=ih (st:=(st.1++[(Zy n mk t).1],st.2.1++[((k:Int),t,(st.1.length:Int))],st.2.2++[((k:Int),t,(st.1.length:Int))])) (by simp; omega) hts' ⟨by simp,by simp; omega,
            List.nodup_append.2 ⟨h.nd,by simp,fun a ha b hb e=>Qec h0 (by rw[List.mem_singleton.1 hb] at e; exact e▸ha)⟩,fun v hv=>by
              rcases List.mem_append.1 hv with hv | hv
              · exact (h.mv v hv).grow (by simp)
              · rw[List.mem_singleton.1 hv]; exact ⟨⟨Int.natCast_nonneg _,by simp; omega⟩,ht,Int.natCast_nonneg _,by simp; omega⟩⟩
          exact ⟨h1,by simp at h2 ⊢; omega,by simp at h3; omega⟩
theorem Qow (hn:n.2.length≤24)(h:Rok n.2.length st)(hl:st.2.1.length≤24*k):Rok n.2.length (goK n f k st).1∧(goK n f k st).1.2.1.length≤24*(k+f):=by
  induction f generalizing k st with
  | zero=>rw[goK]; exact ⟨h,by omega⟩
  | succ f ih=>
    rw[goK]
    cases hx:st.1[k]? with
    | none=>exact ⟨h,by show st.2.1.length≤_; omega⟩
    | some mk=>
      obtain ⟨h1,h2,h3⟩:=Qox (mk:=mk) (ts:=Q4 n mk) (List.getElem?_eq_some_iff.1 hx).1 (fun t ht=>by
        obtain ⟨i,hi⟩:=List.mem_iff_getElem?.1 ht
        exact Yb hi) h
      have h4:=Vg n mk
      show Rok n.2.length (if _ then _ else _:RS×QgJ).1∧(if _ then _ else _:RS×QgJ).1.2.1.length≤_
      split
      · obtain ⟨h5, h6⟩ := ih (k := k + 1) h1 (by omega)
        exact ⟨h5,by omega⟩
      · exact ⟨h1,by omega⟩
theorem QlU (hs:StgOk s):Rok s.2.2.1.length (ZM s).1∧(ZM s).1.2.1.length≤7224:=by
  have h:=Qow (n:=s.1) (k:=0) (f:=301) (st:=([s.2.2.2],[],[((0:Int),(0:Int),(0:Int))])) hs.net.2.1 ⟨by simp,by simp,by simp,by simp⟩ (by simp)
  rw[← hs.len] at h
  exact h
end
theorem Qc1 {ss:List Zc}(h:QbD ss):ss.length≤24:=by
  have:=h.2.2
  omega
section
variable [∀s,Decidable (StgOk s)]{s:Q5}
theorem Y4 (h:¬StgOk s):Qc s=(Qiq,false):=if_neg fun h2=>h h2.1
theorem ZZ (h:(exV s).2.2.2=false):Qc s=(Qiq,false):=if_neg fun h2=>by
  have:(ZM s).2.2.2=false:=h
  rw[this] at h2
  cases h2.2
theorem YY (hs:StgOk s)(h:(exV s).2.2.2=true):Qc s=((exV s).1,true):=if_pos ⟨hs,h⟩
theorem Zo (h:(Qc s).2=true):StgOk s∧1≤(Qc s).1.1.length∧(Qc s).1.1.length≤300∧(Qc s).1.1.Nodup∧(∀v∈(Qc s).1.2,MvOk (Qc s).1.1.length s.2.2.1.length v)∧(Qc s).1.2.length≤7224:=by
  unfold Qc at h ⊢
  split
  · rename_i h1
    obtain ⟨h2,h3⟩:=QlU h1.1
    exact ⟨h1.1,h2.one,h2.most,h2.nd,h2.mv,h3⟩
  · rename_i h1
    rw[if_neg h1] at h
    cases h
end
section
variable {s:Q5}
theorem Qfi (h:¬0≤(l4V s).2.2.2.1)(h2:(l4V s).2.2.2.2=false):(exV s).2.2.2=true:=by
  have h:¬0≤(ZM s).2.2.1:=h
  have h2:(!(ZM s).2.2.2&&decide ((ZM s).2.2.1 < 0))=false:=h2
  show (ZM s).2.2.2=true
  rw[decide_eq_true (by omega)] at h2
  simpa using h2
theorem QeH (h:¬0≤(l4V s).2.2.2.1)(h2:(l4V s).2.2.2.2=true):(exV s).2.2.2=false:=by
  have h2:(!(ZM s).2.2.2&&decide ((ZM s).2.2.1 < 0))=true:=h2
  rw[Bool.and_eq_true] at h2
  show (ZM s).2.2.2=false
  simpa using h2.1
end
theorem Qka {n:Y0}{k:Nat}{mk:ByteArray}{ts:List Int}{st:RS}(h:(goT n k mk ts st).2.2.2=true):(goT n k mk ts st).2.2.1= -1:=by
  induction ts generalizing st with
  | nil=>rw[goT]
  | cons t ts ih=>
    rw[goT] at h ⊢
    split
    · rename_i h1; rw[if_pos h1] at h; cases h
    · rename_i h1
      rw[if_neg h1] at h
      split
      · rename_i h2; rw[if_pos h2] at h; exact ih h
      · rename_i h2
        rw[if_neg h2] at h
        split
        · rfl
        · rename_i h3; rw[if_neg h3] at h; exact ih h
theorem Qkz {n:Y0}{f k:Nat}{st:RS}(h:(goK n f k st).2.2.2=true):(goK n f k st).2.2.1= -1:=by
  induction f generalizing k st with
  | zero=>rw[goK]
  | succ f ih=>
    rw[goK] at h ⊢
    cases hx:st.1[k]? with
    | none=>rfl
    | some mk=>
      rw[hx] at h
      simp only at h ⊢
      split
      · rename_i h1; rw[if_pos h1] at h; exact ih h
      · rename_i h1; rw[if_neg h1] at h; exact Qka h
theorem Qfx {s:Q5}(h:0≤(l4V s).2.2.2.1):(exV s).2.2.2=false:=by
  have h:0≤(ZM s).2.2.1:=h
  show (ZM s).2.2.2=false
  cases he:(ZM s).2.2.2 with
  | false=>rfl
  | true=>
    have:=Qkz (n:=s.1) (f:=301) (k:=0) (st:=([s.2.2.2],[],[((0:Int),(0:Int),(0:Int))])) he
    have h2:(ZM s).2.2.1= -1:=this
    omega
theorem Ww (s:(Int×(List (List Int×List Int)))×(List (ByteArray×Int))×(List (Int×Bool))×ByteArray)[∀s,Decidable (StgOk s)]:FC Tryz.prog 113 [(true,[dI s.1.1, .dat (.sl 159 (.pr (.sl 3 .int) (.sl 3 .int))) s.1.2, .dat (.sl 145 (.pr .str .int)) s.2.1, .dat (.sl 61 (.pr .int .bool)) s.2.2.1,dS s.2.2.2])] [] 0 (Is (PV.tup [(true,[.ref 0, .ref 1]),(false,[dB ((Qc s).2)])]) [(0,some (.arr 9 .str (((Qc s).1).1))),(1,some (.arr 226 (.pr .int (.pr .int .int)) (((Qc s).1).2)))]):=by
 refine QN Tryz.func113 rfl rfl Tryz.ntmps113 fun O_ hO w0_ N0_ X_ h0_ f0_=> ?_
 refine AC.fact (QG (x:= .tmp 0) (i:=0) (Qb rfl) rfl) fun hi1=> ?_
 refine w_ ?_
 refine lc (Qw 0 (Qb rfl) rfl rfl (Fresh.of rfl) (nlr rfl))<|lc (Qp 1 (.pr (.sl 9 .str) (.sl 226 (.pr .int (.pr .int .int)))) Wr rfl rfl (Fresh.of rfl) (nlr rfl)) ?_
 iterate 5 refine w_ ?_
 refine lc (Qn (Yt s) UO ⟨_,_,rfl,(Qb rfl),rfl⟩ rfl rfl) ?_
 iterate 2 refine w_ ?_
 cases hb2:(decide (StgOk s))
 ·have hb2':=of_decide_eq_false hb2
  iterate 2 refine w_ ?_
  refine lc (QH JI rfl (List.all_eq_true.1 rfl) rfl rfl)<|lc (Qe (Qa rfl) rfl (Qb rfl) rfl ZD rfl) ?_
  iterate 2 refine w_ ?_
  refine AC.wk (QR 2 (p:=1) (off:=0) 9 .str rfl rfl (Fresh.of rfl) (nlr rfl))<|AC.wk (QR 3 (p:=1) (off:=1) 226 (.pr .int (.pr .int .int)) rfl rfl (Fresh.of rfl) (nlr rfl))<|Qf ?_
  subst hO
  have e3:(false:Bool)=((Qc s).2):=by
   (rw[Y4 (by assumption)]; done)
  exact QF _ _ [(0,2),(1,3)] (QC rfl (Q3 rfl rfl ZD rfl) (Qd rfl)) ((congrArg (fun z_=>PV.tup [(true,[.ref 2, .ref 3]),(false,[dB z_])]) e3)) ⟨(Qy (by (rw[Y4 (by assumption)]; rfl))),(Qy (by (rw[Y4 (by assumption)]; rfl))),trivial⟩ rfl rfl
 ·have hb2':=of_decide_eq_true hb2
  iterate 4 refine w_ ?_
  refine lc (Q6 4 (Qac s (by assumption)) QiN ⟨_,_,rfl,(Qb rfl),rfl⟩ rfl rfl ⟨Fresh.of rfl,Fresh.of rfl,trivial⟩ (nlr rfl)) ?_
  iterate 5 refine w_ ?_
  refine lc (Qp 6 (.pr (.sl 9 .str) (.sl 226 (.pr .int (.pr .int .int)))) Wr rfl rfl (Fresh.of rfl) (nlr rfl))<|lc (Qe (Qa rfl) rfl (Qb rfl) rfl ZD rfl) ?_
  iterate 9 refine w_ ?_
  cases hb4:((exV s).2.2.2)
  ·iterate 2 refine w_ ?_
   refine lc (QH JI rfl (List.all_eq_true.1 rfl) rfl rfl)<|lc (Qe (Qa rfl) rfl (Qb rfl) rfl ZD rfl) ?_
   iterate 2 refine w_ ?_
   refine AC.wk (QR 7 (p:=1) (off:=0) 9 .str rfl rfl (Fresh.of rfl) (nlr rfl))<|AC.wk (QR 8 (p:=1) (off:=1) 226 (.pr .int (.pr .int .int)) rfl rfl (Fresh.of rfl) (nlr rfl))<|Qf ?_
   subst hO
   have e5:(false:Bool)=((Qc s).2):=by
    (rw[ZZ (by assumption)]; done)
   exact QF _ _ [(0,7),(1,8)] (QC rfl (Q3 rfl rfl ZD rfl) (Qd rfl)) ((congrArg (fun z_=>PV.tup [(true,[.ref 7, .ref 8]),(false,[dB z_])]) e5)) ⟨(Qy (by (rw[ZZ (by assumption)]; rfl))),(Qy (by (rw[ZZ (by assumption)]; rfl))),trivial⟩ rfl rfl
  ·iterate 4 refine w_ ?_
   refine lc (Qe (Qa rfl) rfl (Qb rfl) rfl ZD rfl) ?_
   iterate 2 refine w_ ?_
   refine Qf ?_
   subst hO
   have e6:(true:Bool)=((Qc s).2):=by
    (rw[YY (by assumption) (by assumption)]; done)
   exact QF _ _ [(0,4),(1,5)] (QC rfl (Q3 rfl rfl ZD rfl) (Qd rfl)) ((congrArg (fun z_=>PV.tup [(true,[.ref 4, .ref 5]),(false,[dB z_])]) e6)) ⟨(Qy (by (rw[YY (by assumption) (by assumption)]; done))),(Qy (by (rw[YY (by assumption) (by assumption)]; done))),trivial⟩ rfl rfl
theorem Wt (s:(Int×(List (List Int×List Int)))×(List (ByteArray×Int))×(List (Int×Bool))×ByteArray)[∀s,Decidable (StgOk s)]:FC Tryz.prog 52 [(true,[dI s.1.1, .dat (.sl 159 (.pr (.sl 3 .int) (.sl 3 .int))) s.1.2, .dat (.sl 145 (.pr .str .int)) s.2.1, .dat (.sl 61 (.pr .int .bool)) s.2.2.1,dS s.2.2.2])] [] 0 (Is (PV.tup [(true,[.ref 0, .ref 1]),(false,[dB ((Qc s).2)])]) [(0,some (.arr 9 .str (((Qc s).1).1))),(1,some (.arr 226 (.pr .int (.pr .int .int)) (((Qc s).1).2)))]):=by
 refine QN Tryz.func52 rfl rfl Tryz.ntmps52 fun O_ hO w0_ N0_ X_ h0_ f0_=> ?_
 refine AC.fact (QG (x:= .tmp 0) (i:=0) (Qb rfl) rfl) fun hi1=> ?_
 refine w_ ?_
 refine lc (Qw 0 (Qb rfl) rfl rfl (Fresh.of rfl) (nlr rfl))<|lc (Qp 1 (.pr (.sl 9 .str) (.sl 226 (.pr .int (.pr .int .int)))) Wr rfl rfl (Fresh.of rfl) (nlr rfl)) ?_
 iterate 5 refine w_ ?_
 refine lc (Qn (YJ s) W2 ⟨_,_,rfl,(Qb rfl),rfl⟩ rfl rfl) ?_
 iterate 2 refine w_ ?_
 cases hb2:(decide (StgOk s))
 ·have hb2':=of_decide_eq_false hb2
  iterate 2 refine w_ ?_
  refine lc (QH JI rfl (List.all_eq_true.1 rfl) rfl rfl)<|lc (Qe (Qa rfl) rfl (Qb rfl) rfl ZD rfl) ?_
  iterate 2 refine w_ ?_
  refine AC.wk (QR 2 (p:=1) (off:=0) 9 .str rfl rfl (Fresh.of rfl) (nlr rfl))<|AC.wk (QR 3 (p:=1) (off:=1) 226 (.pr .int (.pr .int .int)) rfl rfl (Fresh.of rfl) (nlr rfl))<|Qf ?_
  subst hO
  have e3:(false:Bool)=((Qc s).2):=by
   (rw[Y4 (by assumption)]; done)
  exact QF _ _ [(0,2),(1,3)] (QC rfl (Q3 rfl rfl ZD rfl) (Qd rfl)) ((congrArg (fun z_=>PV.tup [(true,[.ref 2, .ref 3]),(false,[dB z_])]) e3)) ⟨(Qy (by (rw[Y4 (by assumption)]; rfl))),(Qy (by (rw[Y4 (by assumption)]; rfl))),trivial⟩ rfl rfl
 ·have hb2':=of_decide_eq_true hb2
  iterate 4 refine w_ ?_
  refine lc (Q6 4 (QaU s (by assumption)) Qh2 ⟨_,_,rfl,(Qb rfl),rfl⟩ rfl rfl ⟨Fresh.of rfl,Fresh.of rfl,Fresh.of rfl,trivial⟩ (nlr rfl))<|lc (Qp 7 (.pr (.pr (.sl 9 .str) (.sl 226 (.pr .int (.pr .int .int)))) (.pr (.sl 226 (.pr .int (.pr .int .int))) (.pr .int (.pr .int .bool)))) Qbs rfl rfl (Fresh.of rfl) (nlr rfl))<|lc (Qe (Qa rfl) rfl (Qb rfl) rfl Vr rfl) ?_
  iterate 5 refine w_ ?_
  refine AL.fact (QA (x:= .tmp 12) (Qa rfl)) fun hi4=> ?_
  iterate 2 refine w_ ?_
  cases hb5:(decide (0≤((l4V s).2.2.2.1)))
  ·have hb5':=of_decide_eq_false hb5
   iterate 4 refine w_ ?_
   cases hb6:((l4V s).2.2.2.2)
   ·iterate 5 refine w_ ?_
    refine lc (Qe (Qa rfl) rfl (Qb rfl) rfl ZD rfl) ?_
    iterate 2 refine w_ ?_
    refine Qf ?_
    subst hO
    have e7:(true:Bool)=((Qc s).2):=by
     (rw[YY (by assumption) (Qfi (by assumption) (by assumption))]; done)
    exact QF _ _ [(0,4),(1,5)] (QC rfl (Q3 rfl rfl ZD rfl) (Qd rfl)) ((congrArg (fun z_=>PV.tup [(true,[.ref 4, .ref 5]),(false,[dB z_])]) e7)) ⟨(Qy (by (rw[YY (by assumption) (Qfi (by assumption) (by assumption))]; rfl))),(Qy (by (rw[YY (by assumption) (Qfi (by assumption) (by assumption))]; rfl))),trivial⟩ rfl rfl
   ·iterate 2 refine w_ ?_
    refine lc (QH JI rfl (List.all_eq_true.1 rfl) rfl rfl)<|lc (Qe (Qa rfl) rfl (Qb rfl) rfl ZD rfl) ?_
    iterate 2 refine w_ ?_
    refine AC.wk (QR 8 (p:=1) (off:=0) 9 .str rfl rfl (Fresh.of rfl) (nlr rfl))<|AC.wk (QR 9 (p:=1) (off:=1) 226 (.pr .int (.pr .int .int)) rfl rfl (Fresh.of rfl) (nlr rfl))<|Qf ?_
    subst hO
    have e8:(false:Bool)=((Qc s).2):=by
     (rw[ZZ (QeH (by assumption) (by assumption))]; done)
    exact QF _ _ [(0,8),(1,9)] (QC rfl (Q3 rfl rfl ZD rfl) (Qd rfl)) ((congrArg (fun z_=>PV.tup [(true,[.ref 8, .ref 9]),(false,[dB z_])]) e8)) ⟨(Qy (by (rw[ZZ (QeH (by assumption) (by assumption))]; rfl))),(Qy (by (rw[ZZ (QeH (by assumption) (by assumption))]; rfl))),trivial⟩ rfl rfl
  ·have hb5':=of_decide_eq_true hb5
   iterate 6 refine w_ ?_
   refine lc (QH JI rfl (List.all_eq_true.1 rfl) rfl rfl)<|lc (Qe (Qa rfl) rfl (Qb rfl) rfl ZD rfl) ?_
   iterate 2 refine w_ ?_
   refine AC.wk (QR 10 (p:=1) (off:=0) 9 .str rfl rfl (Fresh.of rfl) (nlr rfl))<|AC.wk (QR 11 (p:=1) (off:=1) 226 (.pr .int (.pr .int .int)) rfl rfl (Fresh.of rfl) (nlr rfl))<|Qf ?_
   subst hO
   have e9:(false:Bool)=((Qc s).2):=by
    (rw[ZZ (Qfx (by assumption))]; done)
   exact QF _ _ [(0,10),(1,11)] (QC rfl (Q3 rfl rfl ZD rfl) (Qd rfl)) ((congrArg (fun z_=>PV.tup [(true,[.ref 10, .ref 11]),(false,[dB z_])]) e9)) ⟨(Qy (by (rw[ZZ (Qfx (by assumption))]; rfl))),(Qy (by (rw[ZZ (Qfx (by assumption))]; rfl))),trivial⟩ rfl rfl
end Go.Proofs.YtnakmhfjafecpaaGreat
