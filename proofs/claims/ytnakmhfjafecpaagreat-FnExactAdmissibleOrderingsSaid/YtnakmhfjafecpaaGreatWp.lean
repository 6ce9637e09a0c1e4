/- Walks over abstract states: the state graph, both sides. -/
import Derived.Test.YtnakmhfjafecpaaGreatWl
import Derived.Test.YtnakmhfjafecpaaGreatWo
set_option linter.unusedSimpArgs false
set_option linter.unusedVariables false
set_option linter.unusedSectionVars false
namespace Go.Proofs.YtnakmhfjafecpaaGreat
open Go.RowKit
set_option maxRecDepth 100000
set_option maxHeartbeats 4000000

/-! What the search finds is in order. -/
structure Rok (m : Nat) (st : RS) : Prop where
  one : 1 ≤ st.1.length
  most : st.1.length ≤ 300
  nd : st.1.Nodup
  mv : ∀ v ∈ st.2.1, MvOk st.1.length m v
section
variable {n : DNet} {k f : Nat} {mk : ByteArray} {t : Int} {ts : List Int} {st : RS} {s : DSTG} {l : List ByteArray} {x : ByteArray}
theorem findB_lt (h : 0 ≤ findB l x) : findB l x < l.length := by
  unfold findB idxF at h ⊢
  cases hf : l.findIdx? (fun y => decide (y = x)) with
  | none => rw [hf] at h; simp at h
  | some i =>
    obtain ⟨h1, _⟩ := List.findIdx?_eq_some_iff_getElem.1 hf
    simp; omega
theorem findB_mem (h : ¬ 0 ≤ findB l x) : x ∉ l := fun hm => by
  unfold findB idxF at h
  cases hf : l.findIdx? (fun y => decide (y = x)) with
  | none =>
    have := List.findIdx?_eq_none_iff.1 hf x hm
    simp at this
  | some i => rw [hf] at h; simp at h
theorem MvOk.grow {a b m : Nat} {v : DMv} (h : MvOk a m v) (hab : a ≤ b) : MvOk b m v := by
  obtain ⟨⟨h1, h2⟩, h3, h4, h5⟩ := h
  exact ⟨⟨h1, by omega⟩, h3, h4, by omega⟩
theorem goT_ok (hk : k < st.1.length) (hts : ∀ t ∈ ts, 0 ≤ t ∧ t < n.2.length) (h : Rok n.2.length st) : Rok n.2.length (goT n k mk ts st).1 ∧ (goT n k mk ts st).1.2.1.length ≤ st.2.1.length + ts.length ∧ st.1.length ≤ (goT n k mk ts st).1.1.length := by
  induction ts generalizing st with
  | nil => rw [goT]; exact ⟨h, by simp, Nat.le_refl _⟩
  | cons t ts ih =>
    have ht := hts t (List.mem_cons_self ..)
    have hts' : ∀ t ∈ ts, 0 ≤ t ∧ t < n.2.length := fun t h => hts t (List.mem_cons_of_mem _ h)
    rw [goT]
    split
    · exact ⟨h, by simp, Nat.le_refl _⟩
    · split
      · rename_i h0
        have hlt := findB_lt h0
        obtain ⟨h1, h2, h3⟩ := ih (st := (st.1, st.2.1 ++ [((k : Int), t, findB st.1 (fireV n mk t).1)], st.2.2)) hk hts' ⟨h.one, h.most, h.nd, fun v hv => by
          rcases List.mem_append.1 hv with hv | hv
          · exact h.mv v hv
          · rw [List.mem_singleton.1 hv]; exact ⟨⟨Int.natCast_nonneg _, by simpa using hk⟩, ht, h0, hlt⟩⟩
        exact ⟨h1, by simp at h2 ⊢; omega, h3⟩
      · rename_i h0
        split
        · exact ⟨h, by simp, Nat.le_refl _⟩
        · rename_i h4
          have hm := h.most
          obtain ⟨h1, h2, h3⟩ := ih (st := (st.1 ++ [(fireV n mk t).1], st.2.1 ++ [((k : Int), t, (st.1.length : Int))], st.2.2 ++ [((k : Int), t, (st.1.length : Int))])) (by simp; omega) hts' ⟨by simp, by simp; omega,
            List.nodup_append.2 ⟨h.nd, by simp, fun a ha b hb e => findB_mem h0 (by rw [List.mem_singleton.1 hb] at e; exact e ▸ ha)⟩, fun v hv => by
              rcases List.mem_append.1 hv with hv | hv
              · exact (h.mv v hv).grow (by simp)
              · rw [List.mem_singleton.1 hv]; exact ⟨⟨Int.natCast_nonneg _, by simp; omega⟩, ht, Int.natCast_nonneg _, by simp; omega⟩⟩
          exact ⟨h1, by simp at h2 ⊢; omega, by simp at h3; omega⟩
theorem goK_ok (hn : n.2.length ≤ 24) (h : Rok n.2.length st) (hl : st.2.1.length ≤ 24 * k) : Rok n.2.length (goK n f k st).1 ∧ (goK n f k st).1.2.1.length ≤ 24 * (k + f) := by
  induction f generalizing k st with
  | zero => rw [goK]; exact ⟨h, by omega⟩
  | succ f ih =>
    rw [goK]
    cases hx : st.1[k]? with
    | none => exact ⟨h, by show st.2.1.length ≤ _; omega⟩
    | some mk =>
      obtain ⟨h1, h2, h3⟩ := goT_ok (mk := mk) (ts := enbs n mk) (List.getElem?_eq_some_iff.1 hx).1 (fun t ht => by
        obtain ⟨i, hi⟩ := List.mem_iff_getElem?.1 ht
        exact enbs_mem hi) h
      have h4 := enbs_len n mk
      show Rok n.2.length (if _ then _ else _ : RS × REnd).1 ∧ (if _ then _ else _ : RS × REnd).1.2.1.length ≤ _
      split
      · obtain ⟨h5, h6⟩ := ih (k := k + 1) h1 (by omega)
        exact ⟨h5, by omega⟩
      · exact ⟨h1, by omega⟩
theorem reach_ok (hs : StgOk s) : Rok s.2.2.1.length (reach s).1 ∧ (reach s).1.2.1.length ≤ 7224 := by
  have h := goK_ok (n := s.1) (k := 0) (f := 301) (st := ([s.2.2.2], [], [((0 : Int), (0 : Int), (0 : Int))])) hs.net.2.1 ⟨by simp, by simp, by simp, by simp⟩ (by simp)
  rw [← hs.len] at h
  exact h
end
theorem sigs_len {ss : List DSignal} (h : SigsOk ss) : ss.length ≤ 24 := by
  have := h.2.2
  omega
section
variable [∀ s, Decidable (StgOk s)] {s : DSTG}
theorem exploreV_no1 (h : ¬ StgOk s) : exploreV s = (zeroRG, false) := if_neg fun h2 => h h2.1
theorem exploreV_no2 (h : (exV s).2.2.2 = false) : exploreV s = (zeroRG, false) := if_neg fun h2 => by
  have : (reach s).2.2.2 = false := h
  rw [this] at h2
  cases h2.2
theorem exploreV_yes (hs : StgOk s) (h : (exV s).2.2.2 = true) : exploreV s = ((exV s).1, true) := if_pos ⟨hs, h⟩
theorem exploreV_ok (h : (exploreV s).2 = true) : StgOk s ∧ 1 ≤ (exploreV s).1.1.length ∧ (exploreV s).1.1.length ≤ 300 ∧ (exploreV s).1.1.Nodup ∧ (∀ v ∈ (exploreV s).1.2, MvOk (exploreV s).1.1.length s.2.2.1.length v) ∧ (exploreV s).1.2.length ≤ 7224 := by
  unfold exploreV at h ⊢
  split
  · rename_i h1
    obtain ⟨h2, h3⟩ := reach_ok h1.1
    exact ⟨h1.1, h2.one, h2.most, h2.nd, h2.mv, h3⟩
  · rename_i h1
    rw [if_neg h1] at h
    cases h
end
section
variable {s : DSTG}
theorem l4V_yes (h : ¬ 0 ≤ (l4V s).2.2.2.1) (h2 : (l4V s).2.2.2.2 = false) : (exV s).2.2.2 = true := by
  have h : ¬ 0 ≤ (reach s).2.2.1 := h
  have h2 : (!(reach s).2.2.2 && decide ((reach s).2.2.1 < 0)) = false := h2
  show (reach s).2.2.2 = true
  rw [decide_eq_true (by omega)] at h2
  simpa using h2
theorem l4V_no2 (h : ¬ 0 ≤ (l4V s).2.2.2.1) (h2 : (l4V s).2.2.2.2 = true) : (exV s).2.2.2 = false := by
  have h2 : (!(reach s).2.2.2 && decide ((reach s).2.2.1 < 0)) = true := h2
  rw [Bool.and_eq_true] at h2
  show (reach s).2.2.2 = false
  simpa using h2.1
end
/-- A transition that fails is told. -/
theorem goT_end_t {n : DNet} {k : Nat} {mk : ByteArray} {ts : List Int} {st : RS} (h : (goT n k mk ts st).2.2.2 = true) : (goT n k mk ts st).2.2.1 = -1 := by
  induction ts generalizing st with
  | nil => rw [goT]
  | cons t ts ih =>
    rw [goT] at h ⊢
    split
    · rename_i h1; rw [if_pos h1] at h; cases h
    · rename_i h1
      rw [if_neg h1] at h
      split
      · rename_i h2; rw [if_pos h2] at h; exact ih h
      · rename_i h2
        rw [if_neg h2] at h
        split
        · rfl
        · rename_i h3; rw [if_neg h3] at h; exact ih h
theorem goK_end_t {n : DNet} {f k : Nat} {st : RS} (h : (goK n f k st).2.2.2 = true) : (goK n f k st).2.2.1 = -1 := by
  induction f generalizing k st with
  | zero => rw [goK]
  | succ f ih =>
    rw [goK] at h ⊢
    cases hx : st.1[k]? with
    | none => rfl
    | some mk =>
      rw [hx] at h
      simp only at h ⊢
      split
      · rename_i h1; rw [if_pos h1] at h; exact ih h
      · rename_i h1; rw [if_neg h1] at h; exact goT_end_t h
theorem l4V_no1 {s : DSTG} (h : 0 ≤ (l4V s).2.2.2.1) : (exV s).2.2.2 = false := by
  have h : 0 ≤ (reach s).2.2.1 := h
  show (reach s).2.2.2 = false
  cases he : (reach s).2.2.2 with
  | false => rfl
  | true =>
    have := goK_end_t (n := s.1) (f := 301) (k := 0) (st := ([s.2.2.2], [], [((0 : Int), (0 : Int), (0 : Int))])) he
    have h2 : (reach s).2.2.1 = -1 := this
    omega

theorem fc_impl_Explore (s : (Int × (List (List Int × List Int))) × (List (ByteArray × Int)) × (List (Int × Bool)) × ByteArray) [∀ s, Decidable (StgOk s)]  : FC Tryz.prog 113 [(true, [dI s.1.1, .dat (.sl 159 (.pr (.sl 3 .int) (.sl 3 .int))) s.1.2, .dat (.sl 145 (.pr .str .int)) s.2.1, .dat (.sl 61 (.pr .int .bool)) s.2.2.1, dS s.2.2.2])] [] 0 (Is (PV.tup [(true, [.ref 0, .ref 1]), (false, [dB ((exploreV s).2)])]) [(0, some (.arr 9 .str (((exploreV s).1).1))), (1, some (.arr 226 (.pr .int (.pr .int .int)) (((exploreV s).1).2)))]) := by
 refine FC.go Tryz.func113 rfl rfl Tryz.ntmps113 fun O_ hO w0_ N0_ X_ h0_ f0_ => ?_
 refine AC.fact (fact_ag (x := .tmp 0) (i := 0) (Ev.tmp rfl) rfl) fun hi1 => ?_
 refine w_ ?_
 refine lc (Does.box 0 (Ev.tmp rfl) rfl rfl (Fresh.of rfl) (nlr rfl)) <| lc (Does.alloc 1 (.pr (.sl 9 .str) (.sl 226 (.pr .int (.pr .int .int)))) zer_98 rfl rfl (Fresh.of rfl) (nlr rfl)) ?_
 iterate 5 refine w_ ?_
 refine lc (Does.call (fc_impl_IsValidSTG s) enters_190 ⟨_, _, rfl, (Ev.tmp rfl), rfl⟩ rfl rfl) ?_
 iterate 2 refine w_ ?_
 cases hb2 : (decide (StgOk s))
 ·have hb2' := of_decide_eq_false hb2
  iterate 2 refine w_ ?_
  refine lc (Does.build bld_98 rfl (List.all_eq_true.1 rfl) rfl rfl) <| lc (Does.storeP (Evl.tmp rfl) rfl (Ev.tmp rfl) rfl tsh_98 rfl) ?_
  iterate 2 refine w_ ?_
  refine AC.wk (Wk.nilC 2 (p := 1) (off := 0) 9 .str rfl rfl (Fresh.of rfl) (nlr rfl)) <| AC.wk (Wk.nilC 3 (p := 1) (off := 1) 226 (.pr .int (.pr .int .int)) rfl rfl (Fresh.of rfl) (nlr rfl)) <| AC.ret ?_
  subst hO
  have e3 : (false : Bool) = ((exploreV s).2) := by
   (rw [exploreV_no1 (by assumption)]; done)
  exact fin_is _ _ [(0, 2), (1, 3)] (Res.two rfl (Rs.cell rfl rfl tsh_98 rfl) (Rs.tmp rfl)) ((congrArg (fun z_ => PV.tup [(true, [.ref 2, .ref 3]), (false, [dB z_])]) e3)) ⟨(entE (by (rw [exploreV_no1 (by assumption)]; rfl))), (entE (by (rw [exploreV_no1 (by assumption)]; rfl))), trivial⟩ rfl rfl
 ·have hb2' := of_decide_eq_true hb2
  iterate 4 refine w_ ?_
  refine lc (Does.callG 4 (fc_impl_explored s (by assumption)) enters_191 ⟨_, _, rfl, (Ev.tmp rfl), rfl⟩ rfl rfl ⟨Fresh.of rfl, Fresh.of rfl, trivial⟩ (nlr rfl)) ?_
  iterate 5 refine w_ ?_
  refine lc (Does.alloc 6 (.pr (.sl 9 .str) (.sl 226 (.pr .int (.pr .int .int)))) zer_98 rfl rfl (Fresh.of rfl) (nlr rfl)) <| lc (Does.storeP (Evl.tmp rfl) rfl (Ev.tmp rfl) rfl tsh_98 rfl) ?_
  iterate 9 refine w_ ?_
  cases hb4 : ((exV s).2.2.2)
  ·iterate 2 refine w_ ?_
   refine lc (Does.build bld_98 rfl (List.all_eq_true.1 rfl) rfl rfl) <| lc (Does.storeP (Evl.tmp rfl) rfl (Ev.tmp rfl) rfl tsh_98 rfl) ?_
   iterate 2 refine w_ ?_
   refine AC.wk (Wk.nilC 7 (p := 1) (off := 0) 9 .str rfl rfl (Fresh.of rfl) (nlr rfl)) <| AC.wk (Wk.nilC 8 (p := 1) (off := 1) 226 (.pr .int (.pr .int .int)) rfl rfl (Fresh.of rfl) (nlr rfl)) <| AC.ret ?_
   subst hO
   have e5 : (false : Bool) = ((exploreV s).2) := by
    (rw [exploreV_no2 (by assumption)]; done)
   exact fin_is _ _ [(0, 7), (1, 8)] (Res.two rfl (Rs.cell rfl rfl tsh_98 rfl) (Rs.tmp rfl)) ((congrArg (fun z_ => PV.tup [(true, [.ref 7, .ref 8]), (false, [dB z_])]) e5)) ⟨(entE (by (rw [exploreV_no2 (by assumption)]; rfl))), (entE (by (rw [exploreV_no2 (by assumption)]; rfl))), trivial⟩ rfl rfl
  ·iterate 4 refine w_ ?_
   refine lc (Does.storeP (Evl.tmp rfl) rfl (Ev.tmp rfl) rfl tsh_98 rfl) ?_
   iterate 2 refine w_ ?_
   refine AC.ret ?_
   subst hO
   have e6 : (true : Bool) = ((exploreV s).2) := by
    (rw [exploreV_yes (by assumption) (by assumption)]; done)
   exact fin_is _ _ [(0, 4), (1, 5)] (Res.two rfl (Rs.cell rfl rfl tsh_98 rfl) (Rs.tmp rfl)) ((congrArg (fun z_ => PV.tup [(true, [.ref 4, .ref 5]), (false, [dB z_])]) e6)) ⟨(entE (by (rw [exploreV_yes (by assumption) (by assumption)]; done))), (entE (by (rw [exploreV_yes (by assumption) (by assumption)]; done))), trivial⟩ rfl rfl

theorem fc_spec_Explore (s : (Int × (List (List Int × List Int))) × (List (ByteArray × Int)) × (List (Int × Bool)) × ByteArray) [∀ s, Decidable (StgOk s)]  : FC Tryz.prog 52 [(true, [dI s.1.1, .dat (.sl 159 (.pr (.sl 3 .int) (.sl 3 .int))) s.1.2, .dat (.sl 145 (.pr .str .int)) s.2.1, .dat (.sl 61 (.pr .int .bool)) s.2.2.1, dS s.2.2.2])] [] 0 (Is (PV.tup [(true, [.ref 0, .ref 1]), (false, [dB ((exploreV s).2)])]) [(0, some (.arr 9 .str (((exploreV s).1).1))), (1, some (.arr 226 (.pr .int (.pr .int .int)) (((exploreV s).1).2)))]) := by
 refine FC.go Tryz.func52 rfl rfl Tryz.ntmps52 fun O_ hO w0_ N0_ X_ h0_ f0_ => ?_
 refine AC.fact (fact_ag (x := .tmp 0) (i := 0) (Ev.tmp rfl) rfl) fun hi1 => ?_
 refine w_ ?_
 refine lc (Does.box 0 (Ev.tmp rfl) rfl rfl (Fresh.of rfl) (nlr rfl)) <| lc (Does.alloc 1 (.pr (.sl 9 .str) (.sl 226 (.pr .int (.pr .int .int)))) zer_98 rfl rfl (Fresh.of rfl) (nlr rfl)) ?_
 iterate 5 refine w_ ?_
 refine lc (Does.call (fc_spec_l2Good s) enters_106 ⟨_, _, rfl, (Ev.tmp rfl), rfl⟩ rfl rfl) ?_
 iterate 2 refine w_ ?_
 cases hb2 : (decide (StgOk s))
 ·have hb2' := of_decide_eq_false hb2
  iterate 2 refine w_ ?_
  refine lc (Does.build bld_98 rfl (List.all_eq_true.1 rfl) rfl rfl) <| lc (Does.storeP (Evl.tmp rfl) rfl (Ev.tmp rfl) rfl tsh_98 rfl) ?_
  iterate 2 refine w_ ?_
  refine AC.wk (Wk.nilC 2 (p := 1) (off := 0) 9 .str rfl rfl (Fresh.of rfl) (nlr rfl)) <| AC.wk (Wk.nilC 3 (p := 1) (off := 1) 226 (.pr .int (.pr .int .int)) rfl rfl (Fresh.of rfl) (nlr rfl)) <| AC.ret ?_
  subst hO
  have e3 : (false : Bool) = ((exploreV s).2) := by
   (rw [exploreV_no1 (by assumption)]; done)
  exact fin_is _ _ [(0, 2), (1, 3)] (Res.two rfl (Rs.cell rfl rfl tsh_98 rfl) (Rs.tmp rfl)) ((congrArg (fun z_ => PV.tup [(true, [.ref 2, .ref 3]), (false, [dB z_])]) e3)) ⟨(entE (by (rw [exploreV_no1 (by assumption)]; rfl))), (entE (by (rw [exploreV_no1 (by assumption)]; rfl))), trivial⟩ rfl rfl
 ·have hb2' := of_decide_eq_true hb2
  iterate 4 refine w_ ?_
  refine lc (Does.callG 4 (fc_spec_l4Reach s (by assumption)) enters_107 ⟨_, _, rfl, (Ev.tmp rfl), rfl⟩ rfl rfl ⟨Fresh.of rfl, Fresh.of rfl, Fresh.of rfl, trivial⟩ (nlr rfl)) <| lc (Does.alloc 7 (.pr (.pr (.sl 9 .str) (.sl 226 (.pr .int (.pr .int .int)))) (.pr (.sl 226 (.pr .int (.pr .int .int))) (.pr .int (.pr .int .bool)))) zer_155 rfl rfl (Fresh.of rfl) (nlr rfl)) <| lc (Does.storeP (Evl.tmp rfl) rfl (Ev.tmp rfl) rfl tsh_155 rfl) ?_
  iterate 5 refine w_ ?_
  refine AL.fact (fact_int (x := .tmp 12) (Evl.tmp rfl)) fun hi4 => ?_
  iterate 2 refine w_ ?_
  cases hb5 : (decide (0 ≤ ((l4V s).2.2.2.1)))
  ·have hb5' := of_decide_eq_false hb5
   iterate 4 refine w_ ?_
   cases hb6 : ((l4V s).2.2.2.2)
   ·iterate 5 refine w_ ?_
    refine lc (Does.storeP (Evl.tmp rfl) rfl (Ev.tmp rfl) rfl tsh_98 rfl) ?_
    iterate 2 refine w_ ?_
    refine AC.ret ?_
    subst hO
    have e7 : (true : Bool) = ((exploreV s).2) := by
     (rw [exploreV_yes (by assumption) (l4V_yes (by assumption) (by assumption))]; done)
    exact fin_is _ _ [(0, 4), (1, 5)] (Res.two rfl (Rs.cell rfl rfl tsh_98 rfl) (Rs.tmp rfl)) ((congrArg (fun z_ => PV.tup [(true, [.ref 4, .ref 5]), (false, [dB z_])]) e7)) ⟨(entE (by (rw [exploreV_yes (by assumption) (l4V_yes (by assumption) (by assumption))]; rfl))), (entE (by (rw [exploreV_yes (by assumption) (l4V_yes (by assumption) (by assumption))]; rfl))), trivial⟩ rfl rfl
   ·iterate 2 refine w_ ?_
    refine lc (Does.build bld_98 rfl (List.all_eq_true.1 rfl) rfl rfl) <| lc (Does.storeP (Evl.tmp rfl) rfl (Ev.tmp rfl) rfl tsh_98 rfl) ?_
    iterate 2 refine w_ ?_
    refine AC.wk (Wk.nilC 8 (p := 1) (off := 0) 9 .str rfl rfl (Fresh.of rfl) (nlr rfl)) <| AC.wk (Wk.nilC 9 (p := 1) (off := 1) 226 (.pr .int (.pr .int .int)) rfl rfl (Fresh.of rfl) (nlr rfl)) <| AC.ret ?_
    subst hO
    have e8 : (false : Bool) = ((exploreV s).2) := by
     (rw [exploreV_no2 (l4V_no2 (by assumption) (by assumption))]; done)
    exact fin_is _ _ [(0, 8), (1, 9)] (Res.two rfl (Rs.cell rfl rfl tsh_98 rfl) (Rs.tmp rfl)) ((congrArg (fun z_ => PV.tup [(true, [.ref 8, .ref 9]), (false, [dB z_])]) e8)) ⟨(entE (by (rw [exploreV_no2 (l4V_no2 (by assumption) (by assumption))]; rfl))), (entE (by (rw [exploreV_no2 (l4V_no2 (by assumption) (by assumption))]; rfl))), trivial⟩ rfl rfl
  ·have hb5' := of_decide_eq_true hb5
   iterate 6 refine w_ ?_
   refine lc (Does.build bld_98 rfl (List.all_eq_true.1 rfl) rfl rfl) <| lc (Does.storeP (Evl.tmp rfl) rfl (Ev.tmp rfl) rfl tsh_98 rfl) ?_
   iterate 2 refine w_ ?_
   refine AC.wk (Wk.nilC 10 (p := 1) (off := 0) 9 .str rfl rfl (Fresh.of rfl) (nlr rfl)) <| AC.wk (Wk.nilC 11 (p := 1) (off := 1) 226 (.pr .int (.pr .int .int)) rfl rfl (Fresh.of rfl) (nlr rfl)) <| AC.ret ?_
   subst hO
   have e9 : (false : Bool) = ((exploreV s).2) := by
    (rw [exploreV_no2 (l4V_no1 (by assumption))]; done)
   exact fin_is _ _ [(0, 10), (1, 11)] (Res.two rfl (Rs.cell rfl rfl tsh_98 rfl) (Rs.tmp rfl)) ((congrArg (fun z_ => PV.tup [(true, [.ref 10, .ref 11]), (false, [dB z_])]) e9)) ⟨(entE (by (rw [exploreV_no2 (l4V_no1 (by assumption))]; rfl))), (entE (by (rw [exploreV_no2 (l4V_no1 (by assumption))]; rfl))), trivial⟩ rfl rfl

end Go.Proofs.YtnakmhfjafecpaaGreat
