/- Walks over abstract states: the state graph, both sides. -/
import Derived.Test.YtbelopdphlllnaaWl
import Derived.Test.YtbelopdphlllnaaWo
namespace Go.Proofs.Ytbelopdphlllnaa
open Go.RowKit

/-! What the search finds is in order. -/
structure Rok (m : Nat) (st : RS) : Prop where
  one : 1 ≤ st.1.length
  most : st.1.length ≤ 300
  nd : st.1.Nodup
  mv : ∀ v ∈ st.2.1, MvOk st.1.length m v
section
variable {n : DNet} {k f : Nat} {mk : ByteArray} {t : Int} {ts : List Int} {st : RS} {s : DSTG} {l : List ByteArray} {x : ByteArray}
theorem findB_lt (h : 0 ≤ findB l x) : findB l x < l.length := by
  unfold findB idxF at h ⊢
  cases hf : l.findIdx? (fun y => decide (y = x)) with
  | none => rw [hf] at h; simp at h
  | some i =>
    obtain ⟨h1, _⟩ := List.findIdx?_eq_some_iff_getElem.1 hf
    simp; omega
theorem findB_mem (h : ¬ 0 ≤ findB l x) : x ∉ l := fun hm => by
  unfold findB idxF at h
  cases hf : l.findIdx? (fun y => decide (y = x)) with
  | none =>
    have := List.findIdx?_eq_none_iff.1 hf x hm
    simp at this
  | some i => rw [hf] at h; simp at h
theorem MvOk.grow {a b m : Nat} {v : DMv} (h : MvOk a m v) (hab : a ≤ b) : MvOk b m v := by
  obtain ⟨⟨h1, h2⟩, h3, h4, h5⟩ := h
  exact ⟨⟨h1, by omega⟩, h3, h4, by omega⟩
theorem goT_ok (hk : k < st.1.length) (hts : ∀ t ∈ ts, 0 ≤ t ∧ t < n.2.length) (h : Rok n.2.length st) : Rok n.2.length (goT n k mk ts st).1 ∧ (goT n k mk ts st).1.2.1.length ≤ st.2.1.length + ts.length ∧ st.1.length ≤ (goT n k mk ts st).1.1.length := by
  induction ts generalizing st with
  | nil => rw [goT]; exact ⟨h, by simp, Nat.le_refl _⟩
  | cons t ts ih =>
    have ht := hts t (List.mem_cons_self ..)
    have hts' : ∀ t ∈ ts, 0 ≤ t ∧ t < n.2.length := fun t h => hts t (List.mem_cons_of_mem _ h)
    rw [goT]
    split
    · exact ⟨h, by simp, Nat.le_refl _⟩
    · split
      · rename_i h0
        have hlt := findB_lt h0
        obtain ⟨h1, h2, h3⟩ := ih (st := (st.1, st.2.1 ++ [((k : Int), t, findB st.1 (fireV n mk t).1)], st.2.2)) hk hts' ⟨h.one, h.most, h.nd, fun v hv => by
          rcases List.mem_append.1 hv with hv | hv
          · exact h.mv v hv
          · rw [List.mem_singleton.1 hv]; exact ⟨⟨Int.natCast_nonneg _, by simpa using hk⟩, ht, h0, hlt⟩⟩
        exact ⟨h1, by simp at h2 ⊢; omega, h3⟩
      · rename_i h0
        split
        · exact ⟨h, by simp, Nat.le_refl _⟩
        · rename_i h4
          have hm := h.most
          obtain ⟨h1, h2, h3⟩ := ih (st := (st.1 ++ [(fireV n mk t).1], st.2.1 ++ [((k : Int), t, (st.1.length : Int))], st.2.2 ++ [((k : Int), t, (st.1.length : Int))])) (by simp; omega) hts' ⟨by simp, by simp; omega,
            List.nodup_append.2 ⟨h.nd, by simp, fun a ha b hb e => findB_mem h0 (by rw [List.mem_singleton.1 hb] at e; exact e ▸ ha)⟩, fun v hv => by
              rcases List.mem_append.1 hv with hv | hv
              · exact (h.mv v hv).grow (by simp)
              · rw [List.mem_singleton.1 hv]; exact ⟨⟨Int.natCast_nonneg _, by simp; omega⟩, ht, Int.natCast_nonneg _, by simp; omega⟩⟩
          exact ⟨h1, by simp at h2 ⊢; omega, by simp at h3; omega⟩
theorem goK_ok (hn : n.2.length ≤ 24) (h : Rok n.2.length st) (hl : st.2.1.length ≤ 24 * k) : Rok n.2.length (goK n f k st).1 ∧ (goK n f k st).1.2.1.length ≤ 24 * (k + f) := by
  induction f generalizing k st with
  | zero => rw [goK]; exact ⟨h, by omega⟩
  | succ f ih =>
    rw [goK]
    cases hx : st.1[k]? with
    | none => exact ⟨h, by show st.2.1.length ≤ _; omega⟩
    | some mk =>
      obtain ⟨h1, h2, h3⟩ := goT_ok (mk := mk) (ts := enbs n mk) (List.getElem?_eq_some_iff.1 hx).1 (fun t ht => by
        obtain ⟨i, hi⟩ := List.mem_iff_getElem?.1 ht
        exact enbs_mem hi) h
      have h4 := enbs_len n mk
      show Rok n.2.length (if _ then _ else _ : RS × REnd).1 ∧ (if _ then _ else _ : RS × REnd).1.2.1.length ≤ _
      split
      · obtain ⟨h5, h6⟩ := ih (k := k + 1) h1 (by omega)
        exact ⟨h5, by omega⟩
      · exact ⟨h1, by omega⟩
theorem reach_ok (hs : StgOk s) : Rok s.2.2.1.length (reach s).1 ∧ (reach s).1.2.1.length ≤ 7224 := by
  have h := goK_ok (n := s.1) (k := 0) (f := 301) (st := ([s.2.2.2], [], [((0 : Int), (0 : Int), (0 : Int))])) hs.net.2.1 ⟨by simp, by simp, by simp, by simp⟩ (by simp)
  rw [← hs.len] at h
  exact h
end
theorem sigs_len {ss : List DSignal} (h : SigsOk ss) : ss.length ≤ 24 := by
  have := h.2.2
  omega
section
variable [∀ s, Decidable (StgOk s)] {s : DSTG}
theorem exploreV_no1 (h : ¬ StgOk s) : exploreV s = (zeroRG, false) := if_neg fun h2 => h h2.1
theorem exploreV_no2 (h : (exV s).2.2.2 = false) : exploreV s = (zeroRG, false) := if_neg fun h2 => by
  have : (reach s).2.2.2 = false := h
  rw [this] at h2
  cases h2.2
theorem exploreV_yes (hs : StgOk s) (h : (exV s).2.2.2 = true) : exploreV s = ((exV s).1, true) := if_pos ⟨hs, h⟩
theorem exploreV_ok (h : (exploreV s).2 = true) : StgOk s ∧ 1 ≤ (exploreV s).1.1.length ∧ (exploreV s).1.1.length ≤ 300 ∧ (exploreV s).1.1.Nodup ∧ (∀ v ∈ (exploreV s).1.2, MvOk (exploreV s).1.1.length s.2.2.1.length v) ∧ (exploreV s).1.2.length ≤ 7224 := by
  unfold exploreV at h ⊢
  split
  · rename_i h1
    obtain ⟨h2, h3⟩ := reach_ok h1.1
    exact ⟨h1.1, h2.one, h2.most, h2.nd, h2.mv, h3⟩
  · rename_i h1
    rw [if_neg h1] at h
    cases h
end
section
variable {s : DSTG}
theorem l4V_yes (h : ¬ 0 ≤ (l4V s).2.2.2.1) (h2 : (l4V s).2.2.2.2 = false) : (exV s).2.2.2 = true := by
  have h : ¬ 0 ≤ (reach s).2.2.1 := h
  have h2 : (!(reach s).2.2.2 && decide ((reach s).2.2.1 < 0)) = false := h2
  show (reach s).2.2.2 = true
  rw [decide_eq_true (by omega)] at h2
  simpa using h2
theorem l4V_no2 (h : ¬ 0 ≤ (l4V s).2.2.2.1) (h2 : (l4V s).2.2.2.2 = true) : (exV s).2.2.2 = false := by
  have h2 : (!(reach s).2.2.2 && decide ((reach s).2.2.1 < 0)) = true := h2
  rw [Bool.and_eq_true] at h2
  show (reach s).2.2.2 = false
  simpa using h2.1
end
/-- A transition that fails is told. -/
theorem goT_end_t {n : DNet} {k : Nat} {mk : ByteArray} {ts : List Int} {st : RS} (h : (goT n k mk ts st).2.2.2 = true) : (goT n k mk ts st).2.2.1 = -1 := by
  induction ts generalizing st with
  | nil => rw [goT]
  | cons t ts ih =>
    rw [goT] at h ⊢
    split
    · rename_i h1; rw [if_pos h1] at h; cases h
    · rename_i h1
      rw [if_neg h1] at h
      split
      · rename_i h2; rw [if_pos h2] at h; exact ih h
      · rename_i h2
        rw [if_neg h2] at h
        split
        · rfl
        · rename_i h3; rw [if_neg h3] at h; exact ih h
theorem goK_end_t {n : DNet} {f k : Nat} {st : RS} (h : (goK n f k st).2.2.2 = true) : (goK n f k st).2.2.1 = -1 := by
  induction f generalizing k st with
  | zero => rw [goK]
  | succ f ih =>
    rw [goK] at h ⊢
    cases hx : st.1[k]? with
    | none => rfl
    | some mk =>
      rw [hx] at h
      simp only at h ⊢
      split
      · rename_i h1; rw [if_pos h1] at h; exact ih h
      · rename_i h1; rw [if_neg h1] at h; exact goT_end_t h
theorem l4V_no1 {s : DSTG} (h : 0 ≤ (l4V s).2.2.2.1) : (exV s).2.2.2 = false := by
  have h : 0 ≤ (reach s).2.2.1 := h
  show (reach s).2.2.2 = false
  cases he : (reach s).2.2.2 with
  | false => rfl
  | true =>
    have := goK_end_t (n := s.1) (f := 301) (k := 0) (st := ([s.2.2.2], [], [((0 : Int), (0 : Int), (0 : Int))])) he
    have h2 : (reach s).2.2.1 = -1 := this
    omega

set_option maxRecDepth 100000 in
set_option maxHeartbeats 4000000 in
theorem fc_impl_Explore (s : (Int × (List (List Int × List Int))) × (List (ByteArray × Int)) × (List (Int × Bool)) × ByteArray) [∀ s, Decidable (StgOk s)]  : FC Try.prog 143 [(true, [dI s.1.1, .dat (.sl 146 (.pr (.sl 3 .int) (.sl 3 .int))) s.1.2, .dat (.sl 129 (.pr .str .int)) s.2.1, .dat (.sl 131 (.pr .int .bool)) s.2.2.1, dS s.2.2.2])] [] 0 (Is (PV.tup [(true, [.ref 0, .ref 1]), (false, [dB ((exploreV s).2)])]) [(0, some (.arr 9 .str (((exploreV s).1).1))), (1, some (.arr 229 (.pr .int (.pr .int .int)) (((exploreV s).1).2)))]) := by
  obtain ⟨O_, hO⟩ : ∃ x : PV → Tab → Prop, x = Is (PV.tup [(true, [.ref 0, .ref 1]), (false, [dB ((exploreV s).2)])]) [(0, some (.arr 9 .str (((exploreV s).1).1))), (1, some (.arr 229 (.pr .int (.pr .int .int)) (((exploreV s).1).2)))] := ⟨_, rfl⟩
  refine FC.O_of hO (FC.ren (FC.of Try.func143 rfl rfl fun A_ hn_ hk_ => ?_))
  obtain ⟨w0_, N0_, X_, n_, k0_, h0_, f0_⟩ := A_
  obtain rfl : n_ = 23 := hn_.trans Try.ntmps143
  obtain rfl : k0_ = 0 := hk_
  refine AC.fact (fact_ag (x := .tmp 0) (i := 0) (Ev.tmp rfl) rfl) fun hi1 => ?_
  refine AC.seq ?_
  refine AC.region ?_
  refine AL.cons rfl (Does.box 0 (Ev.tmp rfl) rfl rfl (Fresh.of rfl) (Nat.le_of_ble_eq_true rfl)) ?_
  refine AL.cons rfl (Does.alloc 1 (.pr (.sl 9 .str) (.sl 229 (.pr .int (.pr .int .int)))) zer_188 rfl rfl (Fresh.of rfl) (Nat.le_of_ble_eq_true rfl)) ?_
  refine AL.cons rfl (Does.assignC Evl.bool rfl) ?_
  refine AL.nil ?_
  refine (?_ : AC _ _ _ _ _)
  refine AC.seq ?_
  refine AC.seq ?_
  refine AC.region ?_
  refine AL.cons rfl (Does.loadPA (Evl.tmp rfl) rfl tsh_50 rfl rfl) ?_
  refine AL.cons rfl (Does.call (fc_impl_IsValidSTG s) enters_57 ⟨_, _, rfl, (Ev.tmp rfl), rfl⟩ rfl rfl) ?_
  refine AL.cons rfl (Does.not (Evl.tmp rfl) rfl) ?_
  refine AL.nil ?_
  refine (?_ : AC _ _ _ _ _)
  cases hb2 : (decide (StgOk s))
  · have _h := hb2
    have hb2' : ¬ (StgOk s) := of_decide_eq_false hb2
    refine AC.condT (Evl.tmp rfl) ?_
    refine AC.seq ?_
    refine AC.region ?_
    refine AL.cons rfl (Does.build bld_188 rfl (List.all_eq_true.1 rfl) rfl rfl) ?_
    refine AL.cons rfl (Does.storeP (Evl.tmp rfl) rfl (Ev.tmp rfl) rfl tsh_188 rfl) ?_
    refine AL.cons rfl (Does.assignC Evl.bool rfl) ?_
    refine AL.nil ?_
    refine (?_ : AC _ _ _ _ _)
    refine AC.wk (Wk.nilC 2 (p := 1) (off := 0) 9 .str rfl rfl (Fresh.of rfl) (Nat.le_of_ble_eq_true rfl)) ?_
    refine AC.wk (Wk.nilC 3 (p := 1) (off := 1) 229 (.pr .int (.pr .int .int)) rfl rfl (Fresh.of rfl) (Nat.le_of_ble_eq_true rfl)) ?_
    refine AC.ret ?_
    subst hO
    have e3 : (false : Bool) = (exploreV s).2 := by
      first | (rw [exploreV_no1 (by assumption)]; done) | (rw [exploreV_no1 (by assumption)]; rfl) | (rw [exploreV_no2 (by assumption)]; done) | (rw [exploreV_no2 (by assumption)]; rfl) | (rw [exploreV_yes (by assumption) (by assumption)]; done) | (rw [exploreV_yes (by assumption) (by assumption)]; rfl)
    exact fin_is (PV.tup [(true, [.ref 0, .ref 1]), (false, [dB ((exploreV s).2)])]) [(0, some (.arr 9 .str (((exploreV s).1).1))), (1, some (.arr 229 (.pr .int (.pr .int .int)) (((exploreV s).1).2)))] [(0, 2), (1, 3)] (Res.two rfl (Rs.cell rfl rfl tsh_188 rfl) (Rs.tmp rfl)) (show PV.tup [(true, [.ref 2, .ref 3]), (false, [dB false])] = PV.tup [(true, [.ref 2, .ref 3]), (false, [dB ((exploreV s).2)])] by exact (congrArg (fun z_ => PV.tup [(true, [.ref 2, .ref 3]), (false, [dB z_])]) e3)) ⟨(show some (Ent.arr 9 .str ([])) = some (Ent.arr 9 .str (((exploreV s).1).1)) from congrArg (fun z => some (Ent.arr 9 .str z)) (by first | (rw [exploreV_no1 (by assumption)]; done) | (rw [exploreV_no1 (by assumption)]; rfl) | (rw [exploreV_no2 (by assumption)]; done) | (rw [exploreV_no2 (by assumption)]; rfl) | (rw [exploreV_yes (by assumption) (by assumption)]; done) | (rw [exploreV_yes (by assumption) (by assumption)]; rfl))), (show some (Ent.arr 229 (.pr .int (.pr .int .int)) ([])) = some (Ent.arr 229 (.pr .int (.pr .int .int)) (((exploreV s).1).2)) from congrArg (fun z => some (Ent.arr 229 (.pr .int (.pr .int .int)) z)) (by first | (rw [exploreV_no1 (by assumption)]; done) | (rw [exploreV_no1 (by assumption)]; rfl) | (rw [exploreV_no2 (by assumption)]; done) | (rw [exploreV_no2 (by assumption)]; rfl) | (rw [exploreV_yes (by assumption) (by assumption)]; done) | (rw [exploreV_yes (by assumption) (by assumption)]; rfl))), trivial⟩ rfl rfl
  · have _h := hb2
    have hb2' : (StgOk s) := of_decide_eq_true hb2
    refine AC.condF (Evl.tmp rfl) ?_
    refine AC.skip ?_
    refine (?_ : AC _ _ _ _ _)
    refine AC.seq ?_
    refine AC.region ?_
    refine AL.cons rfl (Does.loadPA (Evl.tmp rfl) rfl tsh_50 rfl rfl) ?_
    refine AL.cons rfl (Does.callG 4 (fc_impl_explored s (by assumption)) enters_191 ⟨_, _, rfl, (Ev.tmp rfl), rfl⟩ rfl rfl ⟨Fresh.of rfl, Fresh.of rfl, trivial⟩ (Nat.le_of_ble_eq_true rfl)) ?_
    refine AL.cons rfl (Does.move rfl rfl) ?_
    refine AL.cons rfl (Does.extract rfl rfl rfl) ?_
    refine AL.cons rfl (Does.extract rfl rfl rfl) ?_
    refine AL.cons rfl (Does.extract rfl rfl rfl) ?_
    refine AL.cons rfl (Does.extract rfl rfl rfl) ?_
    refine AL.cons rfl (Does.alloc 6 (.pr (.sl 9 .str) (.sl 229 (.pr .int (.pr .int .int)))) zer_188 rfl rfl (Fresh.of rfl) (Nat.le_of_ble_eq_true rfl)) ?_
    refine AL.cons rfl (Does.storeP (Evl.tmp rfl) rfl (Ev.tmp rfl) rfl tsh_188 rfl) ?_
    refine AL.cons rfl (Does.assign rfl rfl) ?_
    refine AL.cons rfl (Does.assign rfl rfl) ?_
    refine AL.cons rfl (Does.assign rfl rfl) ?_
    refine AL.nil ?_
    refine (?_ : AC _ _ _ _ _)
    refine AC.seq ?_
    refine AC.seq ?_
    refine AC.region ?_
    refine AL.cons rfl (Does.move rfl rfl) ?_
    refine AL.cons rfl (Does.not (Evl.tmp rfl) rfl) ?_
    refine AL.nil ?_
    refine (?_ : AC _ _ _ _ _)
    cases hb4 : ((exV s).2.2.2)
    · have _h := hb4
      refine AC.condT (Evl.tmp rfl) ?_
      refine AC.seq ?_
      refine AC.region ?_
      refine AL.cons rfl (Does.build bld_188 rfl (List.all_eq_true.1 rfl) rfl rfl) ?_
      refine AL.cons rfl (Does.storeP (Evl.tmp rfl) rfl (Ev.tmp rfl) rfl tsh_188 rfl) ?_
      refine AL.cons rfl (Does.assignC Evl.bool rfl) ?_
      refine AL.nil ?_
      refine (?_ : AC _ _ _ _ _)
      refine AC.wk (Wk.nilC 7 (p := 1) (off := 0) 9 .str rfl rfl (Fresh.of rfl) (Nat.le_of_ble_eq_true rfl)) ?_
      refine AC.wk (Wk.nilC 8 (p := 1) (off := 1) 229 (.pr .int (.pr .int .int)) rfl rfl (Fresh.of rfl) (Nat.le_of_ble_eq_true rfl)) ?_
      refine AC.ret ?_
      subst hO
      have e5 : (false : Bool) = (exploreV s).2 := by
        first | (rw [exploreV_no1 (by assumption)]; done) | (rw [exploreV_no1 (by assumption)]; rfl) | (rw [exploreV_no2 (by assumption)]; done) | (rw [exploreV_no2 (by assumption)]; rfl) | (rw [exploreV_yes (by assumption) (by assumption)]; done) | (rw [exploreV_yes (by assumption) (by assumption)]; rfl)
      exact fin_is (PV.tup [(true, [.ref 0, .ref 1]), (false, [dB ((exploreV s).2)])]) [(0, some (.arr 9 .str (((exploreV s).1).1))), (1, some (.arr 229 (.pr .int (.pr .int .int)) (((exploreV s).1).2)))] [(0, 7), (1, 8)] (Res.two rfl (Rs.cell rfl rfl tsh_188 rfl) (Rs.tmp rfl)) (show PV.tup [(true, [.ref 7, .ref 8]), (false, [dB false])] = PV.tup [(true, [.ref 7, .ref 8]), (false, [dB ((exploreV s).2)])] by exact (congrArg (fun z_ => PV.tup [(true, [.ref 7, .ref 8]), (false, [dB z_])]) e5)) ⟨(show some (Ent.arr 9 .str ([])) = some (Ent.arr 9 .str (((exploreV s).1).1)) from congrArg (fun z => some (Ent.arr 9 .str z)) (by first | (rw [exploreV_no1 (by assumption)]; done) | (rw [exploreV_no1 (by assumption)]; rfl) | (rw [exploreV_no2 (by assumption)]; done) | (rw [exploreV_no2 (by assumption)]; rfl) | (rw [exploreV_yes (by assumption) (by assumption)]; done) | (rw [exploreV_yes (by assumption) (by assumption)]; rfl))), (show some (Ent.arr 229 (.pr .int (.pr .int .int)) ([])) = some (Ent.arr 229 (.pr .int (.pr .int .int)) (((exploreV s).1).2)) from congrArg (fun z => some (Ent.arr 229 (.pr .int (.pr .int .int)) z)) (by first | (rw [exploreV_no1 (by assumption)]; done) | (rw [exploreV_no1 (by assumption)]; rfl) | (rw [exploreV_no2 (by assumption)]; done) | (rw [exploreV_no2 (by assumption)]; rfl) | (rw [exploreV_yes (by assumption) (by assumption)]; done) | (rw [exploreV_yes (by assumption) (by assumption)]; rfl))), trivial⟩ rfl rfl
    · have _h := hb4
      refine AC.condF (Evl.tmp rfl) ?_
      refine AC.skip ?_
      refine (?_ : AC _ _ _ _ _)
      refine AC.seq ?_
      refine AC.region ?_
      refine AL.cons rfl (Does.loadPA (Evl.tmp rfl) rfl tsh_188 rfl rfl) ?_
      refine AL.cons rfl (Does.storeP (Evl.tmp rfl) rfl (Ev.tmp rfl) rfl tsh_188 rfl) ?_
      refine AL.cons rfl (Does.assignC Evl.bool rfl) ?_
      refine AL.nil ?_
      refine (?_ : AC _ _ _ _ _)
      refine AC.ret ?_
      subst hO
      have e6 : (true : Bool) = (exploreV s).2 := by
        first | (rw [exploreV_no1 (by assumption)]; done) | (rw [exploreV_no1 (by assumption)]; rfl) | (rw [exploreV_no2 (by assumption)]; done) | (rw [exploreV_no2 (by assumption)]; rfl) | (rw [exploreV_yes (by assumption) (by assumption)]; done) | (rw [exploreV_yes (by assumption) (by assumption)]; rfl)
      exact fin_is (PV.tup [(true, [.ref 0, .ref 1]), (false, [dB ((exploreV s).2)])]) [(0, some (.arr 9 .str (((exploreV s).1).1))), (1, some (.arr 229 (.pr .int (.pr .int .int)) (((exploreV s).1).2)))] [(0, 4), (1, 5)] (Res.two rfl (Rs.cell rfl rfl tsh_188 rfl) (Rs.tmp rfl)) (show PV.tup [(true, [.ref 4, .ref 5]), (false, [dB true])] = PV.tup [(true, [.ref 4, .ref 5]), (false, [dB ((exploreV s).2)])] by exact (congrArg (fun z_ => PV.tup [(true, [.ref 4, .ref 5]), (false, [dB z_])]) e6)) ⟨(show some (Ent.arr 9 .str (((exV s).1).1)) = some (Ent.arr 9 .str (((exploreV s).1).1)) from congrArg (fun z => some (Ent.arr 9 .str z)) (by first | (rw [exploreV_no1 (by assumption)]; done) | (rw [exploreV_no1 (by assumption)]; rfl) | (rw [exploreV_no2 (by assumption)]; done) | (rw [exploreV_no2 (by assumption)]; rfl) | (rw [exploreV_yes (by assumption) (by assumption)]; done) | (rw [exploreV_yes (by assumption) (by assumption)]; rfl))), (show some (Ent.arr 229 (.pr .int (.pr .int .int)) (((exV s).1).2)) = some (Ent.arr 229 (.pr .int (.pr .int .int)) (((exploreV s).1).2)) from congrArg (fun z => some (Ent.arr 229 (.pr .int (.pr .int .int)) z)) (by first | (rw [exploreV_no1 (by assumption)]; done) | (rw [exploreV_no1 (by assumption)]; rfl) | (rw [exploreV_no2 (by assumption)]; done) | (rw [exploreV_no2 (by assumption)]; rfl) | (rw [exploreV_yes (by assumption) (by assumption)]; done) | (rw [exploreV_yes (by assumption) (by assumption)]; rfl))), trivial⟩ rfl rfl

set_option maxRecDepth 100000 in
set_option maxHeartbeats 4000000 in
theorem fc_spec_Explore (s : (Int × (List (List Int × List Int))) × (List (ByteArray × Int)) × (List (Int × Bool)) × ByteArray) [∀ s, Decidable (StgOk s)]  : FC Try.prog 139 [(true, [dI s.1.1, .dat (.sl 146 (.pr (.sl 3 .int) (.sl 3 .int))) s.1.2, .dat (.sl 129 (.pr .str .int)) s.2.1, .dat (.sl 131 (.pr .int .bool)) s.2.2.1, dS s.2.2.2])] [] 0 (Is (PV.tup [(true, [.ref 0, .ref 1]), (false, [dB ((exploreV s).2)])]) [(0, some (.arr 9 .str (((exploreV s).1).1))), (1, some (.arr 229 (.pr .int (.pr .int .int)) (((exploreV s).1).2)))]) := by
  obtain ⟨O_, hO⟩ : ∃ x : PV → Tab → Prop, x = Is (PV.tup [(true, [.ref 0, .ref 1]), (false, [dB ((exploreV s).2)])]) [(0, some (.arr 9 .str (((exploreV s).1).1))), (1, some (.arr 229 (.pr .int (.pr .int .int)) (((exploreV s).1).2)))] := ⟨_, rfl⟩
  refine FC.O_of hO (FC.ren (FC.of Try.func139 rfl rfl fun A_ hn_ hk_ => ?_))
  obtain ⟨w0_, N0_, X_, n_, k0_, h0_, f0_⟩ := A_
  obtain rfl : n_ = 21 := hn_.trans Try.ntmps139
  obtain rfl : k0_ = 0 := hk_
  refine AC.fact (fact_ag (x := .tmp 0) (i := 0) (Ev.tmp rfl) rfl) fun hi1 => ?_
  refine AC.seq ?_
  refine AC.region ?_
  refine AL.cons rfl (Does.box 0 (Ev.tmp rfl) rfl rfl (Fresh.of rfl) (Nat.le_of_ble_eq_true rfl)) ?_
  refine AL.cons rfl (Does.alloc 1 (.pr (.sl 9 .str) (.sl 229 (.pr .int (.pr .int .int)))) zer_188 rfl rfl (Fresh.of rfl) (Nat.le_of_ble_eq_true rfl)) ?_
  refine AL.cons rfl (Does.assignC Evl.bool rfl) ?_
  refine AL.nil ?_
  refine (?_ : AC _ _ _ _ _)
  refine AC.seq ?_
  refine AC.seq ?_
  refine AC.region ?_
  refine AL.cons rfl (Does.loadPA (Evl.tmp rfl) rfl tsh_50 rfl rfl) ?_
  refine AL.cons rfl (Does.call (fc_spec_l2Good s) enters_69 ⟨_, _, rfl, (Ev.tmp rfl), rfl⟩ rfl rfl) ?_
  refine AL.cons rfl (Does.not (Evl.tmp rfl) rfl) ?_
  refine AL.nil ?_
  refine (?_ : AC _ _ _ _ _)
  cases hb2 : (decide (StgOk s))
  · have _h := hb2
    have hb2' : ¬ (StgOk s) := of_decide_eq_false hb2
    refine AC.condT (Evl.tmp rfl) ?_
    refine AC.seq ?_
    refine AC.region ?_
    refine AL.cons rfl (Does.build bld_188 rfl (List.all_eq_true.1 rfl) rfl rfl) ?_
    refine AL.cons rfl (Does.storeP (Evl.tmp rfl) rfl (Ev.tmp rfl) rfl tsh_188 rfl) ?_
    refine AL.cons rfl (Does.assignC Evl.bool rfl) ?_
    refine AL.nil ?_
    refine (?_ : AC _ _ _ _ _)
    refine AC.wk (Wk.nilC 2 (p := 1) (off := 0) 9 .str rfl rfl (Fresh.of rfl) (Nat.le_of_ble_eq_true rfl)) ?_
    refine AC.wk (Wk.nilC 3 (p := 1) (off := 1) 229 (.pr .int (.pr .int .int)) rfl rfl (Fresh.of rfl) (Nat.le_of_ble_eq_true rfl)) ?_
    refine AC.ret ?_
    subst hO
    have e3 : (false : Bool) = (exploreV s).2 := by
      first | (rw [exploreV_no1 (by assumption)]; done) | (rw [exploreV_no1 (by assumption)]; rfl) | (rw [exploreV_no2 (l4V_no1 (by assumption))]; done) | (rw [exploreV_no2 (l4V_no1 (by assumption))]; rfl) | (rw [exploreV_no2 (l4V_no2 (by assumption) (by assumption))]; done) | (rw [exploreV_no2 (l4V_no2 (by assumption) (by assumption))]; rfl) | (rw [exploreV_yes (by assumption) (l4V_yes (by assumption) (by assumption))]; done) | (rw [exploreV_yes (by assumption) (l4V_yes (by assumption) (by assumption))]; rfl)
    exact fin_is (PV.tup [(true, [.ref 0, .ref 1]), (false, [dB ((exploreV s).2)])]) [(0, some (.arr 9 .str (((exploreV s).1).1))), (1, some (.arr 229 (.pr .int (.pr .int .int)) (((exploreV s).1).2)))] [(0, 2), (1, 3)] (Res.two rfl (Rs.cell rfl rfl tsh_188 rfl) (Rs.tmp rfl)) (show PV.tup [(true, [.ref 2, .ref 3]), (false, [dB false])] = PV.tup [(true, [.ref 2, .ref 3]), (false, [dB ((exploreV s).2)])] by exact (congrArg (fun z_ => PV.tup [(true, [.ref 2, .ref 3]), (false, [dB z_])]) e3)) ⟨(show some (Ent.arr 9 .str ([])) = some (Ent.arr 9 .str (((exploreV s).1).1)) from congrArg (fun z => some (Ent.arr 9 .str z)) (by first | (rw [exploreV_no1 (by assumption)]; done) | (rw [exploreV_no1 (by assumption)]; rfl) | (rw [exploreV_no2 (l4V_no1 (by assumption))]; done) | (rw [exploreV_no2 (l4V_no1 (by assumption))]; rfl) | (rw [exploreV_no2 (l4V_no2 (by assumption) (by assumption))]; done) | (rw [exploreV_no2 (l4V_no2 (by assumption) (by assumption))]; rfl) | (rw [exploreV_yes (by assumption) (l4V_yes (by assumption) (by assumption))]; done) | (rw [exploreV_yes (by assumption) (l4V_yes (by assumption) (by assumption))]; rfl))), (show some (Ent.arr 229 (.pr .int (.pr .int .int)) ([])) = some (Ent.arr 229 (.pr .int (.pr .int .int)) (((exploreV s).1).2)) from congrArg (fun z => some (Ent.arr 229 (.pr .int (.pr .int .int)) z)) (by first | (rw [exploreV_no1 (by assumption)]; done) | (rw [exploreV_no1 (by assumption)]; rfl) | (rw [exploreV_no2 (l4V_no1 (by assumption))]; done) | (rw [exploreV_no2 (l4V_no1 (by assumption))]; rfl) | (rw [exploreV_no2 (l4V_no2 (by assumption) (by assumption))]; done) | (rw [exploreV_no2 (l4V_no2 (by assumption) (by assumption))]; rfl) | (rw [exploreV_yes (by assumption) (l4V_yes (by assumption) (by assumption))]; done) | (rw [exploreV_yes (by assumption) (l4V_yes (by assumption) (by assumption))]; rfl))), trivial⟩ rfl rfl
  · have _h := hb2
    have hb2' : (StgOk s) := of_decide_eq_true hb2
    refine AC.condF (Evl.tmp rfl) ?_
    refine AC.skip ?_
    refine (?_ : AC _ _ _ _ _)
    refine AC.seq ?_
    refine AC.region ?_
    refine AL.cons rfl (Does.loadPA (Evl.tmp rfl) rfl tsh_50 rfl rfl) ?_
    refine AL.cons rfl (Does.callG 4 (fc_spec_l4Reach s (by assumption)) enters_186 ⟨_, _, rfl, (Ev.tmp rfl), rfl⟩ rfl rfl ⟨Fresh.of rfl, Fresh.of rfl, Fresh.of rfl, trivial⟩ (Nat.le_of_ble_eq_true rfl)) ?_
    refine AL.cons rfl (Does.alloc 7 (.pr (.pr (.sl 9 .str) (.sl 229 (.pr .int (.pr .int .int)))) (.pr (.sl 229 (.pr .int (.pr .int .int))) (.pr .int (.pr .int .bool)))) zer_231 rfl rfl (Fresh.of rfl) (Nat.le_of_ble_eq_true rfl)) ?_
    refine AL.cons rfl (Does.storeP (Evl.tmp rfl) rfl (Ev.tmp rfl) rfl tsh_231 rfl) ?_
    refine AL.nil ?_
    refine (?_ : AC _ _ _ _ _)
    refine AC.seq ?_
    refine AC.seq ?_
    refine AC.region ?_
    refine AL.cons rfl (Does.fieldP (Evl.tmp rfl) fld_231_3 rfl rfl) ?_
    refine AL.cons rfl (Does.loadP (Evl.tmp rfl) rfl tsh_3 rfl rfl) ?_
    refine AL.fact (fact_int (x := .tmp 12) (Evl.tmp rfl)) fun hi4 => ?_
    refine AL.cons rfl (Does.geq (Evl.tmp rfl) (Evl.int rfl) rfl) ?_
    refine AL.cons rfl (Does.move rfl rfl) ?_
    cases hb5 : (decide (0 ≤ ((l4V s).2.2.2.1)))
    · have _h := hb5
      have hb5' : ¬ (0 ≤ ((l4V s).2.2.2.1)) := of_decide_eq_false hb5
      refine AL.guard_yes rfl rfl rfl (Does.fieldP (Evl.tmp rfl) fld_231_4 rfl rfl) ?_
      refine AL.guard_yes rfl rfl rfl (Does.loadP (Evl.tmp rfl) rfl tsh_4 rfl rfl) ?_
      refine AL.cons rfl (Does.pickF (Evl.tmp rfl) (Ev.tmp rfl) rfl) ?_
      refine AL.nil ?_
      refine (?_ : AC _ _ _ _ _)
      cases hb6 : ((l4V s).2.2.2.2)
      · have _h := hb6
        refine AC.condF (Evl.tmp rfl) ?_
        refine AC.skip ?_
        refine (?_ : AC _ _ _ _ _)
        refine AC.seq ?_
        refine AC.region ?_
        refine AL.cons rfl (Does.fieldP (Evl.tmp rfl) fld_231_0 rfl rfl) ?_
        refine AL.cons rfl (Does.loadPA (Evl.tmp rfl) rfl tsh_188 rfl rfl) ?_
        refine AL.cons rfl (Does.storeP (Evl.tmp rfl) rfl (Ev.tmp rfl) rfl tsh_188 rfl) ?_
        refine AL.cons rfl (Does.assignC Evl.bool rfl) ?_
        refine AL.nil ?_
        refine (?_ : AC _ _ _ _ _)
        refine AC.ret ?_
        subst hO
        have e7 : (true : Bool) = (exploreV s).2 := by
          first | (rw [exploreV_no1 (by assumption)]; done) | (rw [exploreV_no1 (by assumption)]; rfl) | (rw [exploreV_no2 (l4V_no1 (by assumption))]; done) | (rw [exploreV_no2 (l4V_no1 (by assumption))]; rfl) | (rw [exploreV_no2 (l4V_no2 (by assumption) (by assumption))]; done) | (rw [exploreV_no2 (l4V_no2 (by assumption) (by assumption))]; rfl) | (rw [exploreV_yes (by assumption) (l4V_yes (by assumption) (by assumption))]; done) | (rw [exploreV_yes (by assumption) (l4V_yes (by assumption) (by assumption))]; rfl)
        exact fin_is (PV.tup [(true, [.ref 0, .ref 1]), (false, [dB ((exploreV s).2)])]) [(0, some (.arr 9 .str (((exploreV s).1).1))), (1, some (.arr 229 (.pr .int (.pr .int .int)) (((exploreV s).1).2)))] [(0, 4), (1, 5)] (Res.two rfl (Rs.cell rfl rfl tsh_188 rfl) (Rs.tmp rfl)) (show PV.tup [(true, [.ref 4, .ref 5]), (false, [dB true])] = PV.tup [(true, [.ref 4, .ref 5]), (false, [dB ((exploreV s).2)])] by exact (congrArg (fun z_ => PV.tup [(true, [.ref 4, .ref 5]), (false, [dB z_])]) e7)) ⟨(show some (Ent.arr 9 .str (((l4V s).1).1)) = some (Ent.arr 9 .str (((exploreV s).1).1)) from congrArg (fun z => some (Ent.arr 9 .str z)) (by first | (rw [exploreV_no1 (by assumption)]; done) | (rw [exploreV_no1 (by assumption)]; rfl) | (rw [exploreV_no2 (l4V_no1 (by assumption))]; done) | (rw [exploreV_no2 (l4V_no1 (by assumption))]; rfl) | (rw [exploreV_no2 (l4V_no2 (by assumption) (by assumption))]; done) | (rw [exploreV_no2 (l4V_no2 (by assumption) (by assumption))]; rfl) | (rw [exploreV_yes (by assumption) (l4V_yes (by assumption) (by assumption))]; done) | (rw [exploreV_yes (by assumption) (l4V_yes (by assumption) (by assumption))]; rfl))), (show some (Ent.arr 229 (.pr .int (.pr .int .int)) (((l4V s).1).2)) = some (Ent.arr 229 (.pr .int (.pr .int .int)) (((exploreV s).1).2)) from congrArg (fun z => some (Ent.arr 229 (.pr .int (.pr .int .int)) z)) (by first | (rw [exploreV_no1 (by assumption)]; done) | (rw [exploreV_no1 (by assumption)]; rfl) | (rw [exploreV_no2 (l4V_no1 (by assumption))]; done) | (rw [exploreV_no2 (l4V_no1 (by assumption))]; rfl) | (rw [exploreV_no2 (l4V_no2 (by assumption) (by assumption))]; done) | (rw [exploreV_no2 (l4V_no2 (by assumption) (by assumption))]; rfl) | (rw [exploreV_yes (by assumption) (l4V_yes (by assumption) (by assumption))]; done) | (rw [exploreV_yes (by assumption) (l4V_yes (by assumption) (by assumption))]; rfl))), trivial⟩ rfl rfl
      · have _h := hb6
        refine AC.condT (Evl.tmp rfl) ?_
        refine AC.seq ?_
        refine AC.region ?_
        refine AL.cons rfl (Does.build bld_188 rfl (List.all_eq_true.1 rfl) rfl rfl) ?_
        refine AL.cons rfl (Does.storeP (Evl.tmp rfl) rfl (Ev.tmp rfl) rfl tsh_188 rfl) ?_
        refine AL.cons rfl (Does.assignC Evl.bool rfl) ?_
        refine AL.nil ?_
        refine (?_ : AC _ _ _ _ _)
        refine AC.wk (Wk.nilC 8 (p := 1) (off := 0) 9 .str rfl rfl (Fresh.of rfl) (Nat.le_of_ble_eq_true rfl)) ?_
        refine AC.wk (Wk.nilC 9 (p := 1) (off := 1) 229 (.pr .int (.pr .int .int)) rfl rfl (Fresh.of rfl) (Nat.le_of_ble_eq_true rfl)) ?_
        refine AC.ret ?_
        subst hO
        have e8 : (false : Bool) = (exploreV s).2 := by
          first | (rw [exploreV_no1 (by assumption)]; done) | (rw [exploreV_no1 (by assumption)]; rfl) | (rw [exploreV_no2 (l4V_no1 (by assumption))]; done) | (rw [exploreV_no2 (l4V_no1 (by assumption))]; rfl) | (rw [exploreV_no2 (l4V_no2 (by assumption) (by assumption))]; done) | (rw [exploreV_no2 (l4V_no2 (by assumption) (by assumption))]; rfl) | (rw [exploreV_yes (by assumption) (l4V_yes (by assumption) (by assumption))]; done) | (rw [exploreV_yes (by assumption) (l4V_yes (by assumption) (by assumption))]; rfl)
        exact fin_is (PV.tup [(true, [.ref 0, .ref 1]), (false, [dB ((exploreV s).2)])]) [(0, some (.arr 9 .str (((exploreV s).1).1))), (1, some (.arr 229 (.pr .int (.pr .int .int)) (((exploreV s).1).2)))] [(0, 8), (1, 9)] (Res.two rfl (Rs.cell rfl rfl tsh_188 rfl) (Rs.tmp rfl)) (show PV.tup [(true, [.ref 8, .ref 9]), (false, [dB false])] = PV.tup [(true, [.ref 8, .ref 9]), (false, [dB ((exploreV s).2)])] by exact (congrArg (fun z_ => PV.tup [(true, [.ref 8, .ref 9]), (false, [dB z_])]) e8)) ⟨(show some (Ent.arr 9 .str ([])) = some (Ent.arr 9 .str (((exploreV s).1).1)) from congrArg (fun z => some (Ent.arr 9 .str z)) (by first | (rw [exploreV_no1 (by assumption)]; done) | (rw [exploreV_no1 (by assumption)]; rfl) | (rw [exploreV_no2 (l4V_no1 (by assumption))]; done) | (rw [exploreV_no2 (l4V_no1 (by assumption))]; rfl) | (rw [exploreV_no2 (l4V_no2 (by assumption) (by assumption))]; done) | (rw [exploreV_no2 (l4V_no2 (by assumption) (by assumption))]; rfl) | (rw [exploreV_yes (by assumption) (l4V_yes (by assumption) (by assumption))]; done) | (rw [exploreV_yes (by assumption) (l4V_yes (by assumption) (by assumption))]; rfl))), (show some (Ent.arr 229 (.pr .int (.pr .int .int)) ([])) = some (Ent.arr 229 (.pr .int (.pr .int .int)) (((exploreV s).1).2)) from congrArg (fun z => some (Ent.arr 229 (.pr .int (.pr .int .int)) z)) (by first | (rw [exploreV_no1 (by assumption)]; done) | (rw [exploreV_no1 (by assumption)]; rfl) | (rw [exploreV_no2 (l4V_no1 (by assumption))]; done) | (rw [exploreV_no2 (l4V_no1 (by assumption))]; rfl) | (rw [exploreV_no2 (l4V_no2 (by assumption) (by assumption))]; done) | (rw [exploreV_no2 (l4V_no2 (by assumption) (by assumption))]; rfl) | (rw [exploreV_yes (by assumption) (l4V_yes (by assumption) (by assumption))]; done) | (rw [exploreV_yes (by assumption) (l4V_yes (by assumption) (by assumption))]; rfl))), trivial⟩ rfl rfl
    · have _h := hb5
      have hb5' : (0 ≤ ((l4V s).2.2.2.1)) := of_decide_eq_true hb5
      refine AL.guard_no (b := false) rfl rfl rfl ?_ rfl
      refine AL.guard_no (b := false) rfl rfl rfl ?_ rfl
      refine AL.cons rfl (Does.pickT (Evl.tmp rfl) (Evl.ev Evl.bool) rfl) ?_
      refine AL.nil ?_
      refine (?_ : AC _ _ _ _ _)
      refine AC.condT (Evl.tmp rfl) ?_
      refine AC.seq ?_
      refine AC.region ?_
      refine AL.cons rfl (Does.build bld_188 rfl (List.all_eq_true.1 rfl) rfl rfl) ?_
      refine AL.cons rfl (Does.storeP (Evl.tmp rfl) rfl (Ev.tmp rfl) rfl tsh_188 rfl) ?_
      refine AL.cons rfl (Does.assignC Evl.bool rfl) ?_
      refine AL.nil ?_
      refine (?_ : AC _ _ _ _ _)
      refine AC.wk (Wk.nilC 10 (p := 1) (off := 0) 9 .str rfl rfl (Fresh.of rfl) (Nat.le_of_ble_eq_true rfl)) ?_
      refine AC.wk (Wk.nilC 11 (p := 1) (off := 1) 229 (.pr .int (.pr .int .int)) rfl rfl (Fresh.of rfl) (Nat.le_of_ble_eq_true rfl)) ?_
      refine AC.ret ?_
      subst hO
      have e9 : (false : Bool) = (exploreV s).2 := by
        first | (rw [exploreV_no1 (by assumption)]; done) | (rw [exploreV_no1 (by assumption)]; rfl) | (rw [exploreV_no2 (l4V_no1 (by assumption))]; done) | (rw [exploreV_no2 (l4V_no1 (by assumption))]; rfl) | (rw [exploreV_no2 (l4V_no2 (by assumption) (by assumption))]; done) | (rw [exploreV_no2 (l4V_no2 (by assumption) (by assumption))]; rfl) | (rw [exploreV_yes (by assumption) (l4V_yes (by assumption) (by assumption))]; done) | (rw [exploreV_yes (by assumption) (l4V_yes (by assumption) (by assumption))]; rfl)
      exact fin_is (PV.tup [(true, [.ref 0, .ref 1]), (false, [dB ((exploreV s).2)])]) [(0, some (.arr 9 .str (((exploreV s).1).1))), (1, some (.arr 229 (.pr .int (.pr .int .int)) (((exploreV s).1).2)))] [(0, 10), (1, 11)] (Res.two rfl (Rs.cell rfl rfl tsh_188 rfl) (Rs.tmp rfl)) (show PV.tup [(true, [.ref 10, .ref 11]), (false, [dB false])] = PV.tup [(true, [.ref 10, .ref 11]), (false, [dB ((exploreV s).2)])] by exact (congrArg (fun z_ => PV.tup [(true, [.ref 10, .ref 11]), (false, [dB z_])]) e9)) ⟨(show some (Ent.arr 9 .str ([])) = some (Ent.arr 9 .str (((exploreV s).1).1)) from congrArg (fun z => some (Ent.arr 9 .str z)) (by first | (rw [exploreV_no1 (by assumption)]; done) | (rw [exploreV_no1 (by assumption)]; rfl) | (rw [exploreV_no2 (l4V_no1 (by assumption))]; done) | (rw [exploreV_no2 (l4V_no1 (by assumption))]; rfl) | (rw [exploreV_no2 (l4V_no2 (by assumption) (by assumption))]; done) | (rw [exploreV_no2 (l4V_no2 (by assumption) (by assumption))]; rfl) | (rw [exploreV_yes (by assumption) (l4V_yes (by assumption) (by assumption))]; done) | (rw [exploreV_yes (by assumption) (l4V_yes (by assumption) (by assumption))]; rfl))), (show some (Ent.arr 229 (.pr .int (.pr .int .int)) ([])) = some (Ent.arr 229 (.pr .int (.pr .int .int)) (((exploreV s).1).2)) from congrArg (fun z => some (Ent.arr 229 (.pr .int (.pr .int .int)) z)) (by first | (rw [exploreV_no1 (by assumption)]; done) | (rw [exploreV_no1 (by assumption)]; rfl) | (rw [exploreV_no2 (l4V_no1 (by assumption))]; done) | (rw [exploreV_no2 (l4V_no1 (by assumption))]; rfl) | (rw [exploreV_no2 (l4V_no2 (by assumption) (by assumption))]; done) | (rw [exploreV_no2 (l4V_no2 (by assumption) (by assumption))]; rfl) | (rw [exploreV_yes (by assumption) (l4V_yes (by assumption) (by assumption))]; done) | (rw [exploreV_yes (by assumption) (l4V_yes (by assumption) (by assumption))]; rfl))), trivial⟩ rfl rfl

end Go.Proofs.Ytbelopdphlllnaa
