/- Walks over abstract states: the state graph, both sides. -/
import Derived.Test.YtjaadeknhofhpaaGreatWl
import Derived.Test.YtjaadeknhofhpaaGreatWo
set_option linter.unusedSimpArgs false
set_option linter.unusedVariables false
set_option linter.unusedSectionVars false
namespace Go.Proofs.YtjaadeknhofhpaaGreat
open Go.RowKit
set_option maxRecDepth 100000
set_option maxHeartbeats 4000000

/-! What the search finds is in order. -/
structure Rok (m : Nat) (st : RS) : Prop where
  one : 1 ≤ st.1.length
  most : st.1.length ≤ 300
  nd : st.1.Nodup
  mv : ∀ v ∈ st.2.1, MvOk st.1.length m v
section
variable {n : DNet} {k f : Nat} {mk : ByteArray} {t : Int} {ts : List Int} {st : RS} {s : DSTG} {l : List ByteArray} {x : ByteArray}
theorem findB_lt (h : 0 ≤ findB l x) : findB l x < l.length := by
  unfold findB idxF at h ⊢
  cases hf : l.findIdx? (fun y => decide (y = x)) with
  | none => rw [hf] at h; simp at h
  | some i =>
    obtain ⟨h1, _⟩ := List.findIdx?_eq_some_iff_getElem.1 hf
    simp; omega
theorem findB_mem (h : ¬ 0 ≤ findB l x) : x ∉ l := fun hm => by
  unfold findB idxF at h
  cases hf : l.findIdx? (fun y => decide (y = x)) with
  | none =>
    have := List.findIdx?_eq_none_iff.1 hf x hm
    simp at this
  | some i => rw [hf] at h; simp at h
theorem MvOk.grow {a b m : Nat} {v : DMv} (h : MvOk a m v) (hab : a ≤ b) : MvOk b m v := by
  obtain ⟨⟨h1, h2⟩, h3, h4, h5⟩ := h
  exact ⟨⟨h1, by omega⟩, h3, h4, by omega⟩
theorem goT_ok (hk : k < st.1.length) (hts : ∀ t ∈ ts, 0 ≤ t ∧ t < n.2.length) (h : Rok n.2.length st) : Rok n.2.length (goT n k mk ts st).1 ∧ (goT n k mk ts st).1.2.1.length ≤ st.2.1.length + ts.length ∧ st.1.length ≤ (goT n k mk ts st).1.1.length := by
  induction ts generalizing st with
  | nil => rw [goT]; exact ⟨h, by simp, Nat.le_refl _⟩
  | cons t ts ih =>
    have ht := hts t (List.mem_cons_self ..)
    have hts' : ∀ t ∈ ts, 0 ≤ t ∧ t < n.2.length := fun t h => hts t (List.mem_cons_of_mem _ h)
    rw [goT]
    split
    · exact ⟨h, by simp, Nat.le_refl _⟩
    · split
      · rename_i h0
        have hlt := findB_lt h0
        obtain ⟨h1, h2, h3⟩ := ih (st := (st.1, st.2.1 ++ [((k : Int), t, findB st.1 (fireV n mk t).1)], st.2.2)) hk hts' ⟨h.one, h.most, h.nd, fun v hv => by
          rcases List.mem_append.1 hv with hv | hv
          · exact h.mv v hv
          · rw [List.mem_singleton.1 hv]; exact ⟨⟨Int.natCast_nonneg _, by simpa using hk⟩, ht, h0, hlt⟩⟩
        exact ⟨h1, by simp at h2 ⊢; omega, h3⟩
      · rename_i h0
        split
        · exact ⟨h, by simp, Nat.le_refl _⟩
        · rename_i h4
          have hm := h.most
          obtain ⟨h1, h2, h3⟩ := ih (st := (st.1 ++ [(fireV n mk t).1], st.2.1 ++ [((k : Int), t, (st.1.length : Int))], st.2.2 ++ [((k : Int), t, (st.1.length : Int))])) (by simp; omega) hts' ⟨by simp, by simp; omega,
            List.nodup_append.2 ⟨h.nd, by simp, fun a ha b hb e => findB_mem h0 (by rw [List.mem_singleton.1 hb] at e; exact e ▸ ha)⟩, fun v hv => by
              rcases List.mem_append.1 hv with hv | hv
              · exact (h.mv v hv).grow (by simp)
              · rw [List.mem_singleton.1 hv]; exact ⟨⟨Int.natCast_nonneg _, by simp; omega⟩, ht, Int.natCast_nonneg _, by simp; omega⟩⟩
          exact ⟨h1, by simp at h2 ⊢; omega, by simp at h3; omega⟩
theorem goK_ok (hn : n.2.length ≤ 24) (h : Rok n.2.length st) (hl : st.2.1.length ≤ 24 * k) : Rok n.2.length (goK n f k st).1 ∧ (goK n f k st).1.2.1.length ≤ 24 * (k + f) := by
  induction f generalizing k st with
  | zero => rw [goK]; exact ⟨h, by omega⟩
  | succ f ih =>
    rw [goK]
    cases hx : st.1[k]? with
    | none => exact ⟨h, by show st.2.1.length ≤ _; omega⟩
    | some mk =>
      obtain ⟨h1, h2, h3⟩ := goT_ok (mk := mk) (ts := enbs n mk) (List.getElem?_eq_some_iff.1 hx).1 (fun t ht => by
        obtain ⟨i, hi⟩ := List.mem_iff_getElem?.1 ht
        exact enbs_mem hi) h
      have h4 := enbs_len n mk
      show Rok n.2.length (if _ then _ else _ : RS × REnd).1 ∧ (if _ then _ else _ : RS × REnd).1.2.1.length ≤ _
      split
      · obtain ⟨h5, h6⟩ := ih (k := k + 1) h1 (by omega)
        exact ⟨h5, by omega⟩
      · exact ⟨h1, by omega⟩
theorem reach_ok (hs : StgOk s) : Rok s.2.2.1.length (reach s).1 ∧ (reach s).1.2.1.length ≤ 7224 := by
  have h := goK_ok (n := s.1) (k := 0) (f := 301) (st := ([s.2.2.2], [], [((0 : Int), (0 : Int), (0 : Int))])) hs.net.2.1 ⟨by simp, by simp, by simp, by simp⟩ (by simp)
  rw [← hs.len] at h
  exact h
end
theorem sigs_len {ss : List DSignal} (h : SigsOk ss) : ss.length ≤ 24 := by
  have := h.2.2
  omega
section
variable [∀ s, Decidable (StgOk s)] {s : DSTG}
theorem exploreV_no1 (h : ¬ StgOk s) : exploreV s = (zeroRG, false) := if_neg fun h2 => h h2.1
theorem exploreV_no2 (h : (exV s).2.2.2 = false) : exploreV s = (zeroRG, false) := if_neg fun h2 => by
  have : (reach s).2.2.2 = false := h
  rw [this] at h2
  cases h2.2
theorem exploreV_yes (hs : StgOk s) (h : (exV s).2.2.2 = true) : exploreV s = ((exV s).1, true) := if_pos ⟨hs, h⟩
theorem exploreV_ok (h : (exploreV s).2 = true) : StgOk s ∧ 1 ≤ (exploreV s).1.1.length ∧ (exploreV s).1.1.length ≤ 300 ∧ (exploreV s).1.1.Nodup ∧ (∀ v ∈ (exploreV s).1.2, MvOk (exploreV s).1.1.length s.2.2.1.length v) ∧ (exploreV s).1.2.length ≤ 7224 := by
  unfold exploreV at h ⊢
  split
  · rename_i h1
    obtain ⟨h2, h3⟩ := reach_ok h1.1
    exact ⟨h1.1, h2.one, h2.most, h2.nd, h2.mv, h3⟩
  · rename_i h1
    rw [if_neg h1] at h
    cases h
end
section
variable {s : DSTG}
theorem l4V_yes (h : ¬ 0 ≤ (l4V s).2.2.2.1) (h2 : (l4V s).2.2.2.2 = false) : (exV s).2.2.2 = true := by
  have h : ¬ 0 ≤ (reach s).2.2.1 := h
  have h2 : (!(reach s).2.2.2 && decide ((reach s).2.2.1 < 0)) = false := h2
  show (reach s).2.2.2 = true
  rw [decide_eq_true (by omega)] at h2
  simpa using h2
theorem l4V_no2 (h : ¬ 0 ≤ (l4V s).2.2.2.1) (h2 : (l4V s).2.2.2.2 = true) : (exV s).2.2.2 = false := by
  have h2 : (!(reach s).2.2.2 && decide ((reach s).2.2.1 < 0)) = true := h2
  rw [Bool.and_eq_true] at h2
  show (reach s).2.2.2 = false
  simpa using h2.1
end
/-- A transition that fails is told. -/
theorem goT_end_t {n : DNet} {k : Nat} {mk : ByteArray} {ts : List Int} {st : RS} (h : (goT n k mk ts st).2.2.2 = true) : (goT n k mk ts st).2.2.1 = -1 := by
  induction ts generalizing st with
  | nil => rw [goT]
  | cons t ts ih =>
    rw [goT] at h ⊢
    split
    · rename_i h1; rw [if_pos h1] at h; cases h
    · rename_i h1
      rw [if_neg h1] at h
      split
      · rename_i h2; rw [if_pos h2] at h; exact ih h
      · rename_i h2
        rw [if_neg h2] at h
        split
        · rfl
        · rename_i h3; rw [if_neg h3] at h; exact ih h
theorem goK_end_t {n : DNet} {f k : Nat} {st : RS} (h : (goK n f k st).2.2.2 = true) : (goK n f k st).2.2.1 = -1 := by
  induction f generalizing k st with
  | zero => rw [goK]
  | succ f ih =>
    rw [goK] at h ⊢
    cases hx : st.1[k]? with
    | none => rfl
    | some mk =>
      rw [hx] at h
      simp only at h ⊢
      split
      · rename_i h1; rw [if_pos h1] at h; exact ih h
      · rename_i h1; rw [if_neg h1] at h; exact goT_end_t h
theorem l4V_no1 {s : DSTG} (h : 0 ≤ (l4V s).2.2.2.1) : (exV s).2.2.2 = false := by
  have h : 0 ≤ (reach s).2.2.1 := h
  show (reach s).2.2.2 = false
  cases he : (reach s).2.2.2 with
  | false => rfl
  | true =>
    have := goK_end_t (n := s.1) (f := 301) (k := 0) (st := ([s.2.2.2], [], [((0 : Int), (0 : Int), (0 : Int))])) he
    have h2 : (reach s).2.2.1 = -1 := this
    omega

theorem fc_impl_Explore (s : (Int × (List (List Int × List Int))) × (List (ByteArray × Int)) × (List (Int × Bool)) × ByteArray) [∀ s, Decidable (StgOk s)]  : FC Tryz.prog 215 [(true, [dI s.1.1, .dat (.sl 198 (.pr (.sl 3 .int) (.sl 3 .int))) s.1.2, .dat (.sl 90 (.pr .str .int)) s.2.1, .dat (.sl 55 (.pr .int .bool)) s.2.2.1, dS s.2.2.2])] [] 0 (Is (PV.tup [(true, [.ref 0, .ref 1]), (false, [dB ((exploreV s).2)])]) [(0, some (.arr 9 .str (((exploreV s).1).1))), (1, some (.arr 229 (.pr .int (.pr .int .int)) (((exploreV s).1).2)))]) := by
 refine FC.go Tryz.func215 rfl rfl Tryz.ntmps215 fun O_ hO w0_ N0_ X_ h0_ f0_ => ?_
 refine AC.fact (fact_ag (x := .tmp 0) (i := 0) (Ev.tmp rfl) rfl) fun hi1 => ?_
 refine w_ ?_
 refine xbx 0 ?_
 refine lc (xal 1 (.pr (.sl 9 .str) (.sl 229 (.pr .int (.pr .int .int)))) zer_164) ?_
 iterate 5 refine w_ ?_
 refine lc (dK (fc_impl_IsValidSTG s) enters_77) ?_
 iterate 2 refine w_ ?_
 cases hb2 : (decide (StgOk s))
 ·have hb2' := of_decide_eq_false hb2
  iterate 2 refine w_ ?_
  refine lc (Does.build bld_164 rfl (List.all_eq_true.1 rfl) rfl rfl) ?_
  iterate 3 refine w_ ?_
  refine AC.wk (Wk.nilC 2 (p := 1) (off := 0) 9 .str rfl rfl (Fresh.of rfl) (nlr rfl)) <| AC.wk (Wk.nilC 3 (p := 1) (off := 1) 229 (.pr .int (.pr .int .int)) rfl rfl (Fresh.of rfl) (nlr rfl)) <| AC.ret ?_
  subst hO
  have e3 : (false : Bool) = ((exploreV s).2) := by
   (rw [exploreV_no1 (by assumption)]; done)
  exact fin_is _ _ [(0, 2), (1, 3)] (Res.two rfl (Rs.cell rfl rfl tsh_164 rfl) (Rs.tmp rfl)) ((congrArg (fun z_ => PV.tup [(true, [.ref 2, .ref 3]), (false, [dB z_])]) e3)) ⟨(entE (by (rw [exploreV_no1 (by assumption)]; rfl))), (entE (by (rw [exploreV_no1 (by assumption)]; rfl))), trivial⟩ rfl rfl
 ·have hb2' := of_decide_eq_true hb2
  iterate 4 refine w_ ?_
  refine lc (dG 4 (fc_impl_explored s (by assumption)) enters_291) ?_
  iterate 5 refine w_ ?_
  refine lc (xal 6 (.pr (.sl 9 .str) (.sl 229 (.pr .int (.pr .int .int)))) zer_164) ?_
  iterate 10 refine w_ ?_
  cases hb4 : ((exV s).2.2.2)
  ·iterate 2 refine w_ ?_
   refine lc (Does.build bld_164 rfl (List.all_eq_true.1 rfl) rfl rfl) ?_
   iterate 3 refine w_ ?_
   refine AC.wk (Wk.nilC 7 (p := 1) (off := 0) 9 .str rfl rfl (Fresh.of rfl) (nlr rfl)) <| AC.wk (Wk.nilC 8 (p := 1) (off := 1) 229 (.pr .int (.pr .int .int)) rfl rfl (Fresh.of rfl) (nlr rfl)) <| AC.ret ?_
   subst hO
   have e5 : (false : Bool) = ((exploreV s).2) := by
    (rw [exploreV_no2 (by assumption)]; done)
   exact fin_is _ _ [(0, 7), (1, 8)] (Res.two rfl (Rs.cell rfl rfl tsh_164 rfl) (Rs.tmp rfl)) ((congrArg (fun z_ => PV.tup [(true, [.ref 7, .ref 8]), (false, [dB z_])]) e5)) ⟨(entE (by (rw [exploreV_no2 (by assumption)]; rfl))), (entE (by (rw [exploreV_no2 (by assumption)]; rfl))), trivial⟩ rfl rfl
  ·iterate 7 refine w_ ?_
   refine AC.ret ?_
   subst hO
   have e6 : (true : Bool) = ((exploreV s).2) := by
    (rw [exploreV_yes (by assumption) (by assumption)]; done)
   exact fin_is _ _ [(0, 4), (1, 5)] (Res.two rfl (Rs.cell rfl rfl tsh_164 rfl) (Rs.tmp rfl)) ((congrArg (fun z_ => PV.tup [(true, [.ref 4, .ref 5]), (false, [dB z_])]) e6)) ⟨(entE (by (rw [exploreV_yes (by assumption) (by assumption)]; done))), (entE (by (rw [exploreV_yes (by assumption) (by assumption)]; done))), trivial⟩ rfl rfl

theorem fc_spec_Explore (s : (Int × (List (List Int × List Int))) × (List (ByteArray × Int)) × (List (Int × Bool)) × ByteArray) [∀ s, Decidable (StgOk s)]  : FC Tryz.prog 124 [(true, [dI s.1.1, .dat (.sl 198 (.pr (.sl 3 .int) (.sl 3 .int))) s.1.2, .dat (.sl 90 (.pr .str .int)) s.2.1, .dat (.sl 55 (.pr .int .bool)) s.2.2.1, dS s.2.2.2])] [] 0 (Is (PV.tup [(true, [.ref 0, .ref 1]), (false, [dB ((exploreV s).2)])]) [(0, some (.arr 9 .str (((exploreV s).1).1))), (1, some (.arr 229 (.pr .int (.pr .int .int)) (((exploreV s).1).2)))]) := by
 refine FC.go Tryz.func124 rfl rfl Tryz.ntmps124 fun O_ hO w0_ N0_ X_ h0_ f0_ => ?_
 refine AC.fact (fact_ag (x := .tmp 0) (i := 0) (Ev.tmp rfl) rfl) fun hi1 => ?_
 refine w_ ?_
 refine xbx 0 ?_
 refine lc (xal 1 (.pr (.sl 9 .str) (.sl 229 (.pr .int (.pr .int .int)))) zer_164) ?_
 iterate 5 refine w_ ?_
 refine lc (dK (fc_spec_l2Good s) enters_79) ?_
 iterate 2 refine w_ ?_
 cases hb2 : (decide (StgOk s))
 ·have hb2' := of_decide_eq_false hb2
  iterate 2 refine w_ ?_
  refine lc (Does.build bld_164 rfl (List.all_eq_true.1 rfl) rfl rfl) ?_
  iterate 3 refine w_ ?_
  refine AC.wk (Wk.nilC 2 (p := 1) (off := 0) 9 .str rfl rfl (Fresh.of rfl) (nlr rfl)) <| AC.wk (Wk.nilC 3 (p := 1) (off := 1) 229 (.pr .int (.pr .int .int)) rfl rfl (Fresh.of rfl) (nlr rfl)) <| AC.ret ?_
  subst hO
  have e3 : (false : Bool) = ((exploreV s).2) := by
   (rw [exploreV_no1 (by assumption)]; done)
  exact fin_is _ _ [(0, 2), (1, 3)] (Res.two rfl (Rs.cell rfl rfl tsh_164 rfl) (Rs.tmp rfl)) ((congrArg (fun z_ => PV.tup [(true, [.ref 2, .ref 3]), (false, [dB z_])]) e3)) ⟨(entE (by (rw [exploreV_no1 (by assumption)]; rfl))), (entE (by (rw [exploreV_no1 (by assumption)]; rfl))), trivial⟩ rfl rfl
 ·have hb2' := of_decide_eq_true hb2
  iterate 4 refine w_ ?_
  refine lc (dG 4 (fc_spec_l4Reach s (by assumption)) enters_230) ?_
  refine lc (xal 7 (.pr (.pr (.sl 9 .str) (.sl 229 (.pr .int (.pr .int .int)))) (.pr (.sl 229 (.pr .int (.pr .int .int))) (.pr .int (.pr .int .bool)))) zer_255) ?_
  iterate 6 refine w_ ?_
  refine AL.fact (fact_int (x := .tmp 12) (Evl.tmp rfl)) fun hi4 => ?_
  iterate 2 refine w_ ?_
  cases hb5 : (decide (0 ≤ ((l4V s).2.2.2.1)))
  ·have hb5' := of_decide_eq_false hb5
   iterate 4 refine w_ ?_
   cases hb6 : ((l4V s).2.2.2.2)
   ·iterate 8 refine w_ ?_
    refine AC.ret ?_
    subst hO
    have e7 : (true : Bool) = ((exploreV s).2) := by
     (rw [exploreV_yes (by assumption) (l4V_yes (by assumption) (by assumption))]; done)
    exact fin_is _ _ [(0, 4), (1, 5)] (Res.two rfl (Rs.cell rfl rfl tsh_164 rfl) (Rs.tmp rfl)) ((congrArg (fun z_ => PV.tup [(true, [.ref 4, .ref 5]), (false, [dB z_])]) e7)) ⟨(entE (by (rw [exploreV_yes (by assumption) (l4V_yes (by assumption) (by assumption))]; rfl))), (entE (by (rw [exploreV_yes (by assumption) (l4V_yes (by assumption) (by assumption))]; rfl))), trivial⟩ rfl rfl
   ·iterate 2 refine w_ ?_
    refine lc (Does.build bld_164 rfl (List.all_eq_true.1 rfl) rfl rfl) ?_
    iterate 3 refine w_ ?_
    refine AC.wk (Wk.nilC 8 (p := 1) (off := 0) 9 .str rfl rfl (Fresh.of rfl) (nlr rfl)) <| AC.wk (Wk.nilC 9 (p := 1) (off := 1) 229 (.pr .int (.pr .int .int)) rfl rfl (Fresh.of rfl) (nlr rfl)) <| AC.ret ?_
    subst hO
    have e8 : (false : Bool) = ((exploreV s).2) := by
     (rw [exploreV_no2 (l4V_no2 (by assumption) (by assumption))]; done)
    exact fin_is _ _ [(0, 8), (1, 9)] (Res.two rfl (Rs.cell rfl rfl tsh_164 rfl) (Rs.tmp rfl)) ((congrArg (fun z_ => PV.tup [(true, [.ref 8, .ref 9]), (false, [dB z_])]) e8)) ⟨(entE (by (rw [exploreV_no2 (l4V_no2 (by assumption) (by assumption))]; rfl))), (entE (by (rw [exploreV_no2 (l4V_no2 (by assumption) (by assumption))]; rfl))), trivial⟩ rfl rfl
  ·have hb5' := of_decide_eq_true hb5
   iterate 6 refine w_ ?_
   refine lc (Does.build bld_164 rfl (List.all_eq_true.1 rfl) rfl rfl) ?_
   iterate 3 refine w_ ?_
   refine AC.wk (Wk.nilC 10 (p := 1) (off := 0) 9 .str rfl rfl (Fresh.of rfl) (nlr rfl)) <| AC.wk (Wk.nilC 11 (p := 1) (off := 1) 229 (.pr .int (.pr .int .int)) rfl rfl (Fresh.of rfl) (nlr rfl)) <| AC.ret ?_
   subst hO
   have e9 : (false : Bool) = ((exploreV s).2) := by
    (rw [exploreV_no2 (l4V_no1 (by assumption))]; done)
   exact fin_is _ _ [(0, 10), (1, 11)] (Res.two rfl (Rs.cell rfl rfl tsh_164 rfl) (Rs.tmp rfl)) ((congrArg (fun z_ => PV.tup [(true, [.ref 10, .ref 11]), (false, [dB z_])]) e9)) ⟨(entE (by (rw [exploreV_no2 (l4V_no1 (by assumption))]; rfl))), (entE (by (rw [exploreV_no2 (l4V_no1 (by assumption))]; rfl))), trivial⟩ rfl rfl

end Go.Proofs.YtjaadeknhofhpaaGreat

/- Walks over abstract states: the state graph, both sides. -/
namespace Go.Proofs.YtjaadeknhofhpaaGreat
open Go.RowKit
set_option maxRecDepth 100000
set_option maxHeartbeats 4000000

/-- A column of bits put behind the codes, from place i on. -/
def addF : Nat → List ByteArray → List UInt8 → List ByteArray
  | _, c, [] => c
  | i, c, v :: vs => addF (i + 1) (c.set i ((c[i]?).getD ByteArray.empty ++ ⟨#[v]⟩)) vs
def goS (n : Nat) (arcs : List DAr) : Nat → Nat → List ByteArray → Option (List ByteArray)
  | 0, _, c => some c
  | f + 1, k, c => if (valsV n arcs (k : Int)).2 = true then goS n arcs f (k + 1) (addF 0 c (valsV n arcs (k : Int)).1) else none
section
variable {n f k i m : Nat} {arcs : List DAr} {c codes : List ByteArray} {vs us : List UInt8} {v : UInt8} {x : ByteArray}
theorem addF_step (hv : vs[i]? = some v) (hx : c[i]? = some x) : addF i c (vs.drop i) = addF (i + 1) (c.set i (x ++ ⟨#[v]⟩)) (vs.drop (i + 1)) := by
  rw [drop_cons hv, addF, hx]
  rfl
theorem addF_end (h : vs.length ≤ i) : addF i c (vs.drop i) = c := by rw [List.drop_eq_nil_of_le h, addF]
theorem goS_ok (hk : k < m) (h : (valsV n arcs (k : Int)).2 = true) : goS n arcs (m - k) k c = goS n arcs (m - (k + 1)) (k + 1) (addF 0 c (valsV n arcs (k : Int)).1) := by
  rw [show m - k = (m - (k + 1)) + 1 by omega, goS, if_pos h]
theorem goS_bad (hk : k < m) (h : (valsV n arcs (k : Int)).2 = false) : goS n arcs (m - k) k c = none := by
  rw [show m - k = (m - (k + 1)) + 1 by omega, goS, if_neg (by rw [h]; decide)]
theorem goS_end (hk : m ≤ k) : goS n arcs (m - k) k c = some c := by rw [show m - k = 0 by omega, goS]
theorem goS_none {j : Nat} (h : (valsV n arcs (j : Int)).2 = false) (hk : k ≤ j) (hj : j < k + f) : goS n arcs f k c = none := by
  induction f generalizing k c with
  | zero => omega
  | succ f ih =>
    rw [goS]
    by_cases e : j = k
    · subst e; rw [if_neg (by rw [h]; decide)]
    · split
      · exact ih (by omega) (by omega)
      · rfl
theorem vals_of_l5 (hr : ∀ a ∈ arcs, InR n a) (sig : Int) : (valsV n arcs sig).2 = (l5V n arcs sig).2 := by
  rcases l5V_vals (sig := sig) hr with ⟨h1, h2, _⟩ | ⟨us, h1, _, h2⟩
  · rw [h1, h2]
  · rw [h1, h2]
theorem clash_none (h : ¬ 0 < ((clash n arcs m).length : Int)) (hk : k < m) : (l5V n arcs (k : Int)).2 = true := by
  induction m with
  | zero => omega
  | succ m ih =>
    simp only [clash, List.length_append] at h
    by_cases e : k = m
    · subst e
      cases h2 : (l5V n arcs (k : Int)).2 with
      | true => rfl
      | false => rw [h2] at h; simp at h
    · exact ih (by omega) (by omega)
theorem clash_some (hr : ∀ a ∈ arcs, InR n a) (h : 0 < ((clash n arcs m).length : Int)) : goS n arcs m 0 c = none := by
  have : ∃ j, j < m ∧ (l5V n arcs (j : Int)).2 = false := by
    induction m with
    | zero => simp [clash] at h
    | succ m ih =>
      simp only [clash, List.length_append] at h
      cases h2 : (l5V n arcs (m : Int)).2 with
      | false => exact ⟨m, by omega, h2⟩
      | true =>
        rw [h2] at h
        obtain ⟨j, h3, h4⟩ := ih (by simpa using h)
        exact ⟨j, by omega, h4⟩
  obtain ⟨j, h1, h2⟩ := this
  exact goS_none ((vals_of_l5 hr _).trans h2) (Nat.zero_le _) (by omega)
theorem vals_len (hr : ∀ a ∈ arcs, InR n a) (sig : Int) : (valsV n arcs sig).1.length ≤ n := by
  rcases l5V_vals (sig := sig) hr with ⟨_, _, _, h2⟩ | ⟨us, _, h1, h2⟩
  · rw [h2]; exact Nat.zero_le _
  · rw [h2, List.length_map, h1]; exact Nat.le_refl _
theorem size_set {b : Nat} {y : ByteArray} (h : ∀ z ∈ c, z.size ≤ b) (hx : c[i]? = some x) (hy : y.size ≤ x.size + 1) : ∀ z ∈ c.set i y, z.size ≤ b + 1 := fun z hz => by
  rcases List.mem_or_eq_of_mem_set hz with h1 | h1
  · exact Nat.le_succ_of_le (h z h1)
  · rw [h1]; have := h x (List.mem_of_getElem? hx); omega
theorem arcs_inr {ls : List DLabel} {ms : List DMv} {q : Nat} (h : ∀ v ∈ ms, MvOk n q v) : ∀ a ∈ arcsOf ls ms, InR n a := fun a ha => by
  obtain ⟨v, hv, rfl⟩ := List.mem_map.1 ha
  obtain ⟨h1, _, h2⟩ := h v hv
  exact ⟨h1, h2⟩
theorem l5V_us {sig : Int} (hr : ∀ a ∈ arcs, InR n a) (h : (l5V n arcs sig).2 = true) : ∃ us : List UInt8, (l5V n arcs sig).1 = ⟨us.toArray⟩ ∧ us.length = n ∧ (l5V n arcs sig).1.size = n ∧ valsV n arcs sig = (us.map q0, true) := by
  rcases l5V_vals (sig := sig) hr with ⟨h1, _⟩ | ⟨us, h1, h2, h3⟩
  · rw [h1] at h; cases h
  · exact ⟨us, by rw [h1], h2, by rw [h1, ← h2]; rfl, h3⟩
theorem ext_le1 (b : ByteArray) (i : Nat) : (b.extract i (i + 1)).size ≤ 1 := by simp only [ByteArray.size_extract]; omega
theorem ext1 (hu : us[i]? = some v) : (⟨us.toArray⟩ : ByteArray).extract i (i + 1) = ⟨#[v]⟩ := by
  apply ByteArray.ext
  simp only [ByteArray.data_extract]
  obtain ⟨h1, h2⟩ := List.getElem?_eq_some_iff.1 hu
  apply Array.ext
  · simp; omega
  · intro j h3 h4
    have : j = 0 := by simp at h4; omega
    subst this
    simp [h2]
theorem q0_at (hu : us[i]? = some v) : (us.map q0)[i]? = some (q0 v) := by rw [List.getElem?_map, hu]; rfl
theorem addQ_q {b : ByteArray} (hb : b = ⟨us.toArray⟩) (hi : i < us.length) (hd : decide (b.extract i (i + 1) = ⟨#[63]⟩) = true) (hx : c[i]? = some x) : addF i c ((us.map q0).drop i) = addF (i + 1) (c.set i (x ++ ⟨#[48]⟩)) ((us.map q0).drop (i + 1)) := by
  have hu := List.getElem?_eq_getElem hi
  have h1 := of_decide_eq_true hd
  rw [hb, ext1 hu] at h1
  have h2 : us[i] = 63 := by
    have := congrArg (fun b : ByteArray => b.data[0]?) h1
    simpa using this
  have := addF_step (q0_at hu) hx
  rwa [show q0 us[i] = 48 by rw [h2]; rfl] at this
theorem addQ_n {b : ByteArray} (hb : b = ⟨us.toArray⟩) (hi : i < us.length) (hd : decide (b.extract i (i + 1) = ⟨#[63]⟩) = false) (hx : c[i]? = some x) : addF i c ((us.map q0).drop i) = addF (i + 1) (c.set i (x ++ b.extract i (i + 1))) ((us.map q0).drop (i + 1)) := by
  have hu := List.getElem?_eq_getElem hi
  have h1 := of_decide_eq_false hd
  rw [hb, ext1 hu] at h1 ⊢
  have := addF_step (q0_at hu) hx
  rwa [show q0 us[i] = us[i] by unfold q0; rw [if_neg]; intro e; exact h1 (by rw [e])] at this
theorem addQ_end (h : us.length ≤ i) : addF i c ((us.map q0).drop i) = c := addF_end (by simpa using h)
end
section
variable [∀ s, Decidable (StgOk s)] {s : DSTG} {c : List ByteArray}
def zeroSG : List (ByteArray × Int) × List ByteArray × List DAr := ([], [], [])
def sgV (s : DSTG) : (List (ByteArray × Int) × List ByteArray × List DAr) × Bool :=
  if (exploreV s).2 = true ∧ ¬ 4000 < (exploreV s).1.2.length then
    (match goS (exploreV s).1.1.length (arcsOf s.2.2.1 (exploreV s).1.2) s.2.1.length 0 (List.replicate (exploreV s).1.1.length ByteArray.empty) with
    | some c => ((s.2.1, c, arcsOf s.2.2.1 (exploreV s).1.2), true)
    | none => (zeroSG, false))
  else (zeroSG, false)
theorem sgV_no1 (h : (exploreV s).2 = false) : sgV s = (zeroSG, false) := if_neg fun h2 => by rw [h] at h2; cases h2.1
theorem sgV_no2 (h : (4000 : Int) < ((exploreV s).1.2.length : Int)) : sgV s = (zeroSG, false) := if_neg fun h2 => h2.2 (by omega)
theorem sgV_no3 (h : goS (exploreV s).1.1.length (arcsOf s.2.2.1 (exploreV s).1.2) s.2.1.length 0 (List.replicate (exploreV s).1.1.length ByteArray.empty) = none) : sgV s = (zeroSG, false) := by
  unfold sgV
  rw [h]
  split <;> rfl
theorem sgV_yes (h1 : (exploreV s).2 = true) (h2 : ¬ (4000 : Int) < ((exploreV s).1.2.length : Int)) (h : goS (exploreV s).1.1.length (arcsOf s.2.2.1 (exploreV s).1.2) s.2.1.length 0 (List.replicate (exploreV s).1.1.length ByteArray.empty) = some c) :
    sgV s = ((s.2.1, c, arcsOf s.2.2.1 (exploreV s).1.2), true) := by
  unfold sgV
  rw [if_pos ⟨h1, by omega⟩, h]
end

theorem fc_impl_BuildStateGraph (s : (Int × (List (List Int × List Int))) × (List (ByteArray × Int)) × (List (Int × Bool)) × ByteArray) [∀ s, Decidable (StgOk s)]  : FC Tryz.prog 112 [(true, [dI s.1.1, .dat (.sl 198 (.pr (.sl 3 .int) (.sl 3 .int))) s.1.2, .dat (.sl 90 (.pr .str .int)) s.2.1, .dat (.sl 55 (.pr .int .bool)) s.2.2.1, dS s.2.2.2])] [] 0 (Is (PV.tup [(true, [.ref 0, .ref 1, .ref 2]), (false, [dB ((sgV s).2)])]) [(0, some (.arr 90 (.pr .str .int) (((sgV s).1).1))), (1, some (.arr 9 .str (((sgV s).1).2.1))), (2, some (.arr 106 (.pr .int (.pr .int (.pr .bool .int))) (((sgV s).1).2.2)))]) := by
 refine FC.go Tryz.func112 rfl rfl Tryz.ntmps112 fun O_ hO w0_ N0_ X_ h0_ f0_ => ?_
 refine AC.fact (fact_ag (x := .tmp 0) (i := 0) (Ev.tmp rfl) rfl) fun hi1 => ?_
 refine w_ ?_
 refine xbx 0 ?_
 refine lc (xal 1 (.pr (.sl 90 (.pr .str .int)) (.pr (.sl 9 .str) (.sl 106 (.pr .int (.pr .int (.pr .bool .int)))))) zer_52) ?_
 iterate 4 refine w_ ?_
 refine lc (dG 2 (fc_impl_Explore s) enters_215) ?_
 iterate 3 refine w_ ?_
 refine lc (xal 4 (.pr (.sl 9 .str) (.sl 229 (.pr .int (.pr .int .int)))) zer_164) ?_
 iterate 8 refine w_ ?_
 cases hb2 : ((exploreV s).2)
 ·iterate 8 refine w_ ?_
  refine lc (Does.build bld_52 rfl (List.all_eq_true.1 rfl) rfl rfl) ?_
  iterate 3 refine w_ ?_
  refine AC.wk (Wk.nilC 5 (p := 1) (off := 0) 90 (.pr .str .int) rfl rfl (Fresh.of rfl) (nlr rfl)) <| AC.wk (Wk.nilC 6 (p := 1) (off := 1) 9 .str rfl rfl (Fresh.of rfl) (nlr rfl)) <| AC.wk (Wk.nilC 7 (p := 1) (off := 2) 106 (.pr .int (.pr .int (.pr .bool .int))) rfl rfl (Fresh.of rfl) (nlr rfl)) <| AC.ret ?_
  subst hO
  have e3 : (false : Bool) = ((sgV s).2) := by
   (rw [sgV_no1 (by assumption)]; done)
  exact fin_is _ _ [(0, 5), (1, 6), (2, 7)] (Res.two rfl (Rs.cell rfl rfl tsh_52 rfl) (Rs.tmp rfl)) ((congrArg (fun z_ => PV.tup [(true, [.ref 5, .ref 6, .ref 7]), (false, [dB z_])]) e3)) ⟨(entE (by (rw [sgV_no1 (by assumption)]; rfl))), (entE (by (rw [sgV_no1 (by assumption)]; rfl))), (entE (by (rw [sgV_no1 (by assumption)]; rfl))), trivial⟩ rfl rfl
 ·iterate 6 refine w_ ?_
  cases hb4 : (decide (4000 < ((((exploreV s).1).2).length : Int)))
  ·have hb4' := of_decide_eq_false hb4
   iterate 2 refine w_ ?_
   obtain ⟨hsg, hN1, hN2, hNd, hMv, hMl⟩ := exploreV_ok (s := s) (by assumption)
   have hir := arcs_inr (ls := s.2.2.1) hMv
   have hsl := sigs_len hsg.sigs
   apply dW [io 26 _, io 27 _, ⟨some 28, lR 8, [(8, some (.arr 90 (.pr .str .int) s.2.1))]⟩, io 29 (lP 4 0), io 30 (lR 2), io 31 (lI ((((exploreV s).1).1).length : Int)), ⟨some 32, lR 9, [(9, some (.arr 9 .str (List.replicate ((((exploreV s).1).1).length) (Ty.zero .str))))]⟩, io 33 (ag [dI s.1.1, .dat (.sl 198 (.pr (.sl 3 .int) (.sl 3 .int))) s.1.2, .dat (.sl 90 (.pr .str .int)) s.2.1, .dat (.sl 55 (.pr .int .bool)) s.2.2.1, dS s.2.2.2]), io 34 (ag [.ref 2, .ref 3]), ⟨some 35, lR 10, [(10, some (.arr 106 (.pr .int (.pr .int (.pr .bool .int))) (arcsOf s.2.2.1 ((exploreV s).1).2)))]⟩, io 36 (ag [.ref 8, .ref 9, .ref 10]), ⟨some 6, lP 11 0, [(11, some (.box 52 [.val (.slice none 0 0), .val (.slice none 0 0), .val (.slice none 0 0)]))]⟩, ⟨none, lf (.val undef), [(11, some (.box 52 [.ref 8, .ref 9, .ref 10]))]⟩] [0, 0, 0, 7, 7, 7, 7, 127, 255, 120, 0, 2047, 0]
   iterate 2 refine z_ ?_
   refine zz (fun _ h_ => ac (dO 8 (fc_slices_Clone_impl_Signal_impl_Signal s.2.1 (by omega)) enters_216) rfl) ?_
   iterate 3 refine z_ ?_
   refine zz (fun _ h_ => ac (Does.make 9 (e := .str) (n := (((exploreV s).1).1).length) (h_.v rfl) (h_.v rfl) und_49 mki_9 rfl (by omega) (by omega) rfl (h_.fr 9 rfl) (nlr rfl)) rfl) ?_
   iterate 2 refine z_ ?_
   refine zz (fun _ h_ => ac (Does.callOB 10 (fc_impl_labelledArcs s ((exploreV s).1) (fun m hm => (hMv m hm).2.1) (by omega)) enters_217 ⟨_, _, rfl, (Ev.b (h_.w rfl)), ⟨_, _, rfl, (Ev.ob (h_.w rfl) ⟨_, _, rfl, .inr ⟨_, _, _, _, rfl, (h_.en 2 rfl), rfl⟩, ⟨_, _, rfl, .inr ⟨_, _, _, _, rfl, (h_.en 3 rfl), rfl⟩, rfl⟩⟩), rfl⟩⟩ rfl (h_.fr 10 rfl) (nlr rfl)) rfl) <| zz (fun _ h_ => ac (Does.build bld_52 ⟨_, _, rfl, (h_.w rfl), ⟨_, _, rfl, (h_.w rfl), ⟨_, _, rfl, (h_.w rfl), rfl⟩⟩⟩ (List.all_eq_true.1 (by simp only [okLVs, okLV, List.all_cons, List.all_nil]; rw [(h_.en 8 rfl), (h_.en 9 rfl), (h_.en 10 rfl)]; rfl)) rfl rfl) rfl) <| zz (fun _ h_ => ac (Does.alloc 11 (.pr (.sl 90 (.pr .str .int)) (.pr (.sl 9 .str) (.sl 106 (.pr .int (.pr .int (.pr .bool .int)))))) zer_52 rfl rfl (h_.fr 11 rfl) (nlr rfl)) rfl) <| zz (fun _ h_ => ac (Does.storeP (h_.v rfl) (h_.en 11 rfl) (h_.w rfl) (by simp only [okLVs, okLV, List.all_cons, List.all_nil]; rw [(h_.en 8 rfl), (h_.en 9 rfl), (h_.en 10 rfl)]; rfl) tsh_52 rfl) rfl) ?_
   exact zN
   iterate 4 refine w_ ?_
   refine AL.fact (fact_len (x := .tmp 38) (Evl.tmp rfl)) fun hl5 => ?_
   iterate 4 refine w_ ?_
   refine AC.loopW (fun m_ s_ => ∃ (k : Nat) (codes : List ByteArray), k ≤ s.2.1.length ∧ m_ = s.2.1.length - k ∧ (goS (exploreV s).1.1.length (arcsOf s.2.2.1 (exploreV s).1.2) s.2.1.length 0 (List.replicate (exploreV s).1.1.length ByteArray.empty) = goS (exploreV s).1.1.length (arcsOf s.2.2.1 (exploreV s).1.2) (s.2.1.length - k) k codes) ∧ (codes.length = (exploreV s).1.1.length) ∧ (∀ c ∈ codes, c.size ≤ 300 * k) ∧ s_ = ⟨[(2, lP 1 0), (4, lP 4 0), (6, lP 11 0), (39, lI (s.2.1.length : Int)), (40, lI (k : Int))], [(1, some (.box 52 [.val (.slice none 0 0), .val (.slice none 0 0), .val (.slice none 0 0)])), (2, some (.arr 9 .str (((exploreV s).1).1))), (3, some (.arr 229 (.pr .int (.pr .int .int)) (((exploreV s).1).2))), (4, some (.box 164 [.ref 2, .ref 3])), (8, some (.arr 90 (.pr .str .int) s.2.1)), (10, some (.arr 106 (.pr .int (.pr .int (.pr .bool .int))) (arcsOf s.2.2.1 ((exploreV s).1).2))), (11, some (.box 52 [.ref 8, .ref 12, .ref 10])), (12, some (.arr 9 .str codes))]⟩) ⟨0, List.replicate ((((exploreV s).1).1).length) (Ty.zero .str), Nat.zero_le _, rfl, rfl, (by simp), (fun c hc => by rw [List.eq_of_mem_replicate hc]; exact Nat.zero_le _), rfl⟩ ?_ ?_
   · exact Wk.of [(12, 9)] rfl ⟨rfl, rfl, rfl, rfl, rfl, trivial⟩ ⟨rfl, rfl, rfl, rfl, rfl, rfl, rfl, (entE (by first | rfl | simp)), trivial⟩ rfl rfl
   rintro m_ s_ ⟨k, codes, hk6, hm7, hA, hL, hZ, rfl⟩
   iterate 4 refine w_ ?_
   cases hb8 : (decide ((k : Int) < (s.2.1.length : Int)))
   ·have hb8' := of_decide_eq_false hb8
    refine w_ ?_
    refine AC.exit ?_
    refine (?_ : AC _ _ _ _ _)
    iterate 5 refine w_ ?_
    refine AC.ret ?_
    subst hO
    have e9 : (true : Bool) = ((sgV s).2) := by
     (rw [sgV_yes (by assumption) (by assumption) (hA.trans (goS_end (by omega)))]; done)
    exact fin_is _ _ [(0, 8), (1, 12), (2, 10)] (Res.two rfl (Rs.cell rfl rfl tsh_52 rfl) (Rs.tmp rfl)) ((congrArg (fun z_ => PV.tup [(true, [.ref 8, .ref 12, .ref 10]), (false, [dB z_])]) e9)) ⟨(entE (by (rw [sgV_yes (by assumption) (by assumption) (hA.trans (goS_end (by omega)))]; done))), (entE (by (rw [sgV_yes (by assumption) (by assumption) (hA.trans (goS_end (by omega)))]; done))), (entE (by (rw [sgV_yes (by assumption) (by assumption) (hA.trans (goS_end (by omega)))]; done))), trivial⟩ rfl rfl
   ·have hb8' := of_decide_eq_true hb8
    iterate 15 refine w_ ?_
    refine lc (Does.callGB 13 (fc_impl_valuesOf ((((exploreV s).1).1).length : Int) (arcsOf s.2.2.1 ((exploreV s).1).2) (k : Int) (by omega) hir) enters_218 ⟨_, _, rfl, (Ev.b (Ev.tmp rfl)), ⟨_, _, rfl, (Evl.ob (Evl.tmp rfl) rfl), ⟨_, _, rfl, (Ev.b (Ev.tmp rfl)), rfl⟩⟩⟩ rfl rfl rfl ⟨Fresh.of rfl, trivial⟩ (nlr rfl)) ?_
    iterate 11 refine w_ ?_
    cases hb10 : ((valsV ((((exploreV s).1).1).length : Int).toNat (arcsOf s.2.2.1 ((exploreV s).1).2) (k : Int)).2)
    ·iterate 2 refine w_ ?_
     refine lc (Does.build bld_52 rfl (List.all_eq_true.1 rfl) rfl rfl) ?_
     iterate 3 refine w_ ?_
     refine AC.wk (Wk.nilC 14 (p := 1) (off := 0) 90 (.pr .str .int) rfl rfl (Fresh.of rfl) (nlr rfl)) <| AC.wk (Wk.nilC 15 (p := 1) (off := 1) 9 .str rfl rfl (Fresh.of rfl) (nlr rfl)) <| AC.wk (Wk.nilC 16 (p := 1) (off := 2) 106 (.pr .int (.pr .int (.pr .bool .int))) rfl rfl (Fresh.of rfl) (nlr rfl)) <| AC.ret ?_
     subst hO
     have e11 : (false : Bool) = ((sgV s).2) := by
      (rw [sgV_no3 (hA.trans (goS_bad (by omega) (by assumption)))]; done)
     exact fin_is _ _ [(0, 14), (1, 15), (2, 16)] (Res.two rfl (Rs.cell rfl rfl tsh_52 rfl) (Rs.tmp rfl)) ((congrArg (fun z_ => PV.tup [(true, [.ref 14, .ref 15, .ref 16]), (false, [dB z_])]) e11)) ⟨(entE (by (rw [sgV_no3 (hA.trans (goS_bad (by omega) (by assumption)))]; rfl))), (entE (by (rw [sgV_no3 (hA.trans (goS_bad (by omega) (by assumption)))]; rfl))), (entE (by (rw [sgV_no3 (hA.trans (goS_bad (by omega) (by assumption)))]; rfl))), trivial⟩ rfl rfl
    ·iterate 8 refine w_ ?_
     refine AC.loopW (fun m_ s_ => ∃ (i : Nat) (codes2 : List ByteArray), i ≤ (valsV (((exploreV s).1.1.length : Int)).toNat (arcsOf s.2.2.1 (exploreV s).1.2) (k : Int)).1.length ∧ m_ = (valsV (((exploreV s).1.1.length : Int)).toNat (arcsOf s.2.2.1 (exploreV s).1.2) (k : Int)).1.length - i ∧ (addF 0 codes (valsV (((exploreV s).1.1.length : Int)).toNat (arcsOf s.2.2.1 (exploreV s).1.2) (k : Int)).1 = addF i codes2 ((valsV (((exploreV s).1.1.length : Int)).toNat (arcsOf s.2.2.1 (exploreV s).1.2) (k : Int)).1.drop i)) ∧ (codes2.length = (exploreV s).1.1.length) ∧ (∀ c ∈ codes2, c.size ≤ 300 * k + i) ∧ s_ = ⟨[(2, lP 1 0), (4, lP 4 0), (6, lP 11 0), (7, lI (k : Int)), (8, lR 13), (9, lB true), (39, lI (s.2.1.length : Int)), (40, lI (k : Int)), (41, lB true), (42, lI (k : Int)), (43, PV.tup [(false, [.ref 13]), (false, [dB true])]), (44, lP 4 0), (45, lR 2), (46, lI ((((exploreV s).1).1).length : Int)), (47, lP 11 2), (48, lR 10), (49, lI (k : Int)), (50, PV.tup [(false, [.ref 13]), (false, [dB true])]), (51, lR 13), (52, lB true), (53, lB true), (54, lB (!true)), (56, lR 13), (57, lI (((valsV ((((exploreV s).1).1).length : Int).toNat (arcsOf s.2.2.1 ((exploreV s).1).2) (k : Int)).1).length : Int)), (58, lI (i : Int))], [(1, some (.box 52 [.val (.slice none 0 0), .val (.slice none 0 0), .val (.slice none 0 0)])), (2, some (.arr 9 .str (((exploreV s).1).1))), (3, some (.arr 229 (.pr .int (.pr .int .int)) (((exploreV s).1).2))), (4, some (.box 164 [.ref 2, .ref 3])), (8, some (.arr 90 (.pr .str .int) s.2.1)), (10, some (.arr 106 (.pr .int (.pr .int (.pr .bool .int))) (arcsOf s.2.2.1 ((exploreV s).1).2))), (11, some (.box 52 [.ref 8, .ref 17, .ref 10])), (13, some (.arr 5 .u8 ((valsV ((((exploreV s).1).1).length : Int).toNat (arcsOf s.2.2.1 ((exploreV s).1).2) (k : Int)).1))), (17, some (.arr 9 .str codes2))]⟩) ⟨0, codes, Nat.zero_le _, rfl, rfl, hL, hZ, rfl⟩ ?_ ?_
     · exact Wk.of [(17, 12)] rfl ⟨rfl, rfl, rfl, rfl, rfl, rfl, rfl, rfl, rfl, rfl, rfl, rfl, rfl, rfl, rfl, rfl, rfl, rfl, rfl, rfl, rfl, rfl, rfl, rfl, rfl, trivial⟩ ⟨rfl, rfl, rfl, rfl, rfl, rfl, rfl, rfl, rfl, trivial⟩ rfl rfl
     rintro m_ s_ ⟨i, codes2, hk12, hm13, hA2, hL2, hZ2, rfl⟩
     have hvl : (valsV (((exploreV s).1.1.length : Int)).toNat (arcsOf s.2.2.1 (exploreV s).1.2) (k : Int)).1.length ≤ (exploreV s).1.1.length := vals_len hir (k : Int)
     iterate 4 refine w_ ?_
     cases hb14 : (decide ((i : Int) < (((valsV ((((exploreV s).1).1).length : Int).toNat (arcsOf s.2.2.1 ((exploreV s).1).2) (k : Int)).1).length : Int)))
     ·have hb14' := of_decide_eq_false hb14
      refine w_ ?_
      refine AC.exit ?_
      refine (?_ : AC _ _ _ _ _)
      iterate 3 refine w_ ?_
      refine AL.nil <| lend ⟨k + 1, codes2, by omega, rfl, (by rw [hA, goS_ok (by omega) (by assumption)]; exact congrArg _ (hA2.trans (addF_end (by omega)))), hL2, (fun c hc => Nat.le_trans (hZ2 c hc) (by have hvl : (valsV (((exploreV s).1.1.length : Int)).toNat (arcsOf s.2.2.1 (exploreV s).1.2) (k : Int)).1.length ≤ (exploreV s).1.1.length := vals_len hir (k : Int); omega)), rfl⟩ (by omega) ?_
      exact Wk.of [(12, 17)] rfl ⟨rfl, rfl, rfl, rfl, rfl, trivial⟩ ⟨rfl, rfl, rfl, rfl, rfl, rfl, rfl, rfl, trivial⟩ rfl rfl
     ·have hb14' := of_decide_eq_true hb14
      iterate 7 refine w_ ?_
      obtain ⟨x15, hx16⟩ : ∃ z, ((valsV ((((exploreV s).1).1).length : Int).toNat (arcsOf s.2.2.1 ((exploreV s).1).2) (k : Int)).1)[i]? = some z := ⟨_, List.getElem?_eq_getElem (by omega)⟩
      iterate 4 refine w_ ?_
      obtain ⟨x17, hx18⟩ : ∃ z, codes2[i]? = some z := ⟨_, List.getElem?_eq_getElem (by omega)⟩
      have hczx17 := hZ2 _ (List.mem_of_getElem? hx18)
      apply dV [io 63 _, io 64 _, io 65 _, io 66 (lf (.ept 17 1 i 0)), io 67 (lf (dS x17)), io 68 _, ⟨some 69, lR 18, [(18, some (.arr 5 .u8 ([x15])))]⟩, io 70 (lf (dS (⟨#[x15]⟩ : ByteArray))), io 71 (lf (dS (x17 ++ (⟨#[x15]⟩ : ByteArray)))), io 72 (lf (.ept 17 1 i 0)), ⟨none, lf (.val undef), [(17, some (.arr 9 .str (codes2.set i (x17 ++ (⟨#[x15]⟩ : ByteArray)))))]⟩] [0, 0, 3, 0, 0, 31, 31, 31, 0, 0, 0]
      iterate 3 refine z_ ?_
      refine zz (fun _ h_ => ac (Does.indexI (e := .str) (h_.v rfl) (h_.en 17 rfl) (h_.v rfl) und_49 tsh_9 rfl (by omega) (by first | omega | (simp only [List.length_set]; omega))) rfl) <| zz (fun _ h_ => ac (Does.loadI (e := .str) (h_.v rfl) (h_.n 17 rfl) hx18 rfl tsh_9 rfl rfl) rfl) ?_
      refine z_ ?_
      refine zz (fun _ h_ => ac (dBs 18 (e := .u8) zer_5) rfl) ?_
      refine zz (fun _ h_ => ac (Does.ofBytes (ys := [x15]) (Evl.repO (h_.v rfl) (h_.n 18 rfl)) und_22 und_5 und_9 rfl) rfl) <| zz (fun _ h_ => ac (Does.addS (h_.v rfl) (h_.v rfl) rfl (by simp only [bsize1]; omega)) rfl) <| zz (fun _ h_ => ac (Does.indexI (e := .str) (h_.v rfl) (h_.en 17 rfl) (h_.v rfl) und_49 tsh_9 rfl (by omega) (by first | omega | (simp only [List.length_set]; omega))) rfl) <| zz (fun _ h_ => ac (Does.storeI (e := .str) (z' := x17 ++ (⟨#[x15]⟩ : ByteArray)) (h_.v rfl) (h_.n 17 rfl) hx18 rfl (h_.w rfl) rfl tsh_9 rfl rfl) rfl) ?_
      exact zN
      refine (?_ : AC _ _ _ _ _)
      iterate 3 refine w_ ?_
      refine AL.nil <| lend ⟨i + 1, (codes2.set i (x17 ++ (⟨#[x15]⟩ : ByteArray))), by omega, rfl, hA2.trans (addF_step hx16 hx18), (by rw [List.length_set]; exact hL2), (size_set hZ2 hx18 (by rw [ByteArray.size_append]; exact Nat.le_refl _)), rfl⟩ (by omega) ?_
      exact Wk.of [] rfl ⟨rfl, rfl, rfl, rfl, rfl, rfl, rfl, rfl, rfl, rfl, rfl, rfl, rfl, rfl, rfl, rfl, rfl, rfl, rfl, rfl, rfl, rfl, rfl, rfl, rfl, trivial⟩ ⟨rfl, rfl, rfl, rfl, rfl, rfl, rfl, rfl, (entE (by first | rfl | simp)), trivial⟩ rfl rfl
  ·have hb4' := of_decide_eq_true hb4
   iterate 2 refine w_ ?_
   refine lc (Does.build bld_52 rfl (List.all_eq_true.1 rfl) rfl rfl) ?_
   iterate 3 refine w_ ?_
   refine AC.wk (Wk.nilC 19 (p := 1) (off := 0) 90 (.pr .str .int) rfl rfl (Fresh.of rfl) (nlr rfl)) <| AC.wk (Wk.nilC 20 (p := 1) (off := 1) 9 .str rfl rfl (Fresh.of rfl) (nlr rfl)) <| AC.wk (Wk.nilC 21 (p := 1) (off := 2) 106 (.pr .int (.pr .int (.pr .bool .int))) rfl rfl (Fresh.of rfl) (nlr rfl)) <| AC.ret ?_
   subst hO
   have e19 : (false : Bool) = ((sgV s).2) := by
    (rw [sgV_no2 (by assumption)]; done)
   exact fin_is _ _ [(0, 19), (1, 20), (2, 21)] (Res.two rfl (Rs.cell rfl rfl tsh_52 rfl) (Rs.tmp rfl)) ((congrArg (fun z_ => PV.tup [(true, [.ref 19, .ref 20, .ref 21]), (false, [dB z_])]) e19)) ⟨(entE (by (rw [sgV_no2 (by assumption)]; rfl))), (entE (by (rw [sgV_no2 (by assumption)]; rfl))), (entE (by (rw [sgV_no2 (by assumption)]; rfl))), trivial⟩ rfl rfl

theorem fc_spec_BuildStateGraph (s : (Int × (List (List Int × List Int))) × (List (ByteArray × Int)) × (List (Int × Bool)) × ByteArray) [∀ s, Decidable (StgOk s)]  : FC Tryz.prog 106 [(true, [dI s.1.1, .dat (.sl 198 (.pr (.sl 3 .int) (.sl 3 .int))) s.1.2, .dat (.sl 90 (.pr .str .int)) s.2.1, .dat (.sl 55 (.pr .int .bool)) s.2.2.1, dS s.2.2.2])] [] 0 (Is (PV.tup [(true, [.ref 0, .ref 1, .ref 2]), (false, [dB ((sgV s).2)])]) [(0, some (.arr 90 (.pr .str .int) (((sgV s).1).1))), (1, some (.arr 9 .str (((sgV s).1).2.1))), (2, some (.arr 106 (.pr .int (.pr .int (.pr .bool .int))) (((sgV s).1).2.2)))]) := by
 refine FC.go Tryz.func106 rfl rfl Tryz.ntmps106 fun O_ hO w0_ N0_ X_ h0_ f0_ => ?_
 refine AC.fact (fact_ag (x := .tmp 0) (i := 0) (Ev.tmp rfl) rfl) fun hi1 => ?_
 refine w_ ?_
 refine xbx 0 ?_
 refine lc (xal 1 (.pr (.sl 90 (.pr .str .int)) (.pr (.sl 9 .str) (.sl 106 (.pr .int (.pr .int (.pr .bool .int)))))) zer_52) ?_
 iterate 4 refine w_ ?_
 refine lc (dG 2 (fc_spec_Explore s) enters_124) ?_
 iterate 3 refine w_ ?_
 refine lc (xal 4 (.pr (.sl 9 .str) (.sl 229 (.pr .int (.pr .int .int)))) zer_164) ?_
 iterate 8 refine w_ ?_
 cases hb2 : ((exploreV s).2)
 ·iterate 15 refine w_ ?_
  refine lc (Does.build bld_52 rfl (List.all_eq_true.1 rfl) rfl rfl) ?_
  iterate 3 refine w_ ?_
  refine AC.wk (Wk.nilC 5 (p := 1) (off := 0) 90 (.pr .str .int) rfl rfl (Fresh.of rfl) (nlr rfl)) <| AC.wk (Wk.nilC 6 (p := 1) (off := 1) 9 .str rfl rfl (Fresh.of rfl) (nlr rfl)) <| AC.wk (Wk.nilC 7 (p := 1) (off := 2) 106 (.pr .int (.pr .int (.pr .bool .int))) rfl rfl (Fresh.of rfl) (nlr rfl)) <| AC.ret ?_
  subst hO
  have e3 : (false : Bool) = ((sgV s).2) := by
   (rw [sgV_no1 (by assumption)]; done)
  exact fin_is _ _ [(0, 5), (1, 6), (2, 7)] (Res.two rfl (Rs.cell rfl rfl tsh_52 rfl) (Rs.tmp rfl)) ((congrArg (fun z_ => PV.tup [(true, [.ref 5, .ref 6, .ref 7]), (false, [dB z_])]) e3)) ⟨(entE (by (rw [sgV_no1 (by assumption)]; rfl))), (entE (by (rw [sgV_no1 (by assumption)]; rfl))), (entE (by (rw [sgV_no1 (by assumption)]; rfl))), trivial⟩ rfl rfl
 ·iterate 2 refine w_ ?_
  refine lgy rfl rfl (Does.callOB 8 (fc_spec_l5Clash s ((exploreV s).1) (exploreV_ok (s := s) (by assumption)).2.2.2.2.1 (by have := (exploreV_ok (s := s) (by assumption)).2.2.1; omega) (by have := sigs_len (exploreV_ok (s := s) (by assumption)).1.sigs; omega)) enters_207 ⟨_, _, rfl, (Ev.b (Ev.tmp rfl)), ⟨_, _, rfl, (Ev.ob (Ev.tmp rfl) ⟨_, _, rfl, .inr ⟨_, _, _, _, rfl, rfl, rfl⟩, ⟨_, _, rfl, .inr ⟨_, _, _, _, rfl, rfl, rfl⟩, rfl⟩⟩), rfl⟩⟩ rfl (Fresh.of rfl) (nlr rfl)) ?_
  iterate 4 refine w_ ?_
  cases hb4 : (decide (0 < ((clash ((exploreV s).1).1.length (arcsOf s.2.2.1 ((exploreV s).1).2) s.2.1.length).length : Int)))
  ·have hb4' := of_decide_eq_false hb4
   iterate 6 refine w_ ?_
   cases hb5 : (decide (4000 < ((((exploreV s).1).2).length : Int)))
   ·have hb5' := of_decide_eq_false hb5
    iterate 2 refine w_ ?_
    obtain ⟨hsg, hN1, hN2, hNd, hMv, hMl⟩ := exploreV_ok (s := s) (by assumption)
    have hir := arcs_inr (ls := s.2.2.1) hMv
    have hsl := sigs_len hsg.sigs
    apply dW [⟨some 36, lR 9, [(9, some (.arr 90 (.pr .str .int) ([])))]⟩, io 37 (lP 0 2), io 38 (lf (.dat (.sl 90 (.pr .str .int)) s.2.1)), ⟨some 39, lR 10, [(10, some (.arr 90 (.pr .str .int) (([]) ++ s.2.1))), (9, none)]⟩, io 40 (lP 4 0), io 41 (lR 2), io 42 (lI ((((exploreV s).1).1).length : Int)), ⟨some 43, lR 11, [(11, some (.arr 9 .str (List.replicate ((((exploreV s).1).1).length) (Ty.zero .str))))]⟩, io 44 (ag [.ref 10, .ref 11, .val (.slice none 0 0)]), ⟨some 6, lP 12 0, [(12, some (.box 52 [.val (.slice none 0 0), .val (.slice none 0 0), .val (.slice none 0 0)]))]⟩, ⟨none, lf (.val undef), [(12, some (.box 52 [.ref 10, .ref 11, .val (.slice none 0 0)]))]⟩] [0, 1, 1, 0, 15, 15, 15, 15, 0, 511, 0]
    refine zz (fun _ h_ => ac (dBs 9 (e := (.pr .str .int)) zer_90) rfl) ?_
    iterate 2 refine z_ ?_
    refine zz (fun _ h_ => ac (Does.appendF 10 (h_.v rfl) (h_.en 9 rfl) (Evl.rep (h_.v rfl)) rfl und_26 elb_90 (by first | omega | (simp only [List.length_append, List.length_map, List.length_take, List.length_cons, List.length_nil]; omega) | (simp only [List.length_append, List.length_drop, List.length_take, List.length_cons, List.length_nil]; omega)) rfl (h_.fr 10 rfl) (nlr rfl)) rfl) ?_
    iterate 3 refine z_ ?_
    refine zz (fun _ h_ => ac (Does.make 11 (e := .str) (n := (((exploreV s).1).1).length) (h_.v rfl) (h_.v rfl) und_49 mki_9 rfl (by omega) (by omega) rfl (h_.fr 11 rfl) (nlr rfl)) rfl) <| zz (fun _ h_ => ac (Does.build bld_52 ⟨_, _, rfl, (h_.w rfl), ⟨_, _, rfl, (h_.w rfl), rfl⟩⟩ (List.all_eq_true.1 (by simp only [okLVs, okLV, List.all_cons, List.all_nil]; rw [(h_.en 10 rfl), (h_.en 11 rfl)]; rfl)) rfl rfl) rfl) <| zz (fun _ h_ => ac (Does.alloc 12 (.pr (.sl 90 (.pr .str .int)) (.pr (.sl 9 .str) (.sl 106 (.pr .int (.pr .int (.pr .bool .int)))))) zer_52 rfl rfl (h_.fr 12 rfl) (nlr rfl)) rfl) <| zz (fun _ h_ => ac (Does.storeP (h_.v rfl) (h_.en 12 rfl) (h_.w rfl) (by simp only [okLVs, okLV, List.all_cons, List.all_nil]; rw [(h_.en 10 rfl), (h_.en 11 rfl)]; rfl) tsh_52 rfl) rfl) ?_
    exact zN
    iterate 4 refine w_ ?_
    refine AL.fact (fact_len (x := .tmp 46) (Evl.tmp rfl)) fun hl6 => ?_
    iterate 4 refine w_ ?_
    refine AC.loopW (fun m_ s_ => ∃ (k : Nat) (codes : List ByteArray), k ≤ s.2.1.length ∧ m_ = s.2.1.length - k ∧ (goS (exploreV s).1.1.length (arcsOf s.2.2.1 (exploreV s).1.2) s.2.1.length 0 (List.replicate (exploreV s).1.1.length ByteArray.empty) = goS (exploreV s).1.1.length (arcsOf s.2.2.1 (exploreV s).1.2) (s.2.1.length - k) k codes) ∧ (codes.length = (exploreV s).1.1.length) ∧ (∀ c ∈ codes, c.size ≤ 300 * k) ∧ s_ = ⟨[(1, lP 0 0), (2, lP 1 0), (3, lB false), (4, lP 4 0), (6, lP 12 0), (47, lI (s.2.1.length : Int)), (48, lI (k : Int))], [(0, some (.box 29 [dI s.1.1, .dat (.sl 198 (.pr (.sl 3 .int) (.sl 3 .int))) s.1.2, .dat (.sl 90 (.pr .str .int)) s.2.1, .dat (.sl 55 (.pr .int .bool)) s.2.2.1, dS s.2.2.2])), (1, some (.box 52 [.val (.slice none 0 0), .val (.slice none 0 0), .val (.slice none 0 0)])), (2, some (.arr 9 .str (((exploreV s).1).1))), (3, some (.arr 229 (.pr .int (.pr .int .int)) (((exploreV s).1).2))), (4, some (.box 164 [.ref 2, .ref 3])), (10, some (.arr 90 (.pr .str .int) (([]) ++ s.2.1))), (12, some (.box 52 [.ref 10, .ref 13, .val (.slice none 0 0)])), (13, some (.arr 9 .str codes))]⟩) ⟨0, List.replicate ((((exploreV s).1).1).length) (Ty.zero .str), Nat.zero_le _, rfl, rfl, (by simp), (fun c hc => by rw [List.eq_of_mem_replicate hc]; exact Nat.zero_le _), rfl⟩ ?_ ?_
    · exact Wk.of [(13, 11)] rfl ⟨rfl, rfl, rfl, rfl, rfl, rfl, rfl, trivial⟩ ⟨rfl, rfl, rfl, rfl, rfl, rfl, rfl, (entE (by first | rfl | simp)), trivial⟩ rfl rfl
    rintro m_ s_ ⟨k, codes, hk7, hm8, hA, hL, hZ, rfl⟩
    iterate 4 refine w_ ?_
    cases hb9 : (decide ((k : Int) < (s.2.1.length : Int)))
    ·have hb9' := of_decide_eq_false hb9
     refine w_ ?_
     refine AC.exit ?_
     refine (?_ : AC _ _ _ _ _)
     iterate 8 refine w_ ?_
     refine AC.wk (Wk.nilC 14 (p := 12) (off := 2) 106 (.pr .int (.pr .int (.pr .bool .int))) rfl rfl (Fresh.of rfl) (nlr rfl)) ?_
     refine AC.loopW (fun m_ s_ => ∃ (j : Nat), j ≤ (((exploreV s).1).2).length ∧ m_ = (((exploreV s).1).2).length - j ∧ s_ = ⟨[(1, lP 0 0), (2, lP 1 0), (3, lB false), (6, lP 12 0), (82, lR 3), (83, lI ((((exploreV s).1).2).length : Int)), (84, lI (j : Int))], [(0, some (.box 29 [dI s.1.1, .dat (.sl 198 (.pr (.sl 3 .int) (.sl 3 .int))) s.1.2, .dat (.sl 90 (.pr .str .int)) s.2.1, .dat (.sl 55 (.pr .int .bool)) s.2.2.1, dS s.2.2.2])), (1, some (.box 52 [.val (.slice none 0 0), .val (.slice none 0 0), .val (.slice none 0 0)])), (3, some (.arr 229 (.pr .int (.pr .int .int)) (((exploreV s).1).2))), (10, some (.arr 90 (.pr .str .int) (([]) ++ s.2.1))), (12, some (.box 52 [.ref 10, .ref 13, .ref 15])), (13, some (.arr 9 .str codes)), (15, some (.arr 106 (.pr .int (.pr .int (.pr .bool .int))) ((((exploreV s).1).2.take j).map (arcOf s.2.2.1))))]⟩) ⟨0, Nat.zero_le _, rfl, rfl⟩ ?_ ?_
     · exact Wk.of [(15, 14)] rfl ⟨rfl, rfl, rfl, rfl, rfl, rfl, rfl, trivial⟩ ⟨rfl, rfl, rfl, rfl, rfl, rfl, (entE (by first | rfl | simp)), trivial⟩ rfl rfl
     rintro m_ s_ ⟨j, hk10, hm11, rfl⟩
     iterate 4 refine w_ ?_
     cases hb12 : (decide ((j : Int) < ((((exploreV s).1).2).length : Int)))
     ·have hb12' := of_decide_eq_false hb12
      refine w_ ?_
      refine AC.exit ?_
      refine (?_ : AC _ _ _ _ _)
      iterate 5 refine w_ ?_
      refine AC.ret ?_
      subst hO
      have e13 : (true : Bool) = ((sgV s).2) := by
       (rw [sgV_yes (by assumption) (by assumption) (hA.trans (goS_end (by omega)))]; done)
      exact fin_is _ _ [(0, 10), (1, 13), (2, 15)] (Res.two rfl (Rs.cell rfl rfl tsh_52 rfl) (Rs.tmp rfl)) ((congrArg (fun z_ => PV.tup [(true, [.ref 10, .ref 13, .ref 15]), (false, [dB z_])]) e13)) ⟨(entE (by (rw [sgV_yes (by assumption) (by assumption) (hA.trans (goS_end (by omega)))]; rfl))), (entE (by (rw [sgV_yes (by assumption) (by assumption) (hA.trans (goS_end (by omega)))]; done))), (entE (by (rw [sgV_yes (by assumption) (by assumption) (hA.trans (goS_end (by omega))), take_end (by omega)]; rfl))), trivial⟩ rfl rfl
     ·have hb12' := of_decide_eq_true hb12
      iterate 6 refine w_ ?_
      obtain ⟨mv, hx15⟩ : ∃ z, (((exploreV s).1).2)[j]? = some z := ⟨_, List.getElem?_eq_getElem (by omega)⟩
      have hrm := (hMv _ (List.mem_of_getElem? hx15)).2.1
      refine w_ ?_
      refine lc (xal 16 (.pr .int (.pr .int .int)) zer_229) ?_
      iterate 7 refine w_ ?_
      refine AL.fact (fact_int (x := .tmp 91) (Evl.tmp rfl)) fun hi16 => ?_
      obtain ⟨x17, hx18⟩ : ∃ z, s.2.2.1[(mv.2.1).toNat]? = some z := ⟨_, List.getElem?_eq_getElem (by omega)⟩
      have hla := lab_get hx18
      iterate 2 refine w_ ?_
      refine lc (xal 17 (.pr .int .bool) zer_55) ?_
      iterate 7 refine w_ ?_
      refine AL.fact (fact_int (x := .tmp 97) (Evl.tmp rfl)) fun hi19 => ?_
      iterate 2 refine w_ ?_
      refine AL.fact (fact_int (x := .tmp 99) (Evl.tmp rfl)) fun hi20 => ?_
      iterate 4 refine w_ ?_
      refine AL.fact (fact_int (x := .tmp 103) (Evl.tmp rfl)) fun hi21 => lc (Does.build bld_106 ⟨_, _, rfl, (Ev.tmp rfl), ⟨_, _, rfl, (Ev.tmp rfl), ⟨_, _, rfl, (Ev.tmp rfl), ⟨_, _, rfl, (Ev.tmp rfl), rfl⟩⟩⟩⟩ (List.all_eq_true.1 rfl) rfl rfl) ?_
      refine lc (dBs 18 (e := (.pr .int (.pr .int (.pr .bool .int)))) zer_106 (hab := by exact ⟨_, _, _, _, rfl, ⟨[dI mv.1], [dI x17.1, dB x17.2, dI mv.2.2], _, _, _, _, rfl, rfl, ⟨rfl, rfl⟩, ⟨[dI x17.1], [dB x17.2, dI mv.2.2], _, _, _, _, rfl, rfl, ⟨rfl, rfl⟩, ⟨[dB x17.2], [dI mv.2.2], _, _, _, _, rfl, rfl, ⟨rfl, rfl⟩, ⟨rfl, rfl⟩, rfl⟩, rfl⟩, rfl⟩, ⟨rfl, rfl⟩, rfl⟩)) ?_
      refine lc (dA 19 elb_106) ?_
      iterate 2 refine w_ ?_
      refine AL.nil ?_
      refine (?_ : AC _ _ _ _ _)
      iterate 3 refine w_ ?_
      refine AL.nil <| lend ⟨j + 1, by omega, rfl, rfl⟩ (by omega) ?_
      exact Wk.of [(15, 19)] rfl ⟨rfl, rfl, rfl, rfl, rfl, rfl, rfl, trivial⟩ ⟨rfl, rfl, rfl, rfl, rfl, rfl, (entE (by rw [take_snoc hx15]; simp [arcOf, hla])), trivial⟩ rfl rfl
    ·have hb9' := of_decide_eq_true hb9
     iterate 12 refine w_ ?_
     refine lc (Does.callB (fc_spec_l5Values s ((exploreV s).1) (k : Int) hMv (by omega)) enters_208 ⟨_, _, rfl, (Ev.b (Ev.tmp rfl)), ⟨_, _, rfl, (Ev.ob (Ev.tmp rfl) ⟨_, _, rfl, .inr ⟨_, _, _, _, rfl, rfl, rfl⟩, ⟨_, _, rfl, .inr ⟨_, _, _, _, rfl, rfl, rfl⟩, rfl⟩⟩), ⟨_, _, rfl, (Ev.b (Ev.tmp rfl)), rfl⟩⟩⟩ rfl rfl rfl) ?_
     iterate 6 refine w_ ?_
     refine AC.seq ?_
     obtain ⟨us, hu1, hu2, hu3, hu4⟩ := l5V_us (sig := (k : Int)) hir (clash_none (m := s.2.1.length) (by assumption) (by omega))
     iterate 7 refine w_ ?_
     refine AC.loopW (fun m_ s_ => ∃ (i : Nat) (codes2 : List ByteArray), i ≤ codes.length ∧ m_ = codes.length - i ∧ (addF 0 codes (us.map q0) = addF i codes2 ((us.map q0).drop i)) ∧ (codes2.length = (exploreV s).1.1.length) ∧ (∀ c ∈ codes2, c.size ≤ 300 * k + i) ∧ s_ = ⟨[(1, lP 0 0), (2, lP 1 0), (3, lB false), (4, lP 4 0), (6, lP 12 0), (7, lI (k : Int)), (8, lf (dS ((l5V ((exploreV s).1).1.length (arcsOf s.2.2.1 ((exploreV s).1).2) (k : Int)).1))), (47, lI (s.2.1.length : Int)), (48, lI (k : Int)), (49, lB true), (50, lI (k : Int)), (51, PV.tup [(false, [dS ((l5V ((exploreV s).1).1.length (arcsOf s.2.2.1 ((exploreV s).1).2) (k : Int)).1)]), (false, [dB ((l5V ((exploreV s).1).1.length (arcsOf s.2.2.1 ((exploreV s).1).2) (k : Int)).2)])]), (52, ag [dI s.1.1, .dat (.sl 198 (.pr (.sl 3 .int) (.sl 3 .int))) s.1.2, .dat (.sl 90 (.pr .str .int)) s.2.1, .dat (.sl 55 (.pr .int .bool)) s.2.2.1, dS s.2.2.2]), (53, ag [.ref 2, .ref 3]), (54, lI (k : Int)), (55, PV.tup [(false, [dS ((l5V ((exploreV s).1).1.length (arcsOf s.2.2.1 ((exploreV s).1).2) (k : Int)).1)]), (false, [dB ((l5V ((exploreV s).1).1.length (arcsOf s.2.2.1 ((exploreV s).1).2) (k : Int)).2)])]), (56, lf (dS ((l5V ((exploreV s).1).1.length (arcsOf s.2.2.1 ((exploreV s).1).2) (k : Int)).1))), (57, lB ((l5V ((exploreV s).1).1.length (arcsOf s.2.2.1 ((exploreV s).1).2) (k : Int)).2)), (58, lP 12 1), (60, lI (codes.length : Int)), (61, lI (i : Int))], [(0, some (.box 29 [dI s.1.1, .dat (.sl 198 (.pr (.sl 3 .int) (.sl 3 .int))) s.1.2, .dat (.sl 90 (.pr .str .int)) s.2.1, .dat (.sl 55 (.pr .int .bool)) s.2.2.1, dS s.2.2.2])), (1, some (.box 52 [.val (.slice none 0 0), .val (.slice none 0 0), .val (.slice none 0 0)])), (2, some (.arr 9 .str (((exploreV s).1).1))), (3, some (.arr 229 (.pr .int (.pr .int .int)) (((exploreV s).1).2))), (4, some (.box 164 [.ref 2, .ref 3])), (10, some (.arr 90 (.pr .str .int) (([]) ++ s.2.1))), (12, some (.box 52 [.ref 10, .ref 20, .val (.slice none 0 0)])), (20, some (.arr 9 .str codes2))]⟩) ⟨0, codes, Nat.zero_le _, rfl, rfl, hL, hZ, rfl⟩ ?_ ?_
     · exact Wk.of [(20, 13)] rfl ⟨rfl, rfl, rfl, rfl, rfl, rfl, rfl, rfl, rfl, rfl, rfl, rfl, rfl, rfl, rfl, rfl, rfl, rfl, rfl, rfl, rfl, trivial⟩ ⟨rfl, rfl, rfl, rfl, rfl, rfl, rfl, rfl, trivial⟩ rfl rfl
     rintro m_ s_ ⟨i, codes2, hk22, hm23, hA2, hL2, hZ2, rfl⟩
     iterate 4 refine w_ ?_
     cases hb24 : (decide ((i : Int) < (codes.length : Int)))
     ·have hb24' := of_decide_eq_false hb24
      refine w_ ?_
      refine AC.exit ?_
      refine (?_ : AC _ _ _ _ _)
      iterate 3 refine w_ ?_
      refine AL.nil <| lend ⟨k + 1, codes2, by omega, rfl, (by rw [hA, goS_ok (by omega) (by rw [hu4])]; exact congrArg _ (by rw [hu4]; exact hA2.trans (addQ_end (by omega)))), hL2, (fun c hc => Nat.le_trans (hZ2 c hc) (by omega)), rfl⟩ (by omega) ?_
      exact Wk.of [(13, 20)] rfl ⟨rfl, rfl, rfl, rfl, rfl, rfl, rfl, trivial⟩ ⟨rfl, rfl, rfl, rfl, rfl, rfl, rfl, rfl, trivial⟩ rfl rfl
     ·have hb24' := of_decide_eq_true hb24
      iterate 13 refine w_ ?_
      refine lc (show Does _ _ _ _ (St.put _ 68 (lf (dS (((l5V ((exploreV s).1).1.length (arcsOf s.2.2.1 ((exploreV s).1).2) (k : Int)).1).extract ((i : Int)).toNat ((i : Int) + 1).toNat)))) from Does.sliceS (l := (some (i : Int))) (h := (some ((i : Int) + 1))) (Evl.tmp rfl) (by exact (Evl.tmp rfl)) (by exact (Evl.tmp rfl)) und_9 rfl (by first | omega | (simp only [Option.getD_none, Option.getD_some]; omega)) (by first | omega | (simp only [Option.getD_none, Option.getD_some]; omega)) (by first | omega | (simp only [Option.getD_none, Option.getD_some]; omega))) ?_
      iterate 7 refine w_ ?_
      cases hb25 : (decide ((((l5V ((exploreV s).1).1.length (arcsOf s.2.2.1 ((exploreV s).1).2) (k : Int)).1).extract ((i : Int)).toNat ((i : Int) + 1).toNat) = (⟨#[63]⟩ : ByteArray)))
      ·have hb25' := of_decide_eq_false hb25
       iterate 7 refine w_ ?_
       obtain ⟨x26, hx27⟩ : ∃ z, codes2[i]? = some z := ⟨_, List.getElem?_eq_getElem (by omega)⟩
       have hczx26 := hZ2 _ (List.mem_of_getElem? hx27)
       iterate 2 refine w_ ?_
       refine lc (Does.addS (Evl.tmp rfl) (Evl.tmp rfl) rfl (by first | (simp only [bsize1]; omega) | (refine Nat.le_trans (Nat.add_le_add_left (ext_le1 _ i) _) ?_; omega))) ?_
       refine w_ ?_
       refine lc (Does.storeI (e := .str) (z' := x26 ++ (((l5V ((exploreV s).1).1.length (arcsOf s.2.2.1 ((exploreV s).1).2) (k : Int)).1).extract ((i : Int)).toNat ((i : Int) + 1).toNat)) (Evl.tmp rfl) rfl hx27 rfl (Ev.tmp rfl) rfl tsh_9 rfl rfl) <| AL.nil ?_
       refine (?_ : AC _ _ _ _ _)
       iterate 3 refine w_ ?_
       refine AL.nil <| lend ⟨i + 1, (codes2.set i (x26 ++ (((l5V ((exploreV s).1).1.length (arcsOf s.2.2.1 ((exploreV s).1).2) (k : Int)).1).extract ((i : Int)).toNat ((i : Int) + 1).toNat))), by omega, rfl, by first | exact hA2.trans (addQ_q hu1 (by omega) (by assumption) hx27) | exact hA2.trans (addQ_n hu1 (by omega) (by assumption) hx27), (by rw [List.length_set]; exact hL2), (size_set hZ2 hx27 (by rw [ByteArray.size_append]; first | exact Nat.le_refl _ | exact Nat.add_le_add_left (ext_le1 _ _) _)), rfl⟩ (by omega) ?_
       exact Wk.of [] rfl ⟨rfl, rfl, rfl, rfl, rfl, rfl, rfl, rfl, rfl, rfl, rfl, rfl, rfl, rfl, rfl, rfl, rfl, rfl, rfl, rfl, rfl, trivial⟩ ⟨rfl, rfl, rfl, rfl, rfl, rfl, rfl, (entE (by first | rfl | simp)), trivial⟩ rfl rfl
      ·have hb25' := of_decide_eq_true hb25
       iterate 9 refine w_ ?_
       obtain ⟨x28, hx29⟩ : ∃ z, codes2[i]? = some z := ⟨_, List.getElem?_eq_getElem (by omega)⟩
       have hczx28 := hZ2 _ (List.mem_of_getElem? hx29)
       iterate 2 refine w_ ?_
       refine lc (Does.addS (Evl.tmp rfl) (Evl.tmp rfl) rfl (by first | (simp only [bsize1]; omega) | (refine Nat.le_trans (Nat.add_le_add_left (ext_le1 _ i) _) ?_; omega))) ?_
       refine w_ ?_
       refine lc (Does.storeI (e := .str) (z' := x28 ++ (⟨#[48]⟩ : ByteArray)) (Evl.tmp rfl) rfl hx29 rfl (Ev.tmp rfl) rfl tsh_9 rfl rfl) <| AL.nil ?_
       refine (?_ : AC _ _ _ _ _)
       iterate 3 refine w_ ?_
       refine AL.nil <| lend ⟨i + 1, (codes2.set i (x28 ++ (⟨#[48]⟩ : ByteArray))), by omega, rfl, by first | exact hA2.trans (addQ_q hu1 (by omega) (by assumption) hx29) | exact hA2.trans (addQ_n hu1 (by omega) (by assumption) hx29), (by rw [List.length_set]; exact hL2), (size_set hZ2 hx29 (by rw [ByteArray.size_append]; first | exact Nat.le_refl _ | exact Nat.add_le_add_left (ext_le1 _ _) _)), rfl⟩ (by omega) ?_
       exact Wk.of [] rfl ⟨rfl, rfl, rfl, rfl, rfl, rfl, rfl, rfl, rfl, rfl, rfl, rfl, rfl, rfl, rfl, rfl, rfl, rfl, rfl, rfl, rfl, trivial⟩ ⟨rfl, rfl, rfl, rfl, rfl, rfl, rfl, (entE (by first | rfl | simp)), trivial⟩ rfl rfl
   ·have hb5' := of_decide_eq_true hb5
    iterate 2 refine w_ ?_
    refine lc (Does.build bld_52 rfl (List.all_eq_true.1 rfl) rfl rfl) ?_
    iterate 3 refine w_ ?_
    refine AC.wk (Wk.nilC 21 (p := 1) (off := 0) 90 (.pr .str .int) rfl rfl (Fresh.of rfl) (nlr rfl)) <| AC.wk (Wk.nilC 22 (p := 1) (off := 1) 9 .str rfl rfl (Fresh.of rfl) (nlr rfl)) <| AC.wk (Wk.nilC 23 (p := 1) (off := 2) 106 (.pr .int (.pr .int (.pr .bool .int))) rfl rfl (Fresh.of rfl) (nlr rfl)) <| AC.ret ?_
    subst hO
    have e30 : (false : Bool) = ((sgV s).2) := by
     (rw [sgV_no2 (by assumption)]; done)
    exact fin_is _ _ [(0, 21), (1, 22), (2, 23)] (Res.two rfl (Rs.cell rfl rfl tsh_52 rfl) (Rs.tmp rfl)) ((congrArg (fun z_ => PV.tup [(true, [.ref 21, .ref 22, .ref 23]), (false, [dB z_])]) e30)) ⟨(entE (by (rw [sgV_no2 (by assumption)]; rfl))), (entE (by (rw [sgV_no2 (by assumption)]; rfl))), (entE (by (rw [sgV_no2 (by assumption)]; rfl))), trivial⟩ rfl rfl
  ·have hb4' := of_decide_eq_true hb4
   iterate 8 refine w_ ?_
   refine lc (Does.build bld_52 rfl (List.all_eq_true.1 rfl) rfl rfl) ?_
   iterate 3 refine w_ ?_
   refine AC.wk (Wk.nilC 24 (p := 1) (off := 0) 90 (.pr .str .int) rfl rfl (Fresh.of rfl) (nlr rfl)) <| AC.wk (Wk.nilC 25 (p := 1) (off := 1) 9 .str rfl rfl (Fresh.of rfl) (nlr rfl)) <| AC.wk (Wk.nilC 26 (p := 1) (off := 2) 106 (.pr .int (.pr .int (.pr .bool .int))) rfl rfl (Fresh.of rfl) (nlr rfl)) <| AC.ret ?_
   subst hO
   have e31 : (false : Bool) = ((sgV s).2) := by
    (rw [sgV_no3 (clash_some (arcs_inr (exploreV_ok (by assumption)).2.2.2.2.1) (by assumption))]; done)
   exact fin_is _ _ [(0, 24), (1, 25), (2, 26)] (Res.two rfl (Rs.cell rfl rfl tsh_52 rfl) (Rs.tmp rfl)) ((congrArg (fun z_ => PV.tup [(true, [.ref 24, .ref 25, .ref 26]), (false, [dB z_])]) e31)) ⟨(entE (by (rw [sgV_no3 (clash_some (arcs_inr (exploreV_ok (by assumption)).2.2.2.2.1) (by assumption))]; rfl))), (entE (by (rw [sgV_no3 (clash_some (arcs_inr (exploreV_ok (by assumption)).2.2.2.2.1) (by assumption))]; rfl))), (entE (by (rw [sgV_no3 (clash_some (arcs_inr (exploreV_ok (by assumption)).2.2.2.2.1) (by assumption))]; rfl))), trivial⟩ rfl rfl

end Go.Proofs.YtjaadeknhofhpaaGreat
