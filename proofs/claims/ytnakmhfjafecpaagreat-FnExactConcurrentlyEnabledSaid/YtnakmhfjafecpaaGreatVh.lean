/- Walks over abstract states: the values of a signal as the reference finds them, and the plain law that they are the same. -/
import Derived.Test.YtnakmhfjafecpaaGreatWm
import Derived.Test.YtnakmhfjafecpaaGreatAk
import Derived.Laws.Bits64b
import Derived.Test.YtnakmhfjafecpaaGreatFb
import Derived.DeepKeys3
set_option linter.unusedSimpArgs false
set_option linter.unusedVariables false
set_option linter.unusedSectionVars false
namespace Go.Proofs.YtnakmhfjafecpaaGreat
open Go.RowKit
set_option maxRecDepth 100000
set_option maxHeartbeats 4000000

/-- One move; one pass; passes. -/
def stepS (sig : Int) (a : DAr) (us : List UInt8) : Option (List UInt8) :=
  if a.2.1 = sig then
    (if (bv us a.1.toNat ≠ 63 ∧ bv us a.1.toNat ≠ (if (!a.2.2.1) = true then 49 else 48)) ∨ (bv us a.2.2.2.toNat ≠ 63 ∧ bv us a.2.2.2.toNat ≠ (if a.2.2.1 = true then 49 else 48)) then none
    else some ((us.set a.1.toNat (if (!a.2.2.1) = true then 49 else 48)).set a.2.2.2.toNat (if a.2.2.1 = true then 49 else 48)))
  else if bv us a.1.toNat = 63 then some ((us.set a.1.toNat (bv us a.2.2.2.toNat)).set a.2.2.2.toNat (bv us a.2.2.2.toNat))
  else if bv us a.2.2.2.toNat ≠ 63 ∧ bv us a.2.2.2.toNat ≠ bv us a.1.toNat then none
  else some ((us.set a.1.toNat (bv us a.1.toNat)).set a.2.2.2.toNat (bv us a.1.toNat))
def passS (sig : Int) : List DAr → List UInt8 → Option (List UInt8)
  | [], us => some us
  | a :: rs, us => match stepS sig a us with
    | none => none
    | some us' => passS sig rs us'
def iterS (sig : Int) (arcs : List DAr) : Nat → List UInt8 → Option (List UInt8)
  | 0, us => some us
  | f + 1, us => match passS sig arcs us with
    | none => none
    | some us' => iterS sig arcs f us'
def contS (sig : Int) (arcs : List DAr) (f : Nat) : Option (List UInt8) → Option (List UInt8)
  | none => none
  | some us' => iterS sig arcs f us'
def l5V (n : Nat) (arcs : List DAr) (sig : Int) : ByteArray × Bool := match iterS sig arcs (n + 1) (List.replicate n 63) with
  | none => (⟨#[]⟩, false)
  | some us => (⟨us.toArray⟩, true)
section
variable {sig : Int} {a : DAr} {us us' vs vs' : List UInt8} {arcs rs : List DAr} {f k m : Nat} {cf ct x : UInt8} {ch ch' : Bool} {i j : Nat}
/-! The two ways of writing 'not known'. -/
def qm (c : UInt8) : UInt8 := if c = 0 then 63 else c
def Kn (vs : List UInt8) : Prop := ∀ c ∈ vs, c = 0 ∨ c = 48 ∨ c = 49
theorem Kn.set (h : Kn vs) {c : UInt8} (hc : c = 0 ∨ c = 48 ∨ c = 49) (i : Nat) : Kn (vs.set i c) := fun d hd => by
  rcases List.mem_or_eq_of_mem_set hd with h1 | h1
  · exact h d h1
  · rw [h1]; exact hc
theorem Kn.at (h : Kn vs) (hi : i < vs.length) : ∃ c, vs[i]? = some c ∧ (c = 0 ∨ c = 48 ∨ c = 49) := ⟨_, List.getElem?_eq_getElem hi, h _ (List.getElem_mem hi)⟩
/-! An edge of the signal that stays at a state: no values, on both sides. -/
def q0 (c : UInt8) : UInt8 := if c = 63 then 48 else c
end

end Go.Proofs.YtnakmhfjafecpaaGreat

/- Walks over abstract states: the values of a signal, the reference. -/
namespace Go.Proofs.YtnakmhfjafecpaaGreat
open Go.RowKit
set_option maxRecDepth 100000
set_option maxHeartbeats 4000000

section
variable {sig : Int} {us us' : List UInt8} {arcs : List DAr} {f k n : Nat} {cf ct b1 b2 : UInt8} {mv : DMv} {lb : DLabel} {ls : List DLabel} {ms : List DMv}
def ar4 (mv : DMv) (lb : DLabel) : DAr := (mv.1, lb.1, lb.2, mv.2.2)
/-- The places below k filled with '?'. -/
def fillQ (n k : Nat) : List UInt8 := List.replicate k 63 ++ List.replicate (n - k) 0
def clash (n : Nat) (arcs : List DAr) : Nat → List Int
  | 0 => []
  | k + 1 => clash n arcs k ++ (if (l5V n arcs (k : Int)).2 = true then [] else [(k : Int)])
end
def MvOk (n m : Nat) (v : DMv) : Prop := (0 ≤ v.1 ∧ v.1 < (n : Int)) ∧ (0 ≤ v.2.1 ∧ v.2.1 < (m : Int)) ∧ 0 ≤ v.2.2 ∧ v.2.2 < (n : Int)

end Go.Proofs.YtnakmhfjafecpaaGreat

/- Walks over abstract states: the state graph, both sides. -/
namespace Go.Proofs.YtnakmhfjafecpaaGreat
open Go.RowKit
set_option maxRecDepth 100000
set_option maxHeartbeats 4000000

/-! What the search finds is in order. -/
structure Rok (m : Nat) (st : RS) : Prop where
  one : 1 ≤ st.1.length
  most : st.1.length ≤ 300
  nd : st.1.Nodup
  mv : ∀ v ∈ st.2.1, MvOk st.1.length m v
section
variable {n : DNet} {k f : Nat} {mk : ByteArray} {t : Int} {ts : List Int} {st : RS} {s : DSTG} {l : List ByteArray} {x : ByteArray}
theorem findB_lt (h : 0 ≤ findB l x) : findB l x < l.length := by
  unfold findB idxF at h ⊢
  cases hf : l.findIdx? (fun y => decide (y = x)) with
  | none => rw [hf] at h; simp at h
  | some i =>
    obtain ⟨h1, _⟩ := List.findIdx?_eq_some_iff_getElem.1 hf
    simp; omega
theorem findB_mem (h : ¬ 0 ≤ findB l x) : x ∉ l := fun hm => by
  unfold findB idxF at h
  cases hf : l.findIdx? (fun y => decide (y = x)) with
  | none =>
    have := List.findIdx?_eq_none_iff.1 hf x hm
    simp at this
  | some i => rw [hf] at h; simp at h
theorem MvOk.grow {a b m : Nat} {v : DMv} (h : MvOk a m v) (hab : a ≤ b) : MvOk b m v := by
  obtain ⟨⟨h1, h2⟩, h3, h4, h5⟩ := h
  exact ⟨⟨h1, by omega⟩, h3, h4, by omega⟩
theorem goT_ok (hk : k < st.1.length) (hts : ∀ t ∈ ts, 0 ≤ t ∧ t < n.2.length) (h : Rok n.2.length st) : Rok n.2.length (goT n k mk ts st).1 ∧ (goT n k mk ts st).1.2.1.length ≤ st.2.1.length + ts.length ∧ st.1.length ≤ (goT n k mk ts st).1.1.length := by
  induction ts generalizing st with
  | nil => rw [goT]; exact ⟨h, by simp, Nat.le_refl _⟩
  | cons t ts ih =>
    have ht := hts t (List.mem_cons_self ..)
    have hts' : ∀ t ∈ ts, 0 ≤ t ∧ t < n.2.length := fun t h => hts t (List.mem_cons_of_mem _ h)
    rw [goT]
    split
    · exact ⟨h, by simp, Nat.le_refl _⟩
    · split
      · rename_i h0
        have hlt := findB_lt h0
        obtain ⟨h1, h2, h3⟩ := ih (st := (st.1, st.2.1 ++ [((k : Int), t, findB st.1 (fireV n mk t).1)], st.2.2)) hk hts' ⟨h.one, h.most, h.nd, fun v hv => by
          rcases List.mem_append.1 hv with hv | hv
          · exact h.mv v hv
          · rw [List.mem_singleton.1 hv]; exact ⟨⟨Int.natCast_nonneg _, by simpa using hk⟩, ht, h0, hlt⟩⟩
        exact ⟨h1, by simp at h2 ⊢; omega, h3⟩
      · rename_i h0
        split
        · exact ⟨h, by simp, Nat.le_refl _⟩
        · rename_i h4
          have hm := h.most
          obtain ⟨h1, h2, h3⟩ := ih (st := (st.1 ++ [(fireV n mk t).1], st.2.1 ++ [((k : Int), t, (st.1.length : Int))], st.2.2 ++ [((k : Int), t, (st.1.length : Int))])) (by simp; omega) hts' ⟨by simp, by simp; omega,
            List.nodup_append.2 ⟨h.nd, by simp, fun a ha b hb e => findB_mem h0 (by rw [List.mem_singleton.1 hb] at e; exact e ▸ ha)⟩, fun v hv => by
              rcases List.mem_append.1 hv with hv | hv
              · exact (h.mv v hv).grow (by simp)
              · rw [List.mem_singleton.1 hv]; exact ⟨⟨Int.natCast_nonneg _, by simp; omega⟩, ht, Int.natCast_nonneg _, by simp; omega⟩⟩
          exact ⟨h1, by simp at h2 ⊢; omega, by simp at h3; omega⟩
theorem goK_ok (hn : n.2.length ≤ 24) (h : Rok n.2.length st) (hl : st.2.1.length ≤ 24 * k) : Rok n.2.length (goK n f k st).1 ∧ (goK n f k st).1.2.1.length ≤ 24 * (k + f) := by
  induction f generalizing k st with
  | zero => rw [goK]; exact ⟨h, by omega⟩
  | succ f ih =>
    rw [goK]
    cases hx : st.1[k]? with
    | none => exact ⟨h, by show st.2.1.length ≤ _; omega⟩
    | some mk =>
      obtain ⟨h1, h2, h3⟩ := goT_ok (mk := mk) (ts := enbs n mk) (List.getElem?_eq_some_iff.1 hx).1 (fun t ht => by
        obtain ⟨i, hi⟩ := List.mem_iff_getElem?.1 ht
        exact enbs_mem hi) h
      have h4 := enbs_len n mk
      show Rok n.2.length (if _ then _ else _ : RS × REnd).1 ∧ (if _ then _ else _ : RS × REnd).1.2.1.length ≤ _
      split
      · obtain ⟨h5, h6⟩ := ih (k := k + 1) h1 (by omega)
        exact ⟨h5, by omega⟩
      · exact ⟨h1, by omega⟩
theorem reach_ok (hs : StgOk s) : Rok s.2.2.1.length (reach s).1 ∧ (reach s).1.2.1.length ≤ 7224 := by
  have h := goK_ok (n := s.1) (k := 0) (f := 301) (st := ([s.2.2.2], [], [((0 : Int), (0 : Int), (0 : Int))])) hs.net.2.1 ⟨by simp, by simp, by simp, by simp⟩ (by simp)
  rw [← hs.len] at h
  exact h
end
section
variable [∀ s, Decidable (StgOk s)] {s : DSTG}
theorem exploreV_no1 (h : ¬ StgOk s) : exploreV s = (zeroRG, false) := if_neg fun h2 => h h2.1
theorem exploreV_no2 (h : (exV s).2.2.2 = false) : exploreV s = (zeroRG, false) := if_neg fun h2 => by
  have : (reach s).2.2.2 = false := h
  rw [this] at h2
  cases h2.2
theorem exploreV_yes (hs : StgOk s) (h : (exV s).2.2.2 = true) : exploreV s = ((exV s).1, true) := if_pos ⟨hs, h⟩
theorem exploreV_ok (h : (exploreV s).2 = true) : StgOk s ∧ 1 ≤ (exploreV s).1.1.length ∧ (exploreV s).1.1.length ≤ 300 ∧ (exploreV s).1.1.Nodup ∧ (∀ v ∈ (exploreV s).1.2, MvOk (exploreV s).1.1.length s.2.2.1.length v) ∧ (exploreV s).1.2.length ≤ 7224 := by
  unfold exploreV at h ⊢
  split
  · rename_i h1
    obtain ⟨h2, h3⟩ := reach_ok h1.1
    exact ⟨h1.1, h2.one, h2.most, h2.nd, h2.mv, h3⟩
  · rename_i h1
    rw [if_neg h1] at h
    cases h
end
section
variable {s : DSTG}
theorem l4V_yes (h : ¬ 0 ≤ (l4V s).2.2.2.1) (h2 : (l4V s).2.2.2.2 = false) : (exV s).2.2.2 = true := by
  have h : ¬ 0 ≤ (reach s).2.2.1 := h
  have h2 : (!(reach s).2.2.2 && decide ((reach s).2.2.1 < 0)) = false := h2
  show (reach s).2.2.2 = true
  rw [decide_eq_true (by omega)] at h2
  simpa using h2
theorem l4V_no2 (h : ¬ 0 ≤ (l4V s).2.2.2.1) (h2 : (l4V s).2.2.2.2 = true) : (exV s).2.2.2 = false := by
  have h2 : (!(reach s).2.2.2 && decide ((reach s).2.2.1 < 0)) = true := h2
  rw [Bool.and_eq_true] at h2
  show (reach s).2.2.2 = false
  simpa using h2.1
end
/-- A transition that fails is told. -/
theorem goT_end_t {n : DNet} {k : Nat} {mk : ByteArray} {ts : List Int} {st : RS} (h : (goT n k mk ts st).2.2.2 = true) : (goT n k mk ts st).2.2.1 = -1 := by
  induction ts generalizing st with
  | nil => rw [goT]
  | cons t ts ih =>
    rw [goT] at h ⊢
    split
    · rename_i h1; rw [if_pos h1] at h; cases h
    · rename_i h1
      rw [if_neg h1] at h
      split
      · rename_i h2; rw [if_pos h2] at h; exact ih h
      · rename_i h2
        rw [if_neg h2] at h
        split
        · rfl
        · rename_i h3; rw [if_neg h3] at h; exact ih h
theorem goK_end_t {n : DNet} {f k : Nat} {st : RS} (h : (goK n f k st).2.2.2 = true) : (goK n f k st).2.2.1 = -1 := by
  induction f generalizing k st with
  | zero => rw [goK]
  | succ f ih =>
    rw [goK] at h ⊢
    cases hx : st.1[k]? with
    | none => rfl
    | some mk =>
      rw [hx] at h
      simp only at h ⊢
      split
      · rename_i h1; rw [if_pos h1] at h; exact ih h
      · rename_i h1; rw [if_neg h1] at h; exact goT_end_t h
theorem l4V_no1 {s : DSTG} (h : 0 ≤ (l4V s).2.2.2.1) : (exV s).2.2.2 = false := by
  have h : 0 ≤ (reach s).2.2.1 := h
  show (reach s).2.2.2 = false
  cases he : (reach s).2.2.2 with
  | false => rfl
  | true =>
    have := goK_end_t (n := s.1) (f := 301) (k := 0) (st := ([s.2.2.2], [], [((0 : Int), (0 : Int), (0 : Int))])) he
    have h2 : (reach s).2.2.1 = -1 := this
    omega

theorem fc_impl_Explore (s : (Int × (List (List Int × List Int))) × (List (ByteArray × Int)) × (List (Int × Bool)) × ByteArray) [∀ s, Decidable (StgOk s)]  : FC Tryz.prog 113 [(true, [dI s.1.1, .dat (.sl 159 (.pr (.sl 3 .int) (.sl 3 .int))) s.1.2, .dat (.sl 145 (.pr .str .int)) s.2.1, .dat (.sl 61 (.pr .int .bool)) s.2.2.1, dS s.2.2.2])] [] 0 (Is (PV.tup [(true, [.ref 0, .ref 1]), (false, [dB ((exploreV s).2)])]) [(0, some (.arr 9 .str (((exploreV s).1).1))), (1, some (.arr 226 (.pr .int (.pr .int .int)) (((exploreV s).1).2)))]) := by
 refine FC.go Tryz.func113 rfl rfl Tryz.ntmps113 fun O_ hO w0_ N0_ X_ h0_ f0_ => ?_
 refine AC.fact (fact_ag (x := .tmp 0) (i := 0) (Ev.tmp rfl) rfl) fun hi1 => ?_
 refine w_ ?_
 refine lc (Does.box 0 (Ev.tmp rfl) rfl rfl (Fresh.of rfl) (nlr rfl)) <| lc (Does.alloc 1 (.pr (.sl 9 .str) (.sl 226 (.pr .int (.pr .int .int)))) zer_98 rfl rfl (Fresh.of rfl) (nlr rfl)) ?_
 iterate 5 refine w_ ?_
 refine lc (Does.call (fc_impl_IsValidSTG s) enters_190 ⟨_, _, rfl, (Ev.tmp rfl), rfl⟩ rfl rfl) ?_
 iterate 2 refine w_ ?_
 cases hb2 : (decide (StgOk s))
 ·have hb2' := of_decide_eq_false hb2
  iterate 2 refine w_ ?_
  refine lc (Does.build bld_98 rfl (List.all_eq_true.1 rfl) rfl rfl) <| lc (Does.storeP (Evl.tmp rfl) rfl (Ev.tmp rfl) rfl tsh_98 rfl) ?_
  iterate 2 refine w_ ?_
  refine AC.wk (Wk.nilC 2 (p := 1) (off := 0) 9 .str rfl rfl (Fresh.of rfl) (nlr rfl)) <| AC.wk (Wk.nilC 3 (p := 1) (off := 1) 226 (.pr .int (.pr .int .int)) rfl rfl (Fresh.of rfl) (nlr rfl)) <| AC.ret ?_
  subst hO
  have e3 : (false : Bool) = ((exploreV s).2) := by
   (rw [exploreV_no1 (by assumption)]; done)
  exact fin_is _ _ [(0, 2), (1, 3)] (Res.two rfl (Rs.cell rfl rfl tsh_98 rfl) (Rs.tmp rfl)) ((congrArg (fun z_ => PV.tup [(true, [.ref 2, .ref 3]), (false, [dB z_])]) e3)) ⟨(entE (by (rw [exploreV_no1 (by assumption)]; rfl))), (entE (by (rw [exploreV_no1 (by assumption)]; rfl))), trivial⟩ rfl rfl
 ·have hb2' := of_decide_eq_true hb2
  iterate 4 refine w_ ?_
  refine lc (Does.callG 4 (fc_impl_explored s (by assumption)) enters_191 ⟨_, _, rfl, (Ev.tmp rfl), rfl⟩ rfl rfl ⟨Fresh.of rfl, Fresh.of rfl, trivial⟩ (nlr rfl)) ?_
  iterate 5 refine w_ ?_
  refine lc (Does.alloc 6 (.pr (.sl 9 .str) (.sl 226 (.pr .int (.pr .int .int)))) zer_98 rfl rfl (Fresh.of rfl) (nlr rfl)) <| lc (Does.storeP (Evl.tmp rfl) rfl (Ev.tmp rfl) rfl tsh_98 rfl) ?_
  iterate 9 refine w_ ?_
  cases hb4 : ((exV s).2.2.2)
  ·iterate 2 refine w_ ?_
   refine lc (Does.build bld_98 rfl (List.all_eq_true.1 rfl) rfl rfl) <| lc (Does.storeP (Evl.tmp rfl) rfl (Ev.tmp rfl) rfl tsh_98 rfl) ?_
   iterate 2 refine w_ ?_
   refine AC.wk (Wk.nilC 7 (p := 1) (off := 0) 9 .str rfl rfl (Fresh.of rfl) (nlr rfl)) <| AC.wk (Wk.nilC 8 (p := 1) (off := 1) 226 (.pr .int (.pr .int .int)) rfl rfl (Fresh.of rfl) (nlr rfl)) <| AC.ret ?_
   subst hO
   have e5 : (false : Bool) = ((exploreV s).2) := by
    (rw [exploreV_no2 (by assumption)]; done)
   exact fin_is _ _ [(0, 7), (1, 8)] (Res.two rfl (Rs.cell rfl rfl tsh_98 rfl) (Rs.tmp rfl)) ((congrArg (fun z_ => PV.tup [(true, [.ref 7, .ref 8]), (false, [dB z_])]) e5)) ⟨(entE (by (rw [exploreV_no2 (by assumption)]; rfl))), (entE (by (rw [exploreV_no2 (by assumption)]; rfl))), trivial⟩ rfl rfl
  ·iterate 4 refine w_ ?_
   refine lc (Does.storeP (Evl.tmp rfl) rfl (Ev.tmp rfl) rfl tsh_98 rfl) ?_
   iterate 2 refine w_ ?_
   refine AC.ret ?_
   subst hO
   have e6 : (true : Bool) = ((exploreV s).2) := by
    (rw [exploreV_yes (by assumption) (by assumption)]; done)
   exact fin_is _ _ [(0, 4), (1, 5)] (Res.two rfl (Rs.cell rfl rfl tsh_98 rfl) (Rs.tmp rfl)) ((congrArg (fun z_ => PV.tup [(true, [.ref 4, .ref 5]), (false, [dB z_])]) e6)) ⟨(entE (by (rw [exploreV_yes (by assumption) (by assumption)]; done))), (entE (by (rw [exploreV_yes (by assumption) (by assumption)]; done))), trivial⟩ rfl rfl

theorem fc_spec_Explore (s : (Int × (List (List Int × List Int))) × (List (ByteArray × Int)) × (List (Int × Bool)) × ByteArray) [∀ s, Decidable (StgOk s)]  : FC Tryz.prog 52 [(true, [dI s.1.1, .dat (.sl 159 (.pr (.sl 3 .int) (.sl 3 .int))) s.1.2, .dat (.sl 145 (.pr .str .int)) s.2.1, .dat (.sl 61 (.pr .int .bool)) s.2.2.1, dS s.2.2.2])] [] 0 (Is (PV.tup [(true, [.ref 0, .ref 1]), (false, [dB ((exploreV s).2)])]) [(0, some (.arr 9 .str (((exploreV s).1).1))), (1, some (.arr 226 (.pr .int (.pr .int .int)) (((exploreV s).1).2)))]) := by
 refine FC.go Tryz.func52 rfl rfl Tryz.ntmps52 fun O_ hO w0_ N0_ X_ h0_ f0_ => ?_
 refine AC.fact (fact_ag (x := .tmp 0) (i := 0) (Ev.tmp rfl) rfl) fun hi1 => ?_
 refine w_ ?_
 refine lc (Does.box 0 (Ev.tmp rfl) rfl rfl (Fresh.of rfl) (nlr rfl)) <| lc (Does.alloc 1 (.pr (.sl 9 .str) (.sl 226 (.pr .int (.pr .int .int)))) zer_98 rfl rfl (Fresh.of rfl) (nlr rfl)) ?_
 iterate 5 refine w_ ?_
 refine lc (Does.call (fc_spec_l2Good s) enters_106 ⟨_, _, rfl, (Ev.tmp rfl), rfl⟩ rfl rfl) ?_
 iterate 2 refine w_ ?_
 cases hb2 : (decide (StgOk s))
 ·have hb2' := of_decide_eq_false hb2
  iterate 2 refine w_ ?_
  refine lc (Does.build bld_98 rfl (List.all_eq_true.1 rfl) rfl rfl) <| lc (Does.storeP (Evl.tmp rfl) rfl (Ev.tmp rfl) rfl tsh_98 rfl) ?_
  iterate 2 refine w_ ?_
  refine AC.wk (Wk.nilC 2 (p := 1) (off := 0) 9 .str rfl rfl (Fresh.of rfl) (nlr rfl)) <| AC.wk (Wk.nilC 3 (p := 1) (off := 1) 226 (.pr .int (.pr .int .int)) rfl rfl (Fresh.of rfl) (nlr rfl)) <| AC.ret ?_
  subst hO
  have e3 : (false : Bool) = ((exploreV s).2) := by
   (rw [exploreV_no1 (by assumption)]; done)
  exact fin_is _ _ [(0, 2), (1, 3)] (Res.two rfl (Rs.cell rfl rfl tsh_98 rfl) (Rs.tmp rfl)) ((congrArg (fun z_ => PV.tup [(true, [.ref 2, .ref 3]), (false, [dB z_])]) e3)) ⟨(entE (by (rw [exploreV_no1 (by assumption)]; rfl))), (entE (by (rw [exploreV_no1 (by assumption)]; rfl))), trivial⟩ rfl rfl
 ·have hb2' := of_decide_eq_true hb2
  iterate 4 refine w_ ?_
  refine lc (Does.callG 4 (fc_spec_l4Reach s (by assumption)) enters_107 ⟨_, _, rfl, (Ev.tmp rfl), rfl⟩ rfl rfl ⟨Fresh.of rfl, Fresh.of rfl, Fresh.of rfl, trivial⟩ (nlr rfl)) <| lc (Does.alloc 7 (.pr (.pr (.sl 9 .str) (.sl 226 (.pr .int (.pr .int .int)))) (.pr (.sl 226 (.pr .int (.pr .int .int))) (.pr .int (.pr .int .bool)))) zer_155 rfl rfl (Fresh.of rfl) (nlr rfl)) <| lc (Does.storeP (Evl.tmp rfl) rfl (Ev.tmp rfl) rfl tsh_155 rfl) ?_
  iterate 5 refine w_ ?_
  refine AL.fact (fact_int (x := .tmp 12) (Evl.tmp rfl)) fun hi4 => ?_
  iterate 2 refine w_ ?_
  cases hb5 : (decide (0 ≤ ((l4V s).2.2.2.1)))
  ·have hb5' := of_decide_eq_false hb5
   iterate 4 refine w_ ?_
   cases hb6 : ((l4V s).2.2.2.2)
   ·iterate 5 refine w_ ?_
    refine lc (Does.storeP (Evl.tmp rfl) rfl (Ev.tmp rfl) rfl tsh_98 rfl) ?_
    iterate 2 refine w_ ?_
    refine AC.ret ?_
    subst hO
    have e7 : (true : Bool) = ((exploreV s).2) := by
     (rw [exploreV_yes (by assumption) (l4V_yes (by assumption) (by assumption))]; done)
    exact fin_is _ _ [(0, 4), (1, 5)] (Res.two rfl (Rs.cell rfl rfl tsh_98 rfl) (Rs.tmp rfl)) ((congrArg (fun z_ => PV.tup [(true, [.ref 4, .ref 5]), (false, [dB z_])]) e7)) ⟨(entE (by (rw [exploreV_yes (by assumption) (l4V_yes (by assumption) (by assumption))]; rfl))), (entE (by (rw [exploreV_yes (by assumption) (l4V_yes (by assumption) (by assumption))]; rfl))), trivial⟩ rfl rfl
   ·iterate 2 refine w_ ?_
    refine lc (Does.build bld_98 rfl (List.all_eq_true.1 rfl) rfl rfl) <| lc (Does.storeP (Evl.tmp rfl) rfl (Ev.tmp rfl) rfl tsh_98 rfl) ?_
    iterate 2 refine w_ ?_
    refine AC.wk (Wk.nilC 8 (p := 1) (off := 0) 9 .str rfl rfl (Fresh.of rfl) (nlr rfl)) <| AC.wk (Wk.nilC 9 (p := 1) (off := 1) 226 (.pr .int (.pr .int .int)) rfl rfl (Fresh.of rfl) (nlr rfl)) <| AC.ret ?_
    subst hO
    have e8 : (false : Bool) = ((exploreV s).2) := by
     (rw [exploreV_no2 (l4V_no2 (by assumption) (by assumption))]; done)
    exact fin_is _ _ [(0, 8), (1, 9)] (Res.two rfl (Rs.cell rfl rfl tsh_98 rfl) (Rs.tmp rfl)) ((congrArg (fun z_ => PV.tup [(true, [.ref 8, .ref 9]), (false, [dB z_])]) e8)) ⟨(entE (by (rw [exploreV_no2 (l4V_no2 (by assumption) (by assumption))]; rfl))), (entE (by (rw [exploreV_no2 (l4V_no2 (by assumption) (by assumption))]; rfl))), trivial⟩ rfl rfl
  ·have hb5' := of_decide_eq_true hb5
   iterate 6 refine w_ ?_
   refine lc (Does.build bld_98 rfl (List.all_eq_true.1 rfl) rfl rfl) <| lc (Does.storeP (Evl.tmp rfl) rfl (Ev.tmp rfl) rfl tsh_98 rfl) ?_
   iterate 2 refine w_ ?_
   refine AC.wk (Wk.nilC 10 (p := 1) (off := 0) 9 .str rfl rfl (Fresh.of rfl) (nlr rfl)) <| AC.wk (Wk.nilC 11 (p := 1) (off := 1) 226 (.pr .int (.pr .int .int)) rfl rfl (Fresh.of rfl) (nlr rfl)) <| AC.ret ?_
   subst hO
   have e9 : (false : Bool) = ((exploreV s).2) := by
    (rw [exploreV_no2 (l4V_no1 (by assumption))]; done)
   exact fin_is _ _ [(0, 10), (1, 11)] (Res.two rfl (Rs.cell rfl rfl tsh_98 rfl) (Rs.tmp rfl)) ((congrArg (fun z_ => PV.tup [(true, [.ref 10, .ref 11]), (false, [dB z_])]) e9)) ⟨(entE (by (rw [exploreV_no2 (l4V_no1 (by assumption))]; rfl))), (entE (by (rw [exploreV_no2 (l4V_no1 (by assumption))]; rfl))), trivial⟩ rfl rfl

end Go.Proofs.YtnakmhfjafecpaaGreat

/- Walks over abstract states: the state graph, both sides. -/
namespace Go.Proofs.YtnakmhfjafecpaaGreat
open Go.RowKit
set_option maxRecDepth 100000
set_option maxHeartbeats 4000000

/-- A column of bits put behind the codes, from place i on. -/
def addF : Nat → List ByteArray → List UInt8 → List ByteArray
  | _, c, [] => c
  | i, c, v :: vs => addF (i + 1) (c.set i ((c[i]?).getD ByteArray.empty ++ ⟨#[v]⟩)) vs
def goS (n : Nat) (arcs : List DAr) : Nat → Nat → List ByteArray → Option (List ByteArray)
  | 0, _, c => some c
  | f + 1, k, c => if (valsV n arcs (k : Int)).2 = true then goS n arcs f (k + 1) (addF 0 c (valsV n arcs (k : Int)).1) else none
section
variable {n f k i m : Nat} {arcs : List DAr} {c codes : List ByteArray} {vs us : List UInt8} {v : UInt8} {x : ByteArray}
end
section
variable [∀ s, Decidable (StgOk s)] {s : DSTG} {c : List ByteArray}
def zeroSG : List (ByteArray × Int) × List ByteArray × List DAr := ([], [], [])
def sgV (s : DSTG) : (List (ByteArray × Int) × List ByteArray × List DAr) × Bool :=
  if (exploreV s).2 = true ∧ ¬ 4000 < (exploreV s).1.2.length then
    (match goS (exploreV s).1.1.length (arcsOf s.2.2.1 (exploreV s).1.2) s.2.1.length 0 (List.replicate (exploreV s).1.1.length ByteArray.empty) with
    | some c => ((s.2.1, c, arcsOf s.2.2.1 (exploreV s).1.2), true)
    | none => (zeroSG, false))
  else (zeroSG, false)
end

end Go.Proofs.YtnakmhfjafecpaaGreat

/- Walks over abstract states: valid reachability graphs, dead transitions, deadlocks. -/
namespace Go.Proofs.YtnakmhfjafecpaaGreat
open Go.RowKit
set_option maxRecDepth 100000
set_option maxHeartbeats 4000000

abbrev DRg := List ByteArray × List DMv
instance (n m : Nat) (v : DMv) : Decidable (MvOk n m v) := inferInstanceAs (Decidable (_ ∧ _))
def GoodR (r : DRg) : Prop := (1 ≤ r.1.length ∧ r.1.length ≤ 300) ∧ r.2.length ≤ 4000 ∧ r.1.Nodup ∧ ∀ v ∈ r.2, MvOk r.1.length 24 v
instance (r : DRg) : Decidable (GoodR r) := inferInstanceAs (Decidable (_ ∧ _))
def seenL (l : List ByteArray) : List (ByteArray × Bool) := l.foldl (fun m x => mset .str m x true) []
section
variable {r : DRg} {k : Nat} {x y : ByteArray} {v : DMv} {l : List ByteArray} {m : List (ByteArray × Bool)}
end
/-- The numbers below k at which f does not hold. -/
def freeI (f : Int → Bool) : Nat → List Int
  | 0 => []
  | k + 1 => freeI f k ++ (if f (k : Int) = true then [] else [(k : Int)])
section
variable {f : Int → Bool} {k n : Nat} {α : Type _} {l : List α} {p : α → Bool} {x : α}
end
def byT (r : DRg) (t : Int) : Bool := r.2.any fun v => decide (v.2.1 = t)
def fromK (r : DRg) (t : Int) : Bool := r.2.any fun v => decide (v.1 = t)
def mfV (r : DRg) (k : Int) : List DMv × Bool := if GoodR r ∧ 0 ≤ k ∧ k < r.1.length then (r.2.filter fun v => decide (v.1 = k), true) else ([], false)
def dlV (r : DRg) : List Int × Bool := if GoodR r then (freeI (fromK r) r.1.length, true) else ([], false)
section
variable [∀ s, Decidable (StgOk s)]
def dtV (s : DSTG) (r : DRg) : List Int × Bool := if StgOk s ∧ GoodR r then (freeI (byT r) s.2.2.1.length, true) else ([], false)
end
def filtK (k : Int) (ms : List DMv) : List DMv := ms.filter fun v => decide (v.1 = k)
end Go.Proofs.YtnakmhfjafecpaaGreat

/- Walks over abstract states: sameness of slices, the firings of a graph. -/
namespace Go.Proofs.YtnakmhfjafecpaaGreat
open Go.RowKit
set_option maxRecDepth 100000
set_option maxHeartbeats 4000000

section
variable {α : Type} [DecidableEq α] {a b : List α} {k : Nat} {x y : α}
theorem eql_no_len (h : ¬ (a.length : Int) = (b.length : Int)) : false = decide (a = b) := (decide_eq_false fun e => h (by rw [e])).symm
theorem eql_no_at (hx : a[k]? = some x) (hy : b[k]? = some y) (h : x ≠ y) : false = decide (a = b) := (decide_eq_false fun e => h (by rw [e, hy] at hx; exact (Option.some.inj hx).symm)).symm
theorem eql_step {α : Type} {a b : List α} {k : Nat} {x y : α} (hE : ∀ j, j < k → a[j]? = b[j]?) (hx : a[k]? = some x) (hy : b[k]? = some y) (h : x = y) : ∀ j, j < k + 1 → a[j]? = b[j]? := fun j hj => by
  by_cases e : j = k
  · rw [e, hx, hy, h]
  · exact hE j (by omega)
theorem eql_yes (hl : (a.length : Int) = (b.length : Int)) (hE : ∀ j, j < k → a[j]? = b[j]?) (hk : a.length ≤ k) : true = decide (a = b) := (decide_eq_true (List.ext_getElem? fun j => by
  by_cases h : j < k
  · exact hE j h
  · rw [List.getElem?_eq_none (by omega), List.getElem?_eq_none (by omega)])).symm
theorem beq_no {t : Ty} {x y : t.Den} (h : Ty.beq t x y = false) : x ≠ y := fun e => by rw [(Ty.beq_iff t x y).2 e] at h; cases h
end
section
variable [∀ s, Decidable (StgOk s)]
def deadX (s : DSTG) : List Int := (dtV s (exploreV s).1).1
def endsX (s : DSTG) : Bool := decide ((0 : Int) < ((dlV (exploreV s).1).1.length : Int))
def frV (s : DSTG) : List Int × Bool × Bool := if (sgV s).2 = true then (deadX s, endsX s, true) else ([], false, false)
def pfI (a b : DSTG) : Bool × Bool := if (frV a).2.2 = true ∧ (frV b).2.2 = true ∧ a.2.1 = b.2.1 ∧ a.2.2.1 = b.2.2.1 then (decide ((frV a).1 = (frV b).1) && (!(frV b).2.1 || (frV a).2.1), true) else (false, false)
def pfV (a b : DSTG) : Bool × Bool := if (sgV a).2 = true ∧ (sgV b).2 = true ∧ a.2.1 = b.2.1 ∧ a.2.2.1 = b.2.2.1 then (decide (deadX a = deadX b) && (endsX a || !endsX b), true) else (false, false)
section
variable {a b : DSTG}
end
end

theorem fc_slices_Equal_int_int (s1 : List Int) (s2 : List Int)  : FC Tryz.prog 117 [(false, [.dat (.sl 3 .int) s1]), (false, [.dat (.sl 3 .int) s2])] [] 0 (Pure (lB (decide (s1 = s2)))) := by
 refine FC.go Tryz.func117 rfl rfl Tryz.ntmps117 fun O_ hO w0_ N0_ X_ h0_ f0_ => ?_
 iterate 6 refine w_ ?_
 refine AL.fact (fact_len (x := .tmp 6) (Evl.tmp rfl)) fun hl1 => ?_
 iterate 2 refine w_ ?_
 refine AL.fact (fact_len (x := .tmp 8) (Evl.tmp rfl)) fun hl2 => ?_
 iterate 3 refine w_ ?_
 cases hb3 : (!decide ((s1.length : Int) = (s2.length : Int)))
 ·have hb3' : ((s1.length : Int) = (s2.length : Int)) := nd_false hb3
  iterate 5 refine w_ ?_
  refine AL.fact (fact_len (x := .tmp 11) (Evl.tmp rfl)) fun hl4 => ?_
  iterate 4 refine w_ ?_
  refine AC.loopW (fun m_ s_ => ∃ (k : Nat), k ≤ s1.length ∧ m_ = s1.length - k ∧ (∀ j, j < k → s1[j]? = s2[j]?) ∧ s_ = ⟨[(0, lf (.dat (.sl 3 .int) s1)), (1, lf (.dat (.sl 3 .int) s2)), (12, lI (s1.length : Int)), (13, lI (k : Int))], []⟩) ⟨0, Nat.zero_le _, rfl, (fun j hj => absurd hj (Nat.not_lt_zero j)), rfl⟩ ?_ ?_
  · exact Wk.of [] rfl ⟨rfl, rfl, rfl, rfl, trivial⟩ trivial rfl rfl
  rintro m_ s_ ⟨k, hk5, hm6, hE, rfl⟩
  iterate 4 refine w_ ?_
  cases hb7 : (decide ((k : Int) < (s1.length : Int)))
  ·have hb7' := of_decide_eq_false hb7
   refine w_ ?_
   refine AC.exit ?_
   refine (?_ : AC _ _ _ _ _)
   iterate 3 refine w_ ?_
   refine AC.ret ?_
   subst hO
   have e8 : (true : Bool) = (decide (s1 = s2)) := by
    exact eql_yes (by assumption) hE (by omega)
   exact fin_pure (Res.one rfl (Rs.tmp rfl)) ((congrArg (fun z_ => lB z_) e8)) rfl
  ·have hb7' := of_decide_eq_true hb7
   iterate 8 refine w_ ?_
   obtain ⟨x9, hx10⟩ : ∃ z, s1[k]? = some z := ⟨_, List.getElem?_eq_getElem (by omega)⟩
   obtain ⟨x11, hx12⟩ : ∃ z, s2[k]? = some z := ⟨_, List.getElem?_eq_getElem (by omega)⟩
   refine dw [io 16 (lf (.dat (.sl 3 .int) s1)), io 17 (lI (k : Int)), io 18 (lf (.elt .int x9 0)), io 19 (lI x9), io 20 (lf (.dat (.sl 3 .int) s2)), io 21 (lI (k : Int)), io 22 (lf (.elt .int x11 0)), io 23 (lI x11), io 24 (lB (!decide (x9 = x11)))] [0, 0, 3, 7, 0, 0, 48, 112, 255] mixed rfl (by kernel_rfl) ⟨dxm rfl rfl, dxm rfl rfl, fun _ h_ => ac (Does.indexE (h_.v rfl) (h_.v rfl) und_106 tsh_3 rfl (by omega) hx10) rfl, fun _ h_ => ac (Does.loadE (h_.v rfl) tsh_3 rfl rfl) rfl, dxm rfl rfl, dxm rfl rfl, fun _ h_ => ac (Does.indexE (h_.v rfl) (h_.v rfl) und_106 tsh_3 rfl (by omega) hx12) rfl, fun _ h_ => ac (Does.loadE (h_.v rfl) tsh_3 rfl rfl) rfl, fun _ h_ => ac (Does.neq (h_.v rfl) (h_.v rfl) rfl) rfl, ⟨⟩⟩ ?_
   cases hb13 : (!decide (x9 = x11))
   ·have hb13' : (x9 = x11) := nd_false hb13
    refine w_ ?_
    refine AC.skip ?_
    refine (?_ : AC _ _ _ _ _)
    iterate 3 refine w_ ?_
    refine AL.nil <| lend ⟨k + 1, by omega, rfl, (eql_step hE hx10 hx12 (by first | exact (Ty.beq_iff _ _ _).1 (by assumption) | assumption)), rfl⟩ (by omega) ?_
    exact Wk.of [] rfl ⟨rfl, rfl, rfl, rfl, trivial⟩ trivial rfl rfl
   ·have hb13' : ¬ (x9 = x11) := nd_true hb13
    iterate 4 refine w_ ?_
    refine AC.ret ?_
    subst hO
    have e14 : (false : Bool) = (decide (s1 = s2)) := by
     exact eql_no_at hx10 hx12 (by first | exact beq_no (by assumption) | assumption)
    exact fin_pure (Res.one rfl (Rs.tmp rfl)) ((congrArg (fun z_ => lB z_) e14)) rfl
 ·have hb3' : ¬ ((s1.length : Int) = (s2.length : Int)) := nd_true hb3
  iterate 4 refine w_ ?_
  refine AC.ret ?_
  subst hO
  have e15 : (false : Bool) = (decide (s1 = s2)) := by
   exact eql_no_len (by assumption)
  exact fin_pure (Res.one rfl (Rs.tmp rfl)) ((congrArg (fun z_ => lB z_) e15)) rfl

theorem fc_spec_l1Same (a : List Int) (b : List Int)  : FC Tryz.prog 164 [(false, [.dat (.sl 3 .int) a]), (false, [.dat (.sl 3 .int) b])] [] 0 (Pure (lB (decide (a = b)))) := by
 refine FC.go Tryz.func164 rfl rfl Tryz.ntmps164 fun O_ hO w0_ N0_ X_ h0_ f0_ => ?_
 iterate 6 refine w_ ?_
 refine AL.fact (fact_len (x := .tmp 6) (Evl.tmp rfl)) fun hl1 => ?_
 iterate 2 refine w_ ?_
 refine AL.fact (fact_len (x := .tmp 8) (Evl.tmp rfl)) fun hl2 => ?_
 iterate 3 refine w_ ?_
 cases hb3 : (!decide ((a.length : Int) = (b.length : Int)))
 ·have hb3' : ((a.length : Int) = (b.length : Int)) := nd_false hb3
  iterate 5 refine w_ ?_
  refine AL.fact (fact_len (x := .tmp 11) (Evl.tmp rfl)) fun hl4 => ?_
  iterate 4 refine w_ ?_
  refine AC.loopW (fun m_ s_ => ∃ (k : Nat), k ≤ a.length ∧ m_ = a.length - k ∧ (∀ j, j < k → a[j]? = b[j]?) ∧ s_ = ⟨[(0, lf (.dat (.sl 3 .int) a)), (1, lf (.dat (.sl 3 .int) b)), (12, lI (a.length : Int)), (13, lI (k : Int))], []⟩) ⟨0, Nat.zero_le _, rfl, (fun j hj => absurd hj (Nat.not_lt_zero j)), rfl⟩ ?_ ?_
  · exact Wk.of [] rfl ⟨rfl, rfl, rfl, rfl, trivial⟩ trivial rfl rfl
  rintro m_ s_ ⟨k, hk5, hm6, hE, rfl⟩
  iterate 4 refine w_ ?_
  cases hb7 : (decide ((k : Int) < (a.length : Int)))
  ·have hb7' := of_decide_eq_false hb7
   refine w_ ?_
   refine AC.exit ?_
   refine (?_ : AC _ _ _ _ _)
   iterate 3 refine w_ ?_
   refine AC.ret ?_
   subst hO
   have e8 : (true : Bool) = (decide (a = b)) := by
    exact eql_yes (by assumption) hE (by omega)
   exact fin_pure (Res.one rfl (Rs.tmp rfl)) ((congrArg (fun z_ => lB z_) e8)) rfl
  ·have hb7' := of_decide_eq_true hb7
   iterate 8 refine w_ ?_
   obtain ⟨x9, hx10⟩ : ∃ z, a[k]? = some z := ⟨_, List.getElem?_eq_getElem (by omega)⟩
   obtain ⟨x11, hx12⟩ : ∃ z, b[k]? = some z := ⟨_, List.getElem?_eq_getElem (by omega)⟩
   refine dw [io 16 (lf (.dat (.sl 3 .int) a)), io 17 (lI (k : Int)), io 18 (lf (.elt .int x9 0)), io 19 (lI x9), io 20 (lf (.dat (.sl 3 .int) b)), io 21 (lI (k : Int)), io 22 (lf (.elt .int x11 0)), io 23 (lI x11), io 24 (lB (!decide (x9 = x11)))] [0, 0, 3, 7, 0, 0, 48, 112, 255] mixed rfl (by kernel_rfl) ⟨dxm rfl rfl, dxm rfl rfl, fun _ h_ => ac (Does.indexE (h_.v rfl) (h_.v rfl) und_106 tsh_3 rfl (by omega) hx10) rfl, fun _ h_ => ac (Does.loadE (h_.v rfl) tsh_3 rfl rfl) rfl, dxm rfl rfl, dxm rfl rfl, fun _ h_ => ac (Does.indexE (h_.v rfl) (h_.v rfl) und_106 tsh_3 rfl (by omega) hx12) rfl, fun _ h_ => ac (Does.loadE (h_.v rfl) tsh_3 rfl rfl) rfl, fun _ h_ => ac (Does.neq (h_.v rfl) (h_.v rfl) rfl) rfl, ⟨⟩⟩ ?_
   cases hb13 : (!decide (x9 = x11))
   ·have hb13' : (x9 = x11) := nd_false hb13
    refine w_ ?_
    refine AC.skip ?_
    refine (?_ : AC _ _ _ _ _)
    iterate 3 refine w_ ?_
    refine AL.nil <| lend ⟨k + 1, by omega, rfl, (eql_step hE hx10 hx12 (by first | exact (Ty.beq_iff _ _ _).1 (by assumption) | assumption)), rfl⟩ (by omega) ?_
    exact Wk.of [] rfl ⟨rfl, rfl, rfl, rfl, trivial⟩ trivial rfl rfl
   ·have hb13' : ¬ (x9 = x11) := nd_true hb13
    iterate 4 refine w_ ?_
    refine AC.ret ?_
    subst hO
    have e14 : (false : Bool) = (decide (a = b)) := by
     exact eql_no_at hx10 hx12 (by first | exact beq_no (by assumption) | assumption)
    exact fin_pure (Res.one rfl (Rs.tmp rfl)) ((congrArg (fun z_ => lB z_) e14)) rfl
 ·have hb3' : ¬ ((a.length : Int) = (b.length : Int)) := nd_true hb3
  iterate 4 refine w_ ?_
  refine AC.ret ?_
  subst hO
  have e15 : (false : Bool) = (decide (a = b)) := by
   exact eql_no_len (by assumption)
  exact fin_pure (Res.one rfl (Rs.tmp rfl)) ((congrArg (fun z_ => lB z_) e15)) rfl

end Go.Proofs.YtnakmhfjafecpaaGreat

/- Walks over abstract states: codes, edges and arcs of state graphs. -/
namespace Go.Proofs.YtnakmhfjafecpaaGreat
open Go.RowKit
set_option maxRecDepth 100000
set_option maxHeartbeats 4000000

theorem Does.asB {A : Amb} {P : Program} {o : Oper} {s : St} {d : Nat} {b b' : Bool} (e : b = b') (h : Does A P o s (s.put d (lf (dB b)))) : Does A P o s (s.put d (lf (dB b'))) := e ▸ h
abbrev DSg := List (ByteArray × Int) × List ByteArray × List DAr
def LabI (n : Int) (l : DLabel) : Prop := (0 ≤ l.1 ∧ l.1 ≤ n - 1) ∨ (l.1 = -1 ∧ l.2 = false)
instance (n : Int) (l : DLabel) : Decidable (LabI n l) := inferInstanceAs (Decidable (_ ∨ _))
/-- A code: so many bits. -/
def BitsL (s : ByteArray) (n : Int) : Prop := (∀ c ∈ s.toList, c = 48 ∨ c = 49) ∧ (s.size : Int) = n
instance (s : ByteArray) (n : Int) : Decidable (BitsL s n) := inferInstanceAs (Decidable (_ ∧ _))
section
variable {n : Int} {l : DLabel} {s x y : ByteArray} {k : Nat} {c d : UInt8} {a : DAr}
/-- An arc's two codes at one place. -/
def FitAt (a : DAr) (x y : ByteArray) (j : Nat) : Prop := if (j : Int) = a.2.1 then (decide (bAt x j = 49) = !a.2.2.1 ∧ decide (bAt y j = 49) = a.2.2.1) else bAt x j = bAt y j
instance (a : DAr) (x y : ByteArray) (j : Nat) : Decidable (FitAt a x y j) := by unfold FitAt; exact inferInstance
def Fit (a : DAr) (x y : ByteArray) : Prop := ∀ j, j < x.size → FitAt a x y j
instance (a : DAr) (x y : ByteArray) : Decidable (Fit a x y) := by unfold Fit; exact inferInstance
def setB (code : ByteArray) (sig : Int) (b : ByteArray) : ByteArray := (code.extract 0 sig.toNat ++ b) ++ code.extract (sig + 1).toNat code.size
end

end Go.Proofs.YtnakmhfjafecpaaGreat

/- Walks over abstract states: arcs of state graphs. -/
namespace Go.Proofs.YtnakmhfjafecpaaGreat
open Go.RowKit
set_option maxRecDepth 100000
set_option maxHeartbeats 4000000

def codeAt (c : DSg) (i : Int) : ByteArray := (c.2.1[i.toNat]?).getD ByteArray.empty
def ArcOk (c : DSg) (a : DAr) : Prop := (0 ≤ a.1 ∧ a.1 ≤ (c.2.1.length : Int) - 1) ∧ (0 ≤ a.2.2.2 ∧ a.2.2.2 ≤ (c.2.1.length : Int) - 1) ∧ LabI (c.1.length : Int) (a.2.1, a.2.2.1) ∧ Fit a (codeAt c a.1) (codeAt c a.2.2.2)
instance (c : DSg) (a : DAr) : Decidable (ArcOk c a) := inferInstanceAs (Decidable (_ ∧ _))
section
variable {c : DSg} {a : DAr} {x y b code : ByteArray} {n sig p : Int} {j k m : Nat}
section
variable (h1 : 0 ≤ a.1 ∧ a.1 ≤ (c.2.1.length : Int) - 1) (h2 : 0 ≤ a.2.2.2 ∧ a.2.2.2 ≤ (c.2.1.length : Int) - 1) (h3 : LabI (c.1.length : Int) (a.2.1, a.2.2.1)) (hx : c.2.1[a.1.toNat]? = some x) (hy : c.2.1[a.2.2.2.toNat]? = some y)
include h1 h2 h3 hx hy
end
end

end Go.Proofs.YtnakmhfjafecpaaGreat

/- Walks over abstract states: which states are reached, as the reference says it; small words on lists. -/
namespace Go.Proofs.YtnakmhfjafecpaaGreat
open Go.RowKit
set_option maxRecDepth 100000
set_option maxHeartbeats 4000000

inductive Rch (es : List (Int × Int)) : Int → Prop
  | zero : Rch es 0
  | step {u v : Int} : Rch es u → (u, v) ∈ es → Rch es v
def stepsA (rs : List DAr) : List (Int × Int) := rs.map fun a => (a.1, a.2.2.2)
def InE (n : Nat) (e : Int × Int) : Prop := (0 ≤ e.1 ∧ e.1 < n) ∧ 0 ≤ e.2 ∧ e.2 < n
def AllR (n : Nat) (es : List (Int × Int)) : Prop := ∀ k : Nat, k < n → Rch es k
/-- One pass over the edges. -/
def stepM (e : Int × Int) (m : List Bool) : List Bool := if m[e.1.toNat]? = some true then m.set e.2.toNat true else m
def passM : List (Int × Int) → List Bool → List Bool
  | [], m => m
  | e :: es, m => passM es (stepM e m)
def iterM (es : List (Int × Int)) : Nat → List Bool → List Bool
  | 0, m => m
  | f + 1, m => iterM es f (passM es m)
section
variable {es : List (Int × Int)} {e : Int × Int} {m : List Bool} {n f i k : Nat} {rs : List DAr} {a : DAr} {b : Bool}
def cntF (m : List Bool) : Nat := (m.filter fun b => !b).length
def m0 (n : Nat) : List Bool := (List.replicate n false).set 0 true
section
variable [Decidable (AllR n es)]
end
end
theorem fc_slices_Index_int_int (s : List Int) (v : Int)  : FC Tryz.prog 224 [(false, [.dat (.sl 3 .int) s]), (false, [dI v])] [] 0 (Pure (lI (idxF (fun y => decide (v = y)) s))) := by
 refine FC.go Tryz.func224 rfl rfl Tryz.ntmps224 fun O_ hO w0_ N0_ X_ h0_ f0_ => ?_
 refine AC.fact (fact_int (x := .tmp 1) (Evl.tmp rfl)) fun hi1 => ?_
 iterate 6 refine w_ ?_
 refine AL.fact (fact_len (x := .tmp 6) (Evl.tmp rfl)) fun hl2 => ?_
 iterate 4 refine w_ ?_
 refine AC.loopW (fun m_ s_ => ∃ (k : Nat), k ≤ s.length ∧ m_ = s.length - k ∧ (NoneTo (fun y => decide (v = y)) s k) ∧ s_ = ⟨[(0, lf (.dat (.sl 3 .int) s)), (1, lI v), (7, lI (s.length : Int)), (8, lI (k : Int))], []⟩) ⟨0, Nat.zero_le _, rfl, NoneTo.zero, rfl⟩ ?_ ?_
 · exact Wk.of [] rfl ⟨rfl, rfl, rfl, rfl, trivial⟩ trivial rfl rfl
 rintro m_ s_ ⟨k, hk3, hm4, hno, rfl⟩
 iterate 4 refine w_ ?_
 cases hb5 : (decide ((k : Int) < (s.length : Int)))
 ·have hb5' := of_decide_eq_false hb5
  refine w_ ?_
  refine AC.exit ?_
  refine (?_ : AC _ _ _ _ _)
  iterate 3 refine w_ ?_
  refine AC.ret ?_
  subst hO
  have e6 : ((-1) : Int) = (idxF (fun y => decide (v = y)) s) := by
   first | exact (hno.no (by omega)).symm
  exact fin_pure (Res.one rfl (Rs.tmp rfl)) ((congrArg (fun z_ => lI z_) e6)) rfl
 ·have hb5' := of_decide_eq_true hb5
  iterate 12 refine w_ ?_
  obtain ⟨x7, hx8⟩ : ∃ z, s[k]? = some z := ⟨_, List.getElem?_eq_getElem (by omega)⟩
  refine lc (Does.indexE (Evl.tmp rfl) (Evl.tmp rfl) und_106 tsh_3 rfl (by omega) hx8) ?_
  refine w_ ?_
  refine AL.fact (fact_int (x := .tmp 15) (Evl.tmp rfl)) fun hi9 => ?_
  iterate 2 refine w_ ?_
  cases hb10 : (decide (v = x7))
  ·have hb10' := of_decide_eq_false hb10
   refine w_ ?_
   refine AC.skip ?_
   refine (?_ : AC _ _ _ _ _)
   iterate 3 refine w_ ?_
   refine AL.nil <| lend ⟨k + 1, by omega, rfl, hno.step hx8 (by assumption), rfl⟩ (by omega) ?_
   exact Wk.of [] rfl ⟨rfl, rfl, rfl, rfl, trivial⟩ trivial rfl rfl
  ·have hb10' := of_decide_eq_true hb10
   iterate 5 refine w_ ?_
   refine AC.ret ?_
   subst hO
   have e11 : ((k : Int) : Int) = (idxF (fun y => decide (v = y)) s) := by
    exact (hno.at hx8 (by assumption)).symm
   exact fin_pure (Res.one rfl (Rs.tmp rfl)) ((congrArg (fun z_ => lI z_) e11)) rfl

theorem fc_slices_Contains_int_int (s : List Int) (v : Int)  : FC Tryz.prog 158 [(false, [.dat (.sl 3 .int) s]), (false, [dI v])] [] 0 (Pure (lB (s.any (fun y => decide (v = y))))) := by
 refine FC.go Tryz.func158 rfl rfl Tryz.ntmps158 fun O_ hO w0_ N0_ X_ h0_ f0_ => ?_
 refine AC.fact (fact_int (x := .tmp 1) (Evl.tmp rfl)) fun hi1 => ?_
 iterate 6 refine w_ ?_
 refine lc (Does.call (fc_slices_Index_int_int s v) enters_224 ⟨_, _, rfl, (Ev.tmp rfl), ⟨_, _, rfl, (Ev.tmp rfl), rfl⟩⟩ rfl rfl) ?_
 iterate 3 refine w_ ?_
 refine AC.ret ?_
 subst hO
 have e2 : (decide (0 ≤ (idxF (fun y => decide (v = y)) s)) : Bool) = (s.any (fun y => decide (v = y))) := by
  exact idxF_any _ _
 exact fin_pure (Res.one rfl (Rs.tmp rfl)) ((congrArg (fun z_ => lB z_) e2)) rfl

end Go.Proofs.YtnakmhfjafecpaaGreat

/- Walks over abstract states: valid state graphs, the reference. -/
namespace Go.Proofs.YtnakmhfjafecpaaGreat
open Go.RowKit
set_option maxRecDepth 100000
set_option maxHeartbeats 4000000

structure SgOk (c : DSg) : Prop where
  sigs : SigsOk c.1
  some_ : 1 ≤ c.2.1.length ∧ c.2.1.length ≤ 300
  few : c.2.2.length ≤ 4000
  codes : ∀ x ∈ c.2.1, BitsL x (c.1.length : Int)
  arcs : ∀ a ∈ c.2.2, ArcOk c a
  all : AllR c.2.1.length (stepsA c.2.2)
theorem each_step {α : Type} {p : α → Prop} {l : List α} {k : Nat} {x : α} (h : ∀ j, j < k → ∀ x, l[j]? = some x → p x) (hx : l[k]? = some x) (hp : p x) : ∀ j, j < k + 1 → ∀ x, l[j]? = some x → p x := fun j hj y hy => by
  by_cases e : j = k
  · subst e; rw [hx] at hy; cases hy; exact hp
  · exact h j (by omega) y hy
theorem arc_inr {c : DSg} {a : DAr} (h : ArcOk c a) : InR c.2.1.length a := by
  obtain ⟨⟨h1, h2⟩, ⟨h3, h4⟩, _⟩ := h
  exact ⟨⟨h1, by omega⟩, h3, by omega⟩
section
variable {c : DSg} [Decidable (SgOk c)] {x : ByteArray} {a : DAr} {k i : Nat}
end

end Go.Proofs.YtnakmhfjafecpaaGreat

/- Walks over abstract states: distances. -/
namespace Go.Proofs.YtnakmhfjafecpaaGreat
open Go.RowKit
set_option maxRecDepth 100000
set_option maxHeartbeats 4000000

def addN (l : List (List Int)) (e : Int × Int) : List (List Int) := l.modify e.1.toNat (· ++ [e.2])
/-- For each state, the states that come next. -/
def nextV (n : Nat) (es : List (Int × Int)) : List (List Int) := es.foldl addN (List.replicate n [])
def bfT (o : Int) : List Int → List Int × List Int → List Int × List Int
  | [], st => st
  | t :: ts, st => if (st.1[t.toNat]?).getD 0 < 0 then bfT o ts (st.1.set t.toNat ((st.1[o.toNat]?).getD 0 + 1), st.2 ++ [t]) else bfT o ts st
def bfK (nx : List (List Int)) : Nat → Nat → List Int × List Int → List Int
  | 0, _, st => st.1
  | f + 1, k, st => match st.2[k]? with
    | none => st.1
    | some o => bfK nx f (k + 1) (bfT o ((nx[o.toNat]?).getD []) st)
def distV (n : Nat) (es : List (Int × Int)) : List Int := bfK (nextV n es) (n + 1) 0 ((List.replicate n (-1)).set 0 0, [0])
def cntN (l : List Int) : Nat := (l.filter (· < 0)).length
structure BI (n : Nat) (es : List (Int × Int)) (st : List Int × List Int) : Prop where
  len : st.1.length = n
  cnt : cntN st.1 + st.2.length = n
  q : ∀ x ∈ st.2, (0 ≤ x ∧ x < n) ∧ Rch es x ∧ ∃ v, st.1[x.toNat]? = some v ∧ 0 ≤ v
  nn : ∀ (i : Nat) v, st.1[i]? = some v → 0 ≤ v → (i : Int) ∈ st.2
  rng : ∀ v ∈ st.1, -1 ≤ v ∧ v ≤ (st.2.length : Int)
section
variable {n k i f : Nat} {es : List (Int × Int)} {e : Int × Int} {l ts ys q out : List Int} {o t c w : Int} {nx : List (List Int)} {st : List Int × List Int}
theorem cntN_set {l : List Int} (h : l[i]? = some c) (hc : c < 0) (hw : 0 ≤ w) : cntN (l.set i w) + 1 = cntN l := by
  induction l generalizing i with
  | nil => simp at h
  | cons x l ih =>
    cases i with
    | zero =>
      simp only [List.getElem?_cons_zero, Option.some.injEq] at h
      subst h
      simp [cntN, hc, show ¬ w < 0 by omega]
    | succ i =>
      have := ih (i := i) (by simpa using h)
      simp only [cntN, List.set_cons_succ, List.filter_cons] at this ⊢
      split <;> simp_all
theorem BI.step (h : BI n es (out, q)) (hr : ∀ e ∈ es, InE n e) (ho : o ∈ q) (he : (o, t) ∈ es) (hc : out[t.toNat]? = some c) (hn : c < 0) (hw : out[o.toNat]? = some w) : BI n es (out.set t.toNat (w + 1), q ++ [t]) := by
  obtain ⟨h1, h2, h3, h4, h5⟩ := h
  have hw0 : 0 ≤ w := by
    obtain ⟨_, _, v, h6, h7⟩ := h3 o ho
    have h6 : out[o.toNat]? = some v := h6
    rw [hw] at h6; cases h6; exact h7
  have hw1 := h5 w (List.mem_of_getElem? hw)
  have htl := (List.getElem?_eq_some_iff.1 hc).1
  obtain ⟨_, ht0, ht1⟩ := hr _ he
  have ht0 : 0 ≤ t := ht0
  have ht1 : t < (n : Int) := ht1
  refine ⟨by simpa using h1, ?_, ?_, ?_, ?_⟩
  · have h6 := cntN_set hc hn (show 0 ≤ w + 1 by omega)
    have h2 : cntN out + q.length = n := h2
    show cntN (out.set t.toNat (w + 1)) + (q ++ [t]).length = n
    rw [List.length_append, List.length_singleton]; omega
  · intro x hx
    show (0 ≤ x ∧ x < n) ∧ Rch es x ∧ ∃ v, (out.set t.toNat (w + 1))[x.toNat]? = some v ∧ 0 ≤ v
    rcases List.mem_append.1 hx with hx | hx
    · obtain ⟨h6, h7, v, h8, h9⟩ := h3 x hx
      refine ⟨h6, h7, ?_⟩
      by_cases e2 : t.toNat = x.toNat
      · exact ⟨w + 1, by rw [← e2, List.getElem?_set_self htl], by omega⟩
      · exact ⟨v, by rw [List.getElem?_set_ne e2]; exact h8, h9⟩
    · rw [List.mem_singleton] at hx
      subst hx
      exact ⟨⟨ht0, ht1⟩, .step (h3 o ho).2.1 he, w + 1, List.getElem?_set_self htl, by omega⟩
  · intro i v hv h0
    have hv : (out.set t.toNat (w + 1))[i]? = some v := hv
    show (i : Int) ∈ q ++ [t]
    by_cases e2 : t.toNat = i
    · exact List.mem_append.2 (.inr (by rw [List.mem_singleton]; omega))
    · rw [List.getElem?_set_ne e2] at hv
      exact List.mem_append.2 (.inl (h4 i v hv h0))
  · intro v hv
    show -1 ≤ v ∧ v ≤ ((q ++ [t]).length : Int)
    rw [List.length_append, List.length_singleton]
    have hw1' : w ≤ (q.length : Int) := hw1.2
    rcases List.mem_or_eq_of_mem_set hv with h6 | h6
    · have h7 := h5 v h6
      have h8 : v ≤ (q.length : Int) := h7.2
      omega
    · omega
theorem BI.at_ (h : BI n es (out, q)) (hq : q[k]? = some o) : (0 ≤ o ∧ o < n) ∧ o ∈ q := ⟨(h.q o (List.mem_of_getElem? hq)).1, List.mem_of_getElem? hq⟩
theorem BI.start (hn : 1 ≤ n) : BI n es ((List.replicate n (-1)).set 0 0, [0]) := by
  have h0 : (List.replicate n (-1 : Int))[0]? = some (-1) := by rw [List.getElem?_replicate, if_pos (by omega)]
  refine ⟨by simp, ?_, ?_, ?_, ?_⟩
  · have h1 := cntN_set (w := 0) h0 (by decide) (by decide)
    have h2 : cntN (List.replicate n (-1 : Int)) = n := by simp [cntN]
    show cntN ((List.replicate n (-1)).set 0 0) + 1 = n
    omega
  · intro x hx
    rw [List.mem_singleton.1 hx]
    exact ⟨⟨by omega, by omega⟩, .zero, 0, List.getElem?_set_self (by simp; omega), by decide⟩
  · intro i v hv h1
    have hv : ((List.replicate n (-1 : Int)).set 0 0)[i]? = some v := hv
    by_cases e2 : 0 = i
    · subst e2; simp
    · rw [List.getElem?_set_ne e2, List.getElem?_replicate] at hv
      split at hv
      · cases hv; omega
      · cases hv
  · intro v hv
    show -1 ≤ v ∧ v ≤ 1
    rcases List.mem_or_eq_of_mem_set hv with h | h
    · rw [List.eq_of_mem_replicate h]; omega
    · omega
end
end Go.Proofs.YtnakmhfjafecpaaGreat

/- Walks over abstract states: partitions of state graphs. -/
namespace Go.Proofs.YtnakmhfjafecpaaGreat
open Go.RowKit
set_option maxRecDepth 100000
set_option maxHeartbeats 4000000

/-- The signs that may follow one another. -/
def mayF (a b : UInt8) : Bool := decide (a = b) || (decide (a = 48) && decide (b = 43)) || (decide (a = 43) && decide (b = 49)) || (decide (a = 49) && decide (b = 45)) || (decide (a = 45) && decide (b = 48)) || (decide (a = 43) && decide (b = 45)) || (decide (a = 45) && decide (b = 43))
def SignL (s : ByteArray) : Prop := ∀ x ∈ s.toList, x = 48 ∨ x = 43 ∨ x = 49 ∨ x = 45
instance (s : ByteArray) : Decidable (SignL s) := inferInstanceAs (Decidable (∀ x ∈ s.toList, x = 48 ∨ x = 43 ∨ x = 49 ∨ x = 45))
def SignsOk (c : DSg) (s : ByteArray) : Prop := SignL s ∧ s.size = c.2.1.length ∧ SgOk c
instance (c : DSg) (s : ByteArray) [Decidable (SgOk c)] : Decidable (SignsOk c s) := inferInstanceAs (Decidable (_ ∧ _))
def partV (c : DSg) (s : ByteArray) : Bool := c.2.2.all fun a => mayF (bAt s a.1) (bAt s a.2.2.2)
def delV (s : ByteArray) (a : DAr) : Bool := (decide (bAt s a.1 = 43) && (decide (bAt s a.2.2.2 = 49) || decide (bAt s a.2.2.2 = 45))) || (decide (bAt s a.1 = 45) && (decide (bAt s a.2.2.2 = 48) || decide (bAt s a.2.2.2 = 43)))
def okP (c : DSg) (s : ByteArray) [Decidable (SgOk c)] : Bool := decide (SignsOk c s) && partV c s
def fromA (as_ : List DAr) (q : Int) : List DAr := as_.filter fun a => decide (a.1 = q)
def roundS : ByteArray := ⟨#[48, 43, 49, 45, 48]⟩
section
variable {a b x : UInt8} {k i : Nat} {s : ByteArray} {c : DSg} {l : List DAr} {e : DAr} {q : Int}
section
variable [Decidable (SignsOk c s)]
end
theorem SignsOk.at_ (h : SignsOk c s) (ha : e ∈ c.2.2) : (0 ≤ e.1 ∧ e.1 < (s.size : Int)) ∧ 0 ≤ e.2.2.2 ∧ e.2.2.2 < (s.size : Int) := by
  have h1 := arc_inr (h.2.2.arcs e ha)
  rw [h.2.1]
  exact h1
end

end Go.Proofs.YtnakmhfjafecpaaGreat

/- Walks over abstract states: the arcs that leave a state; the place of a name. -/
namespace Go.Proofs.YtnakmhfjafecpaaGreat
open Go.RowKit
set_option maxRecDepth 100000
set_option maxHeartbeats 4000000

/-- Inside a deletion: i are kept of the first j. -/
def DelI {α : Type _} (p : α → Bool) (l0 l : List α) (i j : Int) : Prop := (0 ≤ i ∧ i < j ∧ j ≤ (l.length : Int)) ∧ l.length = l0.length ∧ l.take i.toNat = (l0.take j.toNat).filter p ∧ l.drop j.toNat = l0.drop j.toNat
section
variable {α : Type _} {p f : α → Bool} {l0 l : List α} {i j : Int} {x : α}
theorem idxF_cases (f : α → Bool) (l : List α) : (idxF f l = -1 ∧ ∀ x ∈ l, f x = false) ∨ ∃ (k : Nat) (x : α), idxF f l = (k : Int) ∧ l[k]? = some x ∧ f x = true ∧ NoneTo f l k := by
  unfold idxF
  cases h : l.findIdx? f with
  | none => exact .inl ⟨rfl, fun x hx => by simpa using List.findIdx?_eq_none_iff.1 h x hx⟩
  | some k =>
    obtain ⟨h1, h2, h3⟩ := List.findIdx?_eq_some_iff_getElem.1 h
    exact .inr ⟨k, l[k], rfl, List.getElem?_eq_getElem h1, h2, fun j hj y hy => by
      obtain ⟨h4, h5⟩ := List.getElem?_eq_some_iff.1 hy
      have := h3 j hj
      rw [h5] at this
      simpa using this⟩
theorem DelI.start (h : ¬ idxF f l = -1) : DelI (fun x => !f x) l l (idxF f l) (idxF f l + 1) := by
  rcases idxF_cases f l with ⟨h2, _⟩ | ⟨k, x, h2, h3, h4, h5⟩
  · exact absurd h2 h
  · have hk := (List.getElem?_eq_some_iff.1 h3).1
    rw [h2]
    refine ⟨by omega, rfl, ?_, rfl⟩
    rw [show ((k : Int) + 1).toNat = k + 1 by omega, show ((k : Int)).toNat = k by omega, take_snoc h3, List.filter_append]
    have : ([x].filter fun x => !f x) = [] := by simp [h4]
    rw [this, List.append_nil]
    refine (List.filter_eq_self.2 fun y hy => ?_).symm
    obtain ⟨n, hn⟩ := List.mem_iff_getElem?.1 hy
    have hn2 := (List.getElem?_eq_some_iff.1 hn).1
    rw [List.length_take] at hn2
    rw [List.getElem?_take_of_lt (by omega)] at hn
    rw [h5 n (by omega) y hn]; rfl
theorem DelI.at_ (h : DelI p l0 l i j) (hx : l[j.toNat]? = some x) : l0[j.toNat]? = some x := by
  obtain ⟨h1, h2, h3, h4⟩ := h
  have := congrArg (fun l : List α => l[0]?) h4
  simpa [hx] using this.symm
theorem DelI.lt (h : DelI p l0 l i j) (hx : l[j.toNat]? = some x) : j < (l.length : Int) := by
  have := (List.getElem?_eq_some_iff.1 hx).1
  obtain ⟨h1, _⟩ := h
  omega
theorem DelI.keep (h : DelI p l0 l i j) (hx : l[j.toNat]? = some x) (hp : p x = true) : DelI p l0 (l.set i.toNat x) (i + 1) (j + 1) := by
  have h0 := h.at_ hx
  have hl := h.lt hx
  obtain ⟨h1, h2, h3, h4⟩ := h
  refine ⟨by rw [List.length_set]; omega, by rw [List.length_set]; exact h2, ?_, ?_⟩
  · have hg : (l.set i.toNat x)[i.toNat]? = some x := List.getElem?_set_self (by omega)
    rw [show (j + 1).toNat = j.toNat + 1 by omega, show (i + 1).toNat = i.toNat + 1 by omega, take_snoc hg, take_snoc h0, List.filter_append, List.take_set_of_le (Nat.le_refl _), h3]
    simp [hp]
  · have := congrArg (List.drop 1) h4
    rw [List.drop_drop, List.drop_drop] at this
    rw [show (j + 1).toNat = j.toNat + 1 by omega, List.drop_set_of_lt (by omega)]
    exact this
end
end Go.Proofs.YtnakmhfjafecpaaGreat

/- Walks over abstract states: a signal is put in, states are numbered. -/
namespace Go.Proofs.YtnakmhfjafecpaaGreat
open Go.RowKit
set_option maxRecDepth 100000
set_option maxHeartbeats 4000000

abbrev PSt := Int × Bool
/-- The number of a state of the new graph. -/
def ixP (ps : List PSt) (p : PSt) : Int := (ps.idxOf p : Nat)
def psP (ps : List PSt) (p : PSt) : List PSt := if p ∈ ps then ps else ps ++ [p]
def cdP (c : DSg) (ps : List PSt) (cs : List ByteArray) (p : PSt) : List ByteArray := if p ∈ ps then cs else cs ++ [codeAt c p.1 ++ ⟨#[if p.2 then 49 else 48]⟩]
def idxG : Nat → List PSt → List (PSt × Int)
  | _, [] => []
  | n, p :: ps => (p, (n : Int)) :: idxG (n + 1) ps
def idxM (ps : List PSt) : List (PSt × Int) := idxG 0 ps
section
variable {c : DSg} {ps : List PSt} {p : PSt} {cs : List ByteArray} {n : Nat} {code : ByteArray}
end

end Go.Proofs.YtnakmhfjafecpaaGreat

/- Walks over abstract states: the arcs that leave a state of the new graph. -/
namespace Go.Proofs.YtnakmhfjafecpaaGreat
open Go.RowKit
set_option maxRecDepth 100000
set_option maxHeartbeats 4000000

abbrev Ins := List PSt × List ByteArray × List DAr
def waitsP (s : ByteArray) (p : PSt) : Bool := (decide (bAt s p.1 = 43) && !p.2) || (decide (bAt s p.1 = 45) && p.2)
def skipP (s : ByteArray) (p : PSt) (a : DAr) : Bool := (decide (bAt s a.2.2.2 = 48) && p.2) || (decide (bAt s a.2.2.2 = 49) && !p.2) || (waitsP s p && delV s a)
def arcP (c : DSg) (st : Ins) (k : Int) (l : DLabel) (p : PSt) : Ins := (psP st.1 p, cdP c st.1 st.2.1 p, st.2.2 ++ [(k, l.1, l.2, ixP st.1 p)])
def stepP (c : DSg) (s : ByteArray) (k : Int) (p : PSt) (st : Ins) (a : DAr) : Ins := if skipP s p a = true then st else arcP c st k (a.2.1, a.2.2.1) (a.2.2.2, p.2)
def preP (c : DSg) (s : ByteArray) (st : Ins) (k : Int) (p : PSt) : Ins := if waitsP s p = true then arcP c st k ((c.1.length : Int), decide (bAt s p.1 = 43)) (p.1, !p.2) else st
def expP (c : DSg) (s : ByteArray) (st : Ins) (k : Int) : Ins := match st.1[k.toNat]? with
  | none => st
  | some p => (fromA c.2.2 p.1).foldl (stepP c s k p) (preP c s st k p)
section
variable {c : DSg} {s : ByteArray} {st : Ins} {k : Int} {p : PSt} {a : DAr} {i : Nat} {x : UInt8} {l : List DAr}
end

end Go.Proofs.YtnakmhfjafecpaaGreat

/- Walks over abstract states: the reference puts a signal in. -/
namespace Go.Proofs.YtnakmhfjafecpaaGreat
open Go.RowKit
set_option maxRecDepth 100000
set_option maxHeartbeats 4000000

def vB (b : Bool) : Int := if b then 1 else 0
def keyP (p : PSt) : Int := 2 * p.1 + vB p.2
def mayV (x : UInt8) (v : Int) : Bool := if x = 48 then decide (v = 0) else if x = 49 then decide (v = 1) else true
section
variable {c : DSg} {s : ByteArray} {ps : List PSt} {p : PSt} {cs : List ByteArray} {i : Nat} {k v z q : Int} {code : ByteArray} {a : DAr}
theorem vB_rng (b : Bool) : vB b = 0 ∨ vB b = 1 := by cases b <;> simp [vB]
theorem vB_one (b : Bool) : decide (vB b = 1) = b := by cases b <;> rfl
abbrev keyQ (k v : Int) : Int → Bool := fun z => decide (z = 2 * k + v)
end

end Go.Proofs.YtnakmhfjafecpaaGreat

/- Walks over abstract states: the graph with one signal more, both sides. -/
namespace Go.Proofs.YtnakmhfjafecpaaGreat
open Go.RowKit
set_option maxRecDepth 100000
set_option maxHeartbeats 4000000

def startB (s : ByteArray) : Bool := decide (bAt s 0 = 49) || decide (bAt s 0 = 45)
def startP (c : DSg) (s : ByteArray) : Ins := (psP [] (0, startB s), cdP c [] [] (0, startB s), [])
def runP (c : DSg) (s : ByteArray) : Nat → Nat → Ins → Ins
  | 0, _, st => st
  | f + 1, k, st => if k < st.1.length then runP c s f (k + 1) (expP c s st (k : Int)) else st
def buildP (c : DSg) (s : ByteArray) : Ins := runP c s 601 0 (startP c s)
def outP (c : DSg) (name : ByteArray) (st : Ins) : DSg := (c.1 ++ [(name, 3)], st.2.1, st.2.2)
/-- What holds of the graph while it is built. -/
structure InsI (c : DSg) (st : Ins) : Prop where
  rng : ∀ p ∈ st.1, 0 ≤ p.1 ∧ p.1 < (c.2.1.length : Int)
  nd : st.1.Nodup
  len : st.2.1.length = st.1.length
section
variable {c : DSg} {s name : ByteArray} {st : Ins} {ps : List PSt} {cs : List ByteArray} {as_ : List DAr} {p : PSt} {k : Int} {l : DLabel} {i j n : Nat} {b : Bool} {z : Int}
theorem nodup_lt : ∀ (n : Nat) (l : List Nat), l.Nodup → (∀ x ∈ l, x < n) → l.length ≤ n
  | 0, [], _, _ => Nat.le_refl _
  | 0, x :: l, _, h => absurd (h x (List.mem_cons_self ..)) (Nat.not_lt_zero x)
  | n + 1, l, hd, h => by
    have h1 := nodup_lt n (l.erase n) (hd.erase n) fun x hx => by
      have h2 := h x (List.mem_of_mem_erase hx)
      have h3 : x ≠ n := fun e => by subst e; exact (List.Nodup.not_mem_erase hd) hx
      omega
    have h2 := List.length_erase (a := n) (l := l)
    split at h2 <;> omega
theorem InsI.few (h : InsI c st) (hn : c.2.1.length ≤ 300) : st.1.length ≤ 600 := by
  have h1 := nodup_lt 600 (st.1.map fun p => (keyP p).toNat) ?_ ?_
  · simpa using h1
  · rw [List.Nodup, List.pairwise_map]
    refine List.Pairwise.imp_of_mem ?_ h.nd
    intro a b ha hb hne e
    apply hne
    have h2 := h.rng a ha
    have h3 := h.rng b hb
    have h4 := vB_rng a.2
    have h5 := vB_rng b.2
    unfold keyP at e
    have h6 : a.1 = b.1 ∧ vB a.2 = vB b.2 := by omega
    refine Prod.ext h6.1 ?_
    rw [← vB_one a.2, h6.2, vB_one]
  · intro x hx
    obtain ⟨p, hp, rfl⟩ := List.mem_map.1 hx
    have h2 := h.rng p hp
    have h4 := vB_rng p.2
    unfold keyP
    omega
end
abbrev hasName (name : ByteArray) : DSignal → Bool := fun x => decide (x.1 = name)
section
variable [∀ c, Decidable (SgOk c)] [∀ s, Decidable (NameOk s)] {c : DSg} {s name : ByteArray} {st : Ins}
def insB (c : DSg) (name s : ByteArray) : Bool := okP c s && decide (NameOk name) && !(c.1.any (hasName name)) && !decide (c.1.length = 8)
def insZ : DSg × List Int := (zeroSG, [])
def insV (c : DSg) (name s : ByteArray) : (DSg × List Int) × Bool :=
  if insB c name s = true ∧ SgOk (outP c name (buildP c s)) then ((outP c name (buildP c s), (buildP c s).1.map fun p => p.1), true) else (insZ, false)
def ins2V (c : DSg) (name s : ByteArray) : (DSg × List Int) × Bool :=
  if insB c name s = true then ((outP c name (buildP c s), (buildP c s).1.map fun p => p.1), decide (SgOk (outP c name (buildP c s)))) else (insZ, false)
end

end Go.Proofs.YtnakmhfjafecpaaGreat
