/- The measures of the laws: what each 'sz..' returns. -/
import Derived.Test.YtbelopdphlllnaaTypes
import Derived.Test.YtbelopdphlllnaaProg
namespace Go.Proofs.Ytbelopdphlllnaa
open Go.RowKit

theorem tot_sl {E : TypeId} {e : Ty} (xs : List e.Den) : Ty.tot (.sl E e) xs = xs.length + (xs.map e.tot).sum := rfl
/-- What is left of l behind t: -1 for less than nothing. -/
def CutTo (l : Int) (t : Nat) (l' : Int) : Prop := (l < t ∧ l' = -1) ∨ (t ≤ l ∧ l' = l - t)
theorem CutTo.le {l l' : Int} {t : Nat} (h : CutTo l t l') (h0 : 0 ≤ l) (h1 : l ≤ 1048576) : -1 ≤ l' ∧ l' ≤ 1048576 := by unfold CutTo at h; omega
def SzPost (w : World) (l : Int) (t : Nat) (e : Ending) (w' : World) : Prop := ∃ l', e = .returned (.int .i64 l') ∧ CutTo l t l' ∧ Nw w w'

theorem szSignal_any (v0 v1 : Value) (x : DSignal) (left : Int) (w : World) (hr : Rep lSignal w [v0, v1] x) (h0 : 0 ≤ left) (h1 : left ≤ 1048576) :
    Calls Try.prog 94 #[.agg #[v0, v1], .int .i64 left] w (SzPost w left (Ty.tot lSignal x)) := by
  obtain ⟨x0, x1⟩ := x
  obtain ⟨r0, q0⟩ := hr.pr1 rfl
  have r1 := q0
  obtain ⟨rfl, hs0⟩ := r0.str_
  have hs0 : x0.size ≤ 9223372036854775807 := hs0
  obtain ⟨rfl, hi1a, hi1b⟩ := r1.int_
  have ht : Ty.tot lSignal (x0, x1) = x0.size + (0) := rfl
  rw [ht]
  go_enter Try.func94, Try.ntmps94
  go_wp2
  all_goals
    go_ret
    (try unfold CutTo at *)
    exact ⟨_, rfl, by unfold CutTo; omega, by (repeat (first | with_reducible exact Nw.refl _ | with_reducible assumption | with_reducible apply Nw.alloc | with_reducible apply Nw.drew | with_reducible apply Nw.drewN | (with_reducible refine Nw.setCell2 ?_ ?_; focus (first | (simp; done) | (simp; omega))) | with_reducible refine Nw.trans2 (by assumption) ?_))⟩

theorem szSignalS_any (v : Value) (xs : List (DSignal)) (left : Int) (w : World) (hr : Rep (.sl 133 lSignal) w [v] xs) (h0 : 0 ≤ left) (h1 : left ≤ 1048576) :
    Calls Try.prog 42 #[v, .int .i64 left] w (SzPost w left (Ty.tot (.sl 133 lSignal) xs)) := by
  obtain ⟨A, c, rfl, hl, hc⟩ := hr.slv
  have hm : xs.length ≤ 9223372036854775807 := by unfold maxLen at hc; omega
  go_enter Try.func42, Try.ntmps42
  go_wp2
  · go_ret
    exact ⟨_, rfl, by unfold CutTo; rw [tot_sl]; omega, Nw.refl _⟩
  · rename_i hge
    have hge : 0 ≤ left - xs.length := by omega
    go_loopw [1, 5] (fun l i wr => ∃ k : Nat, k ≤ xs.length ∧ i = .int .i64 k ∧ l = .int .i64 (left - xs.length - ((xs.take k).map (Ty.tot lSignal)).sum) ∧ 0 ≤ left - xs.length - ((xs.take k).map (Ty.tot lSignal)).sum ∧ Nw w wr)
      (fun _ i _ => xs.length - (intOf i).toNat)
    case atStart => exact ⟨0, Nat.zero_le _, rfl, by simp, by simpa using hge, Nw.refl _⟩
    case round =>
      obtain ⟨k, hk, rfl, rfl, hl, hq⟩ := hrel
      have h2 := sum_take_le (Ty.tot lSignal) xs k
      by_cases hlt : k < xs.length
      · obtain ⟨b, o, v0, v1, rfl, hx, c0, c1⟩ := (hr.nw hq).at2 rfl (List.getElem?_eq_getElem hlt)
        have hs := sum_take_succ (Ty.tot lSignal) xs k hlt
        generalize hS : ((xs.take k).map (Ty.tot lSignal)).sum = S at *
        clear hS
        generalize hS' : ((xs.take (k + 1)).map (Ty.tot lSignal)).sum = S' at *
        have HS : Hid (S' = S + Ty.tot lSignal xs[k]) := hs
        clear hs
        go_wp2_with (go_at_call 94; refine (szSignal_any _ _ _ _ _ (by exact hx) (by omega) (by omega)).mono ?_; rintro e w1 ⟨l1, rfl, hl1, hq1⟩; have hb1 := hl1.le (by omega) (by omega))
        · rename_i hneg
          have h4 := HS.out
          have h5 := sum_take_le (Ty.tot lSignal) xs (k + 1)
          unfold CutTo at hl1
          go_ret
          exact ⟨_, rfl, by unfold CutTo; rw [tot_sl]; omega, hq.trans hq1⟩
        · go_roundw
          case rel =>
            rename_i hneg
            have h4 := HS.out
            unfold CutTo at hl1
            exact ⟨k + 1, by omega, by go_num, by rw [hS']; simp; omega, by rw [hS']; omega, hq.trans hq1⟩
          case measure => simp [intOf]; omega
      · go_wp2
        go_ret
        have : k = xs.length := by omega
        subst this
        rw [List.take_length] at hl ⊢
        exact ⟨_, rfl, by unfold CutTo; rw [tot_sl]; omega, hq⟩

theorem szIntS_any (v : Value) (xs : List (Int)) (left : Int) (w : World) (hr : Rep (.sl 3 .int) w [v] xs) (h0 : 0 ≤ left) (h1 : left ≤ 1048576) :
    Calls Try.prog 204 #[v, .int .i64 left] w (SzPost w left (Ty.tot (.sl 3 .int) xs)) := by
  obtain ⟨A, c, rfl, hl, hc⟩ := hr.slv
  have hm : xs.length ≤ 9223372036854775807 := by unfold maxLen at hc; omega
  have hz : Ty.tot (.sl 3 .int) xs = xs.length := by rw [tot_sl, map_zero_sum xs (Ty.tot .int) (fun _ => rfl)]; rfl
  rw [hz]
  go_enter Try.func204, Try.ntmps204
  go_wp2
  all_goals
    go_ret
    exact ⟨_, rfl, by unfold CutTo; omega, Nw.refl _⟩

theorem szTransition_any (v0 v1 : Value) (x : DTransition) (left : Int) (w : World) (hr : Rep lTransition w [v0, v1] x) (h0 : 0 ≤ left) (h1 : left ≤ 1048576) :
    Calls Try.prog 154 #[.agg #[v0, v1], .int .i64 left] w (SzPost w left (Ty.tot lTransition x)) := by
  obtain ⟨x0, x1⟩ := x
  obtain ⟨r0, q0⟩ := hr.pr1 rfl
  have r1 := q0
  have ht : Ty.tot lTransition (x0, x1) = Ty.tot (.sl 3 .int) x0 + (Ty.tot (.sl 3 .int) x1) := rfl
  rw [ht]
  go_enter Try.func154, Try.ntmps154
  go_wp2_with (first | (go_at_call 204; refine (szIntS_any _ _ _ _ (by first | exact r0.nw (by (repeat (first | with_reducible exact Nw.refl _ | with_reducible assumption | with_reducible apply Nw.alloc | with_reducible apply Nw.drew | with_reducible apply Nw.drewN | (with_reducible refine Nw.setCell2 ?_ ?_; focus (first | (simp; done) | (simp; omega))) | with_reducible refine Nw.trans2 (by assumption) ?_))) | exact r1.nw (by (repeat (first | with_reducible exact Nw.refl _ | with_reducible assumption | with_reducible apply Nw.alloc | with_reducible apply Nw.drew | with_reducible apply Nw.drewN | (with_reducible refine Nw.setCell2 ?_ ?_; focus (first | (simp; done) | (simp; omega))) | with_reducible refine Nw.trans2 (by assumption) ?_)))) (by omega) (by omega)).mono ?_; rintro e w1 ⟨l1, rfl, hl1, hq1⟩; have hb1 := hl1.le (by omega) (by omega); obtain ⟨hc1, hf1⟩ := hq1.cells; have hz1 : w.heap.size < w1.heap.size := by (have hz2 := hq1.size; (try simp at hz2); omega)))
  all_goals
    go_ret
    (try unfold CutTo at *)
    exact ⟨_, rfl, by unfold CutTo; omega, by (repeat (first | with_reducible exact Nw.refl _ | with_reducible assumption | with_reducible apply Nw.alloc | with_reducible apply Nw.drew | with_reducible apply Nw.drewN | (with_reducible refine Nw.setCell2 ?_ ?_; focus (first | (simp; done) | (simp; omega))) | with_reducible refine Nw.trans2 (by assumption) ?_))⟩

theorem szTransitionS_any (v : Value) (xs : List (DTransition)) (left : Int) (w : World) (hr : Rep (.sl 201 lTransition) w [v] xs) (h0 : 0 ≤ left) (h1 : left ≤ 1048576) :
    Calls Try.prog 104 #[v, .int .i64 left] w (SzPost w left (Ty.tot (.sl 201 lTransition) xs)) := by
  obtain ⟨A, c, rfl, hl, hc⟩ := hr.slv
  have hm : xs.length ≤ 9223372036854775807 := by unfold maxLen at hc; omega
  go_enter Try.func104, Try.ntmps104
  go_wp2
  · go_ret
    exact ⟨_, rfl, by unfold CutTo; rw [tot_sl]; omega, Nw.refl _⟩
  · rename_i hge
    have hge : 0 ≤ left - xs.length := by omega
    go_loopw [1, 5] (fun l i wr => ∃ k : Nat, k ≤ xs.length ∧ i = .int .i64 k ∧ l = .int .i64 (left - xs.length - ((xs.take k).map (Ty.tot lTransition)).sum) ∧ 0 ≤ left - xs.length - ((xs.take k).map (Ty.tot lTransition)).sum ∧ Nw w wr)
      (fun _ i _ => xs.length - (intOf i).toNat)
    case atStart => exact ⟨0, Nat.zero_le _, rfl, by simp, by simpa using hge, Nw.refl _⟩
    case round =>
      obtain ⟨k, hk, rfl, rfl, hl, hq⟩ := hrel
      have h2 := sum_take_le (Ty.tot lTransition) xs k
      by_cases hlt : k < xs.length
      · obtain ⟨b, o, v0, v1, rfl, hx, c0, c1⟩ := (hr.nw hq).at2 rfl (List.getElem?_eq_getElem hlt)
        have hs := sum_take_succ (Ty.tot lTransition) xs k hlt
        generalize hS : ((xs.take k).map (Ty.tot lTransition)).sum = S at *
        clear hS
        generalize hS' : ((xs.take (k + 1)).map (Ty.tot lTransition)).sum = S' at *
        have HS : Hid (S' = S + Ty.tot lTransition xs[k]) := hs
        clear hs
        go_wp2_with (go_at_call 154; refine (szTransition_any _ _ _ _ _ (by exact hx) (by omega) (by omega)).mono ?_; rintro e w1 ⟨l1, rfl, hl1, hq1⟩; have hb1 := hl1.le (by omega) (by omega))
        · rename_i hneg
          have h4 := HS.out
          have h5 := sum_take_le (Ty.tot lTransition) xs (k + 1)
          unfold CutTo at hl1
          go_ret
          exact ⟨_, rfl, by unfold CutTo; rw [tot_sl]; omega, hq.trans hq1⟩
        · go_roundw
          case rel =>
            rename_i hneg
            have h4 := HS.out
            unfold CutTo at hl1
            exact ⟨k + 1, by omega, by go_num, by rw [hS']; simp; omega, by rw [hS']; omega, hq.trans hq1⟩
          case measure => simp [intOf]; omega
      · go_wp2
        go_ret
        have : k = xs.length := by omega
        subst this
        rw [List.take_length] at hl ⊢
        exact ⟨_, rfl, by unfold CutTo; rw [tot_sl]; omega, hq⟩

theorem szNet_any (v0 v1 : Value) (x : DNet) (left : Int) (w : World) (hr : Rep lNet w [v0, v1] x) (h0 : 0 ≤ left) (h1 : left ≤ 1048576) :
    Calls Try.prog 52 #[.agg #[v0, v1], .int .i64 left] w (SzPost w left (Ty.tot lNet x)) := by
  obtain ⟨x0, x1⟩ := x
  obtain ⟨r0, q0⟩ := hr.pr1 rfl
  have r1 := q0
  obtain ⟨rfl, hi0a, hi0b⟩ := r0.int_
  have ht : Ty.tot lNet (x0, x1) = 0 + (Ty.tot (.sl 201 lTransition) x1) := rfl
  rw [ht]
  go_enter Try.func52, Try.ntmps52
  go_wp2_with (first | (go_at_call 104; refine (szTransitionS_any _ _ _ _ (by first | exact r1.nw (by (repeat (first | with_reducible exact Nw.refl _ | with_reducible assumption | with_reducible apply Nw.alloc | with_reducible apply Nw.drew | with_reducible apply Nw.drewN | (with_reducible refine Nw.setCell2 ?_ ?_; focus (first | (simp; done) | (simp; omega))) | with_reducible refine Nw.trans2 (by assumption) ?_)))) (by omega) (by omega)).mono ?_; rintro e w1 ⟨l1, rfl, hl1, hq1⟩; have hb1 := hl1.le (by omega) (by omega); obtain ⟨hc1, hf1⟩ := hq1.cells; have hz1 : w.heap.size < w1.heap.size := by (have hz2 := hq1.size; (try simp at hz2); omega)))
  all_goals
    go_ret
    (try unfold CutTo at *)
    exact ⟨_, rfl, by unfold CutTo; omega, by (repeat (first | with_reducible exact Nw.refl _ | with_reducible assumption | with_reducible apply Nw.alloc | with_reducible apply Nw.drew | with_reducible apply Nw.drewN | (with_reducible refine Nw.setCell2 ?_ ?_; focus (first | (simp; done) | (simp; omega))) | with_reducible refine Nw.trans2 (by assumption) ?_))⟩

theorem szLabelS_any (v : Value) (xs : List (DLabel)) (left : Int) (w : World) (hr : Rep (.sl 149 lLabel) w [v] xs) (h0 : 0 ≤ left) (h1 : left ≤ 1048576) :
    Calls Try.prog 53 #[v, .int .i64 left] w (SzPost w left (Ty.tot (.sl 149 lLabel) xs)) := by
  obtain ⟨A, c, rfl, hl, hc⟩ := hr.slv
  have hm : xs.length ≤ 9223372036854775807 := by unfold maxLen at hc; omega
  have hz : Ty.tot (.sl 149 lLabel) xs = xs.length := by rw [tot_sl, map_zero_sum xs (Ty.tot lLabel) (fun _ => rfl)]; rfl
  rw [hz]
  go_enter Try.func53, Try.ntmps53
  go_wp2
  all_goals
    go_ret
    exact ⟨_, rfl, by unfold CutTo; omega, Nw.refl _⟩

theorem szSTG_any (v0 v1 v2 v3 v4 : Value) (x : DSTG) (left : Int) (w : World) (hr : Rep lSTG w [v0, v1, v2, v3, v4] x) (h0 : 0 ≤ left) (h1 : left ≤ 1048576) :
    Calls Try.prog 14 #[.agg #[v0, v1, v2, v3, v4], .int .i64 left] w (SzPost w left (Ty.tot lSTG x)) := by
  obtain ⟨x0, x1, x2, x3⟩ := x
  obtain ⟨r0, q0⟩ := hr.pr2 rfl
  obtain ⟨r1, q1⟩ := q0.pr1 rfl
  obtain ⟨r2, q2⟩ := q1.pr1 rfl
  have r3 := q2
  obtain ⟨rfl, hs3⟩ := r3.str_
  have hs3 : x3.size ≤ 9223372036854775807 := hs3
  have ht : Ty.tot lSTG (x0, x1, x2, x3) = Ty.tot lNet x0 + (Ty.tot (.sl 133 lSignal) x1 + (Ty.tot (.sl 149 lLabel) x2 + (x3.size))) := rfl
  rw [ht]
  go_enter Try.func14, Try.ntmps14
  go_wp2_with (first | (go_at_call 52; refine (szNet_any _ _ _ _ _ (by first | exact r0.nw (by (repeat (first | with_reducible exact Nw.refl _ | with_reducible assumption | with_reducible apply Nw.alloc | with_reducible apply Nw.drew | with_reducible apply Nw.drewN | (with_reducible refine Nw.setCell2 ?_ ?_; focus (first | (simp; done) | (simp; omega))) | with_reducible refine Nw.trans2 (by assumption) ?_)))) (by omega) (by omega)).mono ?_; rintro e w1 ⟨l1, rfl, hl1, hq1⟩; have hb1 := hl1.le (by omega) (by omega); obtain ⟨hc1, hf1⟩ := hq1.cells; have hz1 : w.heap.size < w1.heap.size := by (have hz2 := hq1.size; (try simp at hz2); omega)) | (go_at_call 42; refine (szSignalS_any _ _ _ _ (by first | exact r1.nw (by (repeat (first | with_reducible exact Nw.refl _ | with_reducible assumption | with_reducible apply Nw.alloc | with_reducible apply Nw.drew | with_reducible apply Nw.drewN | (with_reducible refine Nw.setCell2 ?_ ?_; focus (first | (simp; done) | (simp; omega))) | with_reducible refine Nw.trans2 (by assumption) ?_)))) (by omega) (by omega)).mono ?_; rintro e w1 ⟨l1, rfl, hl1, hq1⟩; have hb1 := hl1.le (by omega) (by omega); obtain ⟨hc1, hf1⟩ := hq1.cells; have hz1 : w.heap.size < w1.heap.size := by (have hz2 := hq1.size; (try simp at hz2); omega)) | (go_at_call 53; refine (szLabelS_any _ _ _ _ (by first | exact r2.nw (by (repeat (first | with_reducible exact Nw.refl _ | with_reducible assumption | with_reducible apply Nw.alloc | with_reducible apply Nw.drew | with_reducible apply Nw.drewN | (with_reducible refine Nw.setCell2 ?_ ?_; focus (first | (simp; done) | (simp; omega))) | with_reducible refine Nw.trans2 (by assumption) ?_)))) (by omega) (by omega)).mono ?_; rintro e w1 ⟨l1, rfl, hl1, hq1⟩; have hb1 := hl1.le (by omega) (by omega); obtain ⟨hc1, hf1⟩ := hq1.cells; have hz1 : w.heap.size < w1.heap.size := by (have hz2 := hq1.size; (try simp at hz2); omega)))
  all_goals
    go_ret
    (try unfold CutTo at *)
    exact ⟨_, rfl, by unfold CutTo; omega, by (repeat (first | with_reducible exact Nw.refl _ | with_reducible assumption | with_reducible apply Nw.alloc | with_reducible apply Nw.drew | with_reducible apply Nw.drewN | (with_reducible refine Nw.setCell2 ?_ ?_; focus (first | (simp; done) | (simp; omega))) | with_reducible refine Nw.trans2 (by assumption) ?_))⟩

end Go.Proofs.Ytbelopdphlllnaa
