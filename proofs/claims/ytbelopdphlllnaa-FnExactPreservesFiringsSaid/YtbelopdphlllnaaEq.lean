/- What each 'eq..' returns of equal data: true. -/
import Derived.Test.YtbelopdphlllnaaSz
import Derived.Test.YtbelopdphlllnaaOwn
import Derived.StillTailTactics
namespace Go.Proofs.Ytbelopdphlllnaa
open Go.RowKit

def RetTrue (w : World) (e : Ending) (w' : World) : Prop := e = .returned (.bool true) ∧ Nw w w'

set_option maxHeartbeats 1000000 in
theorem eqSignal_same (v0 v1 u0 u1 : Value) (x : DSignal) (w : World) (hr : Rep tSignal w [v0, v1] x) (hs : Rep tSignal w [u0, u1] x) :
    Calls Try.prog 102 #[.agg #[v0, v1], .agg #[u0, u1]] w (RetTrue w) := by
  obtain ⟨x0, x1⟩ := x
  obtain ⟨r0, q0⟩ := hr.pr1 rfl
  have r1 := q0
  obtain ⟨rfl, hs0⟩ := r0.str_
  have hs0 : x0.size ≤ 9223372036854775807 := hs0
  obtain ⟨rfl, hi1a, hi1b⟩ := r1.int_
  obtain ⟨s0, p0⟩ := hs.pr1 rfl
  have s1 := p0
  obtain ⟨rfl, -⟩ := s0.str_
  obtain ⟨rfl, -⟩ := s1.int_
  go_enter Try.func102, Try.ntmps102
  go_wp2
  go_ret
  exact ⟨rfl, by (repeat (first | with_reducible exact Nw.refl _ | with_reducible assumption | with_reducible apply Nw.alloc | with_reducible apply Nw.drew | with_reducible apply Nw.drewN | (with_reducible refine Nw.setCell2 ?_ ?_; focus (first | (simp; done) | (simp; omega))) | with_reducible refine Nw.trans2 (by assumption) ?_))⟩

set_option maxRecDepth 100000 in
set_option maxHeartbeats 1000000 in
theorem eqSignalS_same (v u : Value) (xs : List (DSignal)) (w : World) (hr : Rep (.sl 129 tSignal) w [v] xs) (hs : Rep (.sl 129 tSignal) w [u] xs) :
    Calls Try.prog 50 #[v, u] w (RetTrue w) := by
  obtain ⟨A, c, rfl, hl, hc⟩ := hr.slv
  obtain ⟨A', c', rfl, hl', hc'⟩ := hs.slv
  have hm : xs.length ≤ 9223372036854775807 := by unfold maxLen at hc; omega
  go_enter Try.func50, Try.ntmps50
  go_wp2
  go_loopw [5] (fun i wr => ∃ k : Nat, k ≤ xs.length ∧ i = .int .i64 k ∧ Nw w wr) (fun i _ => xs.length - (intOf i).toNat)
  case atStart => exact ⟨0, Nat.zero_le _, rfl, Nw.refl _⟩
  case round =>
    obtain ⟨k, hk, rfl, hq⟩ := hrel
    by_cases hlt : k < xs.length
    · obtain ⟨b, o, v0, v1, rfl, hx, c0, c1⟩ := (hr.nw hq).at2 rfl (List.getElem?_eq_getElem hlt)
      obtain ⟨b', o', u0, u1, rfl, hy, d0, d1⟩ := (hs.nw hq).at2 rfl (List.getElem?_eq_getElem hlt)
      have hi0 : (0 : Int) ≤ k := by omega
      have hi1 : (k : Int) < xs.length := by omega
      go_wp2_with fail
      go_still_tail 8, (by kernel_rfl)
      change wpList _ _ _ _ _ wr.drew
      go_wp2_with (go_at_call 102; refine (eqSignal_same _ _ _ _ _ _ (by exact hx.drew) (by exact hy.drew)).mono ?_; rintro e w1 ⟨rfl, hq1⟩)
      go_roundw
      case rel => exact ⟨k + 1, by omega, by go_num, hq.drew.trans hq1⟩
      case measure => simp [intOf]; omega
    · go_wp2
      go_ret
      exact ⟨rfl, hq⟩

set_option maxRecDepth 100000 in
set_option maxHeartbeats 1000000 in
theorem eqIntS_same (v u : Value) (xs : List (Int)) (w : World) (hr : Rep (.sl 3 .int) w [v] xs) (hs : Rep (.sl 3 .int) w [u] xs) :
    Calls Try.prog 32 #[v, u] w (RetTrue w) := by
  obtain ⟨A, c, rfl, hl, hc⟩ := hr.slv
  obtain ⟨A', c', rfl, hl', hc'⟩ := hs.slv
  have hm : xs.length ≤ 9223372036854775807 := by unfold maxLen at hc; omega
  go_enter Try.func32, Try.ntmps32
  go_wp2
  go_loopw [5] (fun i wr => ∃ k : Nat, k ≤ xs.length ∧ i = .int .i64 k ∧ Nw w wr) (fun i _ => xs.length - (intOf i).toNat)
  case atStart => exact ⟨0, Nat.zero_le _, rfl, Nw.refl _⟩
  case round =>
    obtain ⟨k, hk, rfl, hq⟩ := hrel
    by_cases hlt : k < xs.length
    · obtain ⟨b, o, v0, rfl, hx, c0⟩ := (hr.nw hq).at1 rfl (List.getElem?_eq_getElem hlt)
      obtain ⟨b', o', u0, rfl, hy, d0⟩ := (hs.nw hq).at1 rfl (List.getElem?_eq_getElem hlt)
      obtain ⟨rfl, -⟩ := hx.int_
      obtain ⟨rfl, -⟩ := hy.int_
      have hi0 : (0 : Int) ≤ k := by omega
      have hi1 : (k : Int) < xs.length := by omega
      go_wp2_with fail
      go_quiet (fail)
      go_wp2
      go_roundw
      case rel => exact ⟨k + 1, by omega, by go_num, hq.drewN _⟩
      case measure => simp [intOf]; omega
    · go_wp2
      go_ret
      exact ⟨rfl, hq⟩

set_option maxHeartbeats 1000000 in
theorem eqTransition_same (v0 v1 u0 u1 : Value) (x : DTransition) (w : World) (hr : Rep tTransition w [v0, v1] x) (hs : Rep tTransition w [u0, u1] x) :
    Calls Try.prog 161 #[.agg #[v0, v1], .agg #[u0, u1]] w (RetTrue w) := by
  obtain ⟨x0, x1⟩ := x
  obtain ⟨r0, q0⟩ := hr.pr1 rfl
  have r1 := q0
  obtain ⟨s0, p0⟩ := hs.pr1 rfl
  have s1 := p0
  go_enter Try.func161, Try.ntmps161
  go_wp2_with (first | (go_at_call 32; refine (eqIntS_same _ _ _ _ (by first | exact r0.nw (by (repeat (first | with_reducible exact Nw.refl _ | with_reducible assumption | with_reducible apply Nw.alloc | with_reducible apply Nw.drew | with_reducible apply Nw.drewN | (with_reducible refine Nw.setCell2 ?_ ?_; focus (first | (simp; done) | (simp; omega))) | with_reducible refine Nw.trans2 (by assumption) ?_))) | exact r1.nw (by (repeat (first | with_reducible exact Nw.refl _ | with_reducible assumption | with_reducible apply Nw.alloc | with_reducible apply Nw.drew | with_reducible apply Nw.drewN | (with_reducible refine Nw.setCell2 ?_ ?_; focus (first | (simp; done) | (simp; omega))) | with_reducible refine Nw.trans2 (by assumption) ?_)))) (by first | exact s0.nw (by (repeat (first | with_reducible exact Nw.refl _ | with_reducible assumption | with_reducible apply Nw.alloc | with_reducible apply Nw.drew | with_reducible apply Nw.drewN | (with_reducible refine Nw.setCell2 ?_ ?_; focus (first | (simp; done) | (simp; omega))) | with_reducible refine Nw.trans2 (by assumption) ?_))) | exact s1.nw (by (repeat (first | with_reducible exact Nw.refl _ | with_reducible assumption | with_reducible apply Nw.alloc | with_reducible apply Nw.drew | with_reducible apply Nw.drewN | (with_reducible refine Nw.setCell2 ?_ ?_; focus (first | (simp; done) | (simp; omega))) | with_reducible refine Nw.trans2 (by assumption) ?_))))).mono ?_; rintro e w1 ⟨rfl, hq1⟩; obtain ⟨hc1, hf1⟩ := hq1.cells; have hz1 : w.heap.size < w1.heap.size ∧ w.heap.size + 1 < w1.heap.size := (by (have hz2 := hq1.size; (try simp at hz2); omega)); obtain ⟨hz1, hz3⟩ := hz1; have hq1 : Nw w w1 := (by (repeat (first | with_reducible exact Nw.refl _ | with_reducible assumption | with_reducible apply Nw.alloc | with_reducible apply Nw.drew | with_reducible apply Nw.drewN | (with_reducible refine Nw.setCell2 ?_ ?_; focus (first | (simp; done) | (simp; omega))) | with_reducible refine Nw.trans2 (by assumption) ?_)))))
  go_ret
  exact ⟨rfl, by (repeat (first | with_reducible exact Nw.refl _ | with_reducible assumption | with_reducible apply Nw.alloc | with_reducible apply Nw.drew | with_reducible apply Nw.drewN | (with_reducible refine Nw.setCell2 ?_ ?_; focus (first | (simp; done) | (simp; omega))) | with_reducible refine Nw.trans2 (by assumption) ?_))⟩

set_option maxRecDepth 100000 in
set_option maxHeartbeats 1000000 in
theorem eqTransitionS_same (v u : Value) (xs : List (DTransition)) (w : World) (hr : Rep (.sl 146 tTransition) w [v] xs) (hs : Rep (.sl 146 tTransition) w [u] xs) :
    Calls Try.prog 114 #[v, u] w (RetTrue w) := by
  obtain ⟨A, c, rfl, hl, hc⟩ := hr.slv
  obtain ⟨A', c', rfl, hl', hc'⟩ := hs.slv
  have hm : xs.length ≤ 9223372036854775807 := by unfold maxLen at hc; omega
  go_enter Try.func114, Try.ntmps114
  go_wp2
  go_loopw [5] (fun i wr => ∃ k : Nat, k ≤ xs.length ∧ i = .int .i64 k ∧ Nw w wr) (fun i _ => xs.length - (intOf i).toNat)
  case atStart => exact ⟨0, Nat.zero_le _, rfl, Nw.refl _⟩
  case round =>
    obtain ⟨k, hk, rfl, hq⟩ := hrel
    by_cases hlt : k < xs.length
    · obtain ⟨b, o, v0, v1, rfl, hx, c0, c1⟩ := (hr.nw hq).at2 rfl (List.getElem?_eq_getElem hlt)
      obtain ⟨b', o', u0, u1, rfl, hy, d0, d1⟩ := (hs.nw hq).at2 rfl (List.getElem?_eq_getElem hlt)
      have hi0 : (0 : Int) ≤ k := by omega
      have hi1 : (k : Int) < xs.length := by omega
      go_wp2_with fail
      go_still_tail 8, (by kernel_rfl)
      change wpList _ _ _ _ _ wr.drew
      go_wp2_with (go_at_call 161; refine (eqTransition_same _ _ _ _ _ _ (by exact hx.drew) (by exact hy.drew)).mono ?_; rintro e w1 ⟨rfl, hq1⟩)
      go_roundw
      case rel => exact ⟨k + 1, by omega, by go_num, hq.drew.trans hq1⟩
      case measure => simp [intOf]; omega
    · go_wp2
      go_ret
      exact ⟨rfl, hq⟩

set_option maxHeartbeats 1000000 in
theorem eqNet_same (v0 v1 u0 u1 : Value) (x : DNet) (w : World) (hr : Rep tNet w [v0, v1] x) (hs : Rep tNet w [u0, u1] x) :
    Calls Try.prog 61 #[.agg #[v0, v1], .agg #[u0, u1]] w (RetTrue w) := by
  obtain ⟨x0, x1⟩ := x
  obtain ⟨r0, q0⟩ := hr.pr1 rfl
  have r1 := q0
  obtain ⟨rfl, hi0a, hi0b⟩ := r0.int_
  obtain ⟨s0, p0⟩ := hs.pr1 rfl
  have s1 := p0
  obtain ⟨rfl, -⟩ := s0.int_
  go_enter Try.func61, Try.ntmps61
  go_wp2_with (first | (go_at_call 114; refine (eqTransitionS_same _ _ _ _ (by first | exact r1.nw (by (repeat (first | with_reducible exact Nw.refl _ | with_reducible assumption | with_reducible apply Nw.alloc | with_reducible apply Nw.drew | with_reducible apply Nw.drewN | (with_reducible refine Nw.setCell2 ?_ ?_; focus (first | (simp; done) | (simp; omega))) | with_reducible refine Nw.trans2 (by assumption) ?_)))) (by first | exact s1.nw (by (repeat (first | with_reducible exact Nw.refl _ | with_reducible assumption | with_reducible apply Nw.alloc | with_reducible apply Nw.drew | with_reducible apply Nw.drewN | (with_reducible refine Nw.setCell2 ?_ ?_; focus (first | (simp; done) | (simp; omega))) | with_reducible refine Nw.trans2 (by assumption) ?_))))).mono ?_; rintro e w1 ⟨rfl, hq1⟩; obtain ⟨hc1, hf1⟩ := hq1.cells; have hz1 : w.heap.size < w1.heap.size ∧ w.heap.size + 1 < w1.heap.size := (by (have hz2 := hq1.size; (try simp at hz2); omega)); obtain ⟨hz1, hz3⟩ := hz1; have hq1 : Nw w w1 := (by (repeat (first | with_reducible exact Nw.refl _ | with_reducible assumption | with_reducible apply Nw.alloc | with_reducible apply Nw.drew | with_reducible apply Nw.drewN | (with_reducible refine Nw.setCell2 ?_ ?_; focus (first | (simp; done) | (simp; omega))) | with_reducible refine Nw.trans2 (by assumption) ?_)))))
  go_ret
  exact ⟨rfl, by (repeat (first | with_reducible exact Nw.refl _ | with_reducible assumption | with_reducible apply Nw.alloc | with_reducible apply Nw.drew | with_reducible apply Nw.drewN | (with_reducible refine Nw.setCell2 ?_ ?_; focus (first | (simp; done) | (simp; omega))) | with_reducible refine Nw.trans2 (by assumption) ?_))⟩

set_option maxHeartbeats 1000000 in
theorem eqLabel_same (v0 v1 u0 u1 : Value) (x : DLabel) (w : World) (hr : Rep tLabel w [v0, v1] x) (hs : Rep tLabel w [u0, u1] x) :
    Calls Try.prog 115 #[.agg #[v0, v1], .agg #[u0, u1]] w (RetTrue w) := by
  obtain ⟨x0, x1⟩ := x
  obtain ⟨r0, q0⟩ := hr.pr1 rfl
  have r1 := q0
  obtain ⟨rfl, hi0a, hi0b⟩ := r0.int_
  obtain rfl := r1.bool_
  obtain ⟨s0, p0⟩ := hs.pr1 rfl
  have s1 := p0
  obtain ⟨rfl, -⟩ := s0.int_
  obtain rfl := s1.bool_
  go_enter Try.func115, Try.ntmps115
  go_wp2
  go_ret
  exact ⟨rfl, by (repeat (first | with_reducible exact Nw.refl _ | with_reducible assumption | with_reducible apply Nw.alloc | with_reducible apply Nw.drew | with_reducible apply Nw.drewN | (with_reducible refine Nw.setCell2 ?_ ?_; focus (first | (simp; done) | (simp; omega))) | with_reducible refine Nw.trans2 (by assumption) ?_))⟩

set_option maxRecDepth 100000 in
set_option maxHeartbeats 1000000 in
theorem eqLabelS_same (v u : Value) (xs : List (DLabel)) (w : World) (hr : Rep (.sl 131 tLabel) w [v] xs) (hs : Rep (.sl 131 tLabel) w [u] xs) :
    Calls Try.prog 62 #[v, u] w (RetTrue w) := by
  obtain ⟨A, c, rfl, hl, hc⟩ := hr.slv
  obtain ⟨A', c', rfl, hl', hc'⟩ := hs.slv
  have hm : xs.length ≤ 9223372036854775807 := by unfold maxLen at hc; omega
  go_enter Try.func62, Try.ntmps62
  go_wp2
  go_loopw [5] (fun i wr => ∃ k : Nat, k ≤ xs.length ∧ i = .int .i64 k ∧ Nw w wr) (fun i _ => xs.length - (intOf i).toNat)
  case atStart => exact ⟨0, Nat.zero_le _, rfl, Nw.refl _⟩
  case round =>
    obtain ⟨k, hk, rfl, hq⟩ := hrel
    by_cases hlt : k < xs.length
    · obtain ⟨b, o, v0, v1, rfl, hx, c0, c1⟩ := (hr.nw hq).at2 rfl (List.getElem?_eq_getElem hlt)
      obtain ⟨b', o', u0, u1, rfl, hy, d0, d1⟩ := (hs.nw hq).at2 rfl (List.getElem?_eq_getElem hlt)
      have hi0 : (0 : Int) ≤ k := by omega
      have hi1 : (k : Int) < xs.length := by omega
      go_wp2_with fail
      go_still_tail 8, (by kernel_rfl)
      change wpList _ _ _ _ _ wr.drew
      go_wp2_with (go_at_call 115; refine (eqLabel_same _ _ _ _ _ _ (by exact hx.drew) (by exact hy.drew)).mono ?_; rintro e w1 ⟨rfl, hq1⟩)
      go_roundw
      case rel => exact ⟨k + 1, by omega, by go_num, hq.drew.trans hq1⟩
      case measure => simp [intOf]; omega
    · go_wp2
      go_ret
      exact ⟨rfl, hq⟩

set_option maxHeartbeats 1000000 in
theorem eqSTG_same (v0 v1 v2 v3 v4 u0 u1 u2 u3 u4 : Value) (x : DSTG) (w : World) (hr : Rep tSTG w [v0, v1, v2, v3, v4] x) (hs : Rep tSTG w [u0, u1, u2, u3, u4] x) :
    Calls Try.prog 19 #[.agg #[v0, v1, v2, v3, v4], .agg #[u0, u1, u2, u3, u4]] w (RetTrue w) := by
  obtain ⟨x0, x1, x2, x3⟩ := x
  obtain ⟨r0, q0⟩ := hr.pr2 rfl
  obtain ⟨r1, q1⟩ := q0.pr1 rfl
  obtain ⟨r2, q2⟩ := q1.pr1 rfl
  have r3 := q2
  obtain ⟨rfl, hs3⟩ := r3.str_
  have hs3 : x3.size ≤ 9223372036854775807 := hs3
  obtain ⟨s0, p0⟩ := hs.pr2 rfl
  obtain ⟨s1, p1⟩ := p0.pr1 rfl
  obtain ⟨s2, p2⟩ := p1.pr1 rfl
  have s3 := p2
  obtain ⟨rfl, -⟩ := s3.str_
  go_enter Try.func19, Try.ntmps19
  go_wp2_with (first | (go_at_call 61; refine (eqNet_same _ _ _ _ _ _ (by first | exact r0.nw (by (repeat (first | with_reducible exact Nw.refl _ | with_reducible assumption | with_reducible apply Nw.alloc | with_reducible apply Nw.drew | with_reducible apply Nw.drewN | (with_reducible refine Nw.setCell2 ?_ ?_; focus (first | (simp; done) | (simp; omega))) | with_reducible refine Nw.trans2 (by assumption) ?_)))) (by first | exact s0.nw (by (repeat (first | with_reducible exact Nw.refl _ | with_reducible assumption | with_reducible apply Nw.alloc | with_reducible apply Nw.drew | with_reducible apply Nw.drewN | (with_reducible refine Nw.setCell2 ?_ ?_; focus (first | (simp; done) | (simp; omega))) | with_reducible refine Nw.trans2 (by assumption) ?_))))).mono ?_; rintro e w1 ⟨rfl, hq1⟩; obtain ⟨hc1, hf1⟩ := hq1.cells; have hz1 : w.heap.size < w1.heap.size ∧ w.heap.size + 1 < w1.heap.size := (by (have hz2 := hq1.size; (try simp at hz2); omega)); obtain ⟨hz1, hz3⟩ := hz1; have hq1 : Nw w w1 := (by (repeat (first | with_reducible exact Nw.refl _ | with_reducible assumption | with_reducible apply Nw.alloc | with_reducible apply Nw.drew | with_reducible apply Nw.drewN | (with_reducible refine Nw.setCell2 ?_ ?_; focus (first | (simp; done) | (simp; omega))) | with_reducible refine Nw.trans2 (by assumption) ?_)))) | (go_at_call 50; refine (eqSignalS_same _ _ _ _ (by first | exact r1.nw (by (repeat (first | with_reducible exact Nw.refl _ | with_reducible assumption | with_reducible apply Nw.alloc | with_reducible apply Nw.drew | with_reducible apply Nw.drewN | (with_reducible refine Nw.setCell2 ?_ ?_; focus (first | (simp; done) | (simp; omega))) | with_reducible refine Nw.trans2 (by assumption) ?_)))) (by first | exact s1.nw (by (repeat (first | with_reducible exact Nw.refl _ | with_reducible assumption | with_reducible apply Nw.alloc | with_reducible apply Nw.drew | with_reducible apply Nw.drewN | (with_reducible refine Nw.setCell2 ?_ ?_; focus (first | (simp; done) | (simp; omega))) | with_reducible refine Nw.trans2 (by assumption) ?_))))).mono ?_; rintro e w1 ⟨rfl, hq1⟩; obtain ⟨hc1, hf1⟩ := hq1.cells; have hz1 : w.heap.size < w1.heap.size ∧ w.heap.size + 1 < w1.heap.size := (by (have hz2 := hq1.size; (try simp at hz2); omega)); obtain ⟨hz1, hz3⟩ := hz1; have hq1 : Nw w w1 := (by (repeat (first | with_reducible exact Nw.refl _ | with_reducible assumption | with_reducible apply Nw.alloc | with_reducible apply Nw.drew | with_reducible apply Nw.drewN | (with_reducible refine Nw.setCell2 ?_ ?_; focus (first | (simp; done) | (simp; omega))) | with_reducible refine Nw.trans2 (by assumption) ?_)))) | (go_at_call 62; refine (eqLabelS_same _ _ _ _ (by first | exact r2.nw (by (repeat (first | with_reducible exact Nw.refl _ | with_reducible assumption | with_reducible apply Nw.alloc | with_reducible apply Nw.drew | with_reducible apply Nw.drewN | (with_reducible refine Nw.setCell2 ?_ ?_; focus (first | (simp; done) | (simp; omega))) | with_reducible refine Nw.trans2 (by assumption) ?_)))) (by first | exact s2.nw (by (repeat (first | with_reducible exact Nw.refl _ | with_reducible assumption | with_reducible apply Nw.alloc | with_reducible apply Nw.drew | with_reducible apply Nw.drewN | (with_reducible refine Nw.setCell2 ?_ ?_; focus (first | (simp; done) | (simp; omega))) | with_reducible refine Nw.trans2 (by assumption) ?_))))).mono ?_; rintro e w1 ⟨rfl, hq1⟩; obtain ⟨hc1, hf1⟩ := hq1.cells; have hz1 : w.heap.size < w1.heap.size ∧ w.heap.size + 1 < w1.heap.size := (by (have hz2 := hq1.size; (try simp at hz2); omega)); obtain ⟨hz1, hz3⟩ := hz1; have hq1 : Nw w w1 := (by (repeat (first | with_reducible exact Nw.refl _ | with_reducible assumption | with_reducible apply Nw.alloc | with_reducible apply Nw.drew | with_reducible apply Nw.drewN | (with_reducible refine Nw.setCell2 ?_ ?_; focus (first | (simp; done) | (simp; omega))) | with_reducible refine Nw.trans2 (by assumption) ?_)))))
  go_ret
  exact ⟨rfl, by (repeat (first | with_reducible exact Nw.refl _ | with_reducible assumption | with_reducible apply Nw.alloc | with_reducible apply Nw.drew | with_reducible apply Nw.drewN | (with_reducible refine Nw.setCell2 ?_ ?_; focus (first | (simp; done) | (simp; omega))) | with_reducible refine Nw.trans2 (by assumption) ?_))⟩

end Go.Proofs.Ytbelopdphlllnaa
