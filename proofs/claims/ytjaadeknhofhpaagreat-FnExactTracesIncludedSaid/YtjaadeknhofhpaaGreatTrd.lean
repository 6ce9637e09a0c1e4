/- What each 'eq..' returns of equal data: true. -/
import Derived.Test.YtjaadeknhofhpaaGreatTo
import Derived.Test.YtjaadeknhofhpaaGreatOwn
import Derived.StillTailTactics
import Derived.Test.YtjaadeknhofhpaaGreatProg
import Derived.KernelRfl
set_option linter.unusedSimpArgs false
set_option linter.unusedVariables false
set_option linter.unusedSectionVars false
namespace Go.Proofs.YtjaadeknhofhpaaGreat
open Go.RowKit

def RetTrue (w : World) (e : Ending) (w' : World) : Prop := e = .returned (.bool true) ∧ Nw w w'

set_option maxHeartbeats 1000000 in
theorem eqSignal_same (v0 v1 u0 u1 : Value) (x : DSignal) (w : World) (hr : Rep tSignal w [v0, v1] x) (hs : Rep tSignal w [u0, u1] x) :
    Calls Tryz.prog 222 #[.agg #[v0, v1], .agg #[u0, u1]] w (RetTrue w) := by
  obtain ⟨x0, x1⟩ := x
  obtain ⟨r0, q0⟩ := hr.pr1 rfl
  have r1 := q0
  obtain ⟨rfl, hs0⟩ := r0.str_
  have hs0 : x0.size ≤ 9223372036854775807 := hs0
  obtain ⟨rfl, hi1a, hi1b⟩ := r1.int_
  obtain ⟨s0, p0⟩ := hs.pr1 rfl
  have s1 := p0
  obtain ⟨rfl, -⟩ := s0.str_
  obtain ⟨rfl, -⟩ := s1.int_
  go_enter Tryz.func222, Tryz.ntmps222
  go_wp2
  go_ret
  exact ⟨rfl, by (repeat (first | with_reducible exact Nw.refl _ | with_reducible assumption | with_reducible apply Nw.alloc | with_reducible apply Nw.drew | with_reducible apply Nw.drewN | (with_reducible refine Nw.setCell2 ?_ ?_; focus (first | (simp; done) | (simp; omega))) | with_reducible refine Nw.trans2 (by assumption) ?_))⟩

set_option maxRecDepth 100000 in
set_option maxHeartbeats 1000000 in
theorem eqSignalS_same (v u : Value) (xs : List (DSignal)) (w : World) (hr : Rep (.sl 90 tSignal) w [v] xs) (hs : Rep (.sl 90 tSignal) w [u] xs) :
    Calls Tryz.prog 117 #[v, u] w (RetTrue w) := by
  obtain ⟨A, c, rfl, hl, hc⟩ := hr.slv
  obtain ⟨A', c', rfl, hl', hc'⟩ := hs.slv
  have hm : xs.length ≤ 9223372036854775807 := by unfold maxLen at hc; omega
  go_enter Tryz.func117, Tryz.ntmps117
  go_wp2
  go_loopw [5] (fun i wr => ∃ k : Nat, k ≤ xs.length ∧ i = .int .i64 k ∧ Nw w wr) (fun i _ => xs.length - (intOf i).toNat)
  case atStart => exact ⟨0, Nat.zero_le _, rfl, Nw.refl _⟩
  case round =>
    obtain ⟨k, hk, rfl, hq⟩ := hrel
    by_cases hlt : k < xs.length
    · obtain ⟨b, o, v0, v1, rfl, hx, c0, c1⟩ := (hr.nw hq).at2 rfl (List.getElem?_eq_getElem hlt)
      obtain ⟨b', o', u0, u1, rfl, hy, d0, d1⟩ := (hs.nw hq).at2 rfl (List.getElem?_eq_getElem hlt)
      have hi0 : (0 : Int) ≤ k := by omega
      have hi1 : (k : Int) < xs.length := by omega
      go_wp2_with fail
      go_still_tail 8, (by kernel_rfl)
      change wpList _ _ _ _ _ wr.drew
      go_wp2_with (go_at_call 222; refine (eqSignal_same _ _ _ _ _ _ (by exact hx.drew) (by exact hy.drew)).mono ?_; rintro e w1 ⟨rfl, hq1⟩)
      go_roundw
      case rel => exact ⟨k + 1, by omega, by go_num, hq.drew.trans hq1⟩
      case measure => simp [intOf]; omega
    · go_wp2
      go_ret
      exact ⟨rfl, hq⟩

set_option maxRecDepth 100000 in
set_option maxHeartbeats 1000000 in
theorem eqIntS_same (v u : Value) (xs : List (Int)) (w : World) (hr : Rep (.sl 3 .int) w [v] xs) (hs : Rep (.sl 3 .int) w [u] xs) :
    Calls Tryz.prog 350 #[v, u] w (RetTrue w) := by
  obtain ⟨A, c, rfl, hl, hc⟩ := hr.slv
  obtain ⟨A', c', rfl, hl', hc'⟩ := hs.slv
  have hm : xs.length ≤ 9223372036854775807 := by unfold maxLen at hc; omega
  go_enter Tryz.func350, Tryz.ntmps350
  go_wp2
  go_loopw [5] (fun i wr => ∃ k : Nat, k ≤ xs.length ∧ i = .int .i64 k ∧ Nw w wr) (fun i _ => xs.length - (intOf i).toNat)
  case atStart => exact ⟨0, Nat.zero_le _, rfl, Nw.refl _⟩
  case round =>
    obtain ⟨k, hk, rfl, hq⟩ := hrel
    by_cases hlt : k < xs.length
    · obtain ⟨b, o, v0, rfl, hx, c0⟩ := (hr.nw hq).at1 rfl (List.getElem?_eq_getElem hlt)
      obtain ⟨b', o', u0, rfl, hy, d0⟩ := (hs.nw hq).at1 rfl (List.getElem?_eq_getElem hlt)
      obtain ⟨rfl, -⟩ := hx.int_
      obtain ⟨rfl, -⟩ := hy.int_
      have hi0 : (0 : Int) ≤ k := by omega
      have hi1 : (k : Int) < xs.length := by omega
      go_wp2_with fail
      go_quiet (fail)
      go_wp2
      go_roundw
      case rel => exact ⟨k + 1, by omega, by go_num, hq.drewN _⟩
      case measure => simp [intOf]; omega
    · go_wp2
      go_ret
      exact ⟨rfl, hq⟩

set_option maxHeartbeats 1000000 in
theorem eqTransition_same (v0 v1 u0 u1 : Value) (x : DTransition) (w : World) (hr : Rep tTransition w [v0, v1] x) (hs : Rep tTransition w [u0, u1] x) :
    Calls Tryz.prog 293 #[.agg #[v0, v1], .agg #[u0, u1]] w (RetTrue w) := by
  obtain ⟨x0, x1⟩ := x
  obtain ⟨r0, q0⟩ := hr.pr1 rfl
  have r1 := q0
  obtain ⟨s0, p0⟩ := hs.pr1 rfl
  have s1 := p0
  go_enter Tryz.func293, Tryz.ntmps293
  go_wp2_with (first | (go_at_call 350; refine (eqIntS_same _ _ _ _ (by first | exact r0.nw (by (repeat (first | with_reducible exact Nw.refl _ | with_reducible assumption | with_reducible apply Nw.alloc | with_reducible apply Nw.drew | with_reducible apply Nw.drewN | (with_reducible refine Nw.setCell2 ?_ ?_; focus (first | (simp; done) | (simp; omega))) | with_reducible refine Nw.trans2 (by assumption) ?_))) | exact r1.nw (by (repeat (first | with_reducible exact Nw.refl _ | with_reducible assumption | with_reducible apply Nw.alloc | with_reducible apply Nw.drew | with_reducible apply Nw.drewN | (with_reducible refine Nw.setCell2 ?_ ?_; focus (first | (simp; done) | (simp; omega))) | with_reducible refine Nw.trans2 (by assumption) ?_)))) (by first | exact s0.nw (by (repeat (first | with_reducible exact Nw.refl _ | with_reducible assumption | with_reducible apply Nw.alloc | with_reducible apply Nw.drew | with_reducible apply Nw.drewN | (with_reducible refine Nw.setCell2 ?_ ?_; focus (first | (simp; done) | (simp; omega))) | with_reducible refine Nw.trans2 (by assumption) ?_))) | exact s1.nw (by (repeat (first | with_reducible exact Nw.refl _ | with_reducible assumption | with_reducible apply Nw.alloc | with_reducible apply Nw.drew | with_reducible apply Nw.drewN | (with_reducible refine Nw.setCell2 ?_ ?_; focus (first | (simp; done) | (simp; omega))) | with_reducible refine Nw.trans2 (by assumption) ?_))))).mono ?_; rintro e w1 ⟨rfl, hq1⟩; obtain ⟨hc1, hf1⟩ := hq1.cells; have hz1 : w.heap.size < w1.heap.size ∧ w.heap.size + 1 < w1.heap.size := (by (have hz2 := hq1.size; (try simp at hz2); omega)); obtain ⟨hz1, hz3⟩ := hz1; have hq1 : Nw w w1 := (by (repeat (first | with_reducible exact Nw.refl _ | with_reducible assumption | with_reducible apply Nw.alloc | with_reducible apply Nw.drew | with_reducible apply Nw.drewN | (with_reducible refine Nw.setCell2 ?_ ?_; focus (first | (simp; done) | (simp; omega))) | with_reducible refine Nw.trans2 (by assumption) ?_)))))
  go_ret
  exact ⟨rfl, by (repeat (first | with_reducible exact Nw.refl _ | with_reducible assumption | with_reducible apply Nw.alloc | with_reducible apply Nw.drew | with_reducible apply Nw.drewN | (with_reducible refine Nw.setCell2 ?_ ?_; focus (first | (simp; done) | (simp; omega))) | with_reducible refine Nw.trans2 (by assumption) ?_))⟩

set_option maxRecDepth 100000 in
set_option maxHeartbeats 1000000 in
theorem eqTransitionS_same (v u : Value) (xs : List (DTransition)) (w : World) (hr : Rep (.sl 198 tTransition) w [v] xs) (hs : Rep (.sl 198 tTransition) w [u] xs) :
    Calls Tryz.prog 221 #[v, u] w (RetTrue w) := by
  obtain ⟨A, c, rfl, hl, hc⟩ := hr.slv
  obtain ⟨A', c', rfl, hl', hc'⟩ := hs.slv
  have hm : xs.length ≤ 9223372036854775807 := by unfold maxLen at hc; omega
  go_enter Tryz.func221, Tryz.ntmps221
  go_wp2
  go_loopw [5] (fun i wr => ∃ k : Nat, k ≤ xs.length ∧ i = .int .i64 k ∧ Nw w wr) (fun i _ => xs.length - (intOf i).toNat)
  case atStart => exact ⟨0, Nat.zero_le _, rfl, Nw.refl _⟩
  case round =>
    obtain ⟨k, hk, rfl, hq⟩ := hrel
    by_cases hlt : k < xs.length
    · obtain ⟨b, o, v0, v1, rfl, hx, c0, c1⟩ := (hr.nw hq).at2 rfl (List.getElem?_eq_getElem hlt)
      obtain ⟨b', o', u0, u1, rfl, hy, d0, d1⟩ := (hs.nw hq).at2 rfl (List.getElem?_eq_getElem hlt)
      have hi0 : (0 : Int) ≤ k := by omega
      have hi1 : (k : Int) < xs.length := by omega
      go_wp2_with fail
      go_still_tail 8, (by kernel_rfl)
      change wpList _ _ _ _ _ wr.drew
      go_wp2_with (go_at_call 293; refine (eqTransition_same _ _ _ _ _ _ (by exact hx.drew) (by exact hy.drew)).mono ?_; rintro e w1 ⟨rfl, hq1⟩)
      go_roundw
      case rel => exact ⟨k + 1, by omega, by go_num, hq.drew.trans hq1⟩
      case measure => simp [intOf]; omega
    · go_wp2
      go_ret
      exact ⟨rfl, hq⟩

set_option maxHeartbeats 1000000 in
theorem eqNet_same (v0 v1 u0 u1 : Value) (x : DNet) (w : World) (hr : Rep tNet w [v0, v1] x) (hs : Rep tNet w [u0, u1] x) :
    Calls Tryz.prog 116 #[.agg #[v0, v1], .agg #[u0, u1]] w (RetTrue w) := by
  obtain ⟨x0, x1⟩ := x
  obtain ⟨r0, q0⟩ := hr.pr1 rfl
  have r1 := q0
  obtain ⟨rfl, hi0a, hi0b⟩ := r0.int_
  obtain ⟨s0, p0⟩ := hs.pr1 rfl
  have s1 := p0
  obtain ⟨rfl, -⟩ := s0.int_
  go_enter Tryz.func116, Tryz.ntmps116
  go_wp2_with (first | (go_at_call 221; refine (eqTransitionS_same _ _ _ _ (by first | exact r1.nw (by (repeat (first | with_reducible exact Nw.refl _ | with_reducible assumption | with_reducible apply Nw.alloc | with_reducible apply Nw.drew | with_reducible apply Nw.drewN | (with_reducible refine Nw.setCell2 ?_ ?_; focus (first | (simp; done) | (simp; omega))) | with_reducible refine Nw.trans2 (by assumption) ?_)))) (by first | exact s1.nw (by (repeat (first | with_reducible exact Nw.refl _ | with_reducible assumption | with_reducible apply Nw.alloc | with_reducible apply Nw.drew | with_reducible apply Nw.drewN | (with_reducible refine Nw.setCell2 ?_ ?_; focus (first | (simp; done) | (simp; omega))) | with_reducible refine Nw.trans2 (by assumption) ?_))))).mono ?_; rintro e w1 ⟨rfl, hq1⟩; obtain ⟨hc1, hf1⟩ := hq1.cells; have hz1 : w.heap.size < w1.heap.size ∧ w.heap.size + 1 < w1.heap.size := (by (have hz2 := hq1.size; (try simp at hz2); omega)); obtain ⟨hz1, hz3⟩ := hz1; have hq1 : Nw w w1 := (by (repeat (first | with_reducible exact Nw.refl _ | with_reducible assumption | with_reducible apply Nw.alloc | with_reducible apply Nw.drew | with_reducible apply Nw.drewN | (with_reducible refine Nw.setCell2 ?_ ?_; focus (first | (simp; done) | (simp; omega))) | with_reducible refine Nw.trans2 (by assumption) ?_)))))
  go_ret
  exact ⟨rfl, by (repeat (first | with_reducible exact Nw.refl _ | with_reducible assumption | with_reducible apply Nw.alloc | with_reducible apply Nw.drew | with_reducible apply Nw.drewN | (with_reducible refine Nw.setCell2 ?_ ?_; focus (first | (simp; done) | (simp; omega))) | with_reducible refine Nw.trans2 (by assumption) ?_))⟩

set_option maxHeartbeats 1000000 in
theorem eqLabel_same (v0 v1 u0 u1 : Value) (x : DLabel) (w : World) (hr : Rep tLabel w [v0, v1] x) (hs : Rep tLabel w [u0, u1] x) :
    Calls Tryz.prog 223 #[.agg #[v0, v1], .agg #[u0, u1]] w (RetTrue w) := by
  obtain ⟨x0, x1⟩ := x
  obtain ⟨r0, q0⟩ := hr.pr1 rfl
  have r1 := q0
  obtain ⟨rfl, hi0a, hi0b⟩ := r0.int_
  obtain rfl := r1.bool_
  obtain ⟨s0, p0⟩ := hs.pr1 rfl
  have s1 := p0
  obtain ⟨rfl, -⟩ := s0.int_
  obtain rfl := s1.bool_
  go_enter Tryz.func223, Tryz.ntmps223
  go_wp2
  go_ret
  exact ⟨rfl, by (repeat (first | with_reducible exact Nw.refl _ | with_reducible assumption | with_reducible apply Nw.alloc | with_reducible apply Nw.drew | with_reducible apply Nw.drewN | (with_reducible refine Nw.setCell2 ?_ ?_; focus (first | (simp; done) | (simp; omega))) | with_reducible refine Nw.trans2 (by assumption) ?_))⟩

set_option maxRecDepth 100000 in
set_option maxHeartbeats 1000000 in
theorem eqLabelS_same (v u : Value) (xs : List (DLabel)) (w : World) (hr : Rep (.sl 55 tLabel) w [v] xs) (hs : Rep (.sl 55 tLabel) w [u] xs) :
    Calls Tryz.prog 118 #[v, u] w (RetTrue w) := by
  obtain ⟨A, c, rfl, hl, hc⟩ := hr.slv
  obtain ⟨A', c', rfl, hl', hc'⟩ := hs.slv
  have hm : xs.length ≤ 9223372036854775807 := by unfold maxLen at hc; omega
  go_enter Tryz.func118, Tryz.ntmps118
  go_wp2
  go_loopw [5] (fun i wr => ∃ k : Nat, k ≤ xs.length ∧ i = .int .i64 k ∧ Nw w wr) (fun i _ => xs.length - (intOf i).toNat)
  case atStart => exact ⟨0, Nat.zero_le _, rfl, Nw.refl _⟩
  case round =>
    obtain ⟨k, hk, rfl, hq⟩ := hrel
    by_cases hlt : k < xs.length
    · obtain ⟨b, o, v0, v1, rfl, hx, c0, c1⟩ := (hr.nw hq).at2 rfl (List.getElem?_eq_getElem hlt)
      obtain ⟨b', o', u0, u1, rfl, hy, d0, d1⟩ := (hs.nw hq).at2 rfl (List.getElem?_eq_getElem hlt)
      have hi0 : (0 : Int) ≤ k := by omega
      have hi1 : (k : Int) < xs.length := by omega
      go_wp2_with fail
      go_still_tail 8, (by kernel_rfl)
      change wpList _ _ _ _ _ wr.drew
      go_wp2_with (go_at_call 223; refine (eqLabel_same _ _ _ _ _ _ (by exact hx.drew) (by exact hy.drew)).mono ?_; rintro e w1 ⟨rfl, hq1⟩)
      go_roundw
      case rel => exact ⟨k + 1, by omega, by go_num, hq.drew.trans hq1⟩
      case measure => simp [intOf]; omega
    · go_wp2
      go_ret
      exact ⟨rfl, hq⟩

set_option maxHeartbeats 1000000 in
theorem eqSTG_same (v0 v1 v2 v3 v4 u0 u1 u2 u3 u4 : Value) (x : DSTG) (w : World) (hr : Rep tSTG w [v0, v1, v2, v3, v4] x) (hs : Rep tSTG w [u0, u1, u2, u3, u4] x) :
    Calls Tryz.prog 34 #[.agg #[v0, v1, v2, v3, v4], .agg #[u0, u1, u2, u3, u4]] w (RetTrue w) := by
  obtain ⟨x0, x1, x2, x3⟩ := x
  obtain ⟨r0, q0⟩ := hr.pr2 rfl
  obtain ⟨r1, q1⟩ := q0.pr1 rfl
  obtain ⟨r2, q2⟩ := q1.pr1 rfl
  have r3 := q2
  obtain ⟨rfl, hs3⟩ := r3.str_
  have hs3 : x3.size ≤ 9223372036854775807 := hs3
  obtain ⟨s0, p0⟩ := hs.pr2 rfl
  obtain ⟨s1, p1⟩ := p0.pr1 rfl
  obtain ⟨s2, p2⟩ := p1.pr1 rfl
  have s3 := p2
  obtain ⟨rfl, -⟩ := s3.str_
  go_enter Tryz.func34, Tryz.ntmps34
  go_wp2_with (first | (go_at_call 116; refine (eqNet_same _ _ _ _ _ _ (by first | exact r0.nw (by (repeat (first | with_reducible exact Nw.refl _ | with_reducible assumption | with_reducible apply Nw.alloc | with_reducible apply Nw.drew | with_reducible apply Nw.drewN | (with_reducible refine Nw.setCell2 ?_ ?_; focus (first | (simp; done) | (simp; omega))) | with_reducible refine Nw.trans2 (by assumption) ?_)))) (by first | exact s0.nw (by (repeat (first | with_reducible exact Nw.refl _ | with_reducible assumption | with_reducible apply Nw.alloc | with_reducible apply Nw.drew | with_reducible apply Nw.drewN | (with_reducible refine Nw.setCell2 ?_ ?_; focus (first | (simp; done) | (simp; omega))) | with_reducible refine Nw.trans2 (by assumption) ?_))))).mono ?_; rintro e w1 ⟨rfl, hq1⟩; obtain ⟨hc1, hf1⟩ := hq1.cells; have hz1 : w.heap.size < w1.heap.size ∧ w.heap.size + 1 < w1.heap.size := (by (have hz2 := hq1.size; (try simp at hz2); omega)); obtain ⟨hz1, hz3⟩ := hz1; have hq1 : Nw w w1 := (by (repeat (first | with_reducible exact Nw.refl _ | with_reducible assumption | with_reducible apply Nw.alloc | with_reducible apply Nw.drew | with_reducible apply Nw.drewN | (with_reducible refine Nw.setCell2 ?_ ?_; focus (first | (simp; done) | (simp; omega))) | with_reducible refine Nw.trans2 (by assumption) ?_)))) | (go_at_call 117; refine (eqSignalS_same _ _ _ _ (by first | exact r1.nw (by (repeat (first | with_reducible exact Nw.refl _ | with_reducible assumption | with_reducible apply Nw.alloc | with_reducible apply Nw.drew | with_reducible apply Nw.drewN | (with_reducible refine Nw.setCell2 ?_ ?_; focus (first | (simp; done) | (simp; omega))) | with_reducible refine Nw.trans2 (by assumption) ?_)))) (by first | exact s1.nw (by (repeat (first | with_reducible exact Nw.refl _ | with_reducible assumption | with_reducible apply Nw.alloc | with_reducible apply Nw.drew | with_reducible apply Nw.drewN | (with_reducible refine Nw.setCell2 ?_ ?_; focus (first | (simp; done) | (simp; omega))) | with_reducible refine Nw.trans2 (by assumption) ?_))))).mono ?_; rintro e w1 ⟨rfl, hq1⟩; obtain ⟨hc1, hf1⟩ := hq1.cells; have hz1 : w.heap.size < w1.heap.size ∧ w.heap.size + 1 < w1.heap.size := (by (have hz2 := hq1.size; (try simp at hz2); omega)); obtain ⟨hz1, hz3⟩ := hz1; have hq1 : Nw w w1 := (by (repeat (first | with_reducible exact Nw.refl _ | with_reducible assumption | with_reducible apply Nw.alloc | with_reducible apply Nw.drew | with_reducible apply Nw.drewN | (with_reducible refine Nw.setCell2 ?_ ?_; focus (first | (simp; done) | (simp; omega))) | with_reducible refine Nw.trans2 (by assumption) ?_)))) | (go_at_call 118; refine (eqLabelS_same _ _ _ _ (by first | exact r2.nw (by (repeat (first | with_reducible exact Nw.refl _ | with_reducible assumption | with_reducible apply Nw.alloc | with_reducible apply Nw.drew | with_reducible apply Nw.drewN | (with_reducible refine Nw.setCell2 ?_ ?_; focus (first | (simp; done) | (simp; omega))) | with_reducible refine Nw.trans2 (by assumption) ?_)))) (by first | exact s2.nw (by (repeat (first | with_reducible exact Nw.refl _ | with_reducible assumption | with_reducible apply Nw.alloc | with_reducible apply Nw.drew | with_reducible apply Nw.drewN | (with_reducible refine Nw.setCell2 ?_ ?_; focus (first | (simp; done) | (simp; omega))) | with_reducible refine Nw.trans2 (by assumption) ?_))))).mono ?_; rintro e w1 ⟨rfl, hq1⟩; obtain ⟨hc1, hf1⟩ := hq1.cells; have hz1 : w.heap.size < w1.heap.size ∧ w.heap.size + 1 < w1.heap.size := (by (have hz2 := hq1.size; (try simp at hz2); omega)); obtain ⟨hz1, hz3⟩ := hz1; have hq1 : Nw w w1 := (by (repeat (first | with_reducible exact Nw.refl _ | with_reducible assumption | with_reducible apply Nw.alloc | with_reducible apply Nw.drew | with_reducible apply Nw.drewN | (with_reducible refine Nw.setCell2 ?_ ?_; focus (first | (simp; done) | (simp; omega))) | with_reducible refine Nw.trans2 (by assumption) ?_)))))
  go_ret
  exact ⟨rfl, by (repeat (first | with_reducible exact Nw.refl _ | with_reducible assumption | with_reducible apply Nw.alloc | with_reducible apply Nw.drew | with_reducible apply Nw.drewN | (with_reducible refine Nw.setCell2 ?_ ?_; focus (first | (simp; done) | (simp; omega))) | with_reducible refine Nw.trans2 (by assumption) ?_))⟩

end Go.Proofs.YtjaadeknhofhpaaGreat

/- slices.IndexFunc and slices.ContainsFunc, over whatever function value. -/
namespace Go.Proofs.YtjaadeknhofhpaaGreat
open Go.RowKit

set_option maxRecDepth 100000 in
theorem indexFuncSignal_any (p : DSignal → Prop) (xs : List (DSignal)) (v : Value) (F : Nat) (caps : Array Value) (w : World) (hr : Rep (.sl 90 tSignal) w [v] xs) (hcf : Enters Tryz.prog F)
    (hF : ∀ (i : Nat) (x : DSignal) (W : World) (v0 v1 : Value), xs[i]? = some x → Nw w W → Rep tSignal W [v0, v1] x → Calls Tryz.prog F (#[.agg #[v0, v1]] ++ caps) W (RetB (p x) W)) :
    Calls Tryz.prog 319 #[v, .func (.func F) #[] caps] w (RetIdx p xs w) := by
  obtain ⟨A, c, rfl, hl, hc⟩ := hr.slv
  have hm : xs.length ≤ 9223372036854775807 := by unfold maxLen at hc; omega
  have HF := hid hF
  clear hF
  go_enter Tryz.func319, Tryz.ntmps319
  go_wp2
  go_loopw [8] (fun i wr => ∃ k : Nat, k ≤ xs.length ∧ i = .int .i64 k ∧ (∀ j x, j < k → xs[j]? = some x → ¬ p x) ∧ Nw w wr) (fun i _ => xs.length - (intOf i).toNat)
  case atStart => exact ⟨0, Nat.zero_le _, rfl, fun j x h => absurd h (by omega), Nw.refl _⟩
  case round =>
    obtain ⟨k, hk, rfl, hno, hq⟩ := hrel
    have HN := hid hno
    clear hno
    by_cases hlt : k < xs.length
    · obtain ⟨b, o, v0, v1, rfl, hx, c0, c1⟩ := (hr.nw hq).at2 rfl (List.getElem?_eq_getElem hlt)
      have hcf := hcf
      unfold Enters at hcf
      have hcall := HF.out k _ wr v0 v1 (List.getElem?_eq_getElem hlt) hq hx
      have HC := hid hcall
      clear hcall
      go_wp2_with fail
      refine Calls.mono HC.out ?_
      rintro e w1 ⟨bb, rfl, hb, hq1⟩
      cases bb with
      | true =>
        have HP := hid (hb.1 rfl)
        clear hb
        go_wp2
        go_ret
        exact ⟨_, rfl, .inr ⟨k, rfl, hlt, fun y hy => by rw [List.getElem?_eq_getElem hlt] at hy; cases hy; exact HP.out, HN.out⟩, hq.trans hq1⟩
      | false =>
        have HP := hid (fun hp => absurd (hb.2 hp) (by simp) : ¬ p xs[k])
        clear hb
        go_wp2
        go_roundw
        case rel => exact ⟨k + 1, by omega, by go_num, fun j y hj hy => by
          by_cases e1 : j = k
          · subst e1
            rw [List.getElem?_eq_getElem hlt] at hy
            cases hy
            exact HP.out
          · exact HN.out j y (by omega) hy, hq.trans hq1⟩
        case measure => simp [intOf]; omega
    · go_wp2
      go_ret
      refine ⟨_, rfl, .inl ⟨rfl, fun x hx => ?_⟩, hq⟩
      obtain ⟨j, hj, hjx⟩ := List.mem_iff_getElem.1 hx
      exact HN.out j x (by omega) (by rw [List.getElem?_eq_getElem hj, hjx])

theorem containsFuncSignal_any (p : DSignal → Prop) (xs : List (DSignal)) (v : Value) (F : Nat) (caps : Array Value) (w : World) (hr : Rep (.sl 90 tSignal) w [v] xs) (hcf : Enters Tryz.prog F)
    (hF : ∀ (i : Nat) (x : DSignal) (W : World) (v0 v1 : Value), xs[i]? = some x → Nw w W → Rep tSignal W [v0, v1] x → Calls Tryz.prog F (#[.agg #[v0, v1]] ++ caps) W (RetB (p x) W)) :
    Calls Tryz.prog 263 #[v, .func (.func F) #[] caps] w (RetB (∃ x ∈ xs, p x) w) := by
  have hcall := indexFuncSignal_any p xs v F caps w hr hcf hF
  obtain ⟨A, c, rfl, hl, hc⟩ := hr.slv
  have hm : xs.length ≤ 9223372036854775807 := by unfold maxLen at hc; omega
  have HC := hid hcall
  clear hcall hF
  go_enter Tryz.func263, Tryz.ntmps263
  go_wp2_with fail
  refine Calls.mono HC.out ?_
  rintro e w1 ⟨r, rfl, hi, hq1⟩
  have hrr := hi.range hm
  have HI := hid hi
  clear hi
  go_wp2
  go_ret
  exact RetB.of (by rw [← HI.out.any]; simp) hq1

set_option maxRecDepth 100000 in
theorem indexFuncTransition_any (p : DTransition → Prop) (xs : List (DTransition)) (v : Value) (F : Nat) (caps : Array Value) (w : World) (hr : Rep (.sl 198 tTransition) w [v] xs) (hcf : Enters Tryz.prog F)
    (hF : ∀ (i : Nat) (x : DTransition) (W : World) (v0 v1 : Value), xs[i]? = some x → Nw w W → Rep tTransition W [v0, v1] x → Calls Tryz.prog F (#[.agg #[v0, v1]] ++ caps) W (RetB (p x) W)) :
    Calls Tryz.prog 379 #[v, .func (.func F) #[] caps] w (RetIdx p xs w) := by
  obtain ⟨A, c, rfl, hl, hc⟩ := hr.slv
  have hm : xs.length ≤ 9223372036854775807 := by unfold maxLen at hc; omega
  have HF := hid hF
  clear hF
  go_enter Tryz.func379, Tryz.ntmps379
  go_wp2
  go_loopw [8] (fun i wr => ∃ k : Nat, k ≤ xs.length ∧ i = .int .i64 k ∧ (∀ j x, j < k → xs[j]? = some x → ¬ p x) ∧ Nw w wr) (fun i _ => xs.length - (intOf i).toNat)
  case atStart => exact ⟨0, Nat.zero_le _, rfl, fun j x h => absurd h (by omega), Nw.refl _⟩
  case round =>
    obtain ⟨k, hk, rfl, hno, hq⟩ := hrel
    have HN := hid hno
    clear hno
    by_cases hlt : k < xs.length
    · obtain ⟨b, o, v0, v1, rfl, hx, c0, c1⟩ := (hr.nw hq).at2 rfl (List.getElem?_eq_getElem hlt)
      have hcf := hcf
      unfold Enters at hcf
      have hcall := HF.out k _ wr v0 v1 (List.getElem?_eq_getElem hlt) hq hx
      have HC := hid hcall
      clear hcall
      go_wp2_with fail
      refine Calls.mono HC.out ?_
      rintro e w1 ⟨bb, rfl, hb, hq1⟩
      cases bb with
      | true =>
        have HP := hid (hb.1 rfl)
        clear hb
        go_wp2
        go_ret
        exact ⟨_, rfl, .inr ⟨k, rfl, hlt, fun y hy => by rw [List.getElem?_eq_getElem hlt] at hy; cases hy; exact HP.out, HN.out⟩, hq.trans hq1⟩
      | false =>
        have HP := hid (fun hp => absurd (hb.2 hp) (by simp) : ¬ p xs[k])
        clear hb
        go_wp2
        go_roundw
        case rel => exact ⟨k + 1, by omega, by go_num, fun j y hj hy => by
          by_cases e1 : j = k
          · subst e1
            rw [List.getElem?_eq_getElem hlt] at hy
            cases hy
            exact HP.out
          · exact HN.out j y (by omega) hy, hq.trans hq1⟩
        case measure => simp [intOf]; omega
    · go_wp2
      go_ret
      refine ⟨_, rfl, .inl ⟨rfl, fun x hx => ?_⟩, hq⟩
      obtain ⟨j, hj, hjx⟩ := List.mem_iff_getElem.1 hx
      exact HN.out j x (by omega) (by rw [List.getElem?_eq_getElem hj, hjx])

theorem containsFuncTransition_any (p : DTransition → Prop) (xs : List (DTransition)) (v : Value) (F : Nat) (caps : Array Value) (w : World) (hr : Rep (.sl 198 tTransition) w [v] xs) (hcf : Enters Tryz.prog F)
    (hF : ∀ (i : Nat) (x : DTransition) (W : World) (v0 v1 : Value), xs[i]? = some x → Nw w W → Rep tTransition W [v0, v1] x → Calls Tryz.prog F (#[.agg #[v0, v1]] ++ caps) W (RetB (p x) W)) :
    Calls Tryz.prog 338 #[v, .func (.func F) #[] caps] w (RetB (∃ x ∈ xs, p x) w) := by
  have hcall := indexFuncTransition_any p xs v F caps w hr hcf hF
  obtain ⟨A, c, rfl, hl, hc⟩ := hr.slv
  have hm : xs.length ≤ 9223372036854775807 := by unfold maxLen at hc; omega
  have HC := hid hcall
  clear hcall hF
  go_enter Tryz.func338, Tryz.ntmps338
  go_wp2_with fail
  refine Calls.mono HC.out ?_
  rintro e w1 ⟨r, rfl, hi, hq1⟩
  have hrr := hi.range hm
  have HI := hid hi
  clear hi
  go_wp2
  go_ret
  exact RetB.of (by rw [← HI.out.any]; simp) hq1

set_option maxRecDepth 100000 in
theorem indexFuncLabel_any (p : DLabel → Prop) (xs : List (DLabel)) (v : Value) (F : Nat) (caps : Array Value) (w : World) (hr : Rep (.sl 55 tLabel) w [v] xs) (hcf : Enters Tryz.prog F)
    (hF : ∀ (i : Nat) (x : DLabel) (W : World) (v0 v1 : Value), xs[i]? = some x → Nw w W → Rep tLabel W [v0, v1] x → Calls Tryz.prog F (#[.agg #[v0, v1]] ++ caps) W (RetB (p x) W)) :
    Calls Tryz.prog 265 #[v, .func (.func F) #[] caps] w (RetIdx p xs w) := by
  obtain ⟨A, c, rfl, hl, hc⟩ := hr.slv
  have hm : xs.length ≤ 9223372036854775807 := by unfold maxLen at hc; omega
  have HF := hid hF
  clear hF
  go_enter Tryz.func265, Tryz.ntmps265
  go_wp2
  go_loopw [8] (fun i wr => ∃ k : Nat, k ≤ xs.length ∧ i = .int .i64 k ∧ (∀ j x, j < k → xs[j]? = some x → ¬ p x) ∧ Nw w wr) (fun i _ => xs.length - (intOf i).toNat)
  case atStart => exact ⟨0, Nat.zero_le _, rfl, fun j x h => absurd h (by omega), Nw.refl _⟩
  case round =>
    obtain ⟨k, hk, rfl, hno, hq⟩ := hrel
    have HN := hid hno
    clear hno
    by_cases hlt : k < xs.length
    · obtain ⟨b, o, v0, v1, rfl, hx, c0, c1⟩ := (hr.nw hq).at2 rfl (List.getElem?_eq_getElem hlt)
      have hcf := hcf
      unfold Enters at hcf
      have hcall := HF.out k _ wr v0 v1 (List.getElem?_eq_getElem hlt) hq hx
      have HC := hid hcall
      clear hcall
      go_wp2_with fail
      refine Calls.mono HC.out ?_
      rintro e w1 ⟨bb, rfl, hb, hq1⟩
      cases bb with
      | true =>
        have HP := hid (hb.1 rfl)
        clear hb
        go_wp2
        go_ret
        exact ⟨_, rfl, .inr ⟨k, rfl, hlt, fun y hy => by rw [List.getElem?_eq_getElem hlt] at hy; cases hy; exact HP.out, HN.out⟩, hq.trans hq1⟩
      | false =>
        have HP := hid (fun hp => absurd (hb.2 hp) (by simp) : ¬ p xs[k])
        clear hb
        go_wp2
        go_roundw
        case rel => exact ⟨k + 1, by omega, by go_num, fun j y hj hy => by
          by_cases e1 : j = k
          · subst e1
            rw [List.getElem?_eq_getElem hlt] at hy
            cases hy
            exact HP.out
          · exact HN.out j y (by omega) hy, hq.trans hq1⟩
        case measure => simp [intOf]; omega
    · go_wp2
      go_ret
      refine ⟨_, rfl, .inl ⟨rfl, fun x hx => ?_⟩, hq⟩
      obtain ⟨j, hj, hjx⟩ := List.mem_iff_getElem.1 hx
      exact HN.out j x (by omega) (by rw [List.getElem?_eq_getElem hj, hjx])

theorem containsFuncLabel_any (p : DLabel → Prop) (xs : List (DLabel)) (v : Value) (F : Nat) (caps : Array Value) (w : World) (hr : Rep (.sl 55 tLabel) w [v] xs) (hcf : Enters Tryz.prog F)
    (hF : ∀ (i : Nat) (x : DLabel) (W : World) (v0 v1 : Value), xs[i]? = some x → Nw w W → Rep tLabel W [v0, v1] x → Calls Tryz.prog F (#[.agg #[v0, v1]] ++ caps) W (RetB (p x) W)) :
    Calls Tryz.prog 165 #[v, .func (.func F) #[] caps] w (RetB (∃ x ∈ xs, p x) w) := by
  have hcall := indexFuncLabel_any p xs v F caps w hr hcf hF
  obtain ⟨A, c, rfl, hl, hc⟩ := hr.slv
  have hm : xs.length ≤ 9223372036854775807 := by unfold maxLen at hc; omega
  have HC := hid hcall
  clear hcall hF
  go_enter Tryz.func165, Tryz.ntmps165
  go_wp2_with fail
  refine Calls.mono HC.out ?_
  rintro e w1 ⟨r, rfl, hi, hq1⟩
  have hrr := hi.range hm
  have HI := hid hi
  clear hi
  go_wp2
  go_ret
  exact RetB.of (by rw [← HI.out.any]; simp) hq1

end Go.Proofs.YtjaadeknhofhpaaGreat

/- The small tests: ranges, names, cubes. -/
namespace Go.Proofs.YtjaadeknhofhpaaGreat
open Go.RowKit

theorem str_eq {s t : ByteArray} (h : (s.toList == t.toList) = true) : s = t := by
  have h : s.toList = t.toList := by simpa using h
  rw [ByteArray.toList_eq, ByteArray.toList_eq] at h
  cases s; cases t
  exact congrArg _ (Array.toList_inj.1 h)
theorem str_ne {s t : ByteArray} (h : (s.toList == t.toList) = false) : s ≠ t := by
  rintro rfl
  simp at h
theorem str_eq_t {s t : ByteArray} (h : s = t) : (s.toList == t.toList) = true := by subst h; simp
theorem str_eq_f {s t : ByteArray} (h : s ≠ t) : (s.toList == t.toList) = false := by
  cases e : (s.toList == t.toList) with
  | false => rfl
  | true => exact absurd (str_eq e) h
/-! ### plain words -/
def NameChar (k c : Nat) : Prop := (97 ≤ c ∧ c ≤ 122) ∨ (k ≠ 0 ∧ 48 ≤ c ∧ c ≤ 57)
def NameOk (s : ByteArray) : Prop := (∀ k (h : k < s.size), NameChar k s[k].toNat) ∧ 1 ≤ s.size ∧ s.size ≤ 6
def CubeChar (c : Nat) : Prop := c = 48 ∨ c = 49 ∨ c = 45
def CubeChars (s : ByteArray) : Prop := ∀ k (h : k < s.size), CubeChar s[k].toNat

theorem within_any (n lo hi : Int) (w : World) : Calls Tryz.prog 84 #[.int .i64 n, .int .i64 lo, .int .i64 hi] w (RetB (lo ≤ n ∧ n ≤ hi) w) := by
  by_cases h1 : lo ≤ n
  · by_cases h2 : n ≤ hi
    all_goals
      go_enter Tryz.func84, Tryz.ntmps84
      go_wp2
      go_ret
      exact RetB.of (by simp; omega) (Nw.refl _)
  · go_enter Tryz.func84, Tryz.ntmps84
    go_wp2
    go_ret
    exact RetB.of (by simp; omega) (Nw.refl _)

theorem l1In_any (n lo hi : Int) (w : World) : Calls Tryz.prog 174 #[.int .i64 n, .int .i64 lo, .int .i64 hi] w (RetB (lo ≤ n ∧ n ≤ hi) w) := by
  by_cases h1 : lo ≤ n
  · by_cases h2 : n ≤ hi
    all_goals
      go_enter Tryz.func174, Tryz.ntmps174
      go_wp2
      go_ret
      exact RetB.of (by simp; omega) (Nw.refl _)
  · go_enter Tryz.func174, Tryz.ntmps174
    go_wp2
    go_ret
    exact RetB.of (by simp; omega) (Nw.refl _)

theorem nameOk_no {s : ByteArray} {k : Nat} (h : k < s.size) (hc : ¬ NameChar k s[k].toNat) : ¬ NameOk s := fun hn => hc (hn.1 k h)
theorem nameChar_step {s : ByteArray} {k : Nat} (h : k < s.size) (hy : ∀ j (h : j < s.size), j < k → NameChar j s[j].toNat) (hc : NameChar k s[k].toNat) : ∀ j (h : j < s.size), j < k + 1 → NameChar j s[j].toNat := by
  intro j hj hjk
  by_cases e : j = k
  · subst e; exact hc
  · exact hy j hj (by omega)

set_option maxRecDepth 100000 in
set_option maxHeartbeats 2000000 in
theorem l2Name_any (s : ByteArray) (w : World) (hs : s.size ≤ maxLen) : Calls Tryz.prog 244 #[.string s] w (RetB (NameOk s) w) := by
  have hm : s.size ≤ 9223372036854775807 := hs
  go_enter Tryz.func244, Tryz.ntmps244
  go_wp2
  go_loop [3] (fun i => ∃ k : Nat, k ≤ s.size ∧ i = .int .i64 k ∧ ∀ j (h : j < s.size), j < k → NameChar j s[j].toNat) (fun i => s.size - (intOf i).toNat)
  case atStart => exact ⟨0, Nat.zero_le _, rfl, fun j h h' => absurd h' (by omega)⟩
  case round =>
    obtain ⟨k, hk, rfl, hyes⟩ := hrel
    have HY := hid hyes
    clear hyes
    by_cases hlt : k < s.size
    · rcases (by omega : s[k].toNat < 48 ∨ (48 ≤ s[k].toNat ∧ s[k].toNat ≤ 57) ∨ (58 ≤ s[k].toNat ∧ s[k].toNat ≤ 96) ∨ (97 ≤ s[k].toNat ∧ s[k].toNat ≤ 122) ∨ 123 ≤ s[k].toNat) with h1 | ⟨h1, h2⟩ | ⟨h1, h2⟩ | ⟨h1, h2⟩ | h1
      all_goals first | have d0 : decide ((97 : Int) ≤ (s[k].toNat : Int)) = true := decide_eq_true (by omega) | have d0 : decide ((97 : Int) ≤ (s[k].toNat : Int)) = false := decide_eq_false (by omega)
      all_goals first | have d1 : decide ((s[k].toNat : Int) ≤ 122) = true := decide_eq_true (by omega) | have d1 : decide ((s[k].toNat : Int) ≤ 122) = false := decide_eq_false (by omega)
      all_goals first | have d2 : decide ((48 : Int) ≤ (s[k].toNat : Int)) = true := decide_eq_true (by omega) | have d2 : decide ((48 : Int) ≤ (s[k].toNat : Int)) = false := decide_eq_false (by omega)
      all_goals first | have d3 : decide ((s[k].toNat : Int) ≤ 57) = true := decide_eq_true (by omega) | have d3 : decide ((s[k].toNat : Int) ≤ 57) = false := decide_eq_false (by omega)
      all_goals first | have d4 : decide ((s[k].toNat : Int) < 48) = true := decide_eq_true (by omega) | have d4 : decide ((s[k].toNat : Int) < 48) = false := decide_eq_false (by omega)
      all_goals first | have d5 : decide ((57 : Int) < (s[k].toNat : Int)) = true := decide_eq_true (by omega) | have d5 : decide ((57 : Int) < (s[k].toNat : Int)) = false := decide_eq_false (by omega)
      all_goals rcases Nat.eq_zero_or_pos k with rfl | hk0
      all_goals try have hk1 : ((k : Int) == 0) = false := by simp; omega
      all_goals go_wp2
      all_goals first
        | (go_ret
           exact RetB.no (nameOk_no hlt (by unfold NameChar; omega)) (Nw.refl _))
        | (go_round
           case rel => exact ⟨_ + 1, by omega, by go_num, nameChar_step hlt HY.out (by unfold NameChar; omega)⟩
           case measure => simp [intOf]; omega)
    · have : k = s.size := by omega
      subst this
      go_wp2_with (go_at_call 174; refine (l1In_any _ _ _ _).mono ?_; rintro e w1 ⟨b, rfl, hb, hq1⟩)
      go_ret
      refine RetB.of (hb.trans ⟨fun h => ⟨fun j hj => HY.out j hj hj, by omega, by omega⟩, fun h => by have := h.2; omega⟩) hq1

set_option maxRecDepth 100000 in
set_option maxHeartbeats 2000000 in
theorem isName_any (s : ByteArray) (w : World) (hs : s.size ≤ maxLen) : Calls Tryz.prog 240 #[.string s] w (RetB (NameOk s) w) := by
  have hm : s.size ≤ 9223372036854775807 := hs
  go_enter Tryz.func240, Tryz.ntmps240
  go_wp2
  go_loopw [3] (fun i wr => ∃ k : Nat, k ≤ s.size ∧ i = .int .i64 k ∧ (∀ j (h : j < s.size), j < k → NameChar j s[j].toNat) ∧ Nw w wr) (fun i _ => s.size - (intOf i).toNat)
  case atStart => exact ⟨0, Nat.zero_le _, rfl, fun j h h' => absurd h' (by omega), Nw.refl _⟩
  case round =>
    obtain ⟨k, hk, rfl, hyes, hq⟩ := hrel
    have HY := hid hyes
    clear hyes
    by_cases hlt : k < s.size
    · have hi0 : (0 : Int) ≤ k := by omega
      have hi1 : (k : Int) < s.size := by omega
      rcases (by omega : s[k].toNat < 48 ∨ (48 ≤ s[k].toNat ∧ s[k].toNat ≤ 57) ∨ (58 ≤ s[k].toNat ∧ s[k].toNat ≤ 96) ∨ (97 ≤ s[k].toNat ∧ s[k].toNat ≤ 122) ∨ 123 ≤ s[k].toNat) with h1 | ⟨h1, h2⟩ | ⟨h1, h2⟩ | ⟨h1, h2⟩ | h1
      all_goals first | have d0 : decide ((97 : Int) ≤ (s[k].toNat : Int)) = true := decide_eq_true (by omega) | have d0 : decide ((97 : Int) ≤ (s[k].toNat : Int)) = false := decide_eq_false (by omega)
      all_goals first | have d1 : decide ((s[k].toNat : Int) ≤ 122) = true := decide_eq_true (by omega) | have d1 : decide ((s[k].toNat : Int) ≤ 122) = false := decide_eq_false (by omega)
      all_goals first | have d2 : decide ((48 : Int) ≤ (s[k].toNat : Int)) = true := decide_eq_true (by omega) | have d2 : decide ((48 : Int) ≤ (s[k].toNat : Int)) = false := decide_eq_false (by omega)
      all_goals first | have d3 : decide ((s[k].toNat : Int) ≤ 57) = true := decide_eq_true (by omega) | have d3 : decide ((s[k].toNat : Int) ≤ 57) = false := decide_eq_false (by omega)
      all_goals first | have d4 : decide ((s[k].toNat : Int) < 48) = true := decide_eq_true (by omega) | have d4 : decide ((s[k].toNat : Int) < 48) = false := decide_eq_false (by omega)
      all_goals first | have d5 : decide ((57 : Int) < (s[k].toNat : Int)) = true := decide_eq_true (by omega) | have d5 : decide ((57 : Int) < (s[k].toNat : Int)) = false := decide_eq_false (by omega)
      all_goals rcases Nat.eq_zero_or_pos k with rfl | hk0
      all_goals try have hk1 : ((k : Int) == 0) = false := by simp; omega
      all_goals go_wp2_with fail
      all_goals go_quiet (fail)
      all_goals go_wp2
      all_goals first
        | (go_ret
           exact RetB.no (nameOk_no hlt (by unfold NameChar; omega)) (hq.drewN _))
        | (go_roundw
           case rel => exact ⟨_ + 1, by omega, by go_num, nameChar_step hlt HY.out (by unfold NameChar; omega), hq.drewN _⟩
           case measure => simp [intOf]; omega)
    · have : k = s.size := by omega
      subst this
      go_wp2_with (go_at_call 84; refine (within_any _ _ _ _).mono ?_; rintro e w1 ⟨b, rfl, hb, hq1⟩)
      go_ret
      refine RetB.of (hb.trans ⟨fun h => ⟨fun j hj => HY.out j hj hj, by omega, by omega⟩, fun h => by have := h.2; omega⟩) (hq.trans hq1)

theorem bne_true {a b : Int} (h : a ≠ b) : (a != b) = true := by simpa using h
theorem bne_false {a b : Int} (h : a = b) : (a != b) = false := by simpa using h
theorem beq_true {a b : Int} (h : a = b) : (a == b) = true := by simpa using h
theorem beq_false {a b : Int} (h : a ≠ b) : (a == b) = false := by simpa using h
end Go.Proofs.YtjaadeknhofhpaaGreat

/- Signals of a graph or a netlist: valid ones. -/
namespace Go.Proofs.YtjaadeknhofhpaaGreat
open Go.RowKit

def SigOkAt (xs : List DSignal) (k : Nat) : Prop := ∀ x, xs[k]? = some x → NameOk x.1 ∧ (1 ≤ x.2 ∧ x.2 ≤ 3) ∧ ∀ j y, j < k → xs[j]? = some y → y.1 ≠ x.1
def SigsOk (xs : List DSignal) : Prop := (∀ k, k < xs.length → SigOkAt xs k) ∧ 1 ≤ xs.length ∧ xs.length ≤ 8
theorem SigOkAt.step {xs : List DSignal} {k : Nat} (h : ∀ j, j < k → SigOkAt xs j) (hk : SigOkAt xs k) : ∀ j, j < k + 1 → SigOkAt xs j := by
  intro j hj
  by_cases e : j = k
  · subst e; exact hk
  · exact h j (by omega)

set_option maxRecDepth 100000 in
set_option maxHeartbeats 2000000 in
theorem l2Signals_any (v : Value) (xs : List DSignal) (w : World) (hr : Rep (.sl 90 tSignal) w [v] xs) : Calls Tryz.prog 171 #[v] w (RetB (SigsOk xs) w) := by
  obtain ⟨A, c, rfl, hl, hc⟩ := hr.slv
  have hm : xs.length ≤ 9223372036854775807 := by unfold maxLen at hc; omega
  go_enter Tryz.func171, Tryz.ntmps171
  go_wp2
  go_loopw [9] (fun i wr => ∃ k : Nat, k ≤ xs.length ∧ i = .int .i64 k ∧ (∀ j, j < k → SigOkAt xs j) ∧ Nw w wr) (fun i _ => xs.length - (intOf i).toNat)
  case atStart => exact ⟨0, Nat.zero_le _, rfl, fun j h => absurd h (by omega), Nw.refl _⟩
  case round =>
    obtain ⟨wo, rfl⟩ : ∃ wo : World, wo = wr := ⟨_, rfl⟩
    obtain ⟨k, hk, rfl, hyes, hq⟩ := hrel
    have HY := hid hyes
    clear hyes
    by_cases hlt : k < xs.length
    · obtain ⟨b, o, v0, v1, rfl, hx, c0, c1⟩ := (hr.nw hq).at2 rfl (List.getElem?_eq_getElem hlt)
      have HX := hid (List.getElem?_eq_getElem hlt)
      generalize hxk : xs[k] = x at *
      clear hxk
      obtain ⟨s, n⟩ := x
      obtain ⟨r0, r1⟩ := hx.open2 rfl
      obtain ⟨rfl, hs⟩ := r0.str_
      obtain ⟨rfl, -⟩ := r1.int_
      have Hs := hid hs
      clear hx r0 r1 hs
      go_wp2_with fail
      refine (l2Name_any s _ Hs.out).mono ?_
      rintro e w1 ⟨b1, rfl, hb1, hq1⟩
      obtain ⟨hc1, hf1⟩ := hq1.cells
      have hz1 : wo.heap.size < w1.heap.size := by (have hz2 := hq1.size; simp at hz2; omega)
      cases b1 with
      | false =>
        have HB1 := hid (RetB.not hb1)
        clear hb1
        go_wp2
        go_ret
        exact RetB.no (fun h => HB1.out (h.1 k hlt _ HX.out).1) (by (repeat (first | with_reducible exact Nw.refl _ | with_reducible assumption | with_reducible apply Nw.alloc | with_reducible apply Nw.drew | with_reducible apply Nw.drewN | (with_reducible refine Nw.setCell2 ?_ ?_; focus (first | (simp; done) | (simp; omega))) | with_reducible refine Nw.trans2 (by assumption) ?_)))
      | true =>
        have HB1 := hid (hb1.1 rfl)
        clear hb1
        go_wp2_with fail
        refine (l1In_any n _ _ _).mono ?_
        rintro e w2 ⟨b2, rfl, hb2, hq2⟩
        obtain ⟨hc2, hf2⟩ := hq2.cells
        have hz3 : wo.heap.size < w2.heap.size := by (have hz2 := hq2.size; omega)
        cases b2 with
        | false =>
          have HB2 := hid (RetB.not hb2)
          clear hb2
          go_wp2
          go_ret
          exact RetB.no (fun h => HB2.out (h.1 k hlt _ HX.out).2.1) (by (repeat (first | with_reducible exact Nw.refl _ | with_reducible assumption | with_reducible apply Nw.alloc | with_reducible apply Nw.drew | with_reducible apply Nw.drewN | (with_reducible refine Nw.setCell2 ?_ ?_; focus (first | (simp; done) | (simp; omega))) | with_reducible refine Nw.trans2 (by assumption) ?_)))
        | true =>
          have HB2 := hid (hb2.1 rfl)
          clear hb2
          have hbx : w2.cell? ⟨wo.heap.size, 0, none⟩ = some (.string s) := by go_simp
          have hN2 : Nw w w2 := by (repeat (first | with_reducible exact Nw.refl _ | with_reducible assumption | with_reducible apply Nw.alloc | with_reducible apply Nw.drew | with_reducible apply Nw.drewN | (with_reducible refine Nw.setCell2 ?_ ?_; focus (first | (simp; done) | (simp; omega))) | with_reducible refine Nw.trans2 (by assumption) ?_))
          have hk9 : k ≤ c := by omega
          clear hc1 hf1 hc2 hf2 c0 c1 hq1 hq2
          go_wp2
          go_loopw [28] (fun i wi => ∃ m : Nat, m ≤ k ∧ i = .int .i64 m ∧ (∀ j y, j < m → xs[j]? = some y → y.1 ≠ s) ∧ Nw w2 wi) (fun i _ => k - (intOf i).toNat)
          case atStart => exact ⟨0, Nat.zero_le _, rfl, fun j y h => absurd h (by omega), Nw.refl _⟩
          case round =>
            obtain ⟨m, hm2, rfl, hno, hqi⟩ := hrel
            have HN := hid hno
            clear hno
            obtain ⟨hci, hfi⟩ := hqi.cells
            have hzi : wo.heap.size < wr.heap.size := by have := hqi.size; omega
            by_cases hlm : m < k
            · obtain ⟨b', o', u0, u1, e', hy, d0, d1⟩ := ((hr.nw hN2).nw hqi).at2 rfl (List.getElem?_eq_getElem (show m < xs.length by omega))
              have HYm := hid (List.getElem?_eq_getElem (show m < xs.length by omega))
              generalize hym : xs[m] = y at *
              clear hym
              obtain ⟨t, n'⟩ := y
              obtain ⟨s0, s1⟩ := hy.open2 rfl
              obtain ⟨rfl, -⟩ := s0.str_
              obtain ⟨rfl, -⟩ := s1.int_
              simp only [Option.some.injEq, Addr.mk.injEq, and_true] at e'
              obtain ⟨rfl, rfl⟩ := e'
              clear hy s0 s1
              go_wp2
              · rename_i he
                go_ret
                exact RetB.no (fun h => (h.1 k hlt _ HX.out).2.2 m _ hlm HYm.out (str_eq he).symm) (by (repeat (first | with_reducible exact Nw.refl _ | with_reducible assumption | with_reducible apply Nw.alloc | with_reducible apply Nw.drew | with_reducible apply Nw.drewN | (with_reducible refine Nw.setCell2 ?_ ?_; focus (first | (simp; done) | (simp; omega))) | with_reducible refine Nw.trans2 (by assumption) ?_)))
              · go_roundw
                case rel =>
                  rename_i he
                  exact ⟨m + 1, by omega, by go_num, fun j y hj hy => by
                    by_cases e : j = m
                    · subst e
                      rw [HYm.out] at hy
                      cases hy
                      exact fun e => str_ne he e.symm
                    · exact HN.out j y (by omega) hy, by (repeat (first | with_reducible exact Nw.refl _ | with_reducible assumption | with_reducible apply Nw.alloc | with_reducible apply Nw.drew | with_reducible apply Nw.drewN | (with_reducible refine Nw.setCell2 ?_ ?_; focus (first | (simp; done) | (simp; omega))) | with_reducible refine Nw.trans2 (by assumption) ?_))⟩
                case measure => simp [intOf]; omega
            · go_wp2
              go_roundw
              case rel => exact ⟨k + 1, by omega, by go_num, SigOkAt.step HY.out (fun x hx => by
                rw [HX.out] at hx
                cases hx
                exact ⟨HB1.out, HB2.out, fun j y hj hy => HN.out j y (by omega) hy⟩), by (repeat (first | with_reducible exact Nw.refl _ | with_reducible assumption | with_reducible apply Nw.alloc | with_reducible apply Nw.drew | with_reducible apply Nw.drewN | (with_reducible refine Nw.setCell2 ?_ ?_; focus (first | (simp; done) | (simp; omega))) | with_reducible refine Nw.trans2 (by assumption) ?_))⟩
              case measure => simp [intOf]; omega
    · have : k = xs.length := by omega
      subst this
      go_wp2_with (go_at_call 174; refine (l1In_any _ _ _ _).mono ?_; rintro e w1 ⟨b, rfl, hb, hq1⟩)
      go_ret
      exact RetB.of (hb.trans ⟨fun h => ⟨HY.out, by omega, by omega⟩, fun h => by have := h.2; omega⟩) (hq.trans hq1)

theorem enters_areSignals1 : Enters Tryz.prog 264 := fun args W => run_enter Tryz.func264 (by kernel_rfl) rfl args W
theorem areSignals1_any (v0 v1 : Value) (x : DSignal) (g : Nat) (s : ByteArray) (W : World) (hx : Rep tSignal W [v0, v1] x) (hb : W.cell? ⟨g, 0, none⟩ = some (.string s)) :
    Calls Tryz.prog 264 #[.agg #[v0, v1], .pointer (some ⟨g, 0, none⟩)] W (RetB (x.1 = s) W) := by
  obtain ⟨t, n⟩ := x
  obtain ⟨r0, r1⟩ := hx.open2 rfl
  obtain ⟨rfl, -⟩ := r0.str_
  obtain ⟨rfl, -⟩ := r1.int_
  have hg : g < W.heap.size := World.block_lt_of_cell? W _ hb
  clear hx r0 r1
  by_cases h : t = s
  · have h2 := str_eq_t h
    have H := hid h
    clear h
    go_enter Tryz.func264, Tryz.ntmps264
    go_wp2
    go_ret
    exact RetB.of (by simp only [h2, H.out]) ((Nw.refl _).alloc _)
  · have h2 := str_eq_f h
    have H := hid h
    clear h
    go_enter Tryz.func264, Tryz.ntmps264
    go_wp2
    go_ret
    exact RetB.of (by simp only [h2, H.out]; simp) ((Nw.refl _).alloc _)

set_option maxRecDepth 100000 in
set_option maxHeartbeats 2000000 in
theorem areSignals_any (v : Value) (xs : List DSignal) (w : World) (hr : Rep (.sl 90 tSignal) w [v] xs) : Calls Tryz.prog 164 #[v] w (RetB (SigsOk xs) w) := by
  obtain ⟨A, c, rfl, hl, hc⟩ := hr.slv
  have hm : xs.length ≤ 9223372036854775807 := by unfold maxLen at hc; omega
  go_enter Tryz.func164, Tryz.ntmps164
  go_wp2
  go_loopw [7] (fun i wr => ∃ k : Nat, k ≤ xs.length ∧ i = .int .i64 k ∧ (∀ j, j < k → SigOkAt xs j) ∧ Nw w wr) (fun i _ => xs.length - (intOf i).toNat)
  case atStart => exact ⟨0, Nat.zero_le _, rfl, fun j h => absurd h (by omega), Nw.refl _⟩
  case round =>
    obtain ⟨wo, rfl⟩ : ∃ wo : World, wo = wr := ⟨_, rfl⟩
    obtain ⟨k, hk, rfl, hyes, hq⟩ := hrel
    have HY := hid hyes
    clear hyes
    by_cases hlt : k < xs.length
    · obtain ⟨b, o, v0, v1, rfl, hx, c0, c1⟩ := (hr.nw hq).at2 rfl (List.getElem?_eq_getElem hlt)
      have HX := hid (List.getElem?_eq_getElem hlt)
      generalize hxk : xs[k] = x at *
      clear hxk
      obtain ⟨s, n⟩ := x
      obtain ⟨r0, r1⟩ := hx.open2 rfl
      obtain ⟨rfl, hs⟩ := r0.str_
      obtain ⟨rfl, -⟩ := r1.int_
      have Hs := hid hs
      clear hx r0 r1 hs
      go_wp2_with fail
      refine (isName_any s _ Hs.out).mono ?_
      rintro e w1 ⟨b1, rfl, hb1, hq1⟩
      obtain ⟨hc1, hf1⟩ := hq1.cells
      have hz1 : wo.heap.size < w1.heap.size := by (have hz2 := hq1.size; simp at hz2; omega)
      cases b1 with
      | false =>
        have HB1 := hid (RetB.not hb1)
        clear hb1
        go_wp2
        go_ret
        exact RetB.no (fun h => HB1.out (h.1 k hlt _ HX.out).1) (by (repeat (first | with_reducible exact Nw.refl _ | with_reducible assumption | with_reducible apply Nw.alloc | with_reducible apply Nw.drew | with_reducible apply Nw.drewN | (with_reducible refine Nw.setCell2 ?_ ?_; focus (first | (simp; done) | (simp; omega))) | with_reducible refine Nw.trans2 (by assumption) ?_)))
      | true =>
        have HB1 := hid (hb1.1 rfl)
        clear hb1
        go_wp2_with fail
        refine (within_any n _ _ _).mono ?_
        rintro e w2 ⟨b2, rfl, hb2, hq2⟩
        obtain ⟨hc2, hf2⟩ := hq2.cells
        have hz3 : wo.heap.size < w2.heap.size := by (have hz2 := hq2.size; omega)
        cases b2 with
        | false =>
          have HB2 := hid (RetB.not hb2)
          clear hb2
          go_wp2
          go_ret
          exact RetB.no (fun h => HB2.out (h.1 k hlt _ HX.out).2.1) (by (repeat (first | with_reducible exact Nw.refl _ | with_reducible assumption | with_reducible apply Nw.alloc | with_reducible apply Nw.drew | with_reducible apply Nw.drewN | (with_reducible refine Nw.setCell2 ?_ ?_; focus (first | (simp; done) | (simp; omega))) | with_reducible refine Nw.trans2 (by assumption) ?_)))
        | true =>
          have HB2 := hid (hb2.1 rfl)
          clear hb2
          have hbx : w2.cell? ⟨wo.heap.size, 0, none⟩ = some (.string s) := by go_simp
          have hN2 : Nw w w2 := by (repeat (first | with_reducible exact Nw.refl _ | with_reducible assumption | with_reducible apply Nw.alloc | with_reducible apply Nw.drew | with_reducible apply Nw.drewN | (with_reducible refine Nw.setCell2 ?_ ?_; focus (first | (simp; done) | (simp; omega))) | with_reducible refine Nw.trans2 (by assumption) ?_))
          have hk9 : k ≤ c := by omega
          have HBX := hid hbx
          clear hc1 hf1 hc2 hf2 c0 c1 hq1 hq2 hbx
          go_wp2_with fail
          refine (containsFuncSignal_any (fun y => y.1 = s) (xs.take k) _ _ _ _ ((hr.nw hN2).cut hk c hk9 hc) enters_areSignals1 ?_).mono ?_
          · intro i y W u0 u1 hi hqW hy
            exact areSignals1_any u0 u1 y _ s W hy (by rw [(hqW.cells).1 _ _ hz3]; exact HBX.out)
          · rintro e w3 ⟨b3, rfl, hb3, hq3⟩
            cases b3 with
            | false =>
              have HB3 := hid (RetB.not hb3)
              clear hb3
              go_wp2
              go_roundw
              case rel => exact ⟨k + 1, by omega, by go_num, SigOkAt.step HY.out (fun x hx => by
                rw [HX.out] at hx
                cases hx
                refine ⟨HB1.out, HB2.out, fun j y hj hy e => HB3.out ⟨y, ?_, e⟩⟩
                exact List.mem_of_getElem? (i := j) (by rw [List.getElem?_take, if_pos hj]; exact hy)), by (repeat (first | with_reducible exact Nw.refl _ | with_reducible assumption | with_reducible apply Nw.alloc | with_reducible apply Nw.drew | with_reducible apply Nw.drewN | (with_reducible refine Nw.setCell2 ?_ ?_; focus (first | (simp; done) | (simp; omega))) | with_reducible refine Nw.trans2 (by assumption) ?_))⟩
              case measure => simp [intOf]; omega
            | true =>
              have HB3 := hid (hb3.1 rfl)
              clear hb3
              go_wp2
              go_ret
              refine RetB.no (fun h => ?_) (by (repeat (first | with_reducible exact Nw.refl _ | with_reducible assumption | with_reducible apply Nw.alloc | with_reducible apply Nw.drew | with_reducible apply Nw.drewN | (with_reducible refine Nw.setCell2 ?_ ?_; focus (first | (simp; done) | (simp; omega))) | with_reducible refine Nw.trans2 (by assumption) ?_)))
              obtain ⟨y, hy, e⟩ := HB3.out
              obtain ⟨j, hj⟩ := List.mem_iff_getElem?.1 hy
              rw [List.getElem?_take] at hj
              split at hj
              · exact (h.1 k hlt _ HX.out).2.2 j y (by assumption) hj e
              · cases hj
    · have : k = xs.length := by omega
      subst this
      go_wp2_with (go_at_call 84; refine (within_any _ _ _ _).mono ?_; rintro e w1 ⟨b, rfl, hb, hq1⟩)
      go_ret
      exact RetB.of (hb.trans ⟨fun h => ⟨HY.out, by omega, by omega⟩, fun h => by have := h.2; omega⟩) (hq.trans hq1)
end Go.Proofs.YtjaadeknhofhpaaGreat

/- Pins and wires. -/
namespace Go.Proofs.YtjaadeknhofhpaaGreat
open Go.RowKit

theorem cell_of_block (w : World) (g : Nat) (c : Array Value) (T : TypeId) (fr : Nat × Nat) (i : Nat) (h : w.heap[g]? = some (.cells c T fr)) : w.cell? ⟨g, i, none⟩ = c[i]? := by
  simp only [World.cell?, h]; rfl
theorem one_new (w : World) (c1 : Array Value) (T1 : TypeId) : ∃ W0, W0 = w.alloc (.cells c1 T1) ∧ Nw w W0 ∧ (∀ i, W0.cell? ⟨w.heap.size, i, none⟩ = c1[i]?) ∧ W0.heap.size = w.heap.size + 1 :=
  ⟨_, rfl, (Nw.refl _).alloc _, fun i => cell_of_block _ _ _ _ _ i (heap_alloc_new w _), by simp⟩
/-! ### arePins, wireOf -/
end Go.Proofs.YtjaadeknhofhpaaGreat

/- What the form reads at the laws' struct types is a datum. -/
namespace Go.Proofs.YtjaadeknhofhpaaGreat
open Go.RowKit
attribute [local irreducible] TF
theorem list_len5 {l : List Value} (h : l.length = 5) : ∃ a0 a1 a2 a3 a4, l = [a0, a1, a2, a3, a4] := by
  match l, h with
  | [a0, a1, a2, a3, a4], _ => exact ⟨a0, a1, a2, a3, a4, rfl⟩
theorem trdSignal : Trd Tryz.prog 225 lSignal := Trd.st Tryz.underlying225 (by kernel_rfl) (TF.cons _ rfl rfl (Trd.str (by kernel_rfl) (by kernel_rfl)) (TF.last _ rfl rfl (Trd.int (by kernel_rfl) (by kernel_rfl))))
theorem trdTransition : Trd Tryz.prog 303 lTransition := Trd.st Tryz.underlying303 (by kernel_rfl) (TF.cons _ rfl rfl (Trd.sl (by kernel_rfl) (by kernel_rfl) (Trd.int (by kernel_rfl) (by kernel_rfl))) (TF.last _ rfl rfl (Trd.sl (by kernel_rfl) (by kernel_rfl) (Trd.int (by kernel_rfl) (by kernel_rfl)))))
theorem trdNet : Trd Tryz.prog 69 lNet := Trd.st Tryz.underlying69 (by kernel_rfl) (TF.cons _ rfl rfl (Trd.int (by kernel_rfl) (by kernel_rfl)) (TF.last _ rfl rfl (Trd.sl (by kernel_rfl) (by kernel_rfl) trdTransition)))
theorem trdLabel : Trd Tryz.prog 239 lLabel := Trd.st Tryz.underlying239 (by kernel_rfl) (TF.cons _ rfl rfl (Trd.int (by kernel_rfl) (by kernel_rfl)) (TF.last _ rfl rfl (Trd.bool (by kernel_rfl) (by kernel_rfl))))
theorem trdSTG : Trd Tryz.prog 73 lSTG := Trd.st Tryz.underlying73 (by kernel_rfl) (TF.cons _ rfl rfl trdNet (TF.cons _ rfl rfl (Trd.sl (by kernel_rfl) (by kernel_rfl) trdSignal) (TF.cons _ rfl rfl (Trd.sl (by kernel_rfl) (by kernel_rfl) trdLabel) (TF.last _ rfl rfl (Trd.str (by kernel_rfl) (by kernel_rfl))))))
end Go.Proofs.YtjaadeknhofhpaaGreat
