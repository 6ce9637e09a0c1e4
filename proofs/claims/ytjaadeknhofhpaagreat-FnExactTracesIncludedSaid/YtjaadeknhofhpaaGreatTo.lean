/- The measures of the laws: what each 'sz..' returns. -/
import Derived.Test.YtjaadeknhofhpaaGreatOwn
import Derived.Test.YtjaadeknhofhpaaGreatProg
set_option linter.unusedSimpArgs false
set_option linter.unusedVariables false
set_option linter.unusedSectionVars false
namespace Go.Proofs.YtjaadeknhofhpaaGreat
open Go.RowKit

theorem tot_sl {E : TypeId} {e : Ty} (xs : List e.Den) : Ty.tot (.sl E e) xs = xs.length + (xs.map e.tot).sum := rfl
/-- What is left of l behind t: -1 for less than nothing. -/
def CutTo (l : Int) (t : Nat) (l' : Int) : Prop := (l < t ∧ l' = -1) ∨ (t ≤ l ∧ l' = l - t)
theorem CutTo.le {l l' : Int} {t : Nat} (h : CutTo l t l') (h0 : 0 ≤ l) (h1 : l ≤ 1048576) : -1 ≤ l' ∧ l' ≤ 1048576 := by unfold CutTo at h; omega
def SzPost (w : World) (l : Int) (t : Nat) (e : Ending) (w' : World) : Prop := ∃ l', e = .returned (.int .i64 l') ∧ CutTo l t l' ∧ Nw w w'

theorem szSignal_any (v0 v1 : Value) (x : DSignal) (left : Int) (w : World) (hr : Rep lSignal w [v0, v1] x) (h0 : 0 ≤ left) (h1 : left ≤ 1048576) :
    Calls Tryz.prog 206 #[.agg #[v0, v1], .int .i64 left] w (SzPost w left (Ty.tot lSignal x)) := by
  obtain ⟨x0, x1⟩ := x
  obtain ⟨r0, q0⟩ := hr.pr1 rfl
  have r1 := q0
  obtain ⟨rfl, hs0⟩ := r0.str_
  have hs0 : x0.size ≤ 9223372036854775807 := hs0
  obtain ⟨rfl, hi1a, hi1b⟩ := r1.int_
  have ht : Ty.tot lSignal (x0, x1) = x0.size + (0) := rfl
  rw [ht]
  go_enter Tryz.func206, Tryz.ntmps206
  go_wp2
  all_goals
    go_ret
    (try unfold CutTo at *)
    exact ⟨_, rfl, by unfold CutTo; omega, by (repeat (first | with_reducible exact Nw.refl _ | with_reducible assumption | with_reducible apply Nw.alloc | with_reducible apply Nw.drew | with_reducible apply Nw.drewN | (with_reducible refine Nw.setCell2 ?_ ?_; focus (first | (simp; done) | (simp; omega))) | with_reducible refine Nw.trans2 (by assumption) ?_))⟩

theorem szSignalS_any (v : Value) (xs : List (DSignal)) (left : Int) (w : World) (hr : Rep (.sl 225 lSignal) w [v] xs) (h0 : 0 ≤ left) (h1 : left ≤ 1048576) :
    Calls Tryz.prog 104 #[v, .int .i64 left] w (SzPost w left (Ty.tot (.sl 225 lSignal) xs)) := by
  obtain ⟨A, c, rfl, hl, hc⟩ := hr.slv
  have hm : xs.length ≤ 9223372036854775807 := by unfold maxLen at hc; omega
  go_enter Tryz.func104, Tryz.ntmps104
  go_wp2
  · go_ret
    exact ⟨_, rfl, by unfold CutTo; rw [tot_sl]; omega, Nw.refl _⟩
  · rename_i hge
    have hge : 0 ≤ left - xs.length := by omega
    go_loopw [1, 5] (fun l i wr => ∃ k : Nat, k ≤ xs.length ∧ i = .int .i64 k ∧ l = .int .i64 (left - xs.length - ((xs.take k).map (Ty.tot lSignal)).sum) ∧ 0 ≤ left - xs.length - ((xs.take k).map (Ty.tot lSignal)).sum ∧ Nw w wr)
      (fun _ i _ => xs.length - (intOf i).toNat)
    case atStart => exact ⟨0, Nat.zero_le _, rfl, by simp, by simpa using hge, Nw.refl _⟩
    case round =>
      obtain ⟨k, hk, rfl, rfl, hl, hq⟩ := hrel
      have h2 := sum_take_le (Ty.tot lSignal) xs k
      by_cases hlt : k < xs.length
      · obtain ⟨b, o, v0, v1, rfl, hx, c0, c1⟩ := (hr.nw hq).at2 rfl (List.getElem?_eq_getElem hlt)
        have hs := sum_take_succ (Ty.tot lSignal) xs k hlt
        generalize hS : ((xs.take k).map (Ty.tot lSignal)).sum = S at *
        clear hS
        generalize hS' : ((xs.take (k + 1)).map (Ty.tot lSignal)).sum = S' at *
        have HS : Hid (S' = S + Ty.tot lSignal xs[k]) := hs
        clear hs
        go_wp2_with (go_at_call 206; refine (szSignal_any _ _ _ _ _ (by exact hx) (by omega) (by omega)).mono ?_; rintro e w1 ⟨l1, rfl, hl1, hq1⟩; have hb1 := hl1.le (by omega) (by omega))
        · rename_i hneg
          have h4 := HS.out
          have h5 := sum_take_le (Ty.tot lSignal) xs (k + 1)
          unfold CutTo at hl1
          go_ret
          exact ⟨_, rfl, by unfold CutTo; rw [tot_sl]; omega, hq.trans hq1⟩
        · go_roundw
          case rel =>
            rename_i hneg
            have h4 := HS.out
            unfold CutTo at hl1
            exact ⟨k + 1, by omega, by go_num, by rw [hS']; simp; omega, by rw [hS']; omega, hq.trans hq1⟩
          case measure => simp [intOf]; omega
      · go_wp2
        go_ret
        have : k = xs.length := by omega
        subst this
        rw [List.take_length] at hl ⊢
        exact ⟨_, rfl, by unfold CutTo; rw [tot_sl]; omega, hq⟩

theorem szIntS_any (v : Value) (xs : List (Int)) (left : Int) (w : World) (hr : Rep (.sl 3 .int) w [v] xs) (h0 : 0 ≤ left) (h1 : left ≤ 1048576) :
    Calls Tryz.prog 347 #[v, .int .i64 left] w (SzPost w left (Ty.tot (.sl 3 .int) xs)) := by
  obtain ⟨A, c, rfl, hl, hc⟩ := hr.slv
  have hm : xs.length ≤ 9223372036854775807 := by unfold maxLen at hc; omega
  have hz : Ty.tot (.sl 3 .int) xs = xs.length := by rw [tot_sl, map_zero_sum xs (Ty.tot .int) (fun _ => rfl)]; rfl
  rw [hz]
  go_enter Tryz.func347, Tryz.ntmps347
  go_wp2
  all_goals
    go_ret
    exact ⟨_, rfl, by unfold CutTo; omega, Nw.refl _⟩

theorem szTransition_any (v0 v1 : Value) (x : DTransition) (left : Int) (w : World) (hr : Rep lTransition w [v0, v1] x) (h0 : 0 ≤ left) (h1 : left ≤ 1048576) :
    Calls Tryz.prog 286 #[.agg #[v0, v1], .int .i64 left] w (SzPost w left (Ty.tot lTransition x)) := by
  obtain ⟨x0, x1⟩ := x
  obtain ⟨r0, q0⟩ := hr.pr1 rfl
  have r1 := q0
  have ht : Ty.tot lTransition (x0, x1) = Ty.tot (.sl 3 .int) x0 + (Ty.tot (.sl 3 .int) x1) := rfl
  rw [ht]
  go_enter Tryz.func286, Tryz.ntmps286
  go_wp2_with (first | (go_at_call 347; refine (szIntS_any _ _ _ _ (by first | exact r0.nw (by (repeat (first | with_reducible exact Nw.refl _ | with_reducible assumption | with_reducible apply Nw.alloc | with_reducible apply Nw.drew | with_reducible apply Nw.drewN | (with_reducible refine Nw.setCell2 ?_ ?_; focus (first | (simp; done) | (simp; omega))) | with_reducible refine Nw.trans2 (by assumption) ?_))) | exact r1.nw (by (repeat (first | with_reducible exact Nw.refl _ | with_reducible assumption | with_reducible apply Nw.alloc | with_reducible apply Nw.drew | with_reducible apply Nw.drewN | (with_reducible refine Nw.setCell2 ?_ ?_; focus (first | (simp; done) | (simp; omega))) | with_reducible refine Nw.trans2 (by assumption) ?_)))) (by omega) (by omega)).mono ?_; rintro e w1 ⟨l1, rfl, hl1, hq1⟩; have hb1 := hl1.le (by omega) (by omega); obtain ⟨hc1, hf1⟩ := hq1.cells; have hz1 : w.heap.size < w1.heap.size := by (have hz2 := hq1.size; (try simp at hz2); omega)))
  all_goals
    go_ret
    (try unfold CutTo at *)
    exact ⟨_, rfl, by unfold CutTo; omega, by (repeat (first | with_reducible exact Nw.refl _ | with_reducible assumption | with_reducible apply Nw.alloc | with_reducible apply Nw.drew | with_reducible apply Nw.drewN | (with_reducible refine Nw.setCell2 ?_ ?_; focus (first | (simp; done) | (simp; omega))) | with_reducible refine Nw.trans2 (by assumption) ?_))⟩

theorem szTransitionS_any (v : Value) (xs : List (DTransition)) (left : Int) (w : World) (hr : Rep (.sl 303 lTransition) w [v] xs) (h0 : 0 ≤ left) (h1 : left ≤ 1048576) :
    Calls Tryz.prog 205 #[v, .int .i64 left] w (SzPost w left (Ty.tot (.sl 303 lTransition) xs)) := by
  obtain ⟨A, c, rfl, hl, hc⟩ := hr.slv
  have hm : xs.length ≤ 9223372036854775807 := by unfold maxLen at hc; omega
  go_enter Tryz.func205, Tryz.ntmps205
  go_wp2
  · go_ret
    exact ⟨_, rfl, by unfold CutTo; rw [tot_sl]; omega, Nw.refl _⟩
  · rename_i hge
    have hge : 0 ≤ left - xs.length := by omega
    go_loopw [1, 5] (fun l i wr => ∃ k : Nat, k ≤ xs.length ∧ i = .int .i64 k ∧ l = .int .i64 (left - xs.length - ((xs.take k).map (Ty.tot lTransition)).sum) ∧ 0 ≤ left - xs.length - ((xs.take k).map (Ty.tot lTransition)).sum ∧ Nw w wr)
      (fun _ i _ => xs.length - (intOf i).toNat)
    case atStart => exact ⟨0, Nat.zero_le _, rfl, by simp, by simpa using hge, Nw.refl _⟩
    case round =>
      obtain ⟨k, hk, rfl, rfl, hl, hq⟩ := hrel
      have h2 := sum_take_le (Ty.tot lTransition) xs k
      by_cases hlt : k < xs.length
      · obtain ⟨b, o, v0, v1, rfl, hx, c0, c1⟩ := (hr.nw hq).at2 rfl (List.getElem?_eq_getElem hlt)
        have hs := sum_take_succ (Ty.tot lTransition) xs k hlt
        generalize hS : ((xs.take k).map (Ty.tot lTransition)).sum = S at *
        clear hS
        generalize hS' : ((xs.take (k + 1)).map (Ty.tot lTransition)).sum = S' at *
        have HS : Hid (S' = S + Ty.tot lTransition xs[k]) := hs
        clear hs
        go_wp2_with (go_at_call 286; refine (szTransition_any _ _ _ _ _ (by exact hx) (by omega) (by omega)).mono ?_; rintro e w1 ⟨l1, rfl, hl1, hq1⟩; have hb1 := hl1.le (by omega) (by omega))
        · rename_i hneg
          have h4 := HS.out
          have h5 := sum_take_le (Ty.tot lTransition) xs (k + 1)
          unfold CutTo at hl1
          go_ret
          exact ⟨_, rfl, by unfold CutTo; rw [tot_sl]; omega, hq.trans hq1⟩
        · go_roundw
          case rel =>
            rename_i hneg
            have h4 := HS.out
            unfold CutTo at hl1
            exact ⟨k + 1, by omega, by go_num, by rw [hS']; simp; omega, by rw [hS']; omega, hq.trans hq1⟩
          case measure => simp [intOf]; omega
      · go_wp2
        go_ret
        have : k = xs.length := by omega
        subst this
        rw [List.take_length] at hl ⊢
        exact ⟨_, rfl, by unfold CutTo; rw [tot_sl]; omega, hq⟩

theorem szNet_any (v0 v1 : Value) (x : DNet) (left : Int) (w : World) (hr : Rep lNet w [v0, v1] x) (h0 : 0 ≤ left) (h1 : left ≤ 1048576) :
    Calls Tryz.prog 103 #[.agg #[v0, v1], .int .i64 left] w (SzPost w left (Ty.tot lNet x)) := by
  obtain ⟨x0, x1⟩ := x
  obtain ⟨r0, q0⟩ := hr.pr1 rfl
  have r1 := q0
  obtain ⟨rfl, hi0a, hi0b⟩ := r0.int_
  have ht : Ty.tot lNet (x0, x1) = 0 + (Ty.tot (.sl 303 lTransition) x1) := rfl
  rw [ht]
  go_enter Tryz.func103, Tryz.ntmps103
  go_wp2_with (first | (go_at_call 205; refine (szTransitionS_any _ _ _ _ (by first | exact r1.nw (by (repeat (first | with_reducible exact Nw.refl _ | with_reducible assumption | with_reducible apply Nw.alloc | with_reducible apply Nw.drew | with_reducible apply Nw.drewN | (with_reducible refine Nw.setCell2 ?_ ?_; focus (first | (simp; done) | (simp; omega))) | with_reducible refine Nw.trans2 (by assumption) ?_)))) (by omega) (by omega)).mono ?_; rintro e w1 ⟨l1, rfl, hl1, hq1⟩; have hb1 := hl1.le (by omega) (by omega); obtain ⟨hc1, hf1⟩ := hq1.cells; have hz1 : w.heap.size < w1.heap.size := by (have hz2 := hq1.size; (try simp at hz2); omega)))
  all_goals
    go_ret
    (try unfold CutTo at *)
    exact ⟨_, rfl, by unfold CutTo; omega, by (repeat (first | with_reducible exact Nw.refl _ | with_reducible assumption | with_reducible apply Nw.alloc | with_reducible apply Nw.drew | with_reducible apply Nw.drewN | (with_reducible refine Nw.setCell2 ?_ ?_; focus (first | (simp; done) | (simp; omega))) | with_reducible refine Nw.trans2 (by assumption) ?_))⟩

theorem szLabelS_any (v : Value) (xs : List (DLabel)) (left : Int) (w : World) (hr : Rep (.sl 239 lLabel) w [v] xs) (h0 : 0 ≤ left) (h1 : left ≤ 1048576) :
    Calls Tryz.prog 105 #[v, .int .i64 left] w (SzPost w left (Ty.tot (.sl 239 lLabel) xs)) := by
  obtain ⟨A, c, rfl, hl, hc⟩ := hr.slv
  have hm : xs.length ≤ 9223372036854775807 := by unfold maxLen at hc; omega
  have hz : Ty.tot (.sl 239 lLabel) xs = xs.length := by rw [tot_sl, map_zero_sum xs (Ty.tot lLabel) (fun _ => rfl)]; rfl
  rw [hz]
  go_enter Tryz.func105, Tryz.ntmps105
  go_wp2
  all_goals
    go_ret
    exact ⟨_, rfl, by unfold CutTo; omega, Nw.refl _⟩

theorem szSTG_any (v0 v1 v2 v3 v4 : Value) (x : DSTG) (left : Int) (w : World) (hr : Rep lSTG w [v0, v1, v2, v3, v4] x) (h0 : 0 ≤ left) (h1 : left ≤ 1048576) :
    Calls Tryz.prog 30 #[.agg #[v0, v1, v2, v3, v4], .int .i64 left] w (SzPost w left (Ty.tot lSTG x)) := by
  obtain ⟨x0, x1, x2, x3⟩ := x
  obtain ⟨r0, q0⟩ := hr.pr2 rfl
  obtain ⟨r1, q1⟩ := q0.pr1 rfl
  obtain ⟨r2, q2⟩ := q1.pr1 rfl
  have r3 := q2
  obtain ⟨rfl, hs3⟩ := r3.str_
  have hs3 : x3.size ≤ 9223372036854775807 := hs3
  have ht : Ty.tot lSTG (x0, x1, x2, x3) = Ty.tot lNet x0 + (Ty.tot (.sl 225 lSignal) x1 + (Ty.tot (.sl 239 lLabel) x2 + (x3.size))) := rfl
  rw [ht]
  go_enter Tryz.func30, Tryz.ntmps30
  go_wp2_with (first | (go_at_call 103; refine (szNet_any _ _ _ _ _ (by first | exact r0.nw (by (repeat (first | with_reducible exact Nw.refl _ | with_reducible assumption | with_reducible apply Nw.alloc | with_reducible apply Nw.drew | with_reducible apply Nw.drewN | (with_reducible refine Nw.setCell2 ?_ ?_; focus (first | (simp; done) | (simp; omega))) | with_reducible refine Nw.trans2 (by assumption) ?_)))) (by omega) (by omega)).mono ?_; rintro e w1 ⟨l1, rfl, hl1, hq1⟩; have hb1 := hl1.le (by omega) (by omega); obtain ⟨hc1, hf1⟩ := hq1.cells; have hz1 : w.heap.size < w1.heap.size := by (have hz2 := hq1.size; (try simp at hz2); omega)) | (go_at_call 104; refine (szSignalS_any _ _ _ _ (by first | exact r1.nw (by (repeat (first | with_reducible exact Nw.refl _ | with_reducible assumption | with_reducible apply Nw.alloc | with_reducible apply Nw.drew | with_reducible apply Nw.drewN | (with_reducible refine Nw.setCell2 ?_ ?_; focus (first | (simp; done) | (simp; omega))) | with_reducible refine Nw.trans2 (by assumption) ?_)))) (by omega) (by omega)).mono ?_; rintro e w1 ⟨l1, rfl, hl1, hq1⟩; have hb1 := hl1.le (by omega) (by omega); obtain ⟨hc1, hf1⟩ := hq1.cells; have hz1 : w.heap.size < w1.heap.size := by (have hz2 := hq1.size; (try simp at hz2); omega)) | (go_at_call 105; refine (szLabelS_any _ _ _ _ (by first | exact r2.nw (by (repeat (first | with_reducible exact Nw.refl _ | with_reducible assumption | with_reducible apply Nw.alloc | with_reducible apply Nw.drew | with_reducible apply Nw.drewN | (with_reducible refine Nw.setCell2 ?_ ?_; focus (first | (simp; done) | (simp; omega))) | with_reducible refine Nw.trans2 (by assumption) ?_)))) (by omega) (by omega)).mono ?_; rintro e w1 ⟨l1, rfl, hl1, hq1⟩; have hb1 := hl1.le (by omega) (by omega); obtain ⟨hc1, hf1⟩ := hq1.cells; have hz1 : w.heap.size < w1.heap.size := by (have hz2 := hq1.size; (try simp at hz2); omega)))
  all_goals
    go_ret
    (try unfold CutTo at *)
    exact ⟨_, rfl, by unfold CutTo; omega, by (repeat (first | with_reducible exact Nw.refl _ | with_reducible assumption | with_reducible apply Nw.alloc | with_reducible apply Nw.drew | with_reducible apply Nw.drewN | (with_reducible refine Nw.setCell2 ?_ ?_; focus (first | (simp; done) | (simp; omega))) | with_reducible refine Nw.trans2 (by assumption) ?_))⟩

end Go.Proofs.YtjaadeknhofhpaaGreat

/- What each 'to..' returns: the same data, in new memory. -/
namespace Go.Proofs.YtjaadeknhofhpaaGreat
open Go.RowKit

theorem tot_get {e : Ty} {E : TypeId} {xs : List e.Den} {k : Nat} (h : k < xs.length) : Ty.tot e xs[k] ≤ Ty.tot (.sl E e) xs := by
  rw [tot_sl]
  have h1 := sum_take_succ (Ty.tot e) xs k h
  have h2 := sum_take_le (Ty.tot e) xs (k + 1)
  omega
theorem len_tot {e : Ty} {E : TypeId} (xs : List e.Den) : xs.length ≤ Ty.tot (.sl E e) xs := by rw [tot_sl]; omega


set_option maxHeartbeats 1000000 in
theorem toSignal_any (v0 v1 : Value) (x : DSignal) (w : World) (hr : Rep lSignal w [v0, v1] x) (hz : Ty.tot lSignal x ≤ 1048576) :
    Calls Tryz.prog 213 #[.agg #[v0, v1]] w (Ret2 tSignal w x) := by
  obtain ⟨x0, x1⟩ := x
  obtain ⟨r0, q0⟩ := hr.pr1 rfl
  have r1 := q0
  obtain ⟨rfl, hs0⟩ := r0.str_
  have hs0 : x0.size ≤ 9223372036854775807 := hs0
  obtain ⟨rfl, hi1a, hi1b⟩ := r1.int_
  have ht : Ty.tot lSignal (x0, x1) = x0.size + (0) := rfl
  rw [ht] at hz
  clear ht
  go_enter Tryz.func213, Tryz.ntmps213
  skip
  go_wp2
  refine bodyPost_ret (v := .agg #[.string x0, .int .i64 x1]) (by simp only [results, Tryz.results213]; go_simp) rfl ⟨_, _, rfl, ?_, ?_⟩
  · refine Frs.mono (B := w.heap.size) (U := w.heap.size) ?_ (Nat.le_refl _) (by simp <;> omega)
    (refine Frs.join (a := .str) (b := .int) (l := [.string x0]) (r := [.int .i64 x1]) (x := x0) (y := (x1)) (M := w.heap.size) ?_ ?_ (by omega) (by omega); (focus (exact Frs.str (x := x0) hs0)); (exact Frs.int (x := x1) ⟨hi1a, hi1b⟩))
  · (repeat (first | with_reducible exact Nw.refl _ | with_reducible assumption | with_reducible apply Nw.alloc | with_reducible apply Nw.drew | with_reducible apply Nw.drewN | (with_reducible refine Nw.setCell2 ?_ ?_; focus (first | (simp; done) | (simp; omega))) | with_reducible refine Nw.trans2 (by assumption) ?_))

theorem infoSignal : (Tryz.prog.info? 90).map (fun i => (i.zero, i.size, i.bytes)) = some (some (.agg #[.string ByteArray.empty, .int .i64 0]), 2, 24) := by kernel_rfl

theorem toSignalS_any (v : Value) (xs : List (DSignal)) (w : World) (hr : Rep (.sl 225 lSignal) w [v] xs) (hz : Ty.tot (.sl 225 lSignal) xs ≤ 1048576) :
    Calls Tryz.prog 110 #[v] w (RetS 90 tSignal w xs) := by
  obtain ⟨A, c, rfl, hl, hc⟩ := hr.slv
  have hm : xs.length ≤ 1048576 := Nat.le_trans (len_tot (e := lSignal) xs) hz
  have hmk := run_make_n (P := Tryz.prog) 26 90 (.agg #[.string ByteArray.empty, .int .i64 0]) 2 24 Tryz.underlying26 infoSignal xs.length (by omega) (by omega)
  have hst := Fill.start (e := tSignal) w 90 (madeCells (Value.cells (.agg #[.string ByteArray.empty, .int .i64 0])) (xs.length * 2)) xs.length ((size_madeCells _ _).trans rfl) xs
  go_enter Tryz.func110, Tryz.ntmps110
  go_wp2
  clear hmk
  go_loopw [4] (fun i wr => ∃ k : Nat, k ≤ xs.length ∧ i = .int .i64 k ∧ Fill tSignal 90 w w.heap.size xs.length k wr xs) (fun i _ => xs.length - (intOf i).toNat)
  case atStart => exact ⟨0, Nat.zero_le _, rfl, hst⟩
  case round =>
    clear hst
    obtain ⟨k, hk, rfl, hF⟩ := hrel
    have hlt1 := hF.lt
    by_cases hlt : k < xs.length
    · obtain ⟨b, o, v0, v1, rfl, hx, c0, c1⟩ := (hr.nw hF.nw).at2 rfl (List.getElem?_eq_getElem hlt)
      have hzk := tot_get (e := lSignal) (E := 225) hlt
      go_wp2_with (go_at_call 213; refine (toSignal_any _ _ _ _ (by exact hx) (by omega)).mono ?_; rintro e w1 ⟨u0, u1, rfl, hf, hq1⟩; have ho0 : u0.oneCell' = true := hf.rep.one _ (by simp); have ho1 : u1.oneCell' = true := hf.rep.one _ (by simp); obtain ⟨p0, p1, e0, f0, e1, f1⟩ := hF.cells2 hq1 hlt rfl)
      go_roundw
      case rel => exact ⟨k + 1, by omega, by go_num, hF.step hq1 hlt (List.getElem?_eq_getElem hlt) hf⟩
      case measure => simp [intOf]; omega
    · go_wp2
      go_ret
      have : k = xs.length := by omega
      subst this
      exact ⟨_, _, rfl, (hF.done rfl (by unfold maxLen; omega)).mono hF.base (Nat.le_refl _), hF.nw⟩

theorem infoInt : (Tryz.prog.info? 3).map (fun i => (i.zero, i.size, i.bytes)) = some (some (.int .i64 0), 1, 8) := by kernel_rfl

theorem toIntS_any (v : Value) (xs : List (Int)) (w : World) (hr : Rep (.sl 3 .int) w [v] xs) (hz : Ty.tot (.sl 3 .int) xs ≤ 1048576) :
    Calls Tryz.prog 348 #[v] w (RetS 3 .int w xs) := by
  obtain ⟨A, c, rfl, hl, hc⟩ := hr.slv
  have hm : xs.length ≤ 1048576 := Nat.le_trans (len_tot (e := .int) xs) hz
  have hmk := run_make_n (P := Tryz.prog) 95 3 (.int .i64 0) 1 8 Tryz.underlying95 infoInt xs.length (by omega) (by omega)
  have hst := Fill.start (e := .int) w 3 (madeCells (Value.cells (.int .i64 0)) (xs.length * 1)) xs.length ((size_madeCells _ _).trans rfl) xs
  rw [Nat.mul_one] at hst
  go_enter Tryz.func348, Tryz.ntmps348
  go_wp2
  clear hmk
  go_loopw [4] (fun i wr => ∃ k : Nat, k ≤ xs.length ∧ i = .int .i64 k ∧ Fill .int 3 w w.heap.size xs.length k wr xs) (fun i _ => xs.length - (intOf i).toNat)
  case atStart => exact ⟨0, Nat.zero_le _, rfl, hst⟩
  case round =>
    clear hst
    obtain ⟨k, hk, rfl, hF⟩ := hrel
    have hlt1 := hF.lt
    by_cases hlt : k < xs.length
    · obtain ⟨b, o, v0, rfl, hx, c0⟩ := (hr.nw hF.nw).at1 rfl (List.getElem?_eq_getElem hlt)
      obtain ⟨rfl, hsz⟩ := hx.int_
      obtain ⟨p0, e0, f0⟩ := hF.cells1 (Nw.refl _) hlt rfl
      go_wp2
      go_roundw
      case rel => exact ⟨k + 1, by omega, by go_num, by have h9 := hF.step (Nw.refl _) hlt (List.getElem?_eq_getElem hlt) (Frs.int hsz); simpa [puts, Ty.wd] using h9⟩
      case measure => simp [intOf]; omega
    · go_wp2
      go_ret
      have : k = xs.length := by omega
      subst this
      exact ⟨_, _, rfl, (hF.done rfl (by unfold maxLen; omega)).mono hF.base (Nat.le_refl _), hF.nw⟩


set_option maxHeartbeats 1000000 in
theorem toTransition_any (v0 v1 : Value) (x : DTransition) (w : World) (hr : Rep lTransition w [v0, v1] x) (hz : Ty.tot lTransition x ≤ 1048576) :
    Calls Tryz.prog 290 #[.agg #[v0, v1]] w (Ret2 tTransition w x) := by
  obtain ⟨x0, x1⟩ := x
  obtain ⟨r0, q0⟩ := hr.pr1 rfl
  have r1 := q0
  have ht : Ty.tot lTransition (x0, x1) = Ty.tot (.sl 3 .int) x0 + (Ty.tot (.sl 3 .int) x1) := rfl
  rw [ht] at hz
  clear ht
  go_enter Tryz.func290, Tryz.ntmps290
  go_wp2_with fail
  refine (toIntS_any _ _ _ (by exact r0.nw (by (repeat (first | with_reducible exact Nw.refl _ | with_reducible assumption | with_reducible apply Nw.alloc | with_reducible apply Nw.drew | with_reducible apply Nw.drewN | (with_reducible refine Nw.setCell2 ?_ ?_; focus (first | (simp; done) | (simp; omega))) | with_reducible refine Nw.trans2 (by assumption) ?_)))) (by omega)).mono ?_
  rintro e w0 ⟨A0, c0, rfl, hf0, hq0⟩
  have hz0 : w.heap.size + 3 ≤ w0.heap.size := by (have h := hq0.size; simp at h; omega)
  have hB0 : Frs (.sl 3 .int) (w.heap.size + 3) w0.heap.size w0 [.slice A0 x0.length c0] x0 := by (refine Frs.mono hf0 ?_ ?_; simp; exact Nat.le_refl _)
  have hN0 : Nw w w0 := by (repeat (first | with_reducible exact Nw.refl _ | with_reducible assumption | with_reducible apply Nw.alloc | with_reducible apply Nw.drew | with_reducible apply Nw.drewN | (with_reducible refine Nw.setCell2 ?_ ?_; focus (first | (simp; done) | (simp; omega))) | with_reducible refine Nw.trans2 (by assumption) ?_))
  obtain ⟨hc0, hg0⟩ := hq0.cells
  clear hf0 hq0
  have hs30 : w.heap.size < w0.heap.size ∧ w.heap.size + 1 < w0.heap.size ∧ w.heap.size + 2 < w0.heap.size := by omega
  obtain ⟨ha0, hb0, hd0⟩ := hs30
  go_wp2_with fail
  refine (toIntS_any _ _ _ (by exact r1.nw (by (repeat (first | with_reducible exact Nw.refl _ | with_reducible assumption | with_reducible apply Nw.alloc | with_reducible apply Nw.drew | with_reducible apply Nw.drewN | (with_reducible refine Nw.setCell2 ?_ ?_; focus (first | (simp; done) | (simp; omega))) | with_reducible refine Nw.trans2 (by assumption) ?_)))) (by omega)).mono ?_
  rintro e w1 ⟨A1, c1, rfl, hf1, hq1⟩
  have hz1 : w0.heap.size ≤ w1.heap.size := by (have h := hq1.size; simp at h; omega)
  have hB1 : Frs (.sl 3 .int) w0.heap.size w1.heap.size w1 [.slice A1 x1.length c1] x1 := by (refine Frs.mono hf1 ?_ ?_; simp; exact Nat.le_refl _)
  replace hB0 := hB0.kb (w' := w1) (by (repeat (first | with_reducible exact Kb.refl | with_reducible assumption | with_reducible apply Kb.drew | with_reducible apply Kb.drewN | (with_reducible refine Kb.setCell2 ?_ ?_; focus (first | (simp; done) | (simp; omega))) | (with_reducible refine Kb.alloc2 ?_ ?_; focus (first | (simp; done) | (simp; omega))) | (with_reducible refine Kb.nw2 (by assumption) ?_ ?_; focus (first | (simp; done) | (simp; omega))))))
  have hN1 : Nw w w1 := by (repeat (first | with_reducible exact Nw.refl _ | with_reducible assumption | with_reducible apply Nw.alloc | with_reducible apply Nw.drew | with_reducible apply Nw.drewN | (with_reducible refine Nw.setCell2 ?_ ?_; focus (first | (simp; done) | (simp; omega))) | with_reducible refine Nw.trans2 (by assumption) ?_))
  obtain ⟨hc1, hg1⟩ := hq1.cells
  clear hf1 hq1
  have hl1 : w.heap.size + 3 ≤ w1.heap.size := by omega
  have hs31 : w.heap.size < w1.heap.size ∧ w.heap.size + 1 < w1.heap.size ∧ w.heap.size + 2 < w1.heap.size := by omega
  obtain ⟨ha1, hb1, hd1⟩ := hs31
  go_wp2
  refine bodyPost_ret (v := .agg #[.slice A0 x0.length c0, .slice A1 x1.length c1]) (by simp only [results, Tryz.results290]; go_simp) rfl ⟨_, _, rfl, ?_, ?_⟩
  · refine Frs.mono (B := w.heap.size) (U := w1.heap.size) ?_ (Nat.le_refl _) (by simp <;> omega)
    (refine Frs.join (a := (.sl 3 .int)) (b := (.sl 3 .int)) (l := [.slice A0 x0.length c0]) (r := [.slice A1 x1.length c1]) (x := x0) (y := (x1)) (M := w0.heap.size) ?_ ?_ (by omega) (by omega); (focus (refine Frs.mono (Frs.kb hB0 (by (repeat (first | with_reducible exact Kb.refl | with_reducible assumption | with_reducible apply Kb.drew | with_reducible apply Kb.drewN | (with_reducible refine Kb.setCell2 ?_ ?_; focus (first | (simp; done) | (simp; omega))) | (with_reducible refine Kb.alloc2 ?_ ?_; focus (first | (simp; done) | (simp; omega))) | (with_reducible refine Kb.nw2 (by assumption) ?_ ?_; focus (first | (simp; done) | (simp; omega))))))) ?_ ?_; omega; exact Nat.le_refl _)); (refine Frs.mono (Frs.kb hB1 (by (repeat (first | with_reducible exact Kb.refl | with_reducible assumption | with_reducible apply Kb.drew | with_reducible apply Kb.drewN | (with_reducible refine Kb.setCell2 ?_ ?_; focus (first | (simp; done) | (simp; omega))) | (with_reducible refine Kb.alloc2 ?_ ?_; focus (first | (simp; done) | (simp; omega))) | (with_reducible refine Kb.nw2 (by assumption) ?_ ?_; focus (first | (simp; done) | (simp; omega))))))) ?_ ?_; omega; exact Nat.le_refl _))
  · (repeat (first | with_reducible exact Nw.refl _ | with_reducible assumption | with_reducible apply Nw.alloc | with_reducible apply Nw.drew | with_reducible apply Nw.drewN | (with_reducible refine Nw.setCell2 ?_ ?_; focus (first | (simp; done) | (simp; omega))) | with_reducible refine Nw.trans2 (by assumption) ?_))

theorem infoTransition : (Tryz.prog.info? 198).map (fun i => (i.zero, i.size, i.bytes)) = some (some (.agg #[.slice none 0 0, .slice none 0 0]), 2, 48) := by kernel_rfl

theorem toTransitionS_any (v : Value) (xs : List (DTransition)) (w : World) (hr : Rep (.sl 303 lTransition) w [v] xs) (hz : Ty.tot (.sl 303 lTransition) xs ≤ 1048576) :
    Calls Tryz.prog 212 #[v] w (RetS 198 tTransition w xs) := by
  obtain ⟨A, c, rfl, hl, hc⟩ := hr.slv
  have hm : xs.length ≤ 1048576 := Nat.le_trans (len_tot (e := lTransition) xs) hz
  have hmk := run_make_n (P := Tryz.prog) 23 198 (.agg #[.slice none 0 0, .slice none 0 0]) 2 48 Tryz.underlying23 infoTransition xs.length (by omega) (by omega)
  have hst := Fill.start (e := tTransition) w 198 (madeCells (Value.cells (.agg #[.slice none 0 0, .slice none 0 0])) (xs.length * 2)) xs.length ((size_madeCells _ _).trans rfl) xs
  go_enter Tryz.func212, Tryz.ntmps212
  go_wp2
  clear hmk
  go_loopw [4] (fun i wr => ∃ k : Nat, k ≤ xs.length ∧ i = .int .i64 k ∧ Fill tTransition 198 w w.heap.size xs.length k wr xs) (fun i _ => xs.length - (intOf i).toNat)
  case atStart => exact ⟨0, Nat.zero_le _, rfl, hst⟩
  case round =>
    clear hst
    obtain ⟨k, hk, rfl, hF⟩ := hrel
    have hlt1 := hF.lt
    by_cases hlt : k < xs.length
    · obtain ⟨b, o, v0, v1, rfl, hx, c0, c1⟩ := (hr.nw hF.nw).at2 rfl (List.getElem?_eq_getElem hlt)
      have hzk := tot_get (e := lTransition) (E := 303) hlt
      go_wp2_with (go_at_call 290; refine (toTransition_any _ _ _ _ (by exact hx) (by omega)).mono ?_; rintro e w1 ⟨u0, u1, rfl, hf, hq1⟩; have ho0 : u0.oneCell' = true := hf.rep.one _ (by simp); have ho1 : u1.oneCell' = true := hf.rep.one _ (by simp); obtain ⟨p0, p1, e0, f0, e1, f1⟩ := hF.cells2 hq1 hlt rfl)
      go_roundw
      case rel => exact ⟨k + 1, by omega, by go_num, hF.step hq1 hlt (List.getElem?_eq_getElem hlt) hf⟩
      case measure => simp [intOf]; omega
    · go_wp2
      go_ret
      have : k = xs.length := by omega
      subst this
      exact ⟨_, _, rfl, (hF.done rfl (by unfold maxLen; omega)).mono hF.base (Nat.le_refl _), hF.nw⟩


set_option maxHeartbeats 1000000 in
theorem toNet_any (v0 v1 : Value) (x : DNet) (w : World) (hr : Rep lNet w [v0, v1] x) (hz : Ty.tot lNet x ≤ 1048576) :
    Calls Tryz.prog 109 #[.agg #[v0, v1]] w (Ret2 tNet w x) := by
  obtain ⟨x0, x1⟩ := x
  obtain ⟨r0, q0⟩ := hr.pr1 rfl
  have r1 := q0
  obtain ⟨rfl, hi0a, hi0b⟩ := r0.int_
  have ht : Ty.tot lNet (x0, x1) = 0 + (Ty.tot (.sl 303 lTransition) x1) := rfl
  rw [ht] at hz
  clear ht
  go_enter Tryz.func109, Tryz.ntmps109
  go_wp2_with fail
  refine (toTransitionS_any _ _ _ (by exact r1.nw (by (repeat (first | with_reducible exact Nw.refl _ | with_reducible assumption | with_reducible apply Nw.alloc | with_reducible apply Nw.drew | with_reducible apply Nw.drewN | (with_reducible refine Nw.setCell2 ?_ ?_; focus (first | (simp; done) | (simp; omega))) | with_reducible refine Nw.trans2 (by assumption) ?_)))) (by omega)).mono ?_
  rintro e w1 ⟨A1, c1, rfl, hf1, hq1⟩
  have hz1 : w.heap.size + 3 ≤ w1.heap.size := by (have h := hq1.size; simp at h; omega)
  have hB1 : Frs (.sl 198 tTransition) (w.heap.size + 3) w1.heap.size w1 [.slice A1 x1.length c1] x1 := by (refine Frs.mono hf1 ?_ ?_; simp; exact Nat.le_refl _)
  have hN1 : Nw w w1 := by (repeat (first | with_reducible exact Nw.refl _ | with_reducible assumption | with_reducible apply Nw.alloc | with_reducible apply Nw.drew | with_reducible apply Nw.drewN | (with_reducible refine Nw.setCell2 ?_ ?_; focus (first | (simp; done) | (simp; omega))) | with_reducible refine Nw.trans2 (by assumption) ?_))
  obtain ⟨hc1, hg1⟩ := hq1.cells
  clear hf1 hq1
  have hs31 : w.heap.size < w1.heap.size ∧ w.heap.size + 1 < w1.heap.size ∧ w.heap.size + 2 < w1.heap.size := by omega
  obtain ⟨ha1, hb1, hd1⟩ := hs31
  go_wp2
  refine bodyPost_ret (v := .agg #[.int .i64 x0, .slice A1 x1.length c1]) (by simp only [results, Tryz.results109]; go_simp) rfl ⟨_, _, rfl, ?_, ?_⟩
  · refine Frs.mono (B := w.heap.size) (U := w1.heap.size) ?_ (Nat.le_refl _) (by simp <;> omega)
    (refine Frs.join (a := .int) (b := (.sl 198 tTransition)) (l := [.int .i64 x0]) (r := [.slice A1 x1.length c1]) (x := x0) (y := (x1)) (M := w.heap.size) ?_ ?_ (by omega) (by omega); (focus (exact Frs.int (x := x0) ⟨hi0a, hi0b⟩)); (refine Frs.mono (Frs.kb hB1 (by (repeat (first | with_reducible exact Kb.refl | with_reducible assumption | with_reducible apply Kb.drew | with_reducible apply Kb.drewN | (with_reducible refine Kb.setCell2 ?_ ?_; focus (first | (simp; done) | (simp; omega))) | (with_reducible refine Kb.alloc2 ?_ ?_; focus (first | (simp; done) | (simp; omega))) | (with_reducible refine Kb.nw2 (by assumption) ?_ ?_; focus (first | (simp; done) | (simp; omega))))))) ?_ ?_; omega; exact Nat.le_refl _))
  · (repeat (first | with_reducible exact Nw.refl _ | with_reducible assumption | with_reducible apply Nw.alloc | with_reducible apply Nw.drew | with_reducible apply Nw.drewN | (with_reducible refine Nw.setCell2 ?_ ?_; focus (first | (simp; done) | (simp; omega))) | with_reducible refine Nw.trans2 (by assumption) ?_))


set_option maxHeartbeats 1000000 in
theorem toLabel_any (v0 v1 : Value) (x : DLabel) (w : World) (hr : Rep lLabel w [v0, v1] x) (hz : Ty.tot lLabel x ≤ 1048576) :
    Calls Tryz.prog 214 #[.agg #[v0, v1]] w (Ret2 tLabel w x) := by
  obtain ⟨x0, x1⟩ := x
  obtain ⟨r0, q0⟩ := hr.pr1 rfl
  have r1 := q0
  obtain ⟨rfl, hi0a, hi0b⟩ := r0.int_
  obtain rfl := r1.bool_
  have ht : Ty.tot lLabel (x0, x1) = 0 + (0) := rfl
  rw [ht] at hz
  clear ht
  go_enter Tryz.func214, Tryz.ntmps214
  skip
  go_wp2
  refine bodyPost_ret (v := .agg #[.int .i64 x0, .bool x1]) (by simp only [results, Tryz.results214]; go_simp) rfl ⟨_, _, rfl, ?_, ?_⟩
  · refine Frs.mono (B := w.heap.size) (U := w.heap.size) ?_ (Nat.le_refl _) (by simp <;> omega)
    (refine Frs.join (a := .int) (b := .bool) (l := [.int .i64 x0]) (r := [.bool x1]) (x := x0) (y := (x1)) (M := w.heap.size) ?_ ?_ (by omega) (by omega); (focus (exact Frs.int (x := x0) ⟨hi0a, hi0b⟩)); (exact Frs.bool (x := x1)))
  · (repeat (first | with_reducible exact Nw.refl _ | with_reducible assumption | with_reducible apply Nw.alloc | with_reducible apply Nw.drew | with_reducible apply Nw.drewN | (with_reducible refine Nw.setCell2 ?_ ?_; focus (first | (simp; done) | (simp; omega))) | with_reducible refine Nw.trans2 (by assumption) ?_))

theorem infoLabel : (Tryz.prog.info? 55).map (fun i => (i.zero, i.size, i.bytes)) = some (some (.agg #[.int .i64 0, .bool false]), 2, 16) := by kernel_rfl

theorem toLabelS_any (v : Value) (xs : List (DLabel)) (w : World) (hr : Rep (.sl 239 lLabel) w [v] xs) (hz : Ty.tot (.sl 239 lLabel) xs ≤ 1048576) :
    Calls Tryz.prog 111 #[v] w (RetS 55 tLabel w xs) := by
  obtain ⟨A, c, rfl, hl, hc⟩ := hr.slv
  have hm : xs.length ≤ 1048576 := Nat.le_trans (len_tot (e := lLabel) xs) hz
  have hmk := run_make_n (P := Tryz.prog) 27 55 (.agg #[.int .i64 0, .bool false]) 2 16 Tryz.underlying27 infoLabel xs.length (by omega) (by omega)
  have hst := Fill.start (e := tLabel) w 55 (madeCells (Value.cells (.agg #[.int .i64 0, .bool false])) (xs.length * 2)) xs.length ((size_madeCells _ _).trans rfl) xs
  go_enter Tryz.func111, Tryz.ntmps111
  go_wp2
  clear hmk
  go_loopw [4] (fun i wr => ∃ k : Nat, k ≤ xs.length ∧ i = .int .i64 k ∧ Fill tLabel 55 w w.heap.size xs.length k wr xs) (fun i _ => xs.length - (intOf i).toNat)
  case atStart => exact ⟨0, Nat.zero_le _, rfl, hst⟩
  case round =>
    clear hst
    obtain ⟨k, hk, rfl, hF⟩ := hrel
    have hlt1 := hF.lt
    by_cases hlt : k < xs.length
    · obtain ⟨b, o, v0, v1, rfl, hx, c0, c1⟩ := (hr.nw hF.nw).at2 rfl (List.getElem?_eq_getElem hlt)
      have hzk := tot_get (e := lLabel) (E := 239) hlt
      go_wp2_with (go_at_call 214; refine (toLabel_any _ _ _ _ (by exact hx) (by omega)).mono ?_; rintro e w1 ⟨u0, u1, rfl, hf, hq1⟩; have ho0 : u0.oneCell' = true := hf.rep.one _ (by simp); have ho1 : u1.oneCell' = true := hf.rep.one _ (by simp); obtain ⟨p0, p1, e0, f0, e1, f1⟩ := hF.cells2 hq1 hlt rfl)
      go_roundw
      case rel => exact ⟨k + 1, by omega, by go_num, hF.step hq1 hlt (List.getElem?_eq_getElem hlt) hf⟩
      case measure => simp [intOf]; omega
    · go_wp2
      go_ret
      have : k = xs.length := by omega
      subst this
      exact ⟨_, _, rfl, (hF.done rfl (by unfold maxLen; omega)).mono hF.base (Nat.le_refl _), hF.nw⟩


set_option maxHeartbeats 1000000 in
theorem toSTG_any (v0 v1 v2 v3 v4 : Value) (x : DSTG) (w : World) (hr : Rep lSTG w [v0, v1, v2, v3, v4] x) (hz : Ty.tot lSTG x ≤ 1048576) :
    Calls Tryz.prog 32 #[.agg #[v0, v1, v2, v3, v4]] w (Ret5 tSTG w x) := by
  obtain ⟨x0, x1, x2, x3⟩ := x
  obtain ⟨r0, q0⟩ := hr.pr2 rfl
  obtain ⟨r1, q1⟩ := q0.pr1 rfl
  obtain ⟨r2, q2⟩ := q1.pr1 rfl
  have r3 := q2
  obtain ⟨rfl, hs3⟩ := r3.str_
  have hs3 : x3.size ≤ 9223372036854775807 := hs3
  have ht : Ty.tot lSTG (x0, x1, x2, x3) = Ty.tot lNet x0 + (Ty.tot (.sl 225 lSignal) x1 + (Ty.tot (.sl 239 lLabel) x2 + (x3.size))) := rfl
  rw [ht] at hz
  clear ht
  go_enter Tryz.func32, Tryz.ntmps32
  go_wp2_with fail
  refine (toNet_any _ _ _ _ (by exact r0.nw (by (repeat (first | with_reducible exact Nw.refl _ | with_reducible assumption | with_reducible apply Nw.alloc | with_reducible apply Nw.drew | with_reducible apply Nw.drewN | (with_reducible refine Nw.setCell2 ?_ ?_; focus (first | (simp; done) | (simp; omega))) | with_reducible refine Nw.trans2 (by assumption) ?_)))) (by omega)).mono ?_
  rintro e w0 ⟨u00, u01, rfl, hf0, hq0⟩
  have hz0 : w.heap.size + 3 ≤ w0.heap.size := by (have h := hq0.size; simp at h; omega)
  have hB0 : Frs tNet (w.heap.size + 3) w0.heap.size w0 [u00, u01] x0 := by (refine Frs.mono hf0 ?_ ?_; simp; exact Nat.le_refl _)
  have hN0 : Nw w w0 := by (repeat (first | with_reducible exact Nw.refl _ | with_reducible assumption | with_reducible apply Nw.alloc | with_reducible apply Nw.drew | with_reducible apply Nw.drewN | (with_reducible refine Nw.setCell2 ?_ ?_; focus (first | (simp; done) | (simp; omega))) | with_reducible refine Nw.trans2 (by assumption) ?_))
  obtain ⟨hc0, hg0⟩ := hq0.cells
  have ou00 : u00.oneCell' = true := hf0.rep.one _ (by simp)
  have ou01 : u01.oneCell' = true := hf0.rep.one _ (by simp)
  clear hf0 hq0
  have hs30 : w.heap.size < w0.heap.size ∧ w.heap.size + 1 < w0.heap.size ∧ w.heap.size + 2 < w0.heap.size := by omega
  obtain ⟨ha0, hb0, hd0⟩ := hs30
  go_wp2_with fail
  refine (toSignalS_any _ _ _ (by exact r1.nw (by (repeat (first | with_reducible exact Nw.refl _ | with_reducible assumption | with_reducible apply Nw.alloc | with_reducible apply Nw.drew | with_reducible apply Nw.drewN | (with_reducible refine Nw.setCell2 ?_ ?_; focus (first | (simp; done) | (simp; omega))) | with_reducible refine Nw.trans2 (by assumption) ?_)))) (by omega)).mono ?_
  rintro e w1 ⟨A1, c1, rfl, hf1, hq1⟩
  have hz1 : w0.heap.size ≤ w1.heap.size := by (have h := hq1.size; simp at h; omega)
  have hB1 : Frs (.sl 90 tSignal) w0.heap.size w1.heap.size w1 [.slice A1 x1.length c1] x1 := by (refine Frs.mono hf1 ?_ ?_; simp; exact Nat.le_refl _)
  replace hB0 := hB0.kb (w' := w1) (by (repeat (first | with_reducible exact Kb.refl | with_reducible assumption | with_reducible apply Kb.drew | with_reducible apply Kb.drewN | (with_reducible refine Kb.setCell2 ?_ ?_; focus (first | (simp; done) | (simp; omega))) | (with_reducible refine Kb.alloc2 ?_ ?_; focus (first | (simp; done) | (simp; omega))) | (with_reducible refine Kb.nw2 (by assumption) ?_ ?_; focus (first | (simp; done) | (simp; omega))))))
  have hN1 : Nw w w1 := by (repeat (first | with_reducible exact Nw.refl _ | with_reducible assumption | with_reducible apply Nw.alloc | with_reducible apply Nw.drew | with_reducible apply Nw.drewN | (with_reducible refine Nw.setCell2 ?_ ?_; focus (first | (simp; done) | (simp; omega))) | with_reducible refine Nw.trans2 (by assumption) ?_))
  obtain ⟨hc1, hg1⟩ := hq1.cells
  clear hf1 hq1
  have hl1 : w.heap.size + 3 ≤ w1.heap.size := by omega
  have hs31 : w.heap.size < w1.heap.size ∧ w.heap.size + 1 < w1.heap.size ∧ w.heap.size + 2 < w1.heap.size := by omega
  obtain ⟨ha1, hb1, hd1⟩ := hs31
  go_wp2_with fail
  refine (toLabelS_any _ _ _ (by exact r2.nw (by (repeat (first | with_reducible exact Nw.refl _ | with_reducible assumption | with_reducible apply Nw.alloc | with_reducible apply Nw.drew | with_reducible apply Nw.drewN | (with_reducible refine Nw.setCell2 ?_ ?_; focus (first | (simp; done) | (simp; omega))) | with_reducible refine Nw.trans2 (by assumption) ?_)))) (by omega)).mono ?_
  rintro e w2 ⟨A2, c2, rfl, hf2, hq2⟩
  have hz2 : w1.heap.size ≤ w2.heap.size := by (have h := hq2.size; simp at h; omega)
  have hB2 : Frs (.sl 55 tLabel) w1.heap.size w2.heap.size w2 [.slice A2 x2.length c2] x2 := by (refine Frs.mono hf2 ?_ ?_; simp; exact Nat.le_refl _)
  replace hB0 := hB0.kb (w' := w2) (by (repeat (first | with_reducible exact Kb.refl | with_reducible assumption | with_reducible apply Kb.drew | with_reducible apply Kb.drewN | (with_reducible refine Kb.setCell2 ?_ ?_; focus (first | (simp; done) | (simp; omega))) | (with_reducible refine Kb.alloc2 ?_ ?_; focus (first | (simp; done) | (simp; omega))) | (with_reducible refine Kb.nw2 (by assumption) ?_ ?_; focus (first | (simp; done) | (simp; omega))))))
  replace hB1 := hB1.kb (w' := w2) (by (repeat (first | with_reducible exact Kb.refl | with_reducible assumption | with_reducible apply Kb.drew | with_reducible apply Kb.drewN | (with_reducible refine Kb.setCell2 ?_ ?_; focus (first | (simp; done) | (simp; omega))) | (with_reducible refine Kb.alloc2 ?_ ?_; focus (first | (simp; done) | (simp; omega))) | (with_reducible refine Kb.nw2 (by assumption) ?_ ?_; focus (first | (simp; done) | (simp; omega))))))
  have hN2 : Nw w w2 := by (repeat (first | with_reducible exact Nw.refl _ | with_reducible assumption | with_reducible apply Nw.alloc | with_reducible apply Nw.drew | with_reducible apply Nw.drewN | (with_reducible refine Nw.setCell2 ?_ ?_; focus (first | (simp; done) | (simp; omega))) | with_reducible refine Nw.trans2 (by assumption) ?_))
  obtain ⟨hc2, hg2⟩ := hq2.cells
  clear hf2 hq2
  have hl2 : w.heap.size + 3 ≤ w2.heap.size := by omega
  have hs32 : w.heap.size < w2.heap.size ∧ w.heap.size + 1 < w2.heap.size ∧ w.heap.size + 2 < w2.heap.size := by omega
  obtain ⟨ha2, hb2, hd2⟩ := hs32
  go_wp2
  refine bodyPost_ret (v := .agg #[u00, u01, .slice A1 x1.length c1, .slice A2 x2.length c2, .string x3]) (by simp only [results, Tryz.results32]; go_simp) rfl ⟨_, _, _, _, _, rfl, ?_, ?_⟩
  · refine Frs.mono (B := w.heap.size) (U := w2.heap.size) ?_ (Nat.le_refl _) (by simp <;> omega)
    (refine Frs.join (a := tNet) (b := (.pr (.sl 90 tSignal) (.pr (.sl 55 tLabel) .str))) (l := [u00, u01]) (r := [.slice A1 x1.length c1, .slice A2 x2.length c2, .string x3]) (x := x0) (y := (x1, x2, x3)) (M := w0.heap.size) ?_ ?_ (by omega) (by omega); (focus (refine Frs.mono (Frs.kb hB0 (by (repeat (first | with_reducible exact Kb.refl | with_reducible assumption | with_reducible apply Kb.drew | with_reducible apply Kb.drewN | (with_reducible refine Kb.setCell2 ?_ ?_; focus (first | (simp; done) | (simp; omega))) | (with_reducible refine Kb.alloc2 ?_ ?_; focus (first | (simp; done) | (simp; omega))) | (with_reducible refine Kb.nw2 (by assumption) ?_ ?_; focus (first | (simp; done) | (simp; omega))))))) ?_ ?_; omega; exact Nat.le_refl _)); ((refine Frs.join (a := (.sl 90 tSignal)) (b := (.pr (.sl 55 tLabel) .str)) (l := [.slice A1 x1.length c1]) (r := [.slice A2 x2.length c2, .string x3]) (x := x1) (y := (x2, x3)) (M := w1.heap.size) ?_ ?_ (by omega) (by omega); (focus (refine Frs.mono (Frs.kb hB1 (by (repeat (first | with_reducible exact Kb.refl | with_reducible assumption | with_reducible apply Kb.drew | with_reducible apply Kb.drewN | (with_reducible refine Kb.setCell2 ?_ ?_; focus (first | (simp; done) | (simp; omega))) | (with_reducible refine Kb.alloc2 ?_ ?_; focus (first | (simp; done) | (simp; omega))) | (with_reducible refine Kb.nw2 (by assumption) ?_ ?_; focus (first | (simp; done) | (simp; omega))))))) ?_ ?_; omega; exact Nat.le_refl _)); ((refine Frs.join (a := (.sl 55 tLabel)) (b := .str) (l := [.slice A2 x2.length c2]) (r := [.string x3]) (x := x2) (y := (x3)) (M := w2.heap.size) ?_ ?_ (by omega) (by omega); (focus (refine Frs.mono (Frs.kb hB2 (by (repeat (first | with_reducible exact Kb.refl | with_reducible assumption | with_reducible apply Kb.drew | with_reducible apply Kb.drewN | (with_reducible refine Kb.setCell2 ?_ ?_; focus (first | (simp; done) | (simp; omega))) | (with_reducible refine Kb.alloc2 ?_ ?_; focus (first | (simp; done) | (simp; omega))) | (with_reducible refine Kb.nw2 (by assumption) ?_ ?_; focus (first | (simp; done) | (simp; omega))))))) ?_ ?_; omega; exact Nat.le_refl _)); (exact Frs.str (x := x3) hs3))))))
  · (repeat (first | with_reducible exact Nw.refl _ | with_reducible assumption | with_reducible apply Nw.alloc | with_reducible apply Nw.drew | with_reducible apply Nw.drewN | (with_reducible refine Nw.setCell2 ?_ ?_; focus (first | (simp; done) | (simp; omega))) | with_reducible refine Nw.trans2 (by assumption) ?_))

end Go.Proofs.YtjaadeknhofhpaaGreat
