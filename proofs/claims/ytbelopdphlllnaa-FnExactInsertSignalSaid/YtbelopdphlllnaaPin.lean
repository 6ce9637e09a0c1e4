/- What each 'to..' returns: the same data, in new memory. -/
import Derived.Test.YtbelopdphlllnaaSz
import Derived.StillTailTactics
set_option linter.unusedSimpArgs false
set_option linter.unusedVariables false
namespace Go.Proofs.Ytbelopdphlllnaa
open Go.RowKit

theorem tot_get {e : Ty} {E : TypeId} {xs : List e.Den} {k : Nat} (h : k < xs.length) : Ty.tot e xs[k] ≤ Ty.tot (.sl E e) xs := by
  rw [tot_sl]
  have h1 := sum_take_succ (Ty.tot e) xs k h
  have h2 := sum_take_le (Ty.tot e) xs (k + 1)
  omega
theorem len_tot {e : Ty} {E : TypeId} (xs : List e.Den) : xs.length ≤ Ty.tot (.sl E e) xs := by rw [tot_sl]; omega


set_option maxHeartbeats 1000000 in
theorem toSignal_any (v0 v1 : Value) (x : DSignal) (w : World) (hr : Rep lSignal w [v0, v1] x) (hz : Ty.tot lSignal x ≤ 1048576) :
    Calls Try.prog 99 #[.agg #[v0, v1]] w (Ret2 tSignal w x) := by
  obtain ⟨x0, x1⟩ := x
  obtain ⟨r0, q0⟩ := hr.pr1 rfl
  have r1 := q0
  obtain ⟨rfl, hs0⟩ := r0.str_
  have hs0 : x0.size ≤ 9223372036854775807 := hs0
  obtain ⟨rfl, hi1a, hi1b⟩ := r1.int_
  have ht : Ty.tot lSignal (x0, x1) = x0.size + (0) := rfl
  rw [ht] at hz
  clear ht
  go_enter Try.func99, Try.ntmps99
  skip
  go_wp2
  refine bodyPost_ret (v := .agg #[.string x0, .int .i64 x1]) (by simp only [results, Try.results99]; go_simp) rfl ⟨_, _, rfl, ?_, ?_⟩
  · refine Frs.mono (B := w.heap.size) (U := w.heap.size) ?_ (Nat.le_refl _) (by simp <;> omega)
    (refine Frs.join (a := .str) (b := .int) (l := [.string x0]) (r := [.int .i64 x1]) (x := x0) (y := (x1)) (M := w.heap.size) ?_ ?_ (by omega) (by omega); (focus (exact Frs.str (x := x0) hs0)); (exact Frs.int (x := x1) ⟨hi1a, hi1b⟩))
  · (repeat (first | with_reducible exact Nw.refl _ | with_reducible assumption | with_reducible apply Nw.alloc | with_reducible apply Nw.drew | with_reducible apply Nw.drewN | (with_reducible refine Nw.setCell2 ?_ ?_; focus (first | (simp; done) | (simp; omega))) | with_reducible refine Nw.trans2 (by assumption) ?_))

theorem infoSignal : (Try.prog.info? 129).map (fun i => (i.zero, i.size, i.bytes)) = some (some (.agg #[.string ByteArray.empty, .int .i64 0]), 2, 24) := by kernel_rfl

theorem toSignalS_any (v : Value) (xs : List (DSignal)) (w : World) (hr : Rep (.sl 133 lSignal) w [v] xs) (hz : Ty.tot (.sl 133 lSignal) xs ≤ 1048576) :
    Calls Try.prog 46 #[v] w (RetS 129 tSignal w xs) := by
  obtain ⟨A, c, rfl, hl, hc⟩ := hr.slv
  have hm : xs.length ≤ 1048576 := Nat.le_trans (len_tot (e := lSignal) xs) hz
  have hmk := run_make_n (P := Try.prog) 29 129 (.agg #[.string ByteArray.empty, .int .i64 0]) 2 24 Try.underlying29 infoSignal xs.length (by omega) (by omega)
  have hst := Fill.start (e := tSignal) w 129 (madeCells (Value.cells (.agg #[.string ByteArray.empty, .int .i64 0])) (xs.length * 2)) xs.length ((size_madeCells _ _).trans rfl) xs
  go_enter Try.func46, Try.ntmps46
  go_wp2
  clear hmk
  go_loopw [4] (fun i wr => ∃ k : Nat, k ≤ xs.length ∧ i = .int .i64 k ∧ Fill tSignal 129 w w.heap.size xs.length k wr xs) (fun i _ => xs.length - (intOf i).toNat)
  case atStart => exact ⟨0, Nat.zero_le _, rfl, hst⟩
  case round =>
    clear hst
    obtain ⟨k, hk, rfl, hF⟩ := hrel
    have hlt1 := hF.lt
    by_cases hlt : k < xs.length
    · obtain ⟨b, o, v0, v1, rfl, hx, c0, c1⟩ := (hr.nw hF.nw).at2 rfl (List.getElem?_eq_getElem hlt)
      have hzk := tot_get (e := lSignal) (E := 133) hlt
      go_wp2_with (go_at_call 99; refine (toSignal_any _ _ _ _ (by exact hx) (by omega)).mono ?_; rintro e w1 ⟨u0, u1, rfl, hf, hq1⟩; have ho0 : u0.oneCell' = true := hf.rep.one _ (by simp); have ho1 : u1.oneCell' = true := hf.rep.one _ (by simp); obtain ⟨p0, p1, e0, f0, e1, f1⟩ := hF.cells2 hq1 hlt rfl)
      go_roundw
      case rel => exact ⟨k + 1, by omega, by go_num, hF.step hq1 hlt (List.getElem?_eq_getElem hlt) hf⟩
      case measure => simp [intOf]; omega
    · go_wp2
      go_ret
      have : k = xs.length := by omega
      subst this
      exact ⟨_, _, rfl, (hF.done rfl (by unfold maxLen; omega)).mono hF.base (Nat.le_refl _), hF.nw⟩


theorem infoString : (Try.prog.info? 9).map (fun i => (i.zero, i.size, i.bytes)) = some (some (.string ByteArray.empty), 1, 16) := by kernel_rfl

theorem toStringS_any (v : Value) (xs : List (ByteArray)) (w : World) (hr : Rep (.sl 9 .str) w [v] xs) (hz : Ty.tot (.sl 9 .str) xs ≤ 1048576) :
    Calls Try.prog 76 #[v] w (RetS 9 .str w xs) := by
  obtain ⟨A, c, rfl, hl, hc⟩ := hr.slv
  have hm : xs.length ≤ 1048576 := Nat.le_trans (len_tot (e := .str) xs) hz
  have hmk := run_make_n (P := Try.prog) 67 9 (.string ByteArray.empty) 1 16 Try.underlying67 infoString xs.length (by omega) (by omega)
  have hst := Fill.start (e := .str) w 9 (madeCells (Value.cells (.string ByteArray.empty)) (xs.length * 1)) xs.length ((size_madeCells _ _).trans rfl) xs
  rw [Nat.mul_one] at hst
  go_enter Try.func76, Try.ntmps76
  go_wp2
  clear hmk
  go_loopw [4] (fun i wr => ∃ k : Nat, k ≤ xs.length ∧ i = .int .i64 k ∧ Fill .str 9 w w.heap.size xs.length k wr xs) (fun i _ => xs.length - (intOf i).toNat)
  case atStart => exact ⟨0, Nat.zero_le _, rfl, hst⟩
  case round =>
    clear hst
    obtain ⟨k, hk, rfl, hF⟩ := hrel
    have hlt1 := hF.lt
    by_cases hlt : k < xs.length
    · obtain ⟨b, o, v0, rfl, hx, c0⟩ := (hr.nw hF.nw).at1 rfl (List.getElem?_eq_getElem hlt)
      obtain ⟨rfl, hsz⟩ := hx.str_
      obtain ⟨p0, e0, f0⟩ := hF.cells1 (Nw.refl _) hlt rfl
      go_wp2
      go_roundw
      case rel => exact ⟨k + 1, by omega, by go_num, by have h9 := hF.step (Nw.refl _) hlt (List.getElem?_eq_getElem hlt) (Frs.str hsz); simpa [puts, Ty.wd] using h9⟩
      case measure => simp [intOf]; omega
    · go_wp2
      go_ret
      have : k = xs.length := by omega
      subst this
      exact ⟨_, _, rfl, (hF.done rfl (by unfold maxLen; omega)).mono hF.base (Nat.le_refl _), hF.nw⟩


set_option maxHeartbeats 1000000 in
theorem toArc_any (v0 v1 v2 v3 : Value) (x : DArc) (w : World) (hr : Rep lArc w [v0, v1, v2, v3] x) (hz : Ty.tot lArc x ≤ 1048576) :
    Calls Try.prog 129 #[.agg #[v0, v1, v2, v3]] w (Ret4 tArc w x) := by
  obtain ⟨x0, x1, x2, x3⟩ := x
  obtain ⟨r0, q0⟩ := hr.pr1 rfl
  obtain ⟨r1, q1⟩ := q0.pr1 rfl
  obtain ⟨r2, q2⟩ := q1.pr1 rfl
  have r3 := q2
  obtain ⟨rfl, hi0a, hi0b⟩ := r0.int_
  obtain ⟨rfl, hi1a, hi1b⟩ := r1.int_
  obtain rfl := r2.bool_
  obtain ⟨rfl, hi3a, hi3b⟩ := r3.int_
  have ht : Ty.tot lArc (x0, x1, x2, x3) = 0 + (0 + (0 + (0))) := rfl
  rw [ht] at hz
  clear ht
  go_enter Try.func129, Try.ntmps129
  skip
  go_wp2
  refine bodyPost_ret (v := .agg #[.int .i64 x0, .int .i64 x1, .bool x2, .int .i64 x3]) (by simp only [results, Try.results129]; go_simp) rfl ⟨_, _, _, _, rfl, ?_, ?_⟩
  · refine Frs.mono (B := w.heap.size) (U := w.heap.size) ?_ (Nat.le_refl _) (by simp <;> omega)
    (refine Frs.join (a := .int) (b := (.pr .int (.pr .bool .int))) (l := [.int .i64 x0]) (r := [.int .i64 x1, .bool x2, .int .i64 x3]) (x := x0) (y := (x1, x2, x3)) (M := w.heap.size) ?_ ?_ (by omega) (by omega); (focus (exact Frs.int (x := x0) ⟨hi0a, hi0b⟩)); ((refine Frs.join (a := .int) (b := (.pr .bool .int)) (l := [.int .i64 x1]) (r := [.bool x2, .int .i64 x3]) (x := x1) (y := (x2, x3)) (M := w.heap.size) ?_ ?_ (by omega) (by omega); (focus (exact Frs.int (x := x1) ⟨hi1a, hi1b⟩)); ((refine Frs.join (a := .bool) (b := .int) (l := [.bool x2]) (r := [.int .i64 x3]) (x := x2) (y := (x3)) (M := w.heap.size) ?_ ?_ (by omega) (by omega); (focus (exact Frs.bool (x := x2))); (exact Frs.int (x := x3) ⟨hi3a, hi3b⟩))))))
  · (repeat (first | with_reducible exact Nw.refl _ | with_reducible assumption | with_reducible apply Nw.alloc | with_reducible apply Nw.drew | with_reducible apply Nw.drewN | (with_reducible refine Nw.setCell2 ?_ ?_; focus (first | (simp; done) | (simp; omega))) | with_reducible refine Nw.trans2 (by assumption) ?_))

theorem infoArc : (Try.prog.info? 170).map (fun i => (i.zero, i.size, i.bytes)) = some (some (.agg #[.int .i64 0, .int .i64 0, .bool false, .int .i64 0]), 4, 32) := by kernel_rfl

theorem toArcS_any (v : Value) (xs : List (DArc)) (w : World) (hr : Rep (.sl 172 lArc) w [v] xs) (hz : Ty.tot (.sl 172 lArc) xs ≤ 1048576) :
    Calls Try.prog 77 #[v] w (RetS 170 tArc w xs) := by
  obtain ⟨A, c, rfl, hl, hc⟩ := hr.slv
  have hm : xs.length ≤ 1048576 := Nat.le_trans (len_tot (e := lArc) xs) hz
  have hmk := run_make_n (P := Try.prog) 75 170 (.agg #[.int .i64 0, .int .i64 0, .bool false, .int .i64 0]) 4 32 Try.underlying75 infoArc xs.length (by omega) (by omega)
  have hst := Fill.start (e := tArc) w 170 (madeCells (Value.cells (.agg #[.int .i64 0, .int .i64 0, .bool false, .int .i64 0])) (xs.length * 4)) xs.length ((size_madeCells _ _).trans rfl) xs
  go_enter Try.func77, Try.ntmps77
  go_wp2
  clear hmk
  go_loopw [4] (fun i wr => ∃ k : Nat, k ≤ xs.length ∧ i = .int .i64 k ∧ Fill tArc 170 w w.heap.size xs.length k wr xs) (fun i _ => xs.length - (intOf i).toNat)
  case atStart => exact ⟨0, Nat.zero_le _, rfl, hst⟩
  case round =>
    clear hst
    obtain ⟨k, hk, rfl, hF⟩ := hrel
    have hlt1 := hF.lt
    by_cases hlt : k < xs.length
    · obtain ⟨b, o, v0, v1, v2, v3, rfl, hx, c0, c1, c2, c3⟩ := (hr.nw hF.nw).at4 rfl (List.getElem?_eq_getElem hlt)
      have hzk := tot_get (e := lArc) (E := 172) hlt
      go_wp2_with (go_at_call 129; refine (toArc_any _ _ _ _ _ _ (by exact hx) (by omega)).mono ?_; rintro e w1 ⟨u0, u1, u2, u3, rfl, hf, hq1⟩; have ho0 : u0.oneCell' = true := hf.rep.one _ (by simp); have ho1 : u1.oneCell' = true := hf.rep.one _ (by simp); have ho2 : u2.oneCell' = true := hf.rep.one _ (by simp); have ho3 : u3.oneCell' = true := hf.rep.one _ (by simp); obtain ⟨p0, p1, p2, p3, e0, f0, e1, f1, e2, f2, e3, f3⟩ := hF.cells4 hq1 hlt rfl)
      go_roundw
      case rel => exact ⟨k + 1, by omega, by go_num, hF.step hq1 hlt (List.getElem?_eq_getElem hlt) hf⟩
      case measure => simp [intOf]; omega
    · go_wp2
      go_ret
      have : k = xs.length := by omega
      subst this
      exact ⟨_, _, rfl, (hF.done rfl (by unfold maxLen; omega)).mono hF.base (Nat.le_refl _), hF.nw⟩


set_option maxHeartbeats 1000000 in
theorem toStateGraph_any (v0 v1 v2 : Value) (x : DStateGraph) (w : World) (hr : Rep lStateGraph w [v0, v1, v2] x) (hz : Ty.tot lStateGraph x ≤ 1048576) :
    Calls Try.prog 30 #[.agg #[v0, v1, v2]] w (Ret3 tStateGraph w x) := by
  obtain ⟨x0, x1, x2⟩ := x
  obtain ⟨r0, q0⟩ := hr.pr1 rfl
  obtain ⟨r1, q1⟩ := q0.pr1 rfl
  have r2 := q1
  have ht : Ty.tot lStateGraph (x0, x1, x2) = Ty.tot (.sl 133 lSignal) x0 + (Ty.tot (.sl 9 .str) x1 + (Ty.tot (.sl 172 lArc) x2)) := rfl
  rw [ht] at hz
  clear ht
  go_enter Try.func30, Try.ntmps30
  go_wp2_with fail
  refine (toSignalS_any _ _ _ (by exact r0.nw (by (repeat (first | with_reducible exact Nw.refl _ | with_reducible assumption | with_reducible apply Nw.alloc | with_reducible apply Nw.drew | with_reducible apply Nw.drewN | (with_reducible refine Nw.setCell2 ?_ ?_; focus (first | (simp; done) | (simp; omega))) | with_reducible refine Nw.trans2 (by assumption) ?_)))) (by omega)).mono ?_
  rintro e w0 ⟨A0, c0, rfl, hf0, hq0⟩
  have hz0 : w.heap.size + 3 ≤ w0.heap.size := by (have h := hq0.size; simp at h; omega)
  have hB0 : Frs (.sl 129 tSignal) (w.heap.size + 3) w0.heap.size w0 [.slice A0 x0.length c0] x0 := by (refine Frs.mono hf0 ?_ ?_; simp; exact Nat.le_refl _)
  have hN0 : Nw w w0 := by (repeat (first | with_reducible exact Nw.refl _ | with_reducible assumption | with_reducible apply Nw.alloc | with_reducible apply Nw.drew | with_reducible apply Nw.drewN | (with_reducible refine Nw.setCell2 ?_ ?_; focus (first | (simp; done) | (simp; omega))) | with_reducible refine Nw.trans2 (by assumption) ?_))
  obtain ⟨hc0, hg0⟩ := hq0.cells
  clear hf0 hq0
  have hs30 : w.heap.size < w0.heap.size ∧ w.heap.size + 1 < w0.heap.size ∧ w.heap.size + 2 < w0.heap.size := by omega
  obtain ⟨ha0, hb0, hd0⟩ := hs30
  go_wp2_with fail
  refine (toStringS_any _ _ _ (by exact r1.nw (by (repeat (first | with_reducible exact Nw.refl _ | with_reducible assumption | with_reducible apply Nw.alloc | with_reducible apply Nw.drew | with_reducible apply Nw.drewN | (with_reducible refine Nw.setCell2 ?_ ?_; focus (first | (simp; done) | (simp; omega))) | with_reducible refine Nw.trans2 (by assumption) ?_)))) (by omega)).mono ?_
  rintro e w1 ⟨A1, c1, rfl, hf1, hq1⟩
  have hz1 : w0.heap.size ≤ w1.heap.size := by (have h := hq1.size; simp at h; omega)
  have hB1 : Frs (.sl 9 .str) w0.heap.size w1.heap.size w1 [.slice A1 x1.length c1] x1 := by (refine Frs.mono hf1 ?_ ?_; simp; exact Nat.le_refl _)
  replace hB0 := hB0.kb (w' := w1) (by (repeat (first | with_reducible exact Kb.refl | with_reducible assumption | with_reducible apply Kb.drew | with_reducible apply Kb.drewN | (with_reducible refine Kb.setCell2 ?_ ?_; focus (first | (simp; done) | (simp; omega))) | (with_reducible refine Kb.alloc2 ?_ ?_; focus (first | (simp; done) | (simp; omega))) | (with_reducible refine Kb.nw2 (by assumption) ?_ ?_; focus (first | (simp; done) | (simp; omega))))))
  have hN1 : Nw w w1 := by (repeat (first | with_reducible exact Nw.refl _ | with_reducible assumption | with_reducible apply Nw.alloc | with_reducible apply Nw.drew | with_reducible apply Nw.drewN | (with_reducible refine Nw.setCell2 ?_ ?_; focus (first | (simp; done) | (simp; omega))) | with_reducible refine Nw.trans2 (by assumption) ?_))
  obtain ⟨hc1, hg1⟩ := hq1.cells
  clear hf1 hq1
  have hl1 : w.heap.size + 3 ≤ w1.heap.size := by omega
  have hs31 : w.heap.size < w1.heap.size ∧ w.heap.size + 1 < w1.heap.size ∧ w.heap.size + 2 < w1.heap.size := by omega
  obtain ⟨ha1, hb1, hd1⟩ := hs31
  go_wp2_with fail
  refine (toArcS_any _ _ _ (by exact r2.nw (by (repeat (first | with_reducible exact Nw.refl _ | with_reducible assumption | with_reducible apply Nw.alloc | with_reducible apply Nw.drew | with_reducible apply Nw.drewN | (with_reducible refine Nw.setCell2 ?_ ?_; focus (first | (simp; done) | (simp; omega))) | with_reducible refine Nw.trans2 (by assumption) ?_)))) (by omega)).mono ?_
  rintro e w2 ⟨A2, c2, rfl, hf2, hq2⟩
  have hz2 : w1.heap.size ≤ w2.heap.size := by (have h := hq2.size; simp at h; omega)
  have hB2 : Frs (.sl 170 tArc) w1.heap.size w2.heap.size w2 [.slice A2 x2.length c2] x2 := by (refine Frs.mono hf2 ?_ ?_; simp; exact Nat.le_refl _)
  replace hB0 := hB0.kb (w' := w2) (by (repeat (first | with_reducible exact Kb.refl | with_reducible assumption | with_reducible apply Kb.drew | with_reducible apply Kb.drewN | (with_reducible refine Kb.setCell2 ?_ ?_; focus (first | (simp; done) | (simp; omega))) | (with_reducible refine Kb.alloc2 ?_ ?_; focus (first | (simp; done) | (simp; omega))) | (with_reducible refine Kb.nw2 (by assumption) ?_ ?_; focus (first | (simp; done) | (simp; omega))))))
  replace hB1 := hB1.kb (w' := w2) (by (repeat (first | with_reducible exact Kb.refl | with_reducible assumption | with_reducible apply Kb.drew | with_reducible apply Kb.drewN | (with_reducible refine Kb.setCell2 ?_ ?_; focus (first | (simp; done) | (simp; omega))) | (with_reducible refine Kb.alloc2 ?_ ?_; focus (first | (simp; done) | (simp; omega))) | (with_reducible refine Kb.nw2 (by assumption) ?_ ?_; focus (first | (simp; done) | (simp; omega))))))
  have hN2 : Nw w w2 := by (repeat (first | with_reducible exact Nw.refl _ | with_reducible assumption | with_reducible apply Nw.alloc | with_reducible apply Nw.drew | with_reducible apply Nw.drewN | (with_reducible refine Nw.setCell2 ?_ ?_; focus (first | (simp; done) | (simp; omega))) | with_reducible refine Nw.trans2 (by assumption) ?_))
  obtain ⟨hc2, hg2⟩ := hq2.cells
  clear hf2 hq2
  have hl2 : w.heap.size + 3 ≤ w2.heap.size := by omega
  have hs32 : w.heap.size < w2.heap.size ∧ w.heap.size + 1 < w2.heap.size ∧ w.heap.size + 2 < w2.heap.size := by omega
  obtain ⟨ha2, hb2, hd2⟩ := hs32
  go_wp2
  refine bodyPost_ret (v := .agg #[.slice A0 x0.length c0, .slice A1 x1.length c1, .slice A2 x2.length c2]) (by simp only [results, Try.results30]; go_simp) rfl ⟨_, _, _, rfl, ?_, ?_⟩
  · refine Frs.mono (B := w.heap.size) (U := w2.heap.size) ?_ (Nat.le_refl _) (by simp <;> omega)
    (refine Frs.join (a := (.sl 129 tSignal)) (b := (.pr (.sl 9 .str) (.sl 170 tArc))) (l := [.slice A0 x0.length c0]) (r := [.slice A1 x1.length c1, .slice A2 x2.length c2]) (x := x0) (y := (x1, x2)) (M := w0.heap.size) ?_ ?_ (by omega) (by omega); (focus (refine Frs.mono (Frs.kb hB0 (by (repeat (first | with_reducible exact Kb.refl | with_reducible assumption | with_reducible apply Kb.drew | with_reducible apply Kb.drewN | (with_reducible refine Kb.setCell2 ?_ ?_; focus (first | (simp; done) | (simp; omega))) | (with_reducible refine Kb.alloc2 ?_ ?_; focus (first | (simp; done) | (simp; omega))) | (with_reducible refine Kb.nw2 (by assumption) ?_ ?_; focus (first | (simp; done) | (simp; omega))))))) ?_ ?_; omega; exact Nat.le_refl _)); ((refine Frs.join (a := (.sl 9 .str)) (b := (.sl 170 tArc)) (l := [.slice A1 x1.length c1]) (r := [.slice A2 x2.length c2]) (x := x1) (y := (x2)) (M := w1.heap.size) ?_ ?_ (by omega) (by omega); (focus (refine Frs.mono (Frs.kb hB1 (by (repeat (first | with_reducible exact Kb.refl | with_reducible assumption | with_reducible apply Kb.drew | with_reducible apply Kb.drewN | (with_reducible refine Kb.setCell2 ?_ ?_; focus (first | (simp; done) | (simp; omega))) | (with_reducible refine Kb.alloc2 ?_ ?_; focus (first | (simp; done) | (simp; omega))) | (with_reducible refine Kb.nw2 (by assumption) ?_ ?_; focus (first | (simp; done) | (simp; omega))))))) ?_ ?_; omega; exact Nat.le_refl _)); (refine Frs.mono (Frs.kb hB2 (by (repeat (first | with_reducible exact Kb.refl | with_reducible assumption | with_reducible apply Kb.drew | with_reducible apply Kb.drewN | (with_reducible refine Kb.setCell2 ?_ ?_; focus (first | (simp; done) | (simp; omega))) | (with_reducible refine Kb.alloc2 ?_ ?_; focus (first | (simp; done) | (simp; omega))) | (with_reducible refine Kb.nw2 (by assumption) ?_ ?_; focus (first | (simp; done) | (simp; omega))))))) ?_ ?_; omega; exact Nat.le_refl _))))
  · (repeat (first | with_reducible exact Nw.refl _ | with_reducible assumption | with_reducible apply Nw.alloc | with_reducible apply Nw.drew | with_reducible apply Nw.drewN | (with_reducible refine Nw.setCell2 ?_ ?_; focus (first | (simp; done) | (simp; omega))) | with_reducible refine Nw.trans2 (by assumption) ?_))

end Go.Proofs.Ytbelopdphlllnaa

/- What each 'eq..' returns of equal data: true. -/
namespace Go.Proofs.Ytbelopdphlllnaa
open Go.RowKit

def RetTrue (w : World) (e : Ending) (w' : World) : Prop := e = .returned (.bool true) ∧ Nw w w'

set_option maxHeartbeats 1000000 in
theorem eqSignal_same (v0 v1 u0 u1 : Value) (x : DSignal) (w : World) (hr : Rep tSignal w [v0, v1] x) (hs : Rep tSignal w [u0, u1] x) :
    Calls Try.prog 102 #[.agg #[v0, v1], .agg #[u0, u1]] w (RetTrue w) := by
  obtain ⟨x0, x1⟩ := x
  obtain ⟨r0, q0⟩ := hr.pr1 rfl
  have r1 := q0
  obtain ⟨rfl, hs0⟩ := r0.str_
  have hs0 : x0.size ≤ 9223372036854775807 := hs0
  obtain ⟨rfl, hi1a, hi1b⟩ := r1.int_
  obtain ⟨s0, p0⟩ := hs.pr1 rfl
  have s1 := p0
  obtain ⟨rfl, -⟩ := s0.str_
  obtain ⟨rfl, -⟩ := s1.int_
  go_enter Try.func102, Try.ntmps102
  go_wp2
  go_ret
  exact ⟨rfl, by (repeat (first | with_reducible exact Nw.refl _ | with_reducible assumption | with_reducible apply Nw.alloc | with_reducible apply Nw.drew | with_reducible apply Nw.drewN | (with_reducible refine Nw.setCell2 ?_ ?_; focus (first | (simp; done) | (simp; omega))) | with_reducible refine Nw.trans2 (by assumption) ?_))⟩

set_option maxRecDepth 100000 in
set_option maxHeartbeats 1000000 in
theorem eqSignalS_same (v u : Value) (xs : List (DSignal)) (w : World) (hr : Rep (.sl 129 tSignal) w [v] xs) (hs : Rep (.sl 129 tSignal) w [u] xs) :
    Calls Try.prog 50 #[v, u] w (RetTrue w) := by
  obtain ⟨A, c, rfl, hl, hc⟩ := hr.slv
  obtain ⟨A', c', rfl, hl', hc'⟩ := hs.slv
  have hm : xs.length ≤ 9223372036854775807 := by unfold maxLen at hc; omega
  go_enter Try.func50, Try.ntmps50
  go_wp2
  go_loopw [5] (fun i wr => ∃ k : Nat, k ≤ xs.length ∧ i = .int .i64 k ∧ Nw w wr) (fun i _ => xs.length - (intOf i).toNat)
  case atStart => exact ⟨0, Nat.zero_le _, rfl, Nw.refl _⟩
  case round =>
    obtain ⟨k, hk, rfl, hq⟩ := hrel
    by_cases hlt : k < xs.length
    · obtain ⟨b, o, v0, v1, rfl, hx, c0, c1⟩ := (hr.nw hq).at2 rfl (List.getElem?_eq_getElem hlt)
      obtain ⟨b', o', u0, u1, rfl, hy, d0, d1⟩ := (hs.nw hq).at2 rfl (List.getElem?_eq_getElem hlt)
      have hi0 : (0 : Int) ≤ k := by omega
      have hi1 : (k : Int) < xs.length := by omega
      go_wp2_with fail
      go_still_tail 8, (by kernel_rfl)
      change wpList _ _ _ _ _ wr.drew
      go_wp2_with (go_at_call 102; refine (eqSignal_same _ _ _ _ _ _ (by exact hx.drew) (by exact hy.drew)).mono ?_; rintro e w1 ⟨rfl, hq1⟩)
      go_roundw
      case rel => exact ⟨k + 1, by omega, by go_num, hq.drew.trans hq1⟩
      case measure => simp [intOf]; omega
    · go_wp2
      go_ret
      exact ⟨rfl, hq⟩

set_option maxRecDepth 100000 in
set_option maxHeartbeats 1000000 in
theorem eqStringS_same (v u : Value) (xs : List (ByteArray)) (w : World) (hr : Rep (.sl 9 .str) w [v] xs) (hs : Rep (.sl 9 .str) w [u] xs) :
    Calls Try.prog 79 #[v, u] w (RetTrue w) := by
  obtain ⟨A, c, rfl, hl, hc⟩ := hr.slv
  obtain ⟨A', c', rfl, hl', hc'⟩ := hs.slv
  have hm : xs.length ≤ 9223372036854775807 := by unfold maxLen at hc; omega
  go_enter Try.func79, Try.ntmps79
  go_wp2
  go_loopw [5] (fun i wr => ∃ k : Nat, k ≤ xs.length ∧ i = .int .i64 k ∧ Nw w wr) (fun i _ => xs.length - (intOf i).toNat)
  case atStart => exact ⟨0, Nat.zero_le _, rfl, Nw.refl _⟩
  case round =>
    obtain ⟨k, hk, rfl, hq⟩ := hrel
    by_cases hlt : k < xs.length
    · obtain ⟨b, o, v0, rfl, hx, c0⟩ := (hr.nw hq).at1 rfl (List.getElem?_eq_getElem hlt)
      obtain ⟨b', o', u0, rfl, hy, d0⟩ := (hs.nw hq).at1 rfl (List.getElem?_eq_getElem hlt)
      obtain ⟨rfl, -⟩ := hx.str_
      obtain ⟨rfl, -⟩ := hy.str_
      have hi0 : (0 : Int) ≤ k := by omega
      have hi1 : (k : Int) < xs.length := by omega
      go_wp2_with fail
      go_quiet (fail)
      go_wp2
      go_roundw
      case rel => exact ⟨k + 1, by omega, by go_num, hq.drewN _⟩
      case measure => simp [intOf]; omega
    · go_wp2
      go_ret
      exact ⟨rfl, hq⟩

set_option maxRecDepth 100000 in
set_option maxHeartbeats 1000000 in
theorem eqIntS_same (v u : Value) (xs : List (Int)) (w : World) (hr : Rep (.sl 3 .int) w [v] xs) (hs : Rep (.sl 3 .int) w [u] xs) :
    Calls Try.prog 32 #[v, u] w (RetTrue w) := by
  obtain ⟨A, c, rfl, hl, hc⟩ := hr.slv
  obtain ⟨A', c', rfl, hl', hc'⟩ := hs.slv
  have hm : xs.length ≤ 9223372036854775807 := by unfold maxLen at hc; omega
  go_enter Try.func32, Try.ntmps32
  go_wp2
  go_loopw [5] (fun i wr => ∃ k : Nat, k ≤ xs.length ∧ i = .int .i64 k ∧ Nw w wr) (fun i _ => xs.length - (intOf i).toNat)
  case atStart => exact ⟨0, Nat.zero_le _, rfl, Nw.refl _⟩
  case round =>
    obtain ⟨k, hk, rfl, hq⟩ := hrel
    by_cases hlt : k < xs.length
    · obtain ⟨b, o, v0, rfl, hx, c0⟩ := (hr.nw hq).at1 rfl (List.getElem?_eq_getElem hlt)
      obtain ⟨b', o', u0, rfl, hy, d0⟩ := (hs.nw hq).at1 rfl (List.getElem?_eq_getElem hlt)
      obtain ⟨rfl, -⟩ := hx.int_
      obtain ⟨rfl, -⟩ := hy.int_
      have hi0 : (0 : Int) ≤ k := by omega
      have hi1 : (k : Int) < xs.length := by omega
      go_wp2_with fail
      go_quiet (fail)
      go_wp2
      go_roundw
      case rel => exact ⟨k + 1, by omega, by go_num, hq.drewN _⟩
      case measure => simp [intOf]; omega
    · go_wp2
      go_ret
      exact ⟨rfl, hq⟩

set_option maxHeartbeats 1000000 in
theorem eqArc_same (v0 v1 v2 v3 u0 u1 u2 u3 : Value) (x : DArc) (w : World) (hr : Rep tArc w [v0, v1, v2, v3] x) (hs : Rep tArc w [u0, u1, u2, u3] x) :
    Calls Try.prog 137 #[.agg #[v0, v1, v2, v3], .agg #[u0, u1, u2, u3]] w (RetTrue w) := by
  obtain ⟨x0, x1, x2, x3⟩ := x
  obtain ⟨r0, q0⟩ := hr.pr1 rfl
  obtain ⟨r1, q1⟩ := q0.pr1 rfl
  obtain ⟨r2, q2⟩ := q1.pr1 rfl
  have r3 := q2
  obtain ⟨rfl, hi0a, hi0b⟩ := r0.int_
  obtain ⟨rfl, hi1a, hi1b⟩ := r1.int_
  obtain rfl := r2.bool_
  obtain ⟨rfl, hi3a, hi3b⟩ := r3.int_
  obtain ⟨s0, p0⟩ := hs.pr1 rfl
  obtain ⟨s1, p1⟩ := p0.pr1 rfl
  obtain ⟨s2, p2⟩ := p1.pr1 rfl
  have s3 := p2
  obtain ⟨rfl, -⟩ := s0.int_
  obtain ⟨rfl, -⟩ := s1.int_
  obtain rfl := s2.bool_
  obtain ⟨rfl, -⟩ := s3.int_
  go_enter Try.func137, Try.ntmps137
  go_wp2
  go_ret
  exact ⟨rfl, by (repeat (first | with_reducible exact Nw.refl _ | with_reducible assumption | with_reducible apply Nw.alloc | with_reducible apply Nw.drew | with_reducible apply Nw.drewN | (with_reducible refine Nw.setCell2 ?_ ?_; focus (first | (simp; done) | (simp; omega))) | with_reducible refine Nw.trans2 (by assumption) ?_))⟩

set_option maxRecDepth 100000 in
set_option maxHeartbeats 1000000 in
theorem eqArcS_same (v u : Value) (xs : List (DArc)) (w : World) (hr : Rep (.sl 170 tArc) w [v] xs) (hs : Rep (.sl 170 tArc) w [u] xs) :
    Calls Try.prog 80 #[v, u] w (RetTrue w) := by
  obtain ⟨A, c, rfl, hl, hc⟩ := hr.slv
  obtain ⟨A', c', rfl, hl', hc'⟩ := hs.slv
  have hm : xs.length ≤ 9223372036854775807 := by unfold maxLen at hc; omega
  go_enter Try.func80, Try.ntmps80
  go_wp2
  go_loopw [5] (fun i wr => ∃ k : Nat, k ≤ xs.length ∧ i = .int .i64 k ∧ Nw w wr) (fun i _ => xs.length - (intOf i).toNat)
  case atStart => exact ⟨0, Nat.zero_le _, rfl, Nw.refl _⟩
  case round =>
    obtain ⟨k, hk, rfl, hq⟩ := hrel
    by_cases hlt : k < xs.length
    · obtain ⟨b, o, v0, v1, v2, v3, rfl, hx, c0, c1, c2, c3⟩ := (hr.nw hq).at4 rfl (List.getElem?_eq_getElem hlt)
      obtain ⟨b', o', u0, u1, u2, u3, rfl, hy, d0, d1, d2, d3⟩ := (hs.nw hq).at4 rfl (List.getElem?_eq_getElem hlt)
      have hi0 : (0 : Int) ≤ k := by omega
      have hi1 : (k : Int) < xs.length := by omega
      go_wp2_with fail
      go_still_tail 8, (by kernel_rfl)
      change wpList _ _ _ _ _ wr.drew
      go_wp2_with (go_at_call 137; refine (eqArc_same _ _ _ _ _ _ _ _ _ _ (by exact hx.drew) (by exact hy.drew)).mono ?_; rintro e w1 ⟨rfl, hq1⟩)
      go_roundw
      case rel => exact ⟨k + 1, by omega, by go_num, hq.drew.trans hq1⟩
      case measure => simp [intOf]; omega
    · go_wp2
      go_ret
      exact ⟨rfl, hq⟩

set_option maxHeartbeats 1000000 in
theorem eqStateGraph_same (v0 v1 v2 u0 u1 u2 : Value) (x : DStateGraph) (w : World) (hr : Rep tStateGraph w [v0, v1, v2] x) (hs : Rep tStateGraph w [u0, u1, u2] x) :
    Calls Try.prog 33 #[.agg #[v0, v1, v2], .agg #[u0, u1, u2]] w (RetTrue w) := by
  obtain ⟨x0, x1, x2⟩ := x
  obtain ⟨r0, q0⟩ := hr.pr1 rfl
  obtain ⟨r1, q1⟩ := q0.pr1 rfl
  have r2 := q1
  obtain ⟨s0, p0⟩ := hs.pr1 rfl
  obtain ⟨s1, p1⟩ := p0.pr1 rfl
  have s2 := p1
  go_enter Try.func33, Try.ntmps33
  go_wp2_with (first | (go_at_call 50; refine (eqSignalS_same _ _ _ _ (by first | exact r0.nw (by (repeat (first | with_reducible exact Nw.refl _ | with_reducible assumption | with_reducible apply Nw.alloc | with_reducible apply Nw.drew | with_reducible apply Nw.drewN | (with_reducible refine Nw.setCell2 ?_ ?_; focus (first | (simp; done) | (simp; omega))) | with_reducible refine Nw.trans2 (by assumption) ?_)))) (by first | exact s0.nw (by (repeat (first | with_reducible exact Nw.refl _ | with_reducible assumption | with_reducible apply Nw.alloc | with_reducible apply Nw.drew | with_reducible apply Nw.drewN | (with_reducible refine Nw.setCell2 ?_ ?_; focus (first | (simp; done) | (simp; omega))) | with_reducible refine Nw.trans2 (by assumption) ?_))))).mono ?_; rintro e w1 ⟨rfl, hq1⟩; obtain ⟨hc1, hf1⟩ := hq1.cells; have hz1 : w.heap.size < w1.heap.size ∧ w.heap.size + 1 < w1.heap.size := (by (have hz2 := hq1.size; (try simp at hz2); omega)); obtain ⟨hz1, hz3⟩ := hz1; have hq1 : Nw w w1 := (by (repeat (first | with_reducible exact Nw.refl _ | with_reducible assumption | with_reducible apply Nw.alloc | with_reducible apply Nw.drew | with_reducible apply Nw.drewN | (with_reducible refine Nw.setCell2 ?_ ?_; focus (first | (simp; done) | (simp; omega))) | with_reducible refine Nw.trans2 (by assumption) ?_)))) | (go_at_call 79; refine (eqStringS_same _ _ _ _ (by first | exact r1.nw (by (repeat (first | with_reducible exact Nw.refl _ | with_reducible assumption | with_reducible apply Nw.alloc | with_reducible apply Nw.drew | with_reducible apply Nw.drewN | (with_reducible refine Nw.setCell2 ?_ ?_; focus (first | (simp; done) | (simp; omega))) | with_reducible refine Nw.trans2 (by assumption) ?_)))) (by first | exact s1.nw (by (repeat (first | with_reducible exact Nw.refl _ | with_reducible assumption | with_reducible apply Nw.alloc | with_reducible apply Nw.drew | with_reducible apply Nw.drewN | (with_reducible refine Nw.setCell2 ?_ ?_; focus (first | (simp; done) | (simp; omega))) | with_reducible refine Nw.trans2 (by assumption) ?_))))).mono ?_; rintro e w1 ⟨rfl, hq1⟩; obtain ⟨hc1, hf1⟩ := hq1.cells; have hz1 : w.heap.size < w1.heap.size ∧ w.heap.size + 1 < w1.heap.size := (by (have hz2 := hq1.size; (try simp at hz2); omega)); obtain ⟨hz1, hz3⟩ := hz1; have hq1 : Nw w w1 := (by (repeat (first | with_reducible exact Nw.refl _ | with_reducible assumption | with_reducible apply Nw.alloc | with_reducible apply Nw.drew | with_reducible apply Nw.drewN | (with_reducible refine Nw.setCell2 ?_ ?_; focus (first | (simp; done) | (simp; omega))) | with_reducible refine Nw.trans2 (by assumption) ?_)))) | (go_at_call 80; refine (eqArcS_same _ _ _ _ (by first | exact r2.nw (by (repeat (first | with_reducible exact Nw.refl _ | with_reducible assumption | with_reducible apply Nw.alloc | with_reducible apply Nw.drew | with_reducible apply Nw.drewN | (with_reducible refine Nw.setCell2 ?_ ?_; focus (first | (simp; done) | (simp; omega))) | with_reducible refine Nw.trans2 (by assumption) ?_)))) (by first | exact s2.nw (by (repeat (first | with_reducible exact Nw.refl _ | with_reducible assumption | with_reducible apply Nw.alloc | with_reducible apply Nw.drew | with_reducible apply Nw.drewN | (with_reducible refine Nw.setCell2 ?_ ?_; focus (first | (simp; done) | (simp; omega))) | with_reducible refine Nw.trans2 (by assumption) ?_))))).mono ?_; rintro e w1 ⟨rfl, hq1⟩; obtain ⟨hc1, hf1⟩ := hq1.cells; have hz1 : w.heap.size < w1.heap.size ∧ w.heap.size + 1 < w1.heap.size := (by (have hz2 := hq1.size; (try simp at hz2); omega)); obtain ⟨hz1, hz3⟩ := hz1; have hq1 : Nw w w1 := (by (repeat (first | with_reducible exact Nw.refl _ | with_reducible assumption | with_reducible apply Nw.alloc | with_reducible apply Nw.drew | with_reducible apply Nw.drewN | (with_reducible refine Nw.setCell2 ?_ ?_; focus (first | (simp; done) | (simp; omega))) | with_reducible refine Nw.trans2 (by assumption) ?_)))))
  go_ret
  exact ⟨rfl, by (repeat (first | with_reducible exact Nw.refl _ | with_reducible assumption | with_reducible apply Nw.alloc | with_reducible apply Nw.drew | with_reducible apply Nw.drewN | (with_reducible refine Nw.setCell2 ?_ ?_; focus (first | (simp; done) | (simp; omega))) | with_reducible refine Nw.trans2 (by assumption) ?_))⟩

end Go.Proofs.Ytbelopdphlllnaa

/- slices.IndexFunc and slices.ContainsFunc, over whatever function value. -/
namespace Go.Proofs.Ytbelopdphlllnaa
open Go.RowKit

set_option maxRecDepth 100000 in
theorem indexFuncSignal_any (p : DSignal → Prop) (xs : List (DSignal)) (v : Value) (F : Nat) (caps : Array Value) (w : World) (hr : Rep (.sl 129 tSignal) w [v] xs) (hcf : Enters Try.prog F)
    (hF : ∀ (i : Nat) (x : DSignal) (W : World) (v0 v1 : Value), xs[i]? = some x → Nw w W → Rep tSignal W [v0, v1] x → Calls Try.prog F (#[.agg #[v0, v1]] ++ caps) W (RetB (p x) W)) :
    Calls Try.prog 174 #[v, .func (.func F) #[] caps] w (RetIdx p xs w) := by
  obtain ⟨A, c, rfl, hl, hc⟩ := hr.slv
  have hm : xs.length ≤ 9223372036854775807 := by unfold maxLen at hc; omega
  have HF := hid hF
  clear hF
  go_enter Try.func174, Try.ntmps174
  go_wp2
  go_loopw [8] (fun i wr => ∃ k : Nat, k ≤ xs.length ∧ i = .int .i64 k ∧ (∀ j x, j < k → xs[j]? = some x → ¬ p x) ∧ Nw w wr) (fun i _ => xs.length - (intOf i).toNat)
  case atStart => exact ⟨0, Nat.zero_le _, rfl, fun j x h => absurd h (by omega), Nw.refl _⟩
  case round =>
    obtain ⟨k, hk, rfl, hno, hq⟩ := hrel
    have HN := hid hno
    clear hno
    by_cases hlt : k < xs.length
    · obtain ⟨b, o, v0, v1, rfl, hx, c0, c1⟩ := (hr.nw hq).at2 rfl (List.getElem?_eq_getElem hlt)
      have hcf := hcf
      unfold Enters at hcf
      have hcall := HF.out k _ wr v0 v1 (List.getElem?_eq_getElem hlt) hq hx
      have HC := hid hcall
      clear hcall
      go_wp2_with fail
      refine Calls.mono HC.out ?_
      rintro e w1 ⟨bb, rfl, hb, hq1⟩
      cases bb with
      | true =>
        have HP := hid (hb.1 rfl)
        clear hb
        go_wp2
        go_ret
        exact ⟨_, rfl, .inr ⟨k, rfl, hlt, fun y hy => by rw [List.getElem?_eq_getElem hlt] at hy; cases hy; exact HP.out, HN.out⟩, hq.trans hq1⟩
      | false =>
        have HP := hid (fun hp => absurd (hb.2 hp) (by simp) : ¬ p xs[k])
        clear hb
        go_wp2
        go_roundw
        case rel => exact ⟨k + 1, by omega, by go_num, fun j y hj hy => by
          by_cases e1 : j = k
          · subst e1
            rw [List.getElem?_eq_getElem hlt] at hy
            cases hy
            exact HP.out
          · exact HN.out j y (by omega) hy, hq.trans hq1⟩
        case measure => simp [intOf]; omega
    · go_wp2
      go_ret
      refine ⟨_, rfl, .inl ⟨rfl, fun x hx => ?_⟩, hq⟩
      obtain ⟨j, hj, hjx⟩ := List.mem_iff_getElem.1 hx
      exact HN.out j x (by omega) (by rw [List.getElem?_eq_getElem hj, hjx])

theorem containsFuncSignal_any (p : DSignal → Prop) (xs : List (DSignal)) (v : Value) (F : Nat) (caps : Array Value) (w : World) (hr : Rep (.sl 129 tSignal) w [v] xs) (hcf : Enters Try.prog F)
    (hF : ∀ (i : Nat) (x : DSignal) (W : World) (v0 v1 : Value), xs[i]? = some x → Nw w W → Rep tSignal W [v0, v1] x → Calls Try.prog F (#[.agg #[v0, v1]] ++ caps) W (RetB (p x) W)) :
    Calls Try.prog 158 #[v, .func (.func F) #[] caps] w (RetB (∃ x ∈ xs, p x) w) := by
  have hcall := indexFuncSignal_any p xs v F caps w hr hcf hF
  obtain ⟨A, c, rfl, hl, hc⟩ := hr.slv
  have hm : xs.length ≤ 9223372036854775807 := by unfold maxLen at hc; omega
  have HC := hid hcall
  clear hcall hF
  go_enter Try.func158, Try.ntmps158
  go_wp2_with fail
  refine Calls.mono HC.out ?_
  rintro e w1 ⟨r, rfl, hi, hq1⟩
  have hrr := hi.range hm
  have HI := hid hi
  clear hi
  go_wp2
  go_ret
  exact RetB.of (by rw [← HI.out.any]; simp) hq1

end Go.Proofs.Ytbelopdphlllnaa

/- The small tests: ranges, names, cubes. -/
namespace Go.Proofs.Ytbelopdphlllnaa
open Go.RowKit

theorem str_eq {s t : ByteArray} (h : (s.toList == t.toList) = true) : s = t := by
  have h : s.toList = t.toList := by simpa using h
  rw [ByteArray.toList_eq, ByteArray.toList_eq] at h
  cases s; cases t
  exact congrArg _ (Array.toList_inj.1 h)
theorem str_ne {s t : ByteArray} (h : (s.toList == t.toList) = false) : s ≠ t := by
  rintro rfl
  simp at h
theorem str_eq_t {s t : ByteArray} (h : s = t) : (s.toList == t.toList) = true := by subst h; simp
theorem str_eq_f {s t : ByteArray} (h : s ≠ t) : (s.toList == t.toList) = false := by
  cases e : (s.toList == t.toList) with
  | false => rfl
  | true => exact absurd (str_eq e) h
/-! ### plain words -/
def NameChar (k c : Nat) : Prop := (97 ≤ c ∧ c ≤ 122) ∨ (k ≠ 0 ∧ 48 ≤ c ∧ c ≤ 57)
def NameOk (s : ByteArray) : Prop := (∀ k (h : k < s.size), NameChar k s[k].toNat) ∧ 1 ≤ s.size ∧ s.size ≤ 6
def CubeChar (c : Nat) : Prop := c = 48 ∨ c = 49 ∨ c = 45
def CubeChars (s : ByteArray) : Prop := ∀ k (h : k < s.size), CubeChar s[k].toNat

theorem within_any (n lo hi : Int) (w : World) : Calls Try.prog 58 #[.int .i64 n, .int .i64 lo, .int .i64 hi] w (RetB (lo ≤ n ∧ n ≤ hi) w) := by
  by_cases h1 : lo ≤ n
  · by_cases h2 : n ≤ hi
    all_goals
      go_enter Try.func58, Try.ntmps58
      go_wp2
      go_ret
      exact RetB.of (by simp; omega) (Nw.refl _)
  · go_enter Try.func58, Try.ntmps58
    go_wp2
    go_ret
    exact RetB.of (by simp; omega) (Nw.refl _)

theorem l1In_any (n lo hi : Int) (w : World) : Calls Try.prog 105 #[.int .i64 n, .int .i64 lo, .int .i64 hi] w (RetB (lo ≤ n ∧ n ≤ hi) w) := by
  by_cases h1 : lo ≤ n
  · by_cases h2 : n ≤ hi
    all_goals
      go_enter Try.func105, Try.ntmps105
      go_wp2
      go_ret
      exact RetB.of (by simp; omega) (Nw.refl _)
  · go_enter Try.func105, Try.ntmps105
    go_wp2
    go_ret
    exact RetB.of (by simp; omega) (Nw.refl _)

theorem nameOk_no {s : ByteArray} {k : Nat} (h : k < s.size) (hc : ¬ NameChar k s[k].toNat) : ¬ NameOk s := fun hn => hc (hn.1 k h)
theorem nameChar_step {s : ByteArray} {k : Nat} (h : k < s.size) (hy : ∀ j (h : j < s.size), j < k → NameChar j s[j].toNat) (hc : NameChar k s[k].toNat) : ∀ j (h : j < s.size), j < k + 1 → NameChar j s[j].toNat := by
  intro j hj hjk
  by_cases e : j = k
  · subst e; exact hc
  · exact hy j hj (by omega)

set_option maxRecDepth 100000 in
set_option maxHeartbeats 2000000 in
theorem l2Name_any (s : ByteArray) (w : World) (hs : s.size ≤ maxLen) : Calls Try.prog 125 #[.string s] w (RetB (NameOk s) w) := by
  have hm : s.size ≤ 9223372036854775807 := hs
  go_enter Try.func125, Try.ntmps125
  go_wp2
  go_loop [3] (fun i => ∃ k : Nat, k ≤ s.size ∧ i = .int .i64 k ∧ ∀ j (h : j < s.size), j < k → NameChar j s[j].toNat) (fun i => s.size - (intOf i).toNat)
  case atStart => exact ⟨0, Nat.zero_le _, rfl, fun j h h' => absurd h' (by omega)⟩
  case round =>
    obtain ⟨k, hk, rfl, hyes⟩ := hrel
    have HY := hid hyes
    clear hyes
    by_cases hlt : k < s.size
    · rcases (by omega : s[k].toNat < 48 ∨ (48 ≤ s[k].toNat ∧ s[k].toNat ≤ 57) ∨ (58 ≤ s[k].toNat ∧ s[k].toNat ≤ 96) ∨ (97 ≤ s[k].toNat ∧ s[k].toNat ≤ 122) ∨ 123 ≤ s[k].toNat) with h1 | ⟨h1, h2⟩ | ⟨h1, h2⟩ | ⟨h1, h2⟩ | h1
      all_goals first | have d0 : decide ((97 : Int) ≤ (s[k].toNat : Int)) = true := decide_eq_true (by omega) | have d0 : decide ((97 : Int) ≤ (s[k].toNat : Int)) = false := decide_eq_false (by omega)
      all_goals first | have d1 : decide ((s[k].toNat : Int) ≤ 122) = true := decide_eq_true (by omega) | have d1 : decide ((s[k].toNat : Int) ≤ 122) = false := decide_eq_false (by omega)
      all_goals first | have d2 : decide ((48 : Int) ≤ (s[k].toNat : Int)) = true := decide_eq_true (by omega) | have d2 : decide ((48 : Int) ≤ (s[k].toNat : Int)) = false := decide_eq_false (by omega)
      all_goals first | have d3 : decide ((s[k].toNat : Int) ≤ 57) = true := decide_eq_true (by omega) | have d3 : decide ((s[k].toNat : Int) ≤ 57) = false := decide_eq_false (by omega)
      all_goals first | have d4 : decide ((s[k].toNat : Int) < 48) = true := decide_eq_true (by omega) | have d4 : decide ((s[k].toNat : Int) < 48) = false := decide_eq_false (by omega)
      all_goals first | have d5 : decide ((57 : Int) < (s[k].toNat : Int)) = true := decide_eq_true (by omega) | have d5 : decide ((57 : Int) < (s[k].toNat : Int)) = false := decide_eq_false (by omega)
      all_goals rcases Nat.eq_zero_or_pos k with rfl | hk0
      all_goals try have hk1 : ((k : Int) == 0) = false := by simp; omega
      all_goals go_wp2
      all_goals first
        | (go_ret
           exact RetB.no (nameOk_no hlt (by unfold NameChar; omega)) (Nw.refl _))
        | (go_round
           case rel => exact ⟨_ + 1, by omega, by go_num, nameChar_step hlt HY.out (by unfold NameChar; omega)⟩
           case measure => simp [intOf]; omega)
    · have : k = s.size := by omega
      subst this
      go_wp2_with (go_at_call 105; refine (l1In_any _ _ _ _).mono ?_; rintro e w1 ⟨b, rfl, hb, hq1⟩)
      go_ret
      refine RetB.of (hb.trans ⟨fun h => ⟨fun j hj => HY.out j hj hj, by omega, by omega⟩, fun h => by have := h.2; omega⟩) hq1

set_option maxRecDepth 100000 in
set_option maxHeartbeats 2000000 in
theorem isName_any (s : ByteArray) (w : World) (hs : s.size ≤ maxLen) : Calls Try.prog 131 #[.string s] w (RetB (NameOk s) w) := by
  have hm : s.size ≤ 9223372036854775807 := hs
  go_enter Try.func131, Try.ntmps131
  go_wp2
  go_loopw [3] (fun i wr => ∃ k : Nat, k ≤ s.size ∧ i = .int .i64 k ∧ (∀ j (h : j < s.size), j < k → NameChar j s[j].toNat) ∧ Nw w wr) (fun i _ => s.size - (intOf i).toNat)
  case atStart => exact ⟨0, Nat.zero_le _, rfl, fun j h h' => absurd h' (by omega), Nw.refl _⟩
  case round =>
    obtain ⟨k, hk, rfl, hyes, hq⟩ := hrel
    have HY := hid hyes
    clear hyes
    by_cases hlt : k < s.size
    · have hi0 : (0 : Int) ≤ k := by omega
      have hi1 : (k : Int) < s.size := by omega
      rcases (by omega : s[k].toNat < 48 ∨ (48 ≤ s[k].toNat ∧ s[k].toNat ≤ 57) ∨ (58 ≤ s[k].toNat ∧ s[k].toNat ≤ 96) ∨ (97 ≤ s[k].toNat ∧ s[k].toNat ≤ 122) ∨ 123 ≤ s[k].toNat) with h1 | ⟨h1, h2⟩ | ⟨h1, h2⟩ | ⟨h1, h2⟩ | h1
      all_goals first | have d0 : decide ((97 : Int) ≤ (s[k].toNat : Int)) = true := decide_eq_true (by omega) | have d0 : decide ((97 : Int) ≤ (s[k].toNat : Int)) = false := decide_eq_false (by omega)
      all_goals first | have d1 : decide ((s[k].toNat : Int) ≤ 122) = true := decide_eq_true (by omega) | have d1 : decide ((s[k].toNat : Int) ≤ 122) = false := decide_eq_false (by omega)
      all_goals first | have d2 : decide ((48 : Int) ≤ (s[k].toNat : Int)) = true := decide_eq_true (by omega) | have d2 : decide ((48 : Int) ≤ (s[k].toNat : Int)) = false := decide_eq_false (by omega)
      all_goals first | have d3 : decide ((s[k].toNat : Int) ≤ 57) = true := decide_eq_true (by omega) | have d3 : decide ((s[k].toNat : Int) ≤ 57) = false := decide_eq_false (by omega)
      all_goals first | have d4 : decide ((s[k].toNat : Int) < 48) = true := decide_eq_true (by omega) | have d4 : decide ((s[k].toNat : Int) < 48) = false := decide_eq_false (by omega)
      all_goals first | have d5 : decide ((57 : Int) < (s[k].toNat : Int)) = true := decide_eq_true (by omega) | have d5 : decide ((57 : Int) < (s[k].toNat : Int)) = false := decide_eq_false (by omega)
      all_goals rcases Nat.eq_zero_or_pos k with rfl | hk0
      all_goals try have hk1 : ((k : Int) == 0) = false := by simp; omega
      all_goals go_wp2_with fail
      all_goals go_quiet (fail)
      all_goals go_wp2
      all_goals first
        | (go_ret
           exact RetB.no (nameOk_no hlt (by unfold NameChar; omega)) (hq.drewN _))
        | (go_roundw
           case rel => exact ⟨_ + 1, by omega, by go_num, nameChar_step hlt HY.out (by unfold NameChar; omega), hq.drewN _⟩
           case measure => simp [intOf]; omega)
    · have : k = s.size := by omega
      subst this
      go_wp2_with (go_at_call 58; refine (within_any _ _ _ _).mono ?_; rintro e w1 ⟨b, rfl, hb, hq1⟩)
      go_ret
      refine RetB.of (hb.trans ⟨fun h => ⟨fun j hj => HY.out j hj hj, by omega, by omega⟩, fun h => by have := h.2; omega⟩) (hq.trans hq1)

end Go.Proofs.Ytbelopdphlllnaa

/- Signals of a graph or a netlist: valid ones. -/
namespace Go.Proofs.Ytbelopdphlllnaa
open Go.RowKit

def SigOkAt (xs : List DSignal) (k : Nat) : Prop := ∀ x, xs[k]? = some x → NameOk x.1 ∧ (1 ≤ x.2 ∧ x.2 ≤ 3) ∧ ∀ j y, j < k → xs[j]? = some y → y.1 ≠ x.1
def SigsOk (xs : List DSignal) : Prop := (∀ k, k < xs.length → SigOkAt xs k) ∧ 1 ≤ xs.length ∧ xs.length ≤ 8
theorem SigOkAt.step {xs : List DSignal} {k : Nat} (h : ∀ j, j < k → SigOkAt xs j) (hk : SigOkAt xs k) : ∀ j, j < k + 1 → SigOkAt xs j := by
  intro j hj
  by_cases e : j = k
  · subst e; exact hk
  · exact h j (by omega)

set_option maxRecDepth 100000 in
set_option maxHeartbeats 2000000 in
theorem l2Signals_any (v : Value) (xs : List DSignal) (w : World) (hr : Rep (.sl 129 tSignal) w [v] xs) : Calls Try.prog 96 #[v] w (RetB (SigsOk xs) w) := by
  obtain ⟨A, c, rfl, hl, hc⟩ := hr.slv
  have hm : xs.length ≤ 9223372036854775807 := by unfold maxLen at hc; omega
  go_enter Try.func96, Try.ntmps96
  go_wp2
  go_loopw [9] (fun i wr => ∃ k : Nat, k ≤ xs.length ∧ i = .int .i64 k ∧ (∀ j, j < k → SigOkAt xs j) ∧ Nw w wr) (fun i _ => xs.length - (intOf i).toNat)
  case atStart => exact ⟨0, Nat.zero_le _, rfl, fun j h => absurd h (by omega), Nw.refl _⟩
  case round =>
    obtain ⟨wo, rfl⟩ : ∃ wo : World, wo = wr := ⟨_, rfl⟩
    obtain ⟨k, hk, rfl, hyes, hq⟩ := hrel
    have HY := hid hyes
    clear hyes
    by_cases hlt : k < xs.length
    · obtain ⟨b, o, v0, v1, rfl, hx, c0, c1⟩ := (hr.nw hq).at2 rfl (List.getElem?_eq_getElem hlt)
      have HX := hid (List.getElem?_eq_getElem hlt)
      generalize hxk : xs[k] = x at *
      clear hxk
      obtain ⟨s, n⟩ := x
      obtain ⟨r0, r1⟩ := hx.open2 rfl
      obtain ⟨rfl, hs⟩ := r0.str_
      obtain ⟨rfl, -⟩ := r1.int_
      have Hs := hid hs
      clear hx r0 r1 hs
      go_wp2_with fail
      refine (l2Name_any s _ Hs.out).mono ?_
      rintro e w1 ⟨b1, rfl, hb1, hq1⟩
      obtain ⟨hc1, hf1⟩ := hq1.cells
      have hz1 : wo.heap.size < w1.heap.size := by (have hz2 := hq1.size; simp at hz2; omega)
      cases b1 with
      | false =>
        have HB1 := hid (RetB.not hb1)
        clear hb1
        go_wp2
        go_ret
        exact RetB.no (fun h => HB1.out (h.1 k hlt _ HX.out).1) (by (repeat (first | with_reducible exact Nw.refl _ | with_reducible assumption | with_reducible apply Nw.alloc | with_reducible apply Nw.drew | with_reducible apply Nw.drewN | (with_reducible refine Nw.setCell2 ?_ ?_; focus (first | (simp; done) | (simp; omega))) | with_reducible refine Nw.trans2 (by assumption) ?_)))
      | true =>
        have HB1 := hid (hb1.1 rfl)
        clear hb1
        go_wp2_with fail
        refine (l1In_any n _ _ _).mono ?_
        rintro e w2 ⟨b2, rfl, hb2, hq2⟩
        obtain ⟨hc2, hf2⟩ := hq2.cells
        have hz3 : wo.heap.size < w2.heap.size := by (have hz2 := hq2.size; omega)
        cases b2 with
        | false =>
          have HB2 := hid (RetB.not hb2)
          clear hb2
          go_wp2
          go_ret
          exact RetB.no (fun h => HB2.out (h.1 k hlt _ HX.out).2.1) (by (repeat (first | with_reducible exact Nw.refl _ | with_reducible assumption | with_reducible apply Nw.alloc | with_reducible apply Nw.drew | with_reducible apply Nw.drewN | (with_reducible refine Nw.setCell2 ?_ ?_; focus (first | (simp; done) | (simp; omega))) | with_reducible refine Nw.trans2 (by assumption) ?_)))
        | true =>
          have HB2 := hid (hb2.1 rfl)
          clear hb2
          have hbx : w2.cell? ⟨wo.heap.size, 0, none⟩ = some (.string s) := by go_simp
          have hN2 : Nw w w2 := by (repeat (first | with_reducible exact Nw.refl _ | with_reducible assumption | with_reducible apply Nw.alloc | with_reducible apply Nw.drew | with_reducible apply Nw.drewN | (with_reducible refine Nw.setCell2 ?_ ?_; focus (first | (simp; done) | (simp; omega))) | with_reducible refine Nw.trans2 (by assumption) ?_))
          have hk9 : k ≤ c := by omega
          clear hc1 hf1 hc2 hf2 c0 c1 hq1 hq2
          go_wp2
          go_loopw [28] (fun i wi => ∃ m : Nat, m ≤ k ∧ i = .int .i64 m ∧ (∀ j y, j < m → xs[j]? = some y → y.1 ≠ s) ∧ Nw w2 wi) (fun i _ => k - (intOf i).toNat)
          case atStart => exact ⟨0, Nat.zero_le _, rfl, fun j y h => absurd h (by omega), Nw.refl _⟩
          case round =>
            obtain ⟨m, hm2, rfl, hno, hqi⟩ := hrel
            have HN := hid hno
            clear hno
            obtain ⟨hci, hfi⟩ := hqi.cells
            have hzi : wo.heap.size < wr.heap.size := by have := hqi.size; omega
            by_cases hlm : m < k
            · obtain ⟨b', o', u0, u1, e', hy, d0, d1⟩ := ((hr.nw hN2).nw hqi).at2 rfl (List.getElem?_eq_getElem (show m < xs.length by omega))
              have HYm := hid (List.getElem?_eq_getElem (show m < xs.length by omega))
              generalize hym : xs[m] = y at *
              clear hym
              obtain ⟨t, n'⟩ := y
              obtain ⟨s0, s1⟩ := hy.open2 rfl
              obtain ⟨rfl, -⟩ := s0.str_
              obtain ⟨rfl, -⟩ := s1.int_
              simp only [Option.some.injEq, Addr.mk.injEq, and_true] at e'
              obtain ⟨rfl, rfl⟩ := e'
              clear hy s0 s1
              go_wp2
              · rename_i he
                go_ret
                exact RetB.no (fun h => (h.1 k hlt _ HX.out).2.2 m _ hlm HYm.out (str_eq he).symm) (by (repeat (first | with_reducible exact Nw.refl _ | with_reducible assumption | with_reducible apply Nw.alloc | with_reducible apply Nw.drew | with_reducible apply Nw.drewN | (with_reducible refine Nw.setCell2 ?_ ?_; focus (first | (simp; done) | (simp; omega))) | with_reducible refine Nw.trans2 (by assumption) ?_)))
              · go_roundw
                case rel =>
                  rename_i he
                  exact ⟨m + 1, by omega, by go_num, fun j y hj hy => by
                    by_cases e : j = m
                    · subst e
                      rw [HYm.out] at hy
                      cases hy
                      exact fun e => str_ne he e.symm
                    · exact HN.out j y (by omega) hy, by (repeat (first | with_reducible exact Nw.refl _ | with_reducible assumption | with_reducible apply Nw.alloc | with_reducible apply Nw.drew | with_reducible apply Nw.drewN | (with_reducible refine Nw.setCell2 ?_ ?_; focus (first | (simp; done) | (simp; omega))) | with_reducible refine Nw.trans2 (by assumption) ?_))⟩
                case measure => simp [intOf]; omega
            · go_wp2
              go_roundw
              case rel => exact ⟨k + 1, by omega, by go_num, SigOkAt.step HY.out (fun x hx => by
                rw [HX.out] at hx
                cases hx
                exact ⟨HB1.out, HB2.out, fun j y hj hy => HN.out j y (by omega) hy⟩), by (repeat (first | with_reducible exact Nw.refl _ | with_reducible assumption | with_reducible apply Nw.alloc | with_reducible apply Nw.drew | with_reducible apply Nw.drewN | (with_reducible refine Nw.setCell2 ?_ ?_; focus (first | (simp; done) | (simp; omega))) | with_reducible refine Nw.trans2 (by assumption) ?_))⟩
              case measure => simp [intOf]; omega
    · have : k = xs.length := by omega
      subst this
      go_wp2_with (go_at_call 105; refine (l1In_any _ _ _ _).mono ?_; rintro e w1 ⟨b, rfl, hb, hq1⟩)
      go_ret
      exact RetB.of (hb.trans ⟨fun h => ⟨HY.out, by omega, by omega⟩, fun h => by have := h.2; omega⟩) (hq.trans hq1)

theorem enters_areSignals1 : Enters Try.prog 159 := fun args W => run_enter Try.func159 (by kernel_rfl) rfl args W
theorem areSignals1_any (v0 v1 : Value) (x : DSignal) (g : Nat) (s : ByteArray) (W : World) (hx : Rep tSignal W [v0, v1] x) (hb : W.cell? ⟨g, 0, none⟩ = some (.string s)) :
    Calls Try.prog 159 #[.agg #[v0, v1], .pointer (some ⟨g, 0, none⟩)] W (RetB (x.1 = s) W) := by
  obtain ⟨t, n⟩ := x
  obtain ⟨r0, r1⟩ := hx.open2 rfl
  obtain ⟨rfl, -⟩ := r0.str_
  obtain ⟨rfl, -⟩ := r1.int_
  have hg : g < W.heap.size := World.block_lt_of_cell? W _ hb
  clear hx r0 r1
  by_cases h : t = s
  · have h2 := str_eq_t h
    have H := hid h
    clear h
    go_enter Try.func159, Try.ntmps159
    go_wp2
    go_ret
    exact RetB.of (by simp only [h2, H.out]) ((Nw.refl _).alloc _)
  · have h2 := str_eq_f h
    have H := hid h
    clear h
    go_enter Try.func159, Try.ntmps159
    go_wp2
    go_ret
    exact RetB.of (by simp only [h2, H.out]; simp) ((Nw.refl _).alloc _)

set_option maxRecDepth 100000 in
set_option maxHeartbeats 2000000 in
theorem areSignals_any (v : Value) (xs : List DSignal) (w : World) (hr : Rep (.sl 129 tSignal) w [v] xs) : Calls Try.prog 109 #[v] w (RetB (SigsOk xs) w) := by
  obtain ⟨A, c, rfl, hl, hc⟩ := hr.slv
  have hm : xs.length ≤ 9223372036854775807 := by unfold maxLen at hc; omega
  go_enter Try.func109, Try.ntmps109
  go_wp2
  go_loopw [7] (fun i wr => ∃ k : Nat, k ≤ xs.length ∧ i = .int .i64 k ∧ (∀ j, j < k → SigOkAt xs j) ∧ Nw w wr) (fun i _ => xs.length - (intOf i).toNat)
  case atStart => exact ⟨0, Nat.zero_le _, rfl, fun j h => absurd h (by omega), Nw.refl _⟩
  case round =>
    obtain ⟨wo, rfl⟩ : ∃ wo : World, wo = wr := ⟨_, rfl⟩
    obtain ⟨k, hk, rfl, hyes, hq⟩ := hrel
    have HY := hid hyes
    clear hyes
    by_cases hlt : k < xs.length
    · obtain ⟨b, o, v0, v1, rfl, hx, c0, c1⟩ := (hr.nw hq).at2 rfl (List.getElem?_eq_getElem hlt)
      have HX := hid (List.getElem?_eq_getElem hlt)
      generalize hxk : xs[k] = x at *
      clear hxk
      obtain ⟨s, n⟩ := x
      obtain ⟨r0, r1⟩ := hx.open2 rfl
      obtain ⟨rfl, hs⟩ := r0.str_
      obtain ⟨rfl, -⟩ := r1.int_
      have Hs := hid hs
      clear hx r0 r1 hs
      go_wp2_with fail
      refine (isName_any s _ Hs.out).mono ?_
      rintro e w1 ⟨b1, rfl, hb1, hq1⟩
      obtain ⟨hc1, hf1⟩ := hq1.cells
      have hz1 : wo.heap.size < w1.heap.size := by (have hz2 := hq1.size; simp at hz2; omega)
      cases b1 with
      | false =>
        have HB1 := hid (RetB.not hb1)
        clear hb1
        go_wp2
        go_ret
        exact RetB.no (fun h => HB1.out (h.1 k hlt _ HX.out).1) (by (repeat (first | with_reducible exact Nw.refl _ | with_reducible assumption | with_reducible apply Nw.alloc | with_reducible apply Nw.drew | with_reducible apply Nw.drewN | (with_reducible refine Nw.setCell2 ?_ ?_; focus (first | (simp; done) | (simp; omega))) | with_reducible refine Nw.trans2 (by assumption) ?_)))
      | true =>
        have HB1 := hid (hb1.1 rfl)
        clear hb1
        go_wp2_with fail
        refine (within_any n _ _ _).mono ?_
        rintro e w2 ⟨b2, rfl, hb2, hq2⟩
        obtain ⟨hc2, hf2⟩ := hq2.cells
        have hz3 : wo.heap.size < w2.heap.size := by (have hz2 := hq2.size; omega)
        cases b2 with
        | false =>
          have HB2 := hid (RetB.not hb2)
          clear hb2
          go_wp2
          go_ret
          exact RetB.no (fun h => HB2.out (h.1 k hlt _ HX.out).2.1) (by (repeat (first | with_reducible exact Nw.refl _ | with_reducible assumption | with_reducible apply Nw.alloc | with_reducible apply Nw.drew | with_reducible apply Nw.drewN | (with_reducible refine Nw.setCell2 ?_ ?_; focus (first | (simp; done) | (simp; omega))) | with_reducible refine Nw.trans2 (by assumption) ?_)))
        | true =>
          have HB2 := hid (hb2.1 rfl)
          clear hb2
          have hbx : w2.cell? ⟨wo.heap.size, 0, none⟩ = some (.string s) := by go_simp
          have hN2 : Nw w w2 := by (repeat (first | with_reducible exact Nw.refl _ | with_reducible assumption | with_reducible apply Nw.alloc | with_reducible apply Nw.drew | with_reducible apply Nw.drewN | (with_reducible refine Nw.setCell2 ?_ ?_; focus (first | (simp; done) | (simp; omega))) | with_reducible refine Nw.trans2 (by assumption) ?_))
          have hk9 : k ≤ c := by omega
          have HBX := hid hbx
          clear hc1 hf1 hc2 hf2 c0 c1 hq1 hq2 hbx
          go_wp2_with fail
          refine (containsFuncSignal_any (fun y => y.1 = s) (xs.take k) _ _ _ _ ((hr.nw hN2).cut hk c hk9 hc) enters_areSignals1 ?_).mono ?_
          · intro i y W u0 u1 hi hqW hy
            exact areSignals1_any u0 u1 y _ s W hy (by rw [(hqW.cells).1 _ _ hz3]; exact HBX.out)
          · rintro e w3 ⟨b3, rfl, hb3, hq3⟩
            cases b3 with
            | false =>
              have HB3 := hid (RetB.not hb3)
              clear hb3
              go_wp2
              go_roundw
              case rel => exact ⟨k + 1, by omega, by go_num, SigOkAt.step HY.out (fun x hx => by
                rw [HX.out] at hx
                cases hx
                refine ⟨HB1.out, HB2.out, fun j y hj hy e => HB3.out ⟨y, ?_, e⟩⟩
                exact List.mem_of_getElem? (i := j) (by rw [List.getElem?_take, if_pos hj]; exact hy)), by (repeat (first | with_reducible exact Nw.refl _ | with_reducible assumption | with_reducible apply Nw.alloc | with_reducible apply Nw.drew | with_reducible apply Nw.drewN | (with_reducible refine Nw.setCell2 ?_ ?_; focus (first | (simp; done) | (simp; omega))) | with_reducible refine Nw.trans2 (by assumption) ?_))⟩
              case measure => simp [intOf]; omega
            | true =>
              have HB3 := hid (hb3.1 rfl)
              clear hb3
              go_wp2
              go_ret
              refine RetB.no (fun h => ?_) (by (repeat (first | with_reducible exact Nw.refl _ | with_reducible assumption | with_reducible apply Nw.alloc | with_reducible apply Nw.drew | with_reducible apply Nw.drewN | (with_reducible refine Nw.setCell2 ?_ ?_; focus (first | (simp; done) | (simp; omega))) | with_reducible refine Nw.trans2 (by assumption) ?_)))
              obtain ⟨y, hy, e⟩ := HB3.out
              obtain ⟨j, hj⟩ := List.mem_iff_getElem?.1 hy
              rw [List.getElem?_take] at hj
              split at hj
              · exact (h.1 k hlt _ HX.out).2.2 j y (by assumption) hj e
              · cases hj
    · have : k = xs.length := by omega
      subst this
      go_wp2_with (go_at_call 58; refine (within_any _ _ _ _).mono ?_; rintro e w1 ⟨b, rfl, hb, hq1⟩)
      go_ret
      exact RetB.of (hb.trans ⟨fun h => ⟨HY.out, by omega, by omega⟩, fun h => by have := h.2; omega⟩) (hq.trans hq1)
end Go.Proofs.Ytbelopdphlllnaa

/- Covers: valid ones; their literals. -/
namespace Go.Proofs.Ytbelopdphlllnaa
open Go.RowKit

def CoverOk (n : Int) (l : List ByteArray) : Prop := (∀ c ∈ l, CubeChars c ∧ (c.size : Int) = n) ∧ (1 ≤ n ∧ n ≤ 8) ∧ l.length ≤ 60

end Go.Proofs.Ytbelopdphlllnaa

/- Pins and wires. -/
namespace Go.Proofs.Ytbelopdphlllnaa
open Go.RowKit

/-! ### arePins, wireOf -/
def PinsIn (n : Int) (l : List DPin) : Prop := ∀ p ∈ l, 0 ≤ p.1 ∧ p.1 ≤ n - 1
end Go.Proofs.Ytbelopdphlllnaa
