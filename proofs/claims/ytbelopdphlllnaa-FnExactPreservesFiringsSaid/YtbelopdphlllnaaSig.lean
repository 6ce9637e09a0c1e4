/- Signals of a graph or a netlist: valid ones. -/
import Derived.Test.YtbelopdphlllnaaStr
import Derived.Test.YtbelopdphlllnaaIdx
namespace Go.Proofs.Ytbelopdphlllnaa
open Go.RowKit

def SigOkAt (xs : List DSignal) (k : Nat) : Prop := ∀ x, xs[k]? = some x → NameOk x.1 ∧ (1 ≤ x.2 ∧ x.2 ≤ 3) ∧ ∀ j y, j < k → xs[j]? = some y → y.1 ≠ x.1
def SigsOk (xs : List DSignal) : Prop := (∀ k, k < xs.length → SigOkAt xs k) ∧ 1 ≤ xs.length ∧ xs.length ≤ 8
theorem SigOkAt.step {xs : List DSignal} {k : Nat} (h : ∀ j, j < k → SigOkAt xs j) (hk : SigOkAt xs k) : ∀ j, j < k + 1 → SigOkAt xs j := by
  intro j hj
  by_cases e : j = k
  · subst e; exact hk
  · exact h j (by omega)

set_option maxRecDepth 100000 in
set_option maxHeartbeats 2000000 in
theorem l2Signals_any (v : Value) (xs : List DSignal) (w : World) (hr : Rep (.sl 129 tSignal) w [v] xs) : Calls Try.prog 96 #[v] w (RetB (SigsOk xs) w) := by
  obtain ⟨A, c, rfl, hl, hc⟩ := hr.slv
  have hm : xs.length ≤ 9223372036854775807 := by unfold maxLen at hc; omega
  go_enter Try.func96, Try.ntmps96
  go_wp2
  go_loopw [9] (fun i wr => ∃ k : Nat, k ≤ xs.length ∧ i = .int .i64 k ∧ (∀ j, j < k → SigOkAt xs j) ∧ Nw w wr) (fun i _ => xs.length - (intOf i).toNat)
  case atStart => exact ⟨0, Nat.zero_le _, rfl, fun j h => absurd h (by omega), Nw.refl _⟩
  case round =>
    obtain ⟨wo, rfl⟩ : ∃ wo : World, wo = wr := ⟨_, rfl⟩
    obtain ⟨k, hk, rfl, hyes, hq⟩ := hrel
    have HY := hid hyes
    clear hyes
    by_cases hlt : k < xs.length
    · obtain ⟨b, o, v0, v1, rfl, hx, c0, c1⟩ := (hr.nw hq).at2 rfl (List.getElem?_eq_getElem hlt)
      have HX := hid (List.getElem?_eq_getElem hlt)
      generalize hxk : xs[k] = x at *
      clear hxk
      obtain ⟨s, n⟩ := x
      obtain ⟨r0, r1⟩ := hx.open2 rfl
      obtain ⟨rfl, hs⟩ := r0.str_
      obtain ⟨rfl, -⟩ := r1.int_
      have Hs := hid hs
      clear hx r0 r1 hs
      go_wp2_with fail
      refine (l2Name_any s _ Hs.out).mono ?_
      rintro e w1 ⟨b1, rfl, hb1, hq1⟩
      obtain ⟨hc1, hf1⟩ := hq1.cells
      have hz1 : wo.heap.size < w1.heap.size := by (have hz2 := hq1.size; simp at hz2; omega)
      cases b1 with
      | false =>
        have HB1 := hid (RetB.not hb1)
        clear hb1
        go_wp2
        go_ret
        exact RetB.no (fun h => HB1.out (h.1 k hlt _ HX.out).1) (by (repeat (first | with_reducible exact Nw.refl _ | with_reducible assumption | with_reducible apply Nw.alloc | with_reducible apply Nw.drew | with_reducible apply Nw.drewN | (with_reducible refine Nw.setCell2 ?_ ?_; focus (first | (simp; done) | (simp; omega))) | with_reducible refine Nw.trans2 (by assumption) ?_)))
      | true =>
        have HB1 := hid (hb1.1 rfl)
        clear hb1
        go_wp2_with fail
        refine (l1In_any n _ _ _).mono ?_
        rintro e w2 ⟨b2, rfl, hb2, hq2⟩
        obtain ⟨hc2, hf2⟩ := hq2.cells
        have hz3 : wo.heap.size < w2.heap.size := by (have hz2 := hq2.size; omega)
        cases b2 with
        | false =>
          have HB2 := hid (RetB.not hb2)
          clear hb2
          go_wp2
          go_ret
          exact RetB.no (fun h => HB2.out (h.1 k hlt _ HX.out).2.1) (by (repeat (first | with_reducible exact Nw.refl _ | with_reducible assumption | with_reducible apply Nw.alloc | with_reducible apply Nw.drew | with_reducible apply Nw.drewN | (with_reducible refine Nw.setCell2 ?_ ?_; focus (first | (simp; done) | (simp; omega))) | with_reducible refine Nw.trans2 (by assumption) ?_)))
        | true =>
          have HB2 := hid (hb2.1 rfl)
          clear hb2
          have hbx : w2.cell? ⟨wo.heap.size, 0, none⟩ = some (.string s) := by go_simp
          have hN2 : Nw w w2 := by (repeat (first | with_reducible exact Nw.refl _ | with_reducible assumption | with_reducible apply Nw.alloc | with_reducible apply Nw.drew | with_reducible apply Nw.drewN | (with_reducible refine Nw.setCell2 ?_ ?_; focus (first | (simp; done) | (simp; omega))) | with_reducible refine Nw.trans2 (by assumption) ?_))
          have hk9 : k ≤ c := by omega
          clear hc1 hf1 hc2 hf2 c0 c1 hq1 hq2
          go_wp2
          go_loopw [28] (fun i wi => ∃ m : Nat, m ≤ k ∧ i = .int .i64 m ∧ (∀ j y, j < m → xs[j]? = some y → y.1 ≠ s) ∧ Nw w2 wi) (fun i _ => k - (intOf i).toNat)
          case atStart => exact ⟨0, Nat.zero_le _, rfl, fun j y h => absurd h (by omega), Nw.refl _⟩
          case round =>
            obtain ⟨m, hm2, rfl, hno, hqi⟩ := hrel
            have HN := hid hno
            clear hno
            obtain ⟨hci, hfi⟩ := hqi.cells
            have hzi : wo.heap.size < wr.heap.size := by have := hqi.size; omega
            by_cases hlm : m < k
            · obtain ⟨b', o', u0, u1, e', hy, d0, d1⟩ := ((hr.nw hN2).nw hqi).at2 rfl (List.getElem?_eq_getElem (show m < xs.length by omega))
              have HYm := hid (List.getElem?_eq_getElem (show m < xs.length by omega))
              generalize hym : xs[m] = y at *
              clear hym
              obtain ⟨t, n'⟩ := y
              obtain ⟨s0, s1⟩ := hy.open2 rfl
              obtain ⟨rfl, -⟩ := s0.str_
              obtain ⟨rfl, -⟩ := s1.int_
              simp only [Option.some.injEq, Addr.mk.injEq, and_true] at e'
              obtain ⟨rfl, rfl⟩ := e'
              clear hy s0 s1
              go_wp2
              · rename_i he
                go_ret
                exact RetB.no (fun h => (h.1 k hlt _ HX.out).2.2 m _ hlm HYm.out (str_eq he).symm) (by (repeat (first | with_reducible exact Nw.refl _ | with_reducible assumption | with_reducible apply Nw.alloc | with_reducible apply Nw.drew | with_reducible apply Nw.drewN | (with_reducible refine Nw.setCell2 ?_ ?_; focus (first | (simp; done) | (simp; omega))) | with_reducible refine Nw.trans2 (by assumption) ?_)))
              · go_roundw
                case rel =>
                  rename_i he
                  exact ⟨m + 1, by omega, by go_num, fun j y hj hy => by
                    by_cases e : j = m
                    · subst e
                      rw [HYm.out] at hy
                      cases hy
                      exact fun e => str_ne he e.symm
                    · exact HN.out j y (by omega) hy, by (repeat (first | with_reducible exact Nw.refl _ | with_reducible assumption | with_reducible apply Nw.alloc | with_reducible apply Nw.drew | with_reducible apply Nw.drewN | (with_reducible refine Nw.setCell2 ?_ ?_; focus (first | (simp; done) | (simp; omega))) | with_reducible refine Nw.trans2 (by assumption) ?_))⟩
                case measure => simp [intOf]; omega
            · go_wp2
              go_roundw
              case rel => exact ⟨k + 1, by omega, by go_num, SigOkAt.step HY.out (fun x hx => by
                rw [HX.out] at hx
                cases hx
                exact ⟨HB1.out, HB2.out, fun j y hj hy => HN.out j y (by omega) hy⟩), by (repeat (first | with_reducible exact Nw.refl _ | with_reducible assumption | with_reducible apply Nw.alloc | with_reducible apply Nw.drew | with_reducible apply Nw.drewN | (with_reducible refine Nw.setCell2 ?_ ?_; focus (first | (simp; done) | (simp; omega))) | with_reducible refine Nw.trans2 (by assumption) ?_))⟩
              case measure => simp [intOf]; omega
    · have : k = xs.length := by omega
      subst this
      go_wp2_with (go_at_call 105; refine (l1In_any _ _ _ _).mono ?_; rintro e w1 ⟨b, rfl, hb, hq1⟩)
      go_ret
      exact RetB.of (hb.trans ⟨fun h => ⟨HY.out, by omega, by omega⟩, fun h => by have := h.2; omega⟩) (hq.trans hq1)

theorem enters_areSignals1 : Enters Try.prog 159 := fun args W => run_enter Try.func159 (by kernel_rfl) rfl args W
theorem areSignals1_any (v0 v1 : Value) (x : DSignal) (g : Nat) (s : ByteArray) (W : World) (hx : Rep tSignal W [v0, v1] x) (hb : W.cell? ⟨g, 0, none⟩ = some (.string s)) :
    Calls Try.prog 159 #[.agg #[v0, v1], .pointer (some ⟨g, 0, none⟩)] W (RetB (x.1 = s) W) := by
  obtain ⟨t, n⟩ := x
  obtain ⟨r0, r1⟩ := hx.open2 rfl
  obtain ⟨rfl, -⟩ := r0.str_
  obtain ⟨rfl, -⟩ := r1.int_
  have hg : g < W.heap.size := World.block_lt_of_cell? W _ hb
  clear hx r0 r1
  by_cases h : t = s
  · have h2 := str_eq_t h
    have H := hid h
    clear h
    go_enter Try.func159, Try.ntmps159
    go_wp2
    go_ret
    exact RetB.of (by simp only [h2, H.out]) ((Nw.refl _).alloc _)
  · have h2 := str_eq_f h
    have H := hid h
    clear h
    go_enter Try.func159, Try.ntmps159
    go_wp2
    go_ret
    exact RetB.of (by simp only [h2, H.out]; simp) ((Nw.refl _).alloc _)

set_option maxRecDepth 100000 in
set_option maxHeartbeats 2000000 in
theorem areSignals_any (v : Value) (xs : List DSignal) (w : World) (hr : Rep (.sl 129 tSignal) w [v] xs) : Calls Try.prog 109 #[v] w (RetB (SigsOk xs) w) := by
  obtain ⟨A, c, rfl, hl, hc⟩ := hr.slv
  have hm : xs.length ≤ 9223372036854775807 := by unfold maxLen at hc; omega
  go_enter Try.func109, Try.ntmps109
  go_wp2
  go_loopw [7] (fun i wr => ∃ k : Nat, k ≤ xs.length ∧ i = .int .i64 k ∧ (∀ j, j < k → SigOkAt xs j) ∧ Nw w wr) (fun i _ => xs.length - (intOf i).toNat)
  case atStart => exact ⟨0, Nat.zero_le _, rfl, fun j h => absurd h (by omega), Nw.refl _⟩
  case round =>
    obtain ⟨wo, rfl⟩ : ∃ wo : World, wo = wr := ⟨_, rfl⟩
    obtain ⟨k, hk, rfl, hyes, hq⟩ := hrel
    have HY := hid hyes
    clear hyes
    by_cases hlt : k < xs.length
    · obtain ⟨b, o, v0, v1, rfl, hx, c0, c1⟩ := (hr.nw hq).at2 rfl (List.getElem?_eq_getElem hlt)
      have HX := hid (List.getElem?_eq_getElem hlt)
      generalize hxk : xs[k] = x at *
      clear hxk
      obtain ⟨s, n⟩ := x
      obtain ⟨r0, r1⟩ := hx.open2 rfl
      obtain ⟨rfl, hs⟩ := r0.str_
      obtain ⟨rfl, -⟩ := r1.int_
      have Hs := hid hs
      clear hx r0 r1 hs
      go_wp2_with fail
      refine (isName_any s _ Hs.out).mono ?_
      rintro e w1 ⟨b1, rfl, hb1, hq1⟩
      obtain ⟨hc1, hf1⟩ := hq1.cells
      have hz1 : wo.heap.size < w1.heap.size := by (have hz2 := hq1.size; simp at hz2; omega)
      cases b1 with
      | false =>
        have HB1 := hid (RetB.not hb1)
        clear hb1
        go_wp2
        go_ret
        exact RetB.no (fun h => HB1.out (h.1 k hlt _ HX.out).1) (by (repeat (first | with_reducible exact Nw.refl _ | with_reducible assumption | with_reducible apply Nw.alloc | with_reducible apply Nw.drew | with_reducible apply Nw.drewN | (with_reducible refine Nw.setCell2 ?_ ?_; focus (first | (simp; done) | (simp; omega))) | with_reducible refine Nw.trans2 (by assumption) ?_)))
      | true =>
        have HB1 := hid (hb1.1 rfl)
        clear hb1
        go_wp2_with fail
        refine (within_any n _ _ _).mono ?_
        rintro e w2 ⟨b2, rfl, hb2, hq2⟩
        obtain ⟨hc2, hf2⟩ := hq2.cells
        have hz3 : wo.heap.size < w2.heap.size := by (have hz2 := hq2.size; omega)
        cases b2 with
        | false =>
          have HB2 := hid (RetB.not hb2)
          clear hb2
          go_wp2
          go_ret
          exact RetB.no (fun h => HB2.out (h.1 k hlt _ HX.out).2.1) (by (repeat (first | with_reducible exact Nw.refl _ | with_reducible assumption | with_reducible apply Nw.alloc | with_reducible apply Nw.drew | with_reducible apply Nw.drewN | (with_reducible refine Nw.setCell2 ?_ ?_; focus (first | (simp; done) | (simp; omega))) | with_reducible refine Nw.trans2 (by assumption) ?_)))
        | true =>
          have HB2 := hid (hb2.1 rfl)
          clear hb2
          have hbx : w2.cell? ⟨wo.heap.size, 0, none⟩ = some (.string s) := by go_simp
          have hN2 : Nw w w2 := by (repeat (first | with_reducible exact Nw.refl _ | with_reducible assumption | with_reducible apply Nw.alloc | with_reducible apply Nw.drew | with_reducible apply Nw.drewN | (with_reducible refine Nw.setCell2 ?_ ?_; focus (first | (simp; done) | (simp; omega))) | with_reducible refine Nw.trans2 (by assumption) ?_))
          have hk9 : k ≤ c := by omega
          have HBX := hid hbx
          clear hc1 hf1 hc2 hf2 c0 c1 hq1 hq2 hbx
          go_wp2_with fail
          refine (containsFuncSignal_any (fun y => y.1 = s) (xs.take k) _ _ _ _ ((hr.nw hN2).cut hk c hk9 hc) enters_areSignals1 ?_).mono ?_
          · intro i y W u0 u1 hi hqW hy
            exact areSignals1_any u0 u1 y _ s W hy (by rw [(hqW.cells).1 _ _ hz3]; exact HBX.out)
          · rintro e w3 ⟨b3, rfl, hb3, hq3⟩
            cases b3 with
            | false =>
              have HB3 := hid (RetB.not hb3)
              clear hb3
              go_wp2
              go_roundw
              case rel => exact ⟨k + 1, by omega, by go_num, SigOkAt.step HY.out (fun x hx => by
                rw [HX.out] at hx
                cases hx
                refine ⟨HB1.out, HB2.out, fun j y hj hy e => HB3.out ⟨y, ?_, e⟩⟩
                exact List.mem_of_getElem? (i := j) (by rw [List.getElem?_take, if_pos hj]; exact hy)), by (repeat (first | with_reducible exact Nw.refl _ | with_reducible assumption | with_reducible apply Nw.alloc | with_reducible apply Nw.drew | with_reducible apply Nw.drewN | (with_reducible refine Nw.setCell2 ?_ ?_; focus (first | (simp; done) | (simp; omega))) | with_reducible refine Nw.trans2 (by assumption) ?_))⟩
              case measure => simp [intOf]; omega
            | true =>
              have HB3 := hid (hb3.1 rfl)
              clear hb3
              go_wp2
              go_ret
              refine RetB.no (fun h => ?_) (by (repeat (first | with_reducible exact Nw.refl _ | with_reducible assumption | with_reducible apply Nw.alloc | with_reducible apply Nw.drew | with_reducible apply Nw.drewN | (with_reducible refine Nw.setCell2 ?_ ?_; focus (first | (simp; done) | (simp; omega))) | with_reducible refine Nw.trans2 (by assumption) ?_)))
              obtain ⟨y, hy, e⟩ := HB3.out
              obtain ⟨j, hj⟩ := List.mem_iff_getElem?.1 hy
              rw [List.getElem?_take] at hj
              split at hj
              · exact (h.1 k hlt _ HX.out).2.2 j y (by assumption) hj e
              · cases hj
    · have : k = xs.length := by omega
      subst this
      go_wp2_with (go_at_call 58; refine (within_any _ _ _ _).mono ?_; rintro e w1 ⟨b, rfl, hb, hq1⟩)
      go_ret
      exact RetB.of (hb.trans ⟨fun h => ⟨HY.out, by omega, by omega⟩, fun h => by have := h.2; omega⟩) (hq.trans hq1)
end Go.Proofs.Ytbelopdphlllnaa
