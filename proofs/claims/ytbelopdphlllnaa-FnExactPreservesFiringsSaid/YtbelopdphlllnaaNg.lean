/- Valid nets, both sides; markings. -/
import Derived.Test.YtbelopdphlllnaaNet
import Derived.Test.YtbelopdphlllnaaPin
namespace Go.Proofs.Ytbelopdphlllnaa
open Go.RowKit

theorem l1Set2_any (v : Value) (l : List Int) (hi : Int) (w : World) (hr : Rep (.sl 3 .int) w [v] l) :
    Calls Try.prog 162 #[v, .int .i64 hi] w (RetB (Rising l hi) w) := by
  obtain ⟨A, c, rfl, hl, hc⟩ := hr.slv
  go_enter Try.func162, Try.ntmps162
  go_wp2_with fail
  refine (l1Rising_any _ l _ _ hr).mono ?_
  rintro e w1 ⟨b, rfl, hb, hq⟩
  go_wp2
  go_ret
  exact RetB.of hb hq

def TrAt (hi : Int) (ts : List DTransition) (k : Nat) : Prop := ∀ t, ts[k]? = some t → TrOk hi t
theorem TrAt.step {hi : Int} {ts : List DTransition} {k : Nat} (h : ∀ j, j < k → TrAt hi ts j) (hk : TrAt hi ts k) : ∀ j, j < k + 1 → TrAt hi ts j := by
  intro j hj
  by_cases e : j = k
  · subst e; exact hk
  · exact h j (by omega)
theorem netV_of {p hi : Int} {ts : List DTransition} (hh : IntKind.i64.wrap (p - 1) = hi) (h : ∀ j, j < ts.length → TrAt hi ts j) (h1 : 1 ≤ p ∧ p ≤ 30) (h2 : ts.length ≤ 24) : NetV (p, ts) := by
  have : hi = p - 1 := by rw [← hh]; exact IntWalk.i64_in _ (by omega)
  refine ⟨h1, h2, fun t ht => ?_⟩
  obtain ⟨j, hj⟩ := List.mem_iff_getElem?.1 ht
  have := h j (List.getElem?_eq_some_iff.1 hj).1 t hj
  simp_all
theorem netV_at {p hi : Int} {ts : List DTransition} (hh : IntKind.i64.wrap (p - 1) = hi) (h : NetV (p, ts)) {k : Nat} : TrAt hi ts k := by
  have h1 := h.1
  have : hi = p - 1 := by rw [← hh]; exact IntWalk.i64_in _ (by omega)
  subst this
  exact fun t ht => h.2.2 t (List.mem_of_getElem? ht)

set_option maxRecDepth 100000 in
set_option maxHeartbeats 2000000 in
theorem l1Good_any (a0 a1 : Value) (n : DNet) (w : World) (hn : Rep tNet w [a0, a1] n) :
    Calls Try.prog 120 #[.agg #[a0, a1]] w (RetB (NetV n) w) := by
  obtain ⟨p, ts⟩ := n
  obtain ⟨rP, rT⟩ := hn.open2 rfl
  dsimp only at rP rT
  obtain ⟨rfl, hp1, hp2⟩ := rP.int_
  obtain ⟨A, c, rfl, hl, hc⟩ := rT.slv
  have hm : ts.length ≤ 9223372036854775807 := by unfold maxLen at hc; omega
  obtain ⟨hi, hhi⟩ : ∃ hi, IntKind.i64.wrap (p - 1) = hi := ⟨_, rfl⟩
  have HNO := hid (fun (h : NetV (p, ts)) (k : Nat) => netV_at hhi h (k := k))
  have HYES := hid (fun h1 h2 h3 => netV_of (ts := ts) hhi h1 h2 h3)
  generalize hPP : NetV (p, ts) = PP at *
  have HPP := hid hPP
  clear hPP rP
  go_enter Try.func120, Try.ntmps120
  go_wp2
  go_loopw [8] (fun i wr => ∃ k : Nat, k ≤ ts.length ∧ i = .int .i64 k ∧ (∀ j, j < k → TrAt hi ts j) ∧ Nw w wr ∧ wr.cell? ⟨w.heap.size, 0, none⟩ = some (.int .i64 p) ∧ wr.cell? ⟨w.heap.size, 1, none⟩ = some (.slice A ts.length c) ∧ w.heap.size < wr.heap.size) (fun i _ => ts.length - (intOf i).toNat)
  case atStart => exact ⟨0, Nat.zero_le _, rfl, fun j h => absurd h (by omega), by (repeat (first | with_reducible exact Nw.refl _ | with_reducible assumption | with_reducible apply Nw.alloc | with_reducible apply Nw.drew | with_reducible apply Nw.drewN | (with_reducible refine Nw.setCell2 ?_ ?_; focus (first | (simp; done) | (simp; omega))) | with_reducible refine Nw.trans2 (by assumption) ?_)), by go_simp, by go_simp, by simp⟩
  case round =>
    obtain ⟨wo, rfl⟩ : ∃ wo : World, wo = wr := ⟨_, rfl⟩
    obtain ⟨k, hk, rfl, hyes, hq, d0, d1, hs⟩ := hrel
    have HY := hid hyes
    clear hyes
    by_cases hlt : k < ts.length
    · obtain ⟨b, o, v0, v1, rfl, hx, c0, c1⟩ := (rT.nw hq).at2 rfl (List.getElem?_eq_getElem hlt)
      have HX := hid (List.getElem?_eq_getElem hlt)
      generalize hxk : ts[k] = x at *
      clear hxk
      obtain ⟨pre, post⟩ := x
      obtain ⟨r0, r1⟩ := hx.open2 rfl
      dsimp only at r0 r1
      obtain ⟨A0, cc0, rfl, -, -⟩ := r0.slv
      obtain ⟨A1, cc1, rfl, -, -⟩ := r1.slv
      rcases pre with _ | ⟨q, pre⟩
      · go_wp2
        go_ret
        exact RetB.no (fun h => (HNO.out h k _ HX.out).1 rfl) (by (repeat (first | with_reducible exact Nw.refl _ | with_reducible assumption | with_reducible apply Nw.alloc | with_reducible apply Nw.drew | with_reducible apply Nw.drewN | (with_reducible refine Nw.setCell2 ?_ ?_; focus (first | (simp; done) | (simp; omega))) | with_reducible refine Nw.trans2 (by assumption) ?_)))
      · have hne : ((((q :: pre).length : Nat) : Int) == 0) = false := beq_false (by simp only [List.length_cons]; omega)
        generalize hqp : q :: pre = pr at *
        go_wp2_with fail
        obtain ⟨W1, hW1⟩ : ∃ W1, W1 = wo.alloc (.cells #[.slice A0 pr.length cc0, .slice A1 post.length cc1] 146) := ⟨_, rfl⟩
        have e0 : W1.cell? ⟨wo.heap.size, 1, none⟩ = some (.slice A1 post.length cc1) := by rw [hW1]; go_simp
        have e1 : W1.cell? ⟨w.heap.size, 0, none⟩ = some (.int .i64 p) := by rw [hW1]; go_simp
        have e2 : W1.cell? ⟨w.heap.size, 1, none⟩ = some (.slice (some ⟨b, o, none⟩) ts.length c) := by rw [hW1]; go_simp
        have hN1 : Nw wo W1 := by rw [hW1]; exact (Nw.refl _).alloc _
        have hs1 : wo.heap.size < W1.heap.size := by rw [hW1]; simp
        have hs2 : w.heap.size < W1.heap.size := by omega
        rw [← hW1]
        clear hW1 c0 c1 d0 d1
        refine (l1Set2_any _ pr _ _ (r0.nw hN1)).mono ?_
        rintro e w1 ⟨b1, rfl, hb1, hq1⟩
        obtain ⟨hc1, hf1⟩ := hq1.cells
        cases b1 with
        | false =>
          have HB := hid (RetB.not hb1)
          clear hb1
          go_wp2
          go_ret
          exact RetB.no (fun h => HB.out (HNO.out h k _ HX.out).2.1) ((hq.trans hN1).trans hq1)
        | true =>
          have HB := hid (hb1.1 rfl)
          clear hb1
          go_wp2_with fail
          refine (l1Set2_any _ post _ _ ((r1.nw hN1).nw hq1)).mono ?_
          rintro e w2 ⟨b2, rfl, hb2, hq2⟩
          have hN2 := hq1.trans hq2
          clear hc1 hf1
          obtain ⟨hc1, hf1⟩ := hN2.cells
          cases b2 with
          | false =>
            have HB2 := hid (RetB.not hb2)
            clear hb2
            go_wp2
            go_ret
            exact RetB.no (fun h => HB2.out (HNO.out h k _ HX.out).2.2) ((hq.trans hN1).trans hN2)
          | true =>
            have HB2 := hid (hb2.1 rfl)
            clear hb2
            have hs3 : w.heap.size < w2.heap.size := by have := hN2.size; omega
            have HQP := hid hqp
            clear hqp
            go_wp2
            go_roundw
            case rel => exact ⟨k + 1, by omega, by go_num, TrAt.step HY.out (fun y hy => by
              rw [HX.out] at hy
              cases hy
              exact ⟨by rw [← HQP.out]; simp, HB.out, HB2.out⟩), (hq.trans hN1).trans hN2, by rw [hc1 _ _ hs2]; exact e1, by rw [hc1 _ _ hs2]; exact e2, hs3⟩
            case measure => simp [intOf]; omega
    · have : k = ts.length := by omega
      subst this
      go_wp2_with fail
      refine (l1In_any _ _ _ _).mono ?_
      rintro e w1 ⟨b1, rfl, hb1, hq1⟩
      obtain ⟨hc1, hf1⟩ := hq1.cells
      cases b1 with
      | false =>
        have HB := hid (RetB.not hb1)
        clear hb1
        go_wp2
        go_ret
        exact RetB.no (fun h => by rw [← HPP.out] at h; exact HB.out h.1) (hq.trans hq1)
      | true =>
        have HB := hid (hb1.1 rfl)
        clear hb1
        by_cases h24 : ts.length ≤ 24
        · have hd : decide ((ts.length : Int) ≤ 24) = true := decide_eq_true (by omega)
          have H24 := hid h24
          clear h24
          go_wp2
          go_ret
          exact RetB.yes (by rw [← HPP.out]; exact HPP.out ▸ (HPP.out ▸ HYES.out HY.out HB.out H24.out)) (hq.trans hq1)
        · have hd : decide ((ts.length : Int) ≤ 24) = false := decide_eq_false (by omega)
          have H24 := hid h24
          clear h24
          go_wp2
          go_ret
          exact RetB.no (fun h => by rw [← HPP.out] at h; exact H24.out h.2.1) (hq.trans hq1)
end Go.Proofs.Ytbelopdphlllnaa
