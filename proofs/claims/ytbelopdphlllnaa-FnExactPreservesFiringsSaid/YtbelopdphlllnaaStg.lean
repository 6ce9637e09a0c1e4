/- Valid signal transition graphs, both sides. -/
import Derived.Test.YtbelopdphlllnaaNm
import Derived.Test.YtbelopdphlllnaaSig
namespace Go.Proofs.Ytbelopdphlllnaa
open Go.RowKit

theorem Rep.pr_flat {a b c d e : Ty} {w : World} {u0 u1 u2 u3 u4 : Value} {x : ((a.Den × b.Den) × c.Den × d.Den × e.Den)} (h : Rep (.pr (.pr a b) (.pr c (.pr d e))) w [u0, u1, u2, u3, u4] x) (ha : a.wd = 1) (hb : b.wd = 1) (hc : c.wd = 1) (hd : d.wd = 1) :
    Rep a w [u0] x.1.1 ∧ Rep b w [u1] x.1.2 ∧ Rep c w [u2] x.2.1 ∧ Rep d w [u3] x.2.2.1 ∧ Rep e w [u4] x.2.2.2 := by
  obtain ⟨h1, h2⟩ := h.pr2 (show (Ty.pr a b).wd = 2 by simp [Ty.wd, ha, hb])
  obtain ⟨h3, h4⟩ := h1.open2 ha
  obtain ⟨h5, h6, h7⟩ := h2.open3 hc hd
  exact ⟨h3, h4, h5, h6, h7⟩
theorem Rep.pr_net {a b c d e : Ty} {w : World} {u0 u1 u2 u3 u4 : Value} {x : ((a.Den × b.Den) × c.Den × d.Den × e.Den)} (h : Rep (.pr (.pr a b) (.pr c (.pr d e))) w [u0, u1, u2, u3, u4] x) (ha : a.wd = 1) (hb : b.wd = 1) : Rep (.pr a b) w [u0, u1] x.1 :=
  (h.pr2 (show (Ty.pr a b).wd = 2 by simp [Ty.wd, ha, hb])).1

/-! ### plain words -/
def LabOk (m : Nat) (l : DLabel) : Prop := (0 ≤ l.1 ∧ l.1 ≤ (m : Int) - 1) ∨ (l.1 = -1 ∧ l.2 = false)
structure StgOk (s : DSTG) : Prop where
  net : NetV s.1
  sigs : SigsOk s.2.1
  len : s.2.2.1.length = s.1.2.length
  labs : ∀ l ∈ s.2.2.1, LabOk s.2.1.length l
  bits : Bits s.2.2.2 s.1.1

set_option maxRecDepth 100000 in
set_option maxHeartbeats 2000000 in
theorem l2Label_any (s : Int) (up : Bool) (m : Nat) (w : World) (hm : m ≤ 9223372036854775807) :
    Calls Try.prog 119 #[.agg #[.int .i64 s, .bool up], .int .i64 m] w (RetB (LabOk m (s, up)) w) := by
  go_enter Try.func119, Try.ntmps119
  obtain ⟨W0, hW0, hN0, hcA, hsz⟩ := one_new w #[.int .i64 s, .bool up] 131
  have a0 := hcA 0
  have a1 := hcA 1
  simp only [List.getElem?_toArray, List.getElem?_cons_zero, List.getElem?_cons_succ] at a0 a1
  have hs0 : w.heap.size < W0.heap.size := by omega
  clear hcA hsz
  have ew : IntKind.i64.wrap ((m : Int) - 1) = (m : Int) - 1 := IntWalk.i64_in _ (by omega)
  go_wp2_with fail
  rw [← hW0]
  have HW := hid hW0
  clear hW0
  refine (l1In_any _ _ _ _).mono ?_
  rintro e w1 ⟨b1, rfl, hb1, hq1⟩
  obtain ⟨hc1, hf1⟩ := hq1.cells
  cases b1 with
  | true =>
    have HB := hid (hb1.1 rfl)
    clear hb1
    go_wp2
    go_ret
    exact RetB.yes (.inl HB.out) (hN0.trans hq1)
  | false =>
    have HB := hid (RetB.not hb1)
    clear hb1
    by_cases hs : s = -1
    · have e1 := beq_true hs
      have HS := hid hs
      clear hs
      cases up with
      | true =>
        go_wp2
        go_ret
        exact RetB.no (fun h => by rcases h with h | ⟨_, h⟩; exact HB.out h; cases h) (hN0.trans hq1)
      | false =>
        go_wp2
        go_ret
        exact RetB.yes (.inr ⟨HS.out, rfl⟩) (hN0.trans hq1)
    · have e1 := beq_false hs
      have HS := hid hs
      clear hs
      go_wp2
      go_ret
      exact RetB.no (fun h => by rcases h with h | ⟨h, _⟩; exact HB.out h; exact HS.out h) (hN0.trans hq1)

set_option maxRecDepth 100000 in
set_option maxHeartbeats 2000000 in
theorem isEdge_any (s : Int) (up : Bool) (m : Nat) (w : World) (hm : m ≤ 9223372036854775807) :
    Calls Try.prog 112 #[.agg #[.int .i64 s, .bool up], .int .i64 m] w (RetB (LabOk m (s, up)) w) := by
  go_enter Try.func112, Try.ntmps112
  obtain ⟨W0, hW0, hN0, hcA, hsz⟩ := one_new w #[.int .i64 s, .bool up] 131
  have a0 := hcA 0
  have a1 := hcA 1
  simp only [List.getElem?_toArray, List.getElem?_cons_zero, List.getElem?_cons_succ] at a0 a1
  have hs0 : w.heap.size < W0.heap.size := by omega
  clear hcA hsz
  have ew : IntKind.i64.wrap ((m : Int) - 1) = (m : Int) - 1 := IntWalk.i64_in _ (by omega)
  go_wp2_with fail
  rw [← hW0]
  have HW := hid hW0
  clear hW0
  refine (within_any _ _ _ _).mono ?_
  rintro e w1 ⟨b1, rfl, hb1, hq1⟩
  obtain ⟨hc1, hf1⟩ := hq1.cells
  cases b1 with
  | true =>
    have HB := hid (hb1.1 rfl)
    clear hb1
    go_wp2
    go_ret
    exact RetB.yes (.inl HB.out) (hN0.trans hq1)
  | false =>
    have HB := hid (RetB.not hb1)
    clear hb1
    by_cases hs : s = -1
    · have e1 := beq_true hs
      have HS := hid hs
      clear hs
      cases up with
      | true =>
        go_wp2
        go_ret
        exact RetB.no (fun h => by rcases h with h | ⟨_, h⟩; exact HB.out h; cases h) (hN0.trans hq1)
      | false =>
        go_wp2
        go_ret
        exact RetB.yes (.inr ⟨HS.out, rfl⟩) (hN0.trans hq1)
    · have e1 := beq_false hs
      have HS := hid hs
      clear hs
      cases up with
      | true =>
        go_wp2
        go_ret
        exact RetB.no (fun h => by rcases h with h | ⟨h, _⟩; exact HB.out h; exact HS.out h) (hN0.trans hq1)
      | false =>
        go_wp2
        go_ret
        exact RetB.no (fun h => by rcases h with h | ⟨h, _⟩; exact HB.out h; exact HS.out h) (hN0.trans hq1)

def LabAt (m : Nat) (ls : List DLabel) (k : Nat) : Prop := ∀ x, ls[k]? = some x → LabOk m x
theorem LabAt.step {m : Nat} {ls : List DLabel} {k : Nat} (h : ∀ j, j < k → LabAt m ls j) (hk : LabAt m ls k) : ∀ j, j < k + 1 → LabAt m ls j := by
  intro j hj
  by_cases e : j = k
  · subst e; exact hk
  · exact h j (by omega)
theorem labAt_all {m : Nat} {ls : List DLabel} (h : ∀ j, j < ls.length → LabAt m ls j) : ∀ l ∈ ls, LabOk m l := by
  intro l hl
  obtain ⟨j, hj⟩ := List.mem_iff_getElem?.1 hl
  exact h j (List.getElem?_eq_some_iff.1 hj).1 l hj

set_option maxRecDepth 100000 in
set_option maxHeartbeats 4000000 in
theorem l2Good_any (a0 a1 a2 a3 a4 : Value) (s : DSTG) (w : World) (hn : Rep tSTG w [a0, a1, a2, a3, a4] s) :
    Calls Try.prog 69 #[.agg #[a0, a1, a2, a3, a4]] w (RetB (StgOk s) w) := by
  have rN := hn.pr_net rfl rfl
  obtain ⟨⟨p, ts⟩, ss, ls, st⟩ := s
  obtain ⟨rP, rT, rS, rL, rM⟩ := hn.pr_flat rfl rfl rfl rfl
  dsimp only at rP rT rS rL rM rN
  obtain ⟨rfl, -, -⟩ := rP.int_
  obtain ⟨AT, cT, rfl, hlT, hcT⟩ := rT.slv
  obtain ⟨AS, cS, rfl, hlS, hcS⟩ := rS.slv
  obtain ⟨AL, cL, rfl, hlL, hcL⟩ := rL.slv
  obtain ⟨rfl, hst⟩ := rM.str_
  have hmT : ts.length ≤ 9223372036854775807 := by unfold maxLen at hcT; omega
  have hmS : ss.length ≤ 9223372036854775807 := by unfold maxLen at hcS; omega
  have hmL : ls.length ≤ 9223372036854775807 := by unfold maxLen at hcL; omega
  have HOK := hid (fun (h : StgOk ((p, ts), ss, ls, st)) => h)
  have HYES := hid (fun h1 h2 h3 h4 h5 => (StgOk.mk h1 h2 h3 h4 h5 : StgOk ((p, ts), ss, ls, st)))
  generalize hPP : StgOk ((p, ts), ss, ls, st) = PP at *
  have HPP := hid hPP
  clear hPP HOK rP rM
  obtain ⟨W0, hW0, hN0, hcA, hsz⟩ := one_new w #[.int .i64 p, .slice AT ts.length cT, .slice AS ss.length cS, .slice AL ls.length cL, .string st] 50
  have a0 := hcA 0
  have a1 := hcA 1
  have a2 := hcA 2
  have a3 := hcA 3
  have a4 := hcA 4
  simp only [List.getElem?_toArray, List.getElem?_cons_zero, List.getElem?_cons_succ] at a0 a1 a2 a3 a4
  have hs0 : w.heap.size < W0.heap.size := by omega
  clear hcA hsz
  go_enter Try.func69, Try.ntmps69
  go_wp2
  rw [← hW0]
  have HW := hid hW0
  clear hW0
  go_loopw [8] (fun i wr => ∃ k : Nat, k ≤ ls.length ∧ i = .int .i64 k ∧ (∀ j, j < k → LabAt ss.length ls j) ∧ Nw W0 wr) (fun i _ => ls.length - (intOf i).toNat)
  case atStart => exact ⟨0, Nat.zero_le _, rfl, fun j h => absurd h (by omega), Nw.refl _⟩
  case round =>
    obtain ⟨wo, rfl⟩ : ∃ wo : World, wo = wr := ⟨_, rfl⟩
    obtain ⟨k, hk, rfl, hyes, hq⟩ := hrel
    have HY := hid hyes
    clear hyes
    obtain ⟨hc0, hf0⟩ := hq.cells
    have hsw : w.heap.size < wo.heap.size := by have := hq.size; omega
    by_cases hlt : k < ls.length
    · obtain ⟨b, o, v0, v1, rfl, hx, c0, c1⟩ := ((rL.nw hN0).nw hq).at2 rfl (List.getElem?_eq_getElem hlt)
      have HX := hid (List.getElem?_eq_getElem hlt)
      generalize hxk : ls[k] = x at *
      clear hxk
      obtain ⟨sg, up⟩ := x
      obtain ⟨r0, r1⟩ := hx.open2 rfl
      dsimp only at r0 r1
      obtain ⟨rfl, -, -⟩ := r0.int_
      obtain rfl := r1.bool_
      clear hx r0 r1
      go_wp2_with fail
      refine (l2Label_any _ _ _ _ hmS).mono ?_
      rintro e w1 ⟨b1, rfl, hb1, hq1⟩
      obtain ⟨hc1, hf1⟩ := hq1.cells
      cases b1 with
      | false =>
        have HB := hid (RetB.not hb1)
        clear hb1
        go_wp2
        go_ret
        exact RetB.no (fun h => by rw [← HPP.out] at h; exact HB.out (h.labs _ (List.mem_of_getElem? HX.out))) (by (repeat (first | with_reducible exact Nw.refl _ | with_reducible assumption | with_reducible apply Nw.alloc | with_reducible apply Nw.drew | with_reducible apply Nw.drewN | (with_reducible refine Nw.setCell2 ?_ ?_; focus (first | (simp; done) | (simp; omega))) | with_reducible refine Nw.trans2 (by assumption) ?_)))
      | true =>
        have HB := hid (hb1.1 rfl)
        clear hb1
        go_wp2
        go_roundw
        case rel => exact ⟨k + 1, by omega, by go_num, LabAt.step HY.out (fun y hy => by
          rw [HX.out] at hy
          cases hy
          exact HB.out), by (repeat (first | with_reducible exact Nw.refl _ | with_reducible assumption | with_reducible apply Nw.alloc | with_reducible apply Nw.drew | with_reducible apply Nw.drewN | (with_reducible refine Nw.setCell2 ?_ ?_; focus (first | (simp; done) | (simp; omega))) | with_reducible refine Nw.trans2 (by assumption) ?_))⟩
        case measure => simp [intOf]; omega
    · have : k = ls.length := by omega
      subst this
      go_wp2_with fail
      refine (l1Good_any _ _ (p, ts) _ ((rN.nw hN0).nw hq)).mono ?_
      rintro e w1 ⟨b1, rfl, hb1, hq1⟩
      have hN1 : Nw W0 w1 := hq.trans hq1
      clear hc0 hf0
      obtain ⟨hc1, hf1⟩ := hN1.cells
      cases b1 with
      | false =>
        have HB := hid (RetB.not hb1)
        clear hb1
        go_wp2
        go_ret
        exact RetB.no (fun h => by rw [← HPP.out] at h; exact HB.out h.net) (hN0.trans hN1)
      | true =>
        have HB := hid (hb1.1 rfl)
        clear hb1
        go_wp2_with fail
        refine (l2Signals_any _ ss _ (rS.nw (hN0.trans hN1))).mono ?_
        rintro e w2 ⟨b2, rfl, hb2, hq2⟩
        have hN2 := hN1.trans hq2
        clear hc1 hf1
        obtain ⟨hc1, hf1⟩ := hN2.cells
        cases b2 with
        | false =>
          have HB2 := hid (RetB.not hb2)
          clear hb2
          go_wp2
          go_ret
          exact RetB.no (fun h => by rw [← HPP.out] at h; exact HB2.out h.sigs) (hN0.trans hN2)
        | true =>
          have HB2 := hid (hb2.1 rfl)
          clear hb2
          by_cases hll : ls.length = ts.length
          · have e1 : ((ls.length : Int) == (ts.length : Int)) = true := beq_true (by omega)
            have HLL := hid hll
            clear hll
            go_wp2_with fail
            refine (l1Mark_any _ _ (p, ts) st _ (rN.nw (hN0.trans hN2)) hst).mono ?_
            rintro e w3 ⟨b3, rfl, hb3, hq3⟩
            have HB3 := hid hb3
            clear hb3
            go_wp2
            go_ret
            exact RetB.of (HB3.out.trans ⟨fun h => by rw [← HPP.out]; exact HPP.out ▸ (HPP.out ▸ HYES.out HB.out HB2.out HLL.out (labAt_all HY.out) h), fun h => by rw [← HPP.out] at h; exact h.bits⟩) ((hN0.trans hN2).trans hq3)
          · have e1 : ((ls.length : Int) == (ts.length : Int)) = false := beq_false (by omega)
            have HLL := hid hll
            clear hll
            go_wp2
            go_ret
            exact RetB.no (fun h => by rw [← HPP.out] at h; exact HLL.out h.len) (hN0.trans hN2)

theorem enters_IsValidSTG1 : Enters Try.prog 111 := fun args W => run_enter Try.func111 (by kernel_rfl) rfl args W
set_option maxRecDepth 100000 in
theorem IsValidSTG1_any (v0 v1 : Value) (x : DLabel) (g : Nat) (AS : Option Addr) (m c : Nat) (w : World) (hx : Rep tLabel w [v0, v1] x) (hb : w.cell? ⟨g, 2, none⟩ = some (.slice AS m c)) (hm : m ≤ 9223372036854775807) :
    Calls Try.prog 111 #[.agg #[v0, v1], .pointer (some ⟨g, 0, none⟩)] w (RetB (¬ LabOk m x) w) := by
  obtain ⟨sg, up⟩ := x
  obtain ⟨r0, r1⟩ := hx.open2 rfl
  dsimp only at r0 r1
  obtain ⟨rfl, -, -⟩ := r0.int_
  obtain rfl := r1.bool_
  have hg : g < w.heap.size := World.block_lt_of_cell? w _ hb
  clear hx r0 r1
  go_enter Try.func111, Try.ntmps111
  go_wp2_with fail
  refine (isEdge_any _ _ _ _ hm).mono ?_
  rintro e w1 ⟨b1, rfl, hb1, hq1⟩
  have HB := hid hb1
  clear hb1
  go_wp2
  go_ret
  refine RetB.of ?_ (((Nw.refl _).alloc _).trans hq1)
  have h1 := HB.out
  cases b1 with
  | false => simp only [Bool.not_false, true_iff]; exact fun h => by have := h1.2 h; cases this
  | true => simp only [Bool.not_true, Bool.false_eq_true, false_iff]; exact fun h => h (h1.1 rfl)

set_option maxRecDepth 100000 in
set_option maxHeartbeats 4000000 in
theorem IsValidSTG_any (a0 a1 a2 a3 a4 : Value) (s : DSTG) (w : World) (hn : Rep tSTG w [a0, a1, a2, a3, a4] s) :
    Calls Try.prog 57 #[.agg #[a0, a1, a2, a3, a4]] w (RetB (StgOk s) w) := by
  have rN := hn.pr_net rfl rfl
  obtain ⟨⟨p, ts⟩, ss, ls, st⟩ := s
  obtain ⟨rP, rT, rS, rL, rM⟩ := hn.pr_flat rfl rfl rfl rfl
  dsimp only at rP rT rS rL rM rN
  obtain ⟨rfl, -, -⟩ := rP.int_
  obtain ⟨AT, cT, rfl, hlT, hcT⟩ := rT.slv
  obtain ⟨AS, cS, rfl, hlS, hcS⟩ := rS.slv
  obtain ⟨AL, cL, rfl, hlL, hcL⟩ := rL.slv
  obtain ⟨rfl, hst⟩ := rM.str_
  have hmT : ts.length ≤ 9223372036854775807 := by unfold maxLen at hcT; omega
  have hmS : ss.length ≤ 9223372036854775807 := by unfold maxLen at hcS; omega
  have hmL : ls.length ≤ 9223372036854775807 := by unfold maxLen at hcL; omega
  have HYES := hid (fun h1 h2 h3 h4 h5 => (StgOk.mk h1 h2 h3 h4 h5 : StgOk ((p, ts), ss, ls, st)))
  generalize hPP : StgOk ((p, ts), ss, ls, st) = PP at *
  have HPP := hid hPP
  clear hPP rP rM
  obtain ⟨W0, hW0, hN0, hcA, hsz⟩ := one_new w #[.int .i64 p, .slice AT ts.length cT, .slice AS ss.length cS, .slice AL ls.length cL, .string st] 50
  have a0 := hcA 0
  have a1 := hcA 1
  have a2 := hcA 2
  have a3 := hcA 3
  have a4 := hcA 4
  simp only [List.getElem?_toArray, List.getElem?_cons_zero, List.getElem?_cons_succ] at a0 a1 a2 a3 a4
  have hs0 : w.heap.size < W0.heap.size := by omega
  clear hcA hsz
  go_enter Try.func57, Try.ntmps57
  go_wp2_with fail
  rw [← hW0]
  have HW := hid hW0
  clear hW0
  refine (IsValidMarking_any _ _ (p, ts) st _ (rN.nw hN0) hst).mono ?_
  rintro e w1 ⟨b1, rfl, hb1, hq1⟩
  obtain ⟨hc1, hf1⟩ := hq1.cells
  cases b1 with
  | false =>
    have HB := hid (RetB.not hb1)
    clear hb1
    go_wp2
    go_ret
    exact RetB.no (fun h => by rw [← HPP.out] at h; exact HB.out ⟨h.net, h.bits⟩) (hN0.trans hq1)
  | true =>
    have HB := hid (hb1.1 rfl)
    clear hb1
    go_wp2_with fail
    refine (areSignals_any _ ss _ (rS.nw (hN0.trans hq1))).mono ?_
    rintro e w2 ⟨b2, rfl, hb2, hq2⟩
    have hN2 := hq1.trans hq2
    clear hc1 hf1
    obtain ⟨hc1, hf1⟩ := hN2.cells
    cases b2 with
    | false =>
      have HB2 := hid (RetB.not hb2)
      clear hb2
      go_wp2
      go_ret
      exact RetB.no (fun h => by rw [← HPP.out] at h; exact HB2.out h.sigs) (hN0.trans hN2)
    | true =>
      have HB2 := hid (hb2.1 rfl)
      clear hb2
      by_cases hll : ls.length = ts.length
      · have e1 : ((ls.length : Int) == (ts.length : Int)) = true := beq_true (by omega)
        have HLL := hid hll
        clear hll
        go_wp2_with fail
        refine (containsFuncLabel_any (fun l => ¬ LabOk ss.length l) ls _ _ _ _ (rL.nw (hN0.trans hN2)) enters_IsValidSTG1 ?_).mono ?_
        · intro i y W u0 u1 hi' hqW hy
          exact IsValidSTG1_any u0 u1 y _ AS ss.length cS W hy (by rw [(hqW.cells).1 _ _ (by have := hN2.size; omega), hc1 _ _ hs0]; exact a2) hmS
        · rintro e w3 ⟨b3, rfl, hb3, hq3⟩
          have HB3 := hid hb3
          clear hb3
          go_wp2
          go_ret
          refine RetB.of ?_ ((hN0.trans hN2).trans hq3)
          have h3 := HB3.out
          cases b3 with
          | false =>
            simp only [Bool.not_false, true_iff]
            rw [← HPP.out]
            refine HPP.out ▸ (HPP.out ▸ HYES.out HB.out.1 HB2.out HLL.out (fun l hl => ?_) HB.out.2)
            exact Classical.byContradiction fun hne => by
              have := h3.2 ⟨l, hl, hne⟩
              cases this
          | true =>
            simp only [Bool.not_true, Bool.false_eq_true, false_iff]
            intro h
            rw [← HPP.out] at h
            obtain ⟨l, hl, hne⟩ := h3.1 rfl
            exact hne (h.labs l hl)
      · have e1 : ((ls.length : Int) == (ts.length : Int)) = false := beq_false (by omega)
        have HLL := hid hll
        clear hll
        go_wp2
        go_ret
        exact RetB.no (fun h => by rw [← HPP.out] at h; exact HLL.out h.len) (hN0.trans hN2)
end Go.Proofs.Ytbelopdphlllnaa
