/- Valid nets, the program's side; markings, both sides. -/
import Derived.Test.YtbelopdphlllnaaNg
namespace Go.Proofs.Ytbelopdphlllnaa
open Go.RowKit

theorem enters_IsValidNet1 : Enters Try.prog 207 := fun args W => run_enter Try.func207 (by kernel_rfl) rfl args W
set_option maxRecDepth 100000 in
set_option maxHeartbeats 2000000 in
theorem IsValidNet1_any (v0 v1 : Value) (x : DTransition) (g : Nat) (n hi : Int) (w : World) (hx : Rep tTransition w [v0, v1] x) (hb : w.cell? ⟨g, 0, none⟩ = some (.int .i64 n)) (hh : IntKind.i64.wrap (n - 1) = hi) :
    Calls Try.prog 207 #[.agg #[v0, v1], .pointer (some ⟨g, 0, none⟩)] w (RetB (¬ TrOk hi x) w) := by
  obtain ⟨pre, post⟩ := x
  obtain ⟨r0, r1⟩ := hx.open2 rfl
  dsimp only at r0 r1
  obtain ⟨A0, cc0, rfl, -, -⟩ := r0.slv
  obtain ⟨A1, cc1, rfl, -, -⟩ := r1.slv
  have hg : g < w.heap.size := World.block_lt_of_cell? w _ hb
  rcases pre with _ | ⟨q, pre⟩
  · go_enter Try.func207, Try.ntmps207
    go_wp2
    go_ret
    exact RetB.yes (fun h => h.1 rfl) (by (repeat (first | with_reducible exact Nw.refl _ | with_reducible assumption | with_reducible apply Nw.alloc | with_reducible apply Nw.drew | with_reducible apply Nw.drewN | (with_reducible refine Nw.setCell2 ?_ ?_; focus (first | (simp; done) | (simp; omega))) | with_reducible refine Nw.trans2 (by assumption) ?_)))
  · have hne : ((((q :: pre).length : Nat) : Int) == 0) = false := beq_false (by simp only [List.length_cons]; omega)
    generalize hqp : q :: pre = pr at *
    go_enter Try.func207, Try.ntmps207
    obtain ⟨W0, hW0, hN0, hcA, hsz⟩ := one_new w #[.slice A0 pr.length cc0, .slice A1 post.length cc1] 146
    have a1 := hcA 1
    simp only [List.getElem?_toArray, List.getElem?_cons_zero, List.getElem?_cons_succ] at a1
    have hs0 : w.heap.size < W0.heap.size := by omega
    have hb0 : W0.cell? ⟨g, 0, none⟩ = some (.int .i64 n) := by rw [hN0.cells.1 _ _ hg]; exact hb
    have hg0 : g < W0.heap.size := by omega
    clear hcA hsz
    go_wp2_with fail
    rw [← hW0]
    have HW := hid hW0
    clear hW0
    refine (isIncreasing_any _ pr _ _ _ (r0.nw hN0) hh).mono ?_
    rintro e w1 ⟨b1, rfl, hb1, hq1⟩
    obtain ⟨hc1, hf1⟩ := hq1.cells
    cases b1 with
    | false =>
      have HB := hid (RetB.not hb1)
      clear hb1
      go_wp2
      go_ret
      exact RetB.yes (fun h => HB.out h.2.1) (hN0.trans hq1)
    | true =>
      have HB := hid (hb1.1 rfl)
      clear hb1
      go_wp2_with fail
      refine (isIncreasing_any _ post _ _ _ ((r1.nw hN0).nw hq1) hh).mono ?_
      rintro e w2 ⟨b2, rfl, hb2, hq2⟩
      have HB2 := hid hb2
      clear hb2
      have HQP := hid hqp
      clear hqp
      go_wp2
      go_ret
      refine RetB.of ?_ ((hN0.trans hq1).trans hq2)
      have h2 := HB2.out
      cases b2 with
      | false => simp only [Bool.not_false, true_iff]; exact fun h => by have := h2.2 h.2.2; cases this
      | true => simp only [Bool.not_true, Bool.false_eq_true, false_iff]; exact fun h => h ⟨by rw [← HQP.out]; simp, HB.out, h2.1 rfl⟩

set_option maxRecDepth 100000 in
set_option maxHeartbeats 2000000 in
theorem IsValidNet_any (a0 a1 : Value) (n : DNet) (w : World) (hn : Rep tNet w [a0, a1] n) :
    Calls Try.prog 156 #[.agg #[a0, a1]] w (RetB (NetV n) w) := by
  obtain ⟨p, ts⟩ := n
  obtain ⟨rP, rT⟩ := hn.open2 rfl
  dsimp only at rP rT
  obtain ⟨rfl, hp1, hp2⟩ := rP.int_
  obtain ⟨A, c, rfl, hl, hc⟩ := rT.slv
  have hm : ts.length ≤ 9223372036854775807 := by unfold maxLen at hc; omega
  obtain ⟨hi, hhi⟩ : ∃ hi, IntKind.i64.wrap (p - 1) = hi := ⟨_, rfl⟩
  have HHI := hid hhi
  have HNO := hid (fun (h : NetV (p, ts)) (k : Nat) => netV_at hhi h (k := k))
  have HYES := hid (fun h1 h2 h3 => netV_of (ts := ts) hhi h1 h2 h3)
  generalize hPP : NetV (p, ts) = PP at *
  have HPP := hid hPP
  clear hPP rP hhi
  go_enter Try.func156, Try.ntmps156
  obtain ⟨W0, hW0, hN0, hcA, hsz⟩ := one_new w #[.int .i64 p, .slice A ts.length c] 47
  have a0 := hcA 0
  have a1 := hcA 1
  simp only [List.getElem?_toArray, List.getElem?_cons_zero, List.getElem?_cons_succ] at a0 a1
  have hs0 : w.heap.size < W0.heap.size := by omega
  clear hcA hsz
  go_wp2_with fail
  rw [← hW0]
  have HW := hid hW0
  clear hW0
  refine (within_any _ _ _ _).mono ?_
  rintro e w1 ⟨b1, rfl, hb1, hq1⟩
  obtain ⟨hc1, hf1⟩ := hq1.cells
  cases b1 with
  | false =>
    have HB := hid (RetB.not hb1)
    clear hb1
    go_wp2
    go_ret
    exact RetB.no (fun h => by rw [← HPP.out] at h; exact HB.out h.1) (hN0.trans hq1)
  | true =>
    have HB := hid (hb1.1 rfl)
    clear hb1
    by_cases h24 : ts.length ≤ 24
    · have hd : decide ((24 : Int) < (ts.length : Int)) = false := decide_eq_false (by omega)
      have H24 := hid h24
      clear h24
      go_wp2_with fail
      refine (containsFuncTransition_any (fun t => ¬ TrOk hi t) ts _ _ _ _ (rT.nw (hN0.trans hq1)) enters_IsValidNet1 ?_).mono ?_
      · intro i y W u0 u1 hi' hqW hy
        exact IsValidNet1_any u0 u1 y _ p hi W hy (by rw [(hqW.cells).1 _ _ (by have := hq1.size; omega), hc1 _ _ hs0]; exact a0) HHI.out
      · rintro e w3 ⟨b3, rfl, hb3, hq3⟩
        have HB3 := hid hb3
        clear hb3
        go_wp2
        go_ret
        refine RetB.of ?_ ((hN0.trans hq1).trans hq3)
        have h3 := HB3.out
        cases b3 with
        | false =>
          simp only [Bool.not_false, true_iff]
          refine HYES.out (fun j hj t ht => ?_) HB.out H24.out
          exact Classical.byContradiction fun hne => by
            have := h3.2 ⟨t, List.mem_of_getElem? ht, hne⟩
            cases this
        | true =>
          simp only [Bool.not_true, Bool.false_eq_true, false_iff]
          intro h
          obtain ⟨t, ht, hne⟩ := h3.1 rfl
          obtain ⟨j, hj⟩ := List.mem_iff_getElem?.1 ht
          exact hne (HNO.out h j t hj)
    · have hd : decide ((24 : Int) < (ts.length : Int)) = true := decide_eq_true (by omega)
      have H24 := hid h24
      clear h24
      go_wp2
      go_ret
      exact RetB.no (fun h => by rw [← HPP.out] at h; exact H24.out h.2.1) (hN0.trans hq1)

theorem BitsAt.step {s : ByteArray} {k : Nat} (h : ∀ j, j < k → BitsAt s j) (hk : BitsAt s k) : ∀ j, j < k + 1 → BitsAt s j := by
  intro j hj
  by_cases e : j = k
  · subst e; exact hk
  · exact h j (by omega)

set_option maxRecDepth 100000 in
set_option maxHeartbeats 2000000 in
theorem l1Mark_any (a0 a1 : Value) (n : DNet) (s : ByteArray) (w : World) (hn : Rep tNet w [a0, a1] n) (hs : s.size ≤ maxLen) :
    Calls Try.prog 121 #[.agg #[a0, a1], .string s] w (RetB (Bits s n.1) w) := by
  have hm : s.size ≤ 9223372036854775807 := hs
  obtain ⟨p, ts⟩ := n
  obtain ⟨rP, rT⟩ := hn.open2 rfl
  dsimp only at rP rT ⊢
  obtain ⟨rfl, hp1, hp2⟩ := rP.int_
  obtain ⟨A, c, rfl, hl, hc⟩ := rT.slv
  clear rP rT hn
  go_enter Try.func121, Try.ntmps121
  go_wp2
  go_loop [5] (fun i => ∃ k : Nat, k ≤ s.size ∧ i = .int .i64 k ∧ ∀ j, j < k → BitsAt s j) (fun i => s.size - (intOf i).toNat)
  case atStart => exact ⟨0, Nat.zero_le _, rfl, fun j h => absurd h (by omega)⟩
  case round =>
    obtain ⟨k, hk, rfl, hyes⟩ := hrel
    have HY := hid hyes
    clear hyes
    by_cases hlt : k < s.size
    · rcases (by omega : s[k].toNat = 48 ∨ s[k].toNat = 49 ∨ (s[k].toNat ≠ 48 ∧ s[k].toNat ≠ 49)) with h | h | ⟨h, h'⟩
      · have e1 := bne_false (a := (s[k].toNat : Int)) (b := 48) (by omega)
        have H := hid (show BitsAt s k from fun _ => .inl h)
        clear h
        go_wp2
        go_round
        case rel => exact ⟨k + 1, by omega, by go_num, BitsAt.step HY.out H.out⟩
        case measure => simp [intOf]; omega
      · have e1 := bne_true (a := (s[k].toNat : Int)) (b := 48) (by omega)
        have e2 := bne_false (a := (s[k].toNat : Int)) (b := 49) (by omega)
        have H := hid (show BitsAt s k from fun _ => .inr h)
        clear h
        go_wp2
        go_round
        case rel => exact ⟨k + 1, by omega, by go_num, BitsAt.step HY.out H.out⟩
        case measure => simp [intOf]; omega
      · have e1 := bne_true (a := (s[k].toNat : Int)) (b := 48) (by omega)
        have e2 := bne_true (a := (s[k].toNat : Int)) (b := 49) (by omega)
        have H := hid (show ¬ Bits s p from fun hb => by rcases hb.1 k hlt hlt with e | e <;> contradiction)
        clear h h'
        go_wp2
        go_ret
        exact RetB.no H.out (by (repeat (first | with_reducible exact Nw.refl _ | with_reducible assumption | with_reducible apply Nw.alloc | with_reducible apply Nw.drew | with_reducible apply Nw.drewN | (with_reducible refine Nw.setCell2 ?_ ?_; focus (first | (simp; done) | (simp; omega))) | with_reducible refine Nw.trans2 (by assumption) ?_)))
    · have : k = s.size := by omega
      subst this
      by_cases hp : (s.size : Int) = p
      · have e1 := beq_true hp
        have H := hid (show Bits s p from ⟨fun j hj => HY.out j hj, hp⟩)
        clear hp
        go_wp2
        go_ret
        exact RetB.of (by simp only [e1, H.out]) (by (repeat (first | with_reducible exact Nw.refl _ | with_reducible assumption | with_reducible apply Nw.alloc | with_reducible apply Nw.drew | with_reducible apply Nw.drewN | (with_reducible refine Nw.setCell2 ?_ ?_; focus (first | (simp; done) | (simp; omega))) | with_reducible refine Nw.trans2 (by assumption) ?_)))
      · have e1 := beq_false hp
        have H := hid (show ¬ Bits s p from fun h => hp h.2)
        clear hp
        go_wp2
        go_ret
        exact RetB.of (by simp only [e1, Bool.false_eq_true, false_iff]; exact H.out) (by (repeat (first | with_reducible exact Nw.refl _ | with_reducible assumption | with_reducible apply Nw.alloc | with_reducible apply Nw.drew | with_reducible apply Nw.drewN | (with_reducible refine Nw.setCell2 ?_ ?_; focus (first | (simp; done) | (simp; omega))) | with_reducible refine Nw.trans2 (by assumption) ?_)))

set_option maxRecDepth 100000 in
set_option maxHeartbeats 2000000 in
theorem isBits_any (s : ByteArray) (p : Int) (w : World) (hs : s.size ≤ maxLen) :
    Calls Try.prog 157 #[.string s, .int .i64 p] w (RetB (Bits s p) w) := by
  have hm : s.size ≤ 9223372036854775807 := hs
  go_enter Try.func157, Try.ntmps157
  go_wp2
  go_loop [5] (fun i => ∃ k : Nat, k ≤ s.size ∧ i = .int .i64 k ∧ ∀ j, j < k → BitsAt s j) (fun i => s.size - (intOf i).toNat)
  case atStart => exact ⟨0, Nat.zero_le _, rfl, fun j h => absurd h (by omega)⟩
  case round =>
    obtain ⟨k, hk, rfl, hyes⟩ := hrel
    have HY := hid hyes
    clear hyes
    by_cases hlt : k < s.size
    · rcases (by omega : s[k].toNat = 48 ∨ s[k].toNat = 49 ∨ (s[k].toNat ≠ 48 ∧ s[k].toNat ≠ 49)) with h | h | ⟨h, h'⟩
      · have e1 := bne_false (a := (s[k].toNat : Int)) (b := 48) (by omega)
        have H := hid (show BitsAt s k from fun _ => .inl h)
        clear h
        go_wp2
        go_round
        case rel => exact ⟨k + 1, by omega, by go_num, BitsAt.step HY.out H.out⟩
        case measure => simp [intOf]; omega
      · have e1 := bne_true (a := (s[k].toNat : Int)) (b := 48) (by omega)
        have e2 := bne_false (a := (s[k].toNat : Int)) (b := 49) (by omega)
        have H := hid (show BitsAt s k from fun _ => .inr h)
        clear h
        go_wp2
        go_round
        case rel => exact ⟨k + 1, by omega, by go_num, BitsAt.step HY.out H.out⟩
        case measure => simp [intOf]; omega
      · have e1 := bne_true (a := (s[k].toNat : Int)) (b := 48) (by omega)
        have e2 := bne_true (a := (s[k].toNat : Int)) (b := 49) (by omega)
        have H := hid (show ¬ Bits s p from fun hb => by rcases hb.1 k hlt hlt with e | e <;> contradiction)
        clear h h'
        go_wp2
        go_ret
        exact RetB.no H.out (Nw.refl _)
    · have : k = s.size := by omega
      subst this
      by_cases hp : (s.size : Int) = p
      · have e1 := beq_true hp
        have H := hid (show Bits s p from ⟨fun j hj => HY.out j hj, hp⟩)
        clear hp
        go_wp2
        go_ret
        exact RetB.of (by simp only [e1, H.out]) (Nw.refl _)
      · have e1 := beq_false hp
        have H := hid (show ¬ Bits s p from fun h => hp h.2)
        clear hp
        go_wp2
        go_ret
        exact RetB.of (by simp only [e1, Bool.false_eq_true, false_iff]; exact H.out) (Nw.refl _)

set_option maxRecDepth 100000 in
theorem IsValidMarking_any (a0 a1 : Value) (n : DNet) (s : ByteArray) (w : World) (hn : Rep tNet w [a0, a1] n) (hs : s.size ≤ maxLen) :
    Calls Try.prog 108 #[.agg #[a0, a1], .string s] w (RetB (NetV n ∧ Bits s n.1) w) := by
  have hn1 := hn
  obtain ⟨p, ts⟩ := n
  obtain ⟨rP, rT⟩ := hn1.open2 rfl
  dsimp only at rP rT ⊢
  obtain ⟨rfl, hp1, hp2⟩ := rP.int_
  go_enter Try.func108, Try.ntmps108
  obtain ⟨W0, hW0, hN0, hcA, hsz⟩ := one_new w #[.int .i64 p, a1] 47
  have a0 := hcA 0
  have a1 := hcA 1
  simp only [List.getElem?_toArray, List.getElem?_cons_zero, List.getElem?_cons_succ] at a0 a1
  have hs0 : w.heap.size < W0.heap.size := by omega
  clear hcA hsz
  go_wp2_with fail
  rw [← hW0]
  have HW := hid hW0
  clear hW0
  refine (IsValidNet_any _ _ (p, ts) _ (hn.nw hN0)).mono ?_
  rintro e w1 ⟨b1, rfl, hb1, hq1⟩
  obtain ⟨hc1, hf1⟩ := hq1.cells
  cases b1 with
  | false =>
    have HB := hid (RetB.not hb1)
    clear hb1
    go_wp2
    go_ret
    exact RetB.no (fun h => HB.out h.1) (hN0.trans hq1)
  | true =>
    have HB := hid (hb1.1 rfl)
    clear hb1
    go_wp2_with fail
    refine (isBits_any s p _ hs).mono ?_
    rintro e w2 ⟨b2, rfl, hb2, hq2⟩
    have HB2 := hid hb2
    clear hb2
    go_wp2
    go_ret
    exact RetB.of (HB2.out.trans ⟨fun h => ⟨HB.out, h⟩, fun h => h.2⟩) ((hN0.trans hq1).trans hq2)
end Go.Proofs.Ytbelopdphlllnaa
