/- A netlist, as the program judges it. -/
import Derived.Test.YtbelopdphlllnaaNa
namespace Go.Proofs.Ytbelopdphlllnaa
open Go.RowKit

def KindI (nS : Nat) (k : Int) (kind : Int) (l : List DPin) (cv : List ByteArray) : Prop :=
  (1 ≤ kind ∧ kind ≤ 5) ∧ (kind = 1 → l.length = 0) ∧ (kind = 2 ∨ kind = 3 → 1 ≤ l.length ∧ l.length ≤ 8) ∧ (kind = 4 → l.length = 2) ∧
  (kind = 5 → CoverOk nS cv ∧ (l.length = 0 ∨ l = [(k, false)]))
structure WireI (nS nW k : Nat) (x : DWire) : Prop where
  cover : x.2.1 ≠ 5 → x.2.2.2.length = 0
  pins : PinsIn nW x.2.2.1
  kind : KindI nS k x.2.1 x.2.2.1 x.2.2.2

set_option maxRecDepth 100000 in
set_option maxHeartbeats 8000000 in
theorem isWire_any (a0 a1 : Value) (n : DNetlist) (x : DWire) (k : Nat) (w : World) (hkx : n.2[k]? = some x) (hn : Rep tNetlist w [a0, a1] n) :
    Calls Try.prog 150 #[.agg #[a0, a1], .int .i64 k] w (RetB (WireI n.1.length n.2.length k x) w) := by
  obtain ⟨ss, ws⟩ := n
  obtain ⟨nm, kd, l, cv⟩ := x
  obtain ⟨rS, rW⟩ := hn.open2 rfl
  dsimp only at rS rW hkx
  obtain ⟨AS, cS, rfl, hlS, hcS⟩ := rS.slv
  obtain ⟨AW, cW, rfl, hlW, hcW⟩ := rW.slv
  have hmS : ss.length ≤ 9223372036854775807 := by unfold maxLen at hcS; omega
  have hmW : ws.length ≤ 9223372036854775807 := by unfold maxLen at hcW; omega
  have hlt : k < ws.length := (List.getElem?_eq_some_iff.1 hkx).1
  obtain ⟨b, o, v0, v1, v2, v3, rfl, hx, c0, c1, c2, c3⟩ := rW.at4 rfl hkx
  obtain ⟨r0, r1, rI, rC⟩ := hx.open4 rfl rfl rfl
  dsimp only at r0 r1 rI rC
  obtain ⟨rfl, hnm⟩ := r0.str_
  obtain ⟨rfl, -⟩ := r1.int_
  obtain ⟨AI, cI, rfl, hlI, hcI⟩ := rI.slv
  obtain ⟨AC, cC, rfl, -, -⟩ := rC.slv
  have hmI : l.length ≤ 9223372036854775807 := by unfold maxLen at hcI; omega
  have hi0 : (0 : Int) ≤ k := by omega
  have hi1 : (k : Int) < ws.length := by omega
  have hbw : b < w.heap.size := World.block_lt_of_cell? w _ c0
  obtain ⟨W0, hW0, hN0, hcA, hcB, hsz⟩ := two_new w #[.slice AS ss.length cS, .slice (some ⟨b, o, none⟩) ws.length cW] #[.string nm, .int .i64 kd, .slice AI l.length cI, .slice AC cv.length cC] 32 97
  have a0 := hcA 0
  have a1 := hcA 1
  have b0 := hcB 0
  have b1 := hcB 1
  have b2 := hcB 2
  have b3 := hcB 3
  simp only [List.getElem?_toArray, List.getElem?_cons_zero, List.getElem?_cons_succ] at a0 a1 b0 b1 b2 b3
  have hs0 : w.heap.size < W0.heap.size := by omega
  have hs1 : w.heap.size + 1 < W0.heap.size := by omega
  clear hcA hcB hsz r0 r1 hx hkx
  have HPost : ∀ p, p = WireI ss.length ws.length k (nm, kd, l, cv) → Calls Try.prog 150 #[.agg #[.slice AS ss.length cS, .slice (some ⟨b, o, none⟩) ws.length cW], .int .i64 k] w (RetB p w) := by
    intro p hp
    have HP := hid hp
    clear hp
    by_cases h5 : kd = 5
    · have e1 := beq_false (a := kd) (b := 1) (by omega)
      have e2 := beq_false (a := kd) (b := 2) (by omega)
      have e3 := beq_false (a := kd) (b := 3) (by omega)
      have e4 := beq_false (a := kd) (b := 4) (by omega)
      have e5 := beq_true h5
      have e5' := bne_false h5
      have H5 := hid h5
      clear h5
      go_enter Try.func150, Try.ntmps150
      go_wp2_with fail
      rw [← hW0]
      have HW := hid hW0
      clear hW0
      refine (arePins_any _ l _ _ (by omega) (by omega) (rI.nw (by (repeat (first | with_reducible exact Nw.refl _ | with_reducible assumption | with_reducible apply Nw.alloc | with_reducible apply Nw.drew | with_reducible apply Nw.drewN | (with_reducible refine Nw.setCell2 ?_ ?_; focus (first | (simp; done) | (simp; omega))) | with_reducible refine Nw.trans2 (by assumption) ?_))))).mono ?_
      rintro e w1 ⟨b1', rfl, hb1, hq1⟩
      obtain ⟨hc1, hf1⟩ := hq1.cells
      cases b1' with
      | false =>
        have HB1 := hid (RetB.not hb1)
        clear hb1
        go_wp2
        go_ret
        exact RetB.no (fun h => by rw [HP.out] at h; exact HB1.out h.pins) (by (repeat (first | with_reducible exact Nw.refl _ | with_reducible assumption | with_reducible apply Nw.alloc | with_reducible apply Nw.drew | with_reducible apply Nw.drewN | (with_reducible refine Nw.setCell2 ?_ ?_; focus (first | (simp; done) | (simp; omega))) | with_reducible refine Nw.trans2 (by assumption) ?_)))
      | true =>
        have HPN := hid (hb1.1 rfl)
        clear hb1
        go_wp2_with fail
        refine (IsValidCover_any _ _ cv _ (rC.nw (by (repeat (first | with_reducible exact Nw.refl _ | with_reducible assumption | with_reducible apply Nw.alloc | with_reducible apply Nw.drew | with_reducible apply Nw.drewN | (with_reducible refine Nw.setCell2 ?_ ?_; focus (first | (simp; done) | (simp; omega))) | with_reducible refine Nw.trans2 (by assumption) ?_))))).mono ?_
        rintro e w2 ⟨b2', rfl, hb2, hq2⟩
        have hN2 : Nw W0 w2 := by (repeat (first | with_reducible exact Nw.refl _ | with_reducible assumption | with_reducible apply Nw.alloc | with_reducible apply Nw.drew | with_reducible apply Nw.drewN | (with_reducible refine Nw.setCell2 ?_ ?_; focus (first | (simp; done) | (simp; omega))) | with_reducible refine Nw.trans2 (by assumption) ?_))
        obtain ⟨hc2, hf2⟩ := hN2.cells
        clear hc1 hf1 hq1 hq2
        cases b2' with
        | false =>
          have HB2 := hid (RetB.not hb2)
          clear hb2
          go_wp2
          go_ret
          exact RetB.no (fun h => by rw [HP.out] at h; exact HB2.out (h.kind.2.2.2.2 H5.out).1) (by (repeat (first | with_reducible exact Nw.refl _ | with_reducible assumption | with_reducible apply Nw.alloc | with_reducible apply Nw.drew | with_reducible apply Nw.drewN | (with_reducible refine Nw.setCell2 ?_ ?_; focus (first | (simp; done) | (simp; omega))) | with_reducible refine Nw.trans2 (by assumption) ?_)))
        | true =>
          have HCV := hid (hb2.1 rfl)
          clear hb2
          have fin : ∀ (b : Bool) (w' : World), (b = true ↔ (l.length = 0 ∨ l = [((k : Int), false)])) → Nw w w' → RetB p w (.returned (.bool b)) w' := fun b w' hb hq' => by
            rw [HP.out]
            have h5 := H5.out
            exact RetB.of (hb.trans ⟨fun h => ⟨fun h9 => absurd h5 h9, HPN.out, (by dsimp only; omega), (by dsimp only; omega), (by dsimp only; omega), (by dsimp only; omega), fun _ => ⟨HCV.out, h⟩⟩, fun h => (h.kind.2.2.2.2 h5).2⟩) hq'
          have FIN := hid fin
          clear fin
          have hNr : Nw w w2 := by (repeat (first | with_reducible exact Nw.refl _ | with_reducible assumption | with_reducible apply Nw.alloc | with_reducible apply Nw.drew | with_reducible apply Nw.drewN | (with_reducible refine Nw.setCell2 ?_ ?_; focus (first | (simp; done) | (simp; omega))) | with_reducible refine Nw.trans2 (by assumption) ?_))
          by_cases hl0 : l.length = 0
          · have hd := beq_true (a := (l.length : Int)) (b := 0) (by omega)
            have HL := hid hl0
            clear hl0
            go_wp2
            go_ret
            exact FIN.out _ _ (by have := HL.out; simp [this]) hNr
          · have hd := beq_false (a := (l.length : Int)) (b := 0) (by omega)
            by_cases hl1 : l.length = 1
            · have hd1 := beq_true (a := (l.length : Int)) (b := 1) (by omega)
              obtain ⟨b9, o9, p0, p1, rfl, hx, d0, d1⟩ := (rI.nw hNr).at2 rfl (List.getElem?_eq_getElem (show 0 < l.length by omega))
              obtain ⟨pn, hpn⟩ : ∃ pn, l = [pn] := List.length_eq_one_iff.1 hl1
              have HPN2 := hid hpn
              have hg : l[0]'(by omega) = pn := by simp [hpn]
              rw [hg] at hx
              have hlen : (0 : Int) < l.length := by omega
              clear hg hpn hl1 hl0
              obtain ⟨q, t⟩ := pn
              obtain ⟨r0, r1⟩ := hx.open2 rfl
              obtain ⟨rfl, hq1, hq2⟩ := r0.int_
              obtain rfl := r1.bool_
              simp only [Nat.zero_mul, Nat.add_zero] at d0 d1
              clear hx r0 r1
              by_cases hqk : q = k
              · have hd2 := beq_true hqk
                have HQ := hid hqk
                clear hqk
                cases t with
                | true =>
                  go_wp2
                  go_ret
                  exact FIN.out _ _ (by have := HPN2.out; simp [this]) hNr
                | false =>
                  go_wp2
                  go_ret
                  exact FIN.out _ _ (by have := HPN2.out; have h9 := HQ.out; simp [this, h9]) hNr
              · have hd2 := beq_false hqk
                have HQ := hid hqk
                clear hqk
                go_wp2
                go_ret
                exact FIN.out _ _ (by have := HPN2.out; have h9 := HQ.out; simp [this, h9]) hNr
            · have hd1 := beq_false (a := (l.length : Int)) (b := 1) (by omega)
              have HL := hid (And.intro hl0 hl1)
              clear hl0 hl1
              go_wp2
              go_ret
              exact FIN.out _ _ (by
                obtain ⟨h8, h9⟩ := HL.out
                simp only [Bool.false_eq_true, false_iff]
                rintro (h | h)
                · exact h8 h
                · exact h9 (by rw [h]; rfl)) hNr
    · have e5 := beq_false (a := kd) (b := 5) h5
      have e5' := bne_true (a := kd) (b := 5) h5
      have H5 := hid h5
      clear h5
      rcases cv with _ | ⟨c9, cs9⟩
      · go_enter Try.func150, Try.ntmps150
        go_wp2_with fail
        have hW1 : W0 = (w.alloc (.cells #[.slice AS ss.length cS, .slice (some ⟨b, o, none⟩) ws.length cW] 32)).alloc (.cells #[.string nm, .int .i64 kd, .slice AI l.length cI, .slice AC 0 cC] 97) := hW0
        rw [← hW1]
        clear hW0
        have HW := hid hW1
        clear hW1
        refine (arePins_any _ l _ _ (by omega) (by omega) (rI.nw (by (repeat (first | with_reducible exact Nw.refl _ | with_reducible assumption | with_reducible apply Nw.alloc | with_reducible apply Nw.drew | with_reducible apply Nw.drewN | (with_reducible refine Nw.setCell2 ?_ ?_; focus (first | (simp; done) | (simp; omega))) | with_reducible refine Nw.trans2 (by assumption) ?_))))).mono ?_
        rintro e w1 ⟨b1', rfl, hb1, hq1⟩
        obtain ⟨hc1, hf1⟩ := hq1.cells
        have hNr : Nw w w1 := by (repeat (first | with_reducible exact Nw.refl _ | with_reducible assumption | with_reducible apply Nw.alloc | with_reducible apply Nw.drew | with_reducible apply Nw.drewN | (with_reducible refine Nw.setCell2 ?_ ?_; focus (first | (simp; done) | (simp; omega))) | with_reducible refine Nw.trans2 (by assumption) ?_))
        cases b1' with
        | false =>
          have HB1 := hid (RetB.not hb1)
          clear hb1
          go_wp2
          go_ret
          exact RetB.no (fun h => by rw [HP.out] at h; exact HB1.out h.pins) (by (repeat (first | with_reducible exact Nw.refl _ | with_reducible assumption | with_reducible apply Nw.alloc | with_reducible apply Nw.drew | with_reducible apply Nw.drewN | (with_reducible refine Nw.setCell2 ?_ ?_; focus (first | (simp; done) | (simp; omega))) | with_reducible refine Nw.trans2 (by assumption) ?_)))
        | true =>
          have HPN := hid (hb1.1 rfl)
          clear hb1
          have fin : ∀ (b : Bool) (w' : World), (b = true ↔ KindI ss.length k kd l []) → Nw w w' → RetB p w (.returned (.bool b)) w' := fun b w' hb hq' => by
            rw [HP.out]
            exact RetB.of (hb.trans ⟨fun h => ⟨fun _ => rfl, HPN.out, h⟩, fun h => h.kind⟩) hq'
          have FIN := hid fin
          clear fin
          rcases (by omega : kd < 1 ∨ kd = 1 ∨ kd = 2 ∨ kd = 3 ∨ kd = 4 ∨ 4 < kd) with h | h | h | h | h | h
          · have e1 := beq_false (a := kd) (b := 1) (by omega)
            have e2 := beq_false (a := kd) (b := 2) (by omega)
            have e3 := beq_false (a := kd) (b := 3) (by omega)
            have e4 := beq_false (a := kd) (b := 4) (by omega)
            go_wp2
            go_ret
            exact FIN.out _ _ (by simp only [Bool.false_eq_true, false_iff]; intro h9; have := h9.1; omega) hNr
          · have e1 := beq_true (a := kd) (b := 1) h
            have HK := hid h
            clear h
            by_cases hl0 : l.length = 0
            · have hd := beq_true (a := (l.length : Int)) (b := 0) (by omega)
              have HL := hid hl0
              clear hl0
              go_wp2
              go_ret
              exact FIN.out _ _ (by have h8 := HL.out; have h9 := HK.out; simp [KindI, h8, h9]) hNr
            · have hd := beq_false (a := (l.length : Int)) (b := 0) (by omega)
              have HL := hid hl0
              clear hl0
              go_wp2
              go_ret
              exact FIN.out _ _ (by have h8 := HL.out; have h9 := HK.out; simp only [Bool.false_eq_true, false_iff]; intro h7; exact h8 (h7.2.1 h9)) hNr
          · have e1 := beq_false (a := kd) (b := 1) (by omega)
            have e2 := beq_true (a := kd) (b := 2) h
            have HK := hid h
            clear h
            go_wp2_with fail
            refine (within_any _ _ _ _).mono ?_
            rintro e w2 ⟨b2', rfl, hb2, hq2⟩
            have HB2 := hid hb2
            clear hb2
            go_wp2
            go_ret
            exact FIN.out _ _ (HB2.out.trans (by have h9 := HK.out; unfold KindI; omega)) (by (repeat (first | with_reducible exact Nw.refl _ | with_reducible assumption | with_reducible apply Nw.alloc | with_reducible apply Nw.drew | with_reducible apply Nw.drewN | (with_reducible refine Nw.setCell2 ?_ ?_; focus (first | (simp; done) | (simp; omega))) | with_reducible refine Nw.trans2 (by assumption) ?_)))
          · have e1 := beq_false (a := kd) (b := 1) (by omega)
            have e2 := beq_false (a := kd) (b := 2) (by omega)
            have e3 := beq_true (a := kd) (b := 3) h
            have HK := hid h
            clear h
            go_wp2_with fail
            refine (within_any _ _ _ _).mono ?_
            rintro e w2 ⟨b2', rfl, hb2, hq2⟩
            have HB2 := hid hb2
            clear hb2
            go_wp2
            go_ret
            exact FIN.out _ _ (HB2.out.trans (by have h9 := HK.out; unfold KindI; omega)) (by (repeat (first | with_reducible exact Nw.refl _ | with_reducible assumption | with_reducible apply Nw.alloc | with_reducible apply Nw.drew | with_reducible apply Nw.drewN | (with_reducible refine Nw.setCell2 ?_ ?_; focus (first | (simp; done) | (simp; omega))) | with_reducible refine Nw.trans2 (by assumption) ?_)))
          · have e1 := beq_false (a := kd) (b := 1) (by omega)
            have e2 := beq_false (a := kd) (b := 2) (by omega)
            have e3 := beq_false (a := kd) (b := 3) (by omega)
            have e4 := beq_true (a := kd) (b := 4) h
            have HK := hid h
            clear h
            by_cases hl0 : l.length = 2
            · have hd := beq_true (a := (l.length : Int)) (b := 2) (by omega)
              have HL := hid hl0
              clear hl0
              go_wp2
              go_ret
              exact FIN.out _ _ (by have h8 := HL.out; have h9 := HK.out; simp [KindI, h8, h9]) hNr
            · have hd := beq_false (a := (l.length : Int)) (b := 2) (by omega)
              have HL := hid hl0
              clear hl0
              go_wp2
              go_ret
              exact FIN.out _ _ (by have h8 := HL.out; have h9 := HK.out; simp only [Bool.false_eq_true, false_iff]; intro h7; exact h8 (h7.2.2.2.1 h9)) hNr
          · have e1 := beq_false (a := kd) (b := 1) (by omega)
            have e2 := beq_false (a := kd) (b := 2) (by omega)
            have e3 := beq_false (a := kd) (b := 3) (by omega)
            have e4 := beq_false (a := kd) (b := 4) (by omega)
            go_wp2
            go_ret
            exact FIN.out _ _ (by simp only [Bool.false_eq_true, false_iff]; intro h9; have := h9.1; have := H5.out; omega) hNr
      · go_enter Try.func150, Try.ntmps150
        go_wp2
        go_ret
        exact RetB.no (fun h => by rw [HP.out] at h; exact absurd (h.cover H5.out) (by simp)) (by (repeat (first | with_reducible exact Nw.refl _ | with_reducible assumption | with_reducible apply Nw.alloc | with_reducible apply Nw.drew | with_reducible apply Nw.drewN | (with_reducible refine Nw.setCell2 ?_ ?_; focus (first | (simp; done) | (simp; omega))) | with_reducible refine Nw.trans2 (by assumption) ?_)))
  exact HPost _ rfl
end Go.Proofs.Ytbelopdphlllnaa
