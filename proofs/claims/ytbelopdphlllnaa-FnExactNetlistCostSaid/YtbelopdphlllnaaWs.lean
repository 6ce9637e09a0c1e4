/- Wires, as the reference judges them. -/
import Derived.Test.YtbelopdphlllnaaPin
namespace Go.Proofs.Ytbelopdphlllnaa
open Go.RowKit

def PinsA (S W : Nat) (k : Int) (l : List DPin) : Prop := ∀ p ∈ l, (0 ≤ p.1 ∧ p.1 ≤ (W : Int) - 1) ∧ ¬ ((S : Int) ≤ k ∧ k ≤ p.1)
def KindA (k kind : Int) (l : List DPin) : Prop :=
  (kind = 1 → l.length = 0) ∧ (kind = 4 → l.length = 2) ∧ (kind = 5 → l.length = 0 ∨ l = [(k, false)]) ∧ (kind ≠ 1 → kind ≠ 4 → kind ≠ 5 → 1 ≤ l.length ∧ l.length ≤ 8)

set_option maxRecDepth 100000 in
set_option maxHeartbeats 4000000 in
theorem l19Pins_any (a0 a1 u0 u1 u2 u3 : Value) (n : DNetlist) (x : DWire) (k : Int) (w : World) (hn : Rep tNetlist w [a0, a1] n) (hx : Rep tWire w [u0, u1, u2, u3] x) :
    Calls Try.prog 148 #[.agg #[a0, a1], .int .i64 k, .agg #[u0, u1, u2, u3]] w (RetB (PinsA n.1.length n.2.length k x.2.2.1 ∧ KindA k x.2.1 x.2.2.1) w) := by
  obtain ⟨ss, ws⟩ := n
  obtain ⟨nm, kd, l, cv⟩ := x
  obtain ⟨rS, rW⟩ := hn.open2 rfl
  obtain ⟨r0, r1, rI, rC⟩ := hx.open4 rfl rfl rfl
  dsimp only at rS rW r0 r1 rI rC
  obtain ⟨rfl, -⟩ := r0.str_
  obtain ⟨rfl, -⟩ := r1.int_
  obtain ⟨AS, cS, rfl, hlS, hcS⟩ := rS.slv
  obtain ⟨AW, cW, rfl, hlW, hcW⟩ := rW.slv
  obtain ⟨AI, cI, rfl, hlI, hcI⟩ := rI.slv
  obtain ⟨AC, cC, rfl, hlC, hcC⟩ := rC.slv
  have hmS : ss.length ≤ 9223372036854775807 := by unfold maxLen at hcS; omega
  have hmW : ws.length ≤ 9223372036854775807 := by unfold maxLen at hcW; omega
  have hmI : l.length ≤ 9223372036854775807 := by unfold maxLen at hcI; omega
  clear hn hx r0 r1
  obtain ⟨W0, hW0, hN0, hcA, hcB, hsz⟩ := two_new w #[.slice AS ss.length cS, .slice AW ws.length cW] #[.string nm, .int .i64 kd, .slice AI l.length cI, .slice AC cv.length cC] 32 97
  have a0 := hcA 0
  have a1 := hcA 1
  have b1 := hcB 1
  have b2 := hcB 2
  simp only [List.getElem?_toArray, List.getElem?_cons_zero, List.getElem?_cons_succ] at a0 a1 b1 b2
  have hs0 : w.heap.size < W0.heap.size := by omega
  have hs1 : w.heap.size + 1 < W0.heap.size := by omega
  clear hcA hcB hsz
  have HPost : ∀ p, p = (PinsA ss.length ws.length k l ∧ KindA k kd l) → Calls Try.prog 148 #[.agg #[.slice AS ss.length cS, .slice AW ws.length cW], .int .i64 k, .agg #[.string nm, .int .i64 kd, .slice AI l.length cI, .slice AC cv.length cC]] w (RetB p w) := by
    intro p hp
    have HP := hid hp
    clear hp
    go_enter Try.func148, Try.ntmps148
    go_wp2
    rw [← hW0]
    have HW := hid hW0
    clear hW0
    go_loopw [12] (fun i wr => ∃ m : Nat, m ≤ l.length ∧ i = .int .i64 m ∧ (∀ j q, j < m → l[j]? = some q → (0 ≤ q.1 ∧ q.1 ≤ (ws.length : Int) - 1) ∧ ¬ ((ss.length : Int) ≤ k ∧ k ≤ q.1)) ∧ Nw W0 wr) (fun i _ => l.length - (intOf i).toNat)
    case atStart => exact ⟨0, Nat.zero_le _, rfl, fun j c h => absurd h (by omega), Nw.refl _⟩
    case round =>
      obtain ⟨m, hm, rfl, hyes, hq⟩ := hrel
      have HY := hid hyes
      clear hyes
      obtain ⟨hc0, hf0⟩ := hq.cells
      have hs2 : w.heap.size < wr.heap.size := by have := hq.size; omega
      have hs3 : w.heap.size + 1 < wr.heap.size := by have := hq.size; omega
      have hNr : Nw w wr := hN0.trans hq
      by_cases hlt : m < l.length
      · obtain ⟨b, o, v0, v1, rfl, hx, c0, c1⟩ := (rI.nw hNr).at2 rfl (List.getElem?_eq_getElem hlt)
        have HX := hid (List.getElem?_eq_getElem hlt)
        generalize hxk : l[m] = pn at *
        clear hxk
        obtain ⟨q, t⟩ := pn
        obtain ⟨r0, r1⟩ := hx.open2 rfl
        obtain ⟨rfl, hq1, hq2⟩ := r0.int_
        obtain rfl := r1.bool_
        clear hx r0 r1
        go_wp2_with fail
        refine (l1In_any _ _ _ _).mono ?_
        rintro e w1 ⟨b1, rfl, hb1, hq1⟩
        obtain ⟨hc1, hf1⟩ := hq1.cells
        have hz1 : wr.heap.size < w1.heap.size := by (have hz2 := hq1.size; simp at hz2; omega)
        have hz2 : w.heap.size < w1.heap.size := by omega
        have hz3 : w.heap.size + 1 < w1.heap.size := by omega
        have hN1 : Nw W0 w1 := by (repeat (first | with_reducible exact Nw.refl _ | with_reducible assumption | with_reducible apply Nw.alloc | with_reducible apply Nw.drew | with_reducible apply Nw.drewN | (with_reducible refine Nw.setCell2 ?_ ?_; focus (first | (simp; done) | (simp; omega))) | with_reducible refine Nw.trans2 (by assumption) ?_))
        clear hq1
        cases b1 with
        | false =>
          have HB1 := hid (RetB.not hb1)
          clear hb1
          go_wp2
          go_ret
          exact RetB.no (fun h => by rw [HP.out] at h; exact HB1.out (h.1 _ (List.mem_of_getElem? HX.out)).1) (hN0.trans hN1)
        | true =>
          have HB1 := hid (hb1.1 rfl)
          clear hb1
          by_cases hk : (ss.length : Int) ≤ k
          · have hd : decide ((ss.length : Int) ≤ k) = true := decide_eq_true hk
            by_cases hkq : k ≤ q
            · have hd2 : decide (k ≤ q) = true := decide_eq_true hkq
              go_wp2
              go_ret
              exact RetB.no (fun h => by rw [HP.out] at h; exact (h.1 _ (List.mem_of_getElem? HX.out)).2 ⟨hk, hkq⟩) (hN0.trans hN1)
            · have hd2 : decide (k ≤ q) = false := decide_eq_false hkq
              go_wp2
              go_roundw
              case rel => exact ⟨m + 1, by omega, by go_num, fun j r hj hr => by
                by_cases e : j = m
                · subst e
                  rw [HX.out] at hr
                  cases hr
                  exact ⟨HB1.out, by omega⟩
                · exact HY.out j r (by omega) hr, hN1⟩
              case measure => simp [intOf]; omega
          · have hd : decide ((ss.length : Int) ≤ k) = false := decide_eq_false hk
            go_wp2
            go_roundw
            case rel => exact ⟨m + 1, by omega, by go_num, fun j r hj hr => by
              by_cases e : j = m
              · subst e
                rw [HX.out] at hr
                cases hr
                exact ⟨HB1.out, by omega⟩
              · exact HY.out j r (by omega) hr, hN1⟩
            case measure => simp [intOf]; omega
      · have : m = l.length := by omega
        subst this
        have hall : PinsA ss.length ws.length k l := fun q hq => by
          obtain ⟨j, hj⟩ := List.mem_iff_getElem?.1 hq
          exact HY.out j q (List.getElem?_eq_some_iff.1 hj).1 hj
        have HA := hid hall
        clear hall
        clear HY
        have fin : ∀ (b : Bool) (w' : World), (b = true ↔ KindA k kd l) → Nw w w' → RetB p w (.returned (.bool b)) w' := fun b w' hb hq' => by
          rw [HP.out]
          exact RetB.of (hb.trans ⟨fun h => ⟨HA.out, h⟩, fun h => h.2⟩) hq'
        have FIN := hid fin
        clear fin
        rcases Decidable.em (kd = 1) with rfl | h1
        · by_cases hl0 : l.length = 0
          · have hd := beq_true (a := (l.length : Int)) (b := 0) (by omega)
            have HL := hid hl0
            clear hl0
            go_wp2
            go_ret
            exact FIN.out _ _ (by have := HL.out; simp [KindA, this]) hNr
          · have hd := beq_false (a := (l.length : Int)) (b := 0) (by omega)
            have HL := hid hl0
            clear hl0
            go_wp2
            go_ret
            exact FIN.out _ _ (by have := HL.out; simp [KindA, this, hd]) hNr
        · have e1 := beq_false (a := kd) (b := 1) h1
          rcases Decidable.em (kd = 4) with rfl | h4
          · by_cases hl0 : l.length = 2
            · have hd := beq_true (a := (l.length : Int)) (b := 2) (by omega)
              have HL := hid hl0
              clear hl0
              go_wp2
              go_ret
              exact FIN.out _ _ (by have := HL.out; simp [KindA, this]) hNr
            · have hd := beq_false (a := (l.length : Int)) (b := 2) (by omega)
              have HL := hid hl0
              clear hl0
              go_wp2
              go_ret
              exact FIN.out _ _ (by have := HL.out; simp [KindA, this, hd]) hNr
          · have e4 := beq_false (a := kd) (b := 4) h4
            rcases Decidable.em (kd = 5) with rfl | h5
            · by_cases hl0 : l.length = 0
              · have hd := beq_true (a := (l.length : Int)) (b := 0) (by omega)
                have HL := hid hl0
                clear hl0
                go_wp2
                go_ret
                exact FIN.out _ _ (by have := HL.out; simp [KindA, this]) hNr
              · have hd := beq_false (a := (l.length : Int)) (b := 0) (by omega)
                by_cases hl1 : l.length = 1
                · have hd1 := beq_true (a := (l.length : Int)) (b := 1) (by omega)
                  obtain ⟨b, o, v0, v1, rfl, hx, c0, c1⟩ := (rI.nw hNr).at2 rfl (List.getElem?_eq_getElem (show 0 < l.length by omega))
                  obtain ⟨pn, hpn⟩ : ∃ pn, l = [pn] := List.length_eq_one_iff.1 hl1
                  have HPN := hid hpn
                  have hg : l[0]'(by omega) = pn := by simp [hpn]
                  rw [hg] at hx
                  have hlen : (0 : Int) < l.length := by omega
                  clear hg hpn hl1 hl0
                  obtain ⟨q, t⟩ := pn
                  obtain ⟨r0, r1⟩ := hx.open2 rfl
                  obtain ⟨rfl, hq1, hq2⟩ := r0.int_
                  obtain rfl := r1.bool_
                  simp only [Nat.zero_mul, Nat.add_zero] at c0 c1
                  clear hx r0 r1
                  by_cases hqk : q = k
                  · have hd2 := beq_true hqk
                    have HQ := hid hqk
                    clear hqk
                    cases t with
                    | true =>
                      go_wp2
                      go_ret
                      exact FIN.out _ _ (by have := HPN.out; simp [KindA, this]) hNr
                    | false =>
                      go_wp2
                      go_ret
                      exact FIN.out _ _ (by have := HPN.out; have h9 := HQ.out; simp [KindA, this, h9]) hNr
                  · have hd2 := beq_false hqk
                    have HQ := hid hqk
                    clear hqk
                    go_wp2
                    go_ret
                    exact FIN.out _ _ (by have := HPN.out; have h9 := HQ.out; simp [KindA, this, h9]) hNr
                · have hd1 := beq_false (a := (l.length : Int)) (b := 1) (by omega)
                  have HL := hid (And.intro hl0 hl1)
                  clear hl0 hl1
                  go_wp2
                  go_ret
                  exact FIN.out _ _ (by
                    obtain ⟨h8, h9⟩ := HL.out
                    simp only [Bool.false_eq_true, false_iff]
                    intro h
                    rcases h.2.2.1 rfl with h | h
                    · exact h8 h
                    · exact h9 (by rw [h]; rfl)) hNr
            · have e5 := beq_false (a := kd) (b := 5) h5
              go_wp2_with fail
              refine (l1In_any _ _ _ _).mono ?_
              rintro e w1 ⟨b1, rfl, hb1, hq1⟩
              have HB := hid hb1
              clear hb1
              go_wp2
              go_ret
              exact FIN.out _ _ (HB.out.trans ⟨fun h => ⟨fun e => absurd e h1, fun e => absurd e h4, fun e => absurd e h5, fun _ _ _ => by omega⟩, fun h => by have := h.2.2.2 h1 h4 h5; omega⟩) (hNr.trans hq1)
  exact HPost _ rfl

theorem xor_f {a b : Int} (h : a = 1 ↔ b = 1) : ((a == 1) != (b == 1)) = false := by
  have e : (a == 1) = (b == 1) := by rw [Bool.eq_iff_iff]; simpa using h
  rw [e]
  simp
theorem xor_t {a b : Int} (h : ¬ (a = 1 ↔ b = 1)) : ((a == 1) != (b == 1)) = true := by
  cases e : ((a == 1) != (b == 1)) with
  | true => rfl
  | false =>
    have e2 : (a == 1) = (b == 1) := by simpa [bne] using e
    rw [Bool.eq_iff_iff] at e2
    exact absurd (by simpa using e2) h

structure WireA (ss : List DSignal) (nW k : Nat) (x : DWire) : Prop where
  kd : 1 ≤ x.2.1 ∧ x.2.1 ≤ 5
  hidden : ss.length ≤ k → x.2.1 = 2 ∨ x.2.1 = 3
  seen : ∀ y, ss[k]? = some y → x.1 = y.1 ∧ (x.2.1 = 1 ↔ y.2 = 1)
  cover : (x.2.1 = 5 → CoverOk ss.length x.2.2.2) ∧ (x.2.1 ≠ 5 → x.2.2.2.length = 0)
  name : NameOk x.1
  pins : PinsA ss.length nW k x.2.2.1
  kind2 : KindA k x.2.1 x.2.2.1

set_option maxRecDepth 100000 in
set_option maxHeartbeats 8000000 in
theorem l19Wire_any (a0 a1 u0 u1 u2 u3 : Value) (n : DNetlist) (x : DWire) (k : Nat) (w : World) (hk9 : k ≤ 9223372036854775807) (hn : Rep tNetlist w [a0, a1] n) (hx : Rep tWire w [u0, u1, u2, u3] x) :
    Calls Try.prog 97 #[.agg #[a0, a1], .int .i64 k, .agg #[u0, u1, u2, u3]] w (RetB (WireA n.1 n.2.length k x) w) := by
  obtain ⟨ss, ws⟩ := n
  obtain ⟨nm, kd, l, cv⟩ := x
  obtain ⟨rS, rW⟩ := hn.open2 rfl
  obtain ⟨r0, r1, rI, rC⟩ := hx.open4 rfl rfl rfl
  dsimp only at rS rW r0 r1 rI rC
  obtain ⟨rfl, hnm⟩ := r0.str_
  obtain ⟨rfl, -⟩ := r1.int_
  obtain ⟨AS, cS, rfl, hlS, hcS⟩ := rS.slv
  obtain ⟨AW, cW, rfl, hlW, hcW⟩ := rW.slv
  obtain ⟨AI, cI, rfl, hlI, hcI⟩ := rI.slv
  obtain ⟨AC, cC, rfl, hlC, hcC⟩ := rC.slv
  have hmS : ss.length ≤ 9223372036854775807 := by unfold maxLen at hcS; omega
  have hmW : ws.length ≤ 9223372036854775807 := by unfold maxLen at hcW; omega
  have hmC : cv.length ≤ 9223372036854775807 := by unfold maxLen at hcC; omega
  obtain ⟨W0, hW0, hN0, hcA, hcB, hsz⟩ := two_new w #[.slice AS ss.length cS, .slice AW ws.length cW] #[.string nm, .int .i64 kd, .slice AI l.length cI, .slice AC cv.length cC] 32 97
  have a0 := hcA 0
  have a1 := hcA 1
  have b0 := hcB 0
  have b1 := hcB 1
  have b2 := hcB 2
  have b3 := hcB 3
  simp only [List.getElem?_toArray, List.getElem?_cons_zero, List.getElem?_cons_succ] at a0 a1 b0 b1 b2 b3
  have hs0 : w.heap.size < W0.heap.size := by omega
  have hs1 : w.heap.size + 1 < W0.heap.size := by omega
  clear hcA hcB hsz r0 r1
  have HPost : ∀ p, p = WireA ss ws.length k (nm, kd, l, cv) → Calls Try.prog 97 #[.agg #[.slice AS ss.length cS, .slice AW ws.length cW], .int .i64 k, .agg #[.string nm, .int .i64 kd, .slice AI l.length cI, .slice AC cv.length cC]] w (RetB p w) := by
    intro p hp
    have HP := hid hp
    clear hp
    go_enter Try.func97, Try.ntmps97
    go_wp2_with fail
    rw [← hW0]
    have HW := hid hW0
    clear hW0
    refine (l1In_any _ _ _ _).mono ?_
    rintro e w1 ⟨b1', rfl, hb1, hq1⟩
    obtain ⟨hc1, hf1⟩ := hq1.cells
    have hz2 : w.heap.size < w1.heap.size := by have := hq1.size; omega
    have hz3 : w.heap.size + 1 < w1.heap.size := by have := hq1.size; omega
    cases b1' with
    | false =>
      have HB1 := hid (RetB.not hb1)
      clear hb1
      go_wp2
      go_ret
      exact RetB.no (fun h => by rw [HP.out] at h; exact HB1.out h.kd) (by (repeat (first | with_reducible exact Nw.refl _ | with_reducible assumption | with_reducible apply Nw.alloc | with_reducible apply Nw.drew | with_reducible apply Nw.drewN | (with_reducible refine Nw.setCell2 ?_ ?_; focus (first | (simp; done) | (simp; omega))) | with_reducible refine Nw.trans2 (by assumption) ?_)))
    | true =>
      have HKD := hid (hb1.1 rfl)
      clear hb1
      by_cases hkS : k < ss.length
      · have hdk : decide ((k : Int) < ss.length) = true := decide_eq_true (by omega)
        obtain ⟨b, o, y0, y1, rfl, hy, c0, c1⟩ := ((rS.nw hN0).nw hq1).at2 rfl (List.getElem?_eq_getElem hkS)
        have HX := hid (List.getElem?_eq_getElem hkS)
        generalize hxk : ss[k] = sg at *
        clear hxk
        obtain ⟨t, sk⟩ := sg
        obtain ⟨s0, s1⟩ := hy.open2 rfl
        obtain ⟨rfl, -⟩ := s0.str_
        obtain ⟨rfl, -⟩ := s1.int_
        dsimp only at c0 c1
        clear hy s0 s1
        have hi0 : (0 : Int) ≤ k := by omega
        have hi1 : (k : Int) < ss.length := by omega
        have HNS : Hid (ss.length ≤ k → kd = 2 ∨ kd = 3) := hid fun h => absurd h (by omega)
        by_cases hnt : nm = t
        · have hnt2 := str_eq_t hnt
          by_cases hks : (kd = 1 ↔ sk = 1)
          · have hks2 := xor_f hks
            have hks3 : ((kd == 1) == (sk == 1)) = true := by simpa [bne] using hks2
            have HSN : Hid (∀ y, ss[k]? = some y → nm = y.1 ∧ (kd = 1 ↔ y.2 = 1)) := hid fun y hy => by
              rw [HX.out] at hy
              cases hy
              exact ⟨hnt, hks⟩
            clear hnt hks
            go_wp2_with fail
            go_quiet (fail)

            -- the cover
            by_cases h5 : kd = 5
            · have e5 := beq_true h5
              have e5' := bne_false h5
              have H5 := hid h5
              clear h5
              go_wp2_with fail
              refine (l13Good_any _ _ cv _ (rC.nw (by (repeat (first | with_reducible exact Nw.refl _ | with_reducible assumption | with_reducible apply Nw.alloc | with_reducible apply Nw.drew | with_reducible apply Nw.drewN | (with_reducible refine Nw.setCell2 ?_ ?_; focus (first | (simp; done) | (simp; omega))) | with_reducible refine Nw.trans2 (by assumption) ?_))))).mono ?_
              rintro e w2 ⟨b2, rfl, hb2, hq2⟩
              have hN2 : Nw W0 w2 := by (repeat (first | with_reducible exact Nw.refl _ | with_reducible assumption | with_reducible apply Nw.alloc | with_reducible apply Nw.drew | with_reducible apply Nw.drewN | (with_reducible refine Nw.setCell2 ?_ ?_; focus (first | (simp; done) | (simp; omega))) | with_reducible refine Nw.trans2 (by assumption) ?_))
              obtain ⟨hc2, hf2⟩ := hN2.cells
              clear hq2
              cases b2 with
              | false =>
                have HB2 := hid (RetB.not hb2)
                clear hb2
                go_wp2
                go_ret
                exact RetB.no (fun h => by rw [HP.out] at h; exact HB2.out (h.cover.1 H5.out)) (by (repeat (first | with_reducible exact Nw.refl _ | with_reducible assumption | with_reducible apply Nw.alloc | with_reducible apply Nw.drew | with_reducible apply Nw.drewN | (with_reducible refine Nw.setCell2 ?_ ?_; focus (first | (simp; done) | (simp; omega))) | with_reducible refine Nw.trans2 (by assumption) ?_)))
              | true =>
                have HB2 := hid (hb2.1 rfl)
                have HCV : Hid ((kd = 5 → CoverOk ss.length cv) ∧ (kd ≠ 5 → cv.length = 0)) := hid ⟨fun _ => HB2.out, fun h => absurd H5.out h⟩
                clear hb2
                go_wp2_with fail
                refine (l2Name_any nm _ hnm).mono ?_
                rintro e w3 ⟨b3, rfl, hb3, hq3⟩
                have hN3 : Nw W0 w3 := by (repeat (first | with_reducible exact Nw.refl _ | with_reducible assumption | with_reducible apply Nw.alloc | with_reducible apply Nw.drew | with_reducible apply Nw.drewN | (with_reducible refine Nw.setCell2 ?_ ?_; focus (first | (simp; done) | (simp; omega))) | with_reducible refine Nw.trans2 (by assumption) ?_))
                obtain ⟨hc3, hf3⟩ := hN3.cells
                clear hq3
                cases b3 with
                | false =>
                  have HB3 := hid (RetB.not hb3)
                  clear hb3
                  go_wp2
                  go_ret
                  exact RetB.no (fun h => by rw [HP.out] at h; exact HB3.out h.name) (by (repeat (first | with_reducible exact Nw.refl _ | with_reducible assumption | with_reducible apply Nw.alloc | with_reducible apply Nw.drew | with_reducible apply Nw.drewN | (with_reducible refine Nw.setCell2 ?_ ?_; focus (first | (simp; done) | (simp; omega))) | with_reducible refine Nw.trans2 (by assumption) ?_)))
                | true =>
                  have HB3 := hid (hb3.1 rfl)
                  clear hb3
                  go_wp2_with fail
                  refine (l19Pins_any _ _ _ _ _ _ (ss, ws) _ _ _ (by exact hn.nw (by (repeat (first | with_reducible exact Nw.refl _ | with_reducible assumption | with_reducible apply Nw.alloc | with_reducible apply Nw.drew | with_reducible apply Nw.drewN | (with_reducible refine Nw.setCell2 ?_ ?_; focus (first | (simp; done) | (simp; omega))) | with_reducible refine Nw.trans2 (by assumption) ?_)))) (by exact hx.nw (by (repeat (first | with_reducible exact Nw.refl _ | with_reducible assumption | with_reducible apply Nw.alloc | with_reducible apply Nw.drew | with_reducible apply Nw.drewN | (with_reducible refine Nw.setCell2 ?_ ?_; focus (first | (simp; done) | (simp; omega))) | with_reducible refine Nw.trans2 (by assumption) ?_))))).mono ?_
                  rintro e w4 ⟨b4, rfl, hb4, hq4⟩
                  have HB4 := hid hb4
                  clear hb4
                  go_wp2
                  go_ret
                  refine RetB.of ?_ (by (repeat (first | with_reducible exact Nw.refl _ | with_reducible assumption | with_reducible apply Nw.alloc | with_reducible apply Nw.drew | with_reducible apply Nw.drewN | (with_reducible refine Nw.setCell2 ?_ ?_; focus (first | (simp; done) | (simp; omega))) | with_reducible refine Nw.trans2 (by assumption) ?_)))
                  rw [HP.out]
                  exact HB4.out.trans ⟨fun h => ⟨HKD.out, HNS.out, HSN.out, HCV.out, HB3.out, h.1, h.2⟩, fun h => ⟨h.pins, h.kind2⟩⟩
            · have e5 := beq_false h5
              have e5' := bne_true h5
              have H5 := hid h5
              clear h5
              rcases cv with _ | ⟨c9, cs9⟩
              · have HCV : Hid ((kd = 5 → CoverOk ss.length []) ∧ (kd ≠ 5 → ([] : List ByteArray).length = 0)) := hid ⟨fun h => absurd h H5.out, fun _ => rfl⟩
                go_wp2_with fail
                refine (l2Name_any nm _ hnm).mono ?_
                rintro e w3 ⟨b3, rfl, hb3, hq3⟩
                have hN3 : Nw W0 w3 := by (repeat (first | with_reducible exact Nw.refl _ | with_reducible assumption | with_reducible apply Nw.alloc | with_reducible apply Nw.drew | with_reducible apply Nw.drewN | (with_reducible refine Nw.setCell2 ?_ ?_; focus (first | (simp; done) | (simp; omega))) | with_reducible refine Nw.trans2 (by assumption) ?_))
                obtain ⟨hc3, hf3⟩ := hN3.cells
                clear hq3
                cases b3 with
                | false =>
                  have HB3 := hid (RetB.not hb3)
                  clear hb3
                  go_wp2
                  go_ret
                  exact RetB.no (fun h => by rw [HP.out] at h; exact HB3.out h.name) (by (repeat (first | with_reducible exact Nw.refl _ | with_reducible assumption | with_reducible apply Nw.alloc | with_reducible apply Nw.drew | with_reducible apply Nw.drewN | (with_reducible refine Nw.setCell2 ?_ ?_; focus (first | (simp; done) | (simp; omega))) | with_reducible refine Nw.trans2 (by assumption) ?_)))
                | true =>
                  have HB3 := hid (hb3.1 rfl)
                  clear hb3
                  go_wp2_with fail
                  refine (l19Pins_any _ _ _ _ _ _ (ss, ws) _ _ _ (by exact hn.nw (by (repeat (first | with_reducible exact Nw.refl _ | with_reducible assumption | with_reducible apply Nw.alloc | with_reducible apply Nw.drew | with_reducible apply Nw.drewN | (with_reducible refine Nw.setCell2 ?_ ?_; focus (first | (simp; done) | (simp; omega))) | with_reducible refine Nw.trans2 (by assumption) ?_)))) (by exact hx.nw (by (repeat (first | with_reducible exact Nw.refl _ | with_reducible assumption | with_reducible apply Nw.alloc | with_reducible apply Nw.drew | with_reducible apply Nw.drewN | (with_reducible refine Nw.setCell2 ?_ ?_; focus (first | (simp; done) | (simp; omega))) | with_reducible refine Nw.trans2 (by assumption) ?_))))).mono ?_
                  rintro e w4 ⟨b4, rfl, hb4, hq4⟩
                  have HB4 := hid hb4
                  clear hb4
                  go_wp2
                  go_ret
                  refine RetB.of ?_ (by (repeat (first | with_reducible exact Nw.refl _ | with_reducible assumption | with_reducible apply Nw.alloc | with_reducible apply Nw.drew | with_reducible apply Nw.drewN | (with_reducible refine Nw.setCell2 ?_ ?_; focus (first | (simp; done) | (simp; omega))) | with_reducible refine Nw.trans2 (by assumption) ?_)))
                  rw [HP.out]
                  exact HB4.out.trans ⟨fun h => ⟨HKD.out, HNS.out, HSN.out, HCV.out, HB3.out, h.1, h.2⟩, fun h => ⟨h.pins, h.kind2⟩⟩
              · go_wp2
                go_ret
                exact RetB.no (fun h => by rw [HP.out] at h; exact absurd (h.cover.2 H5.out) (by simp)) (by (repeat (first | with_reducible exact Nw.refl _ | with_reducible assumption | with_reducible apply Nw.alloc | with_reducible apply Nw.drew | with_reducible apply Nw.drewN | (with_reducible refine Nw.setCell2 ?_ ?_; focus (first | (simp; done) | (simp; omega))) | with_reducible refine Nw.trans2 (by assumption) ?_)))
          · have hks2 := xor_t hks
            have hks3 : ((kd == 1) == (sk == 1)) = false := by simpa [bne] using hks2
            have HK := hid hks
            clear hks hnt
            go_wp2_with fail
            go_quiet (fail)
            go_wp2
            go_ret
            exact RetB.no (fun h => by rw [HP.out] at h; exact HK.out (h.seen _ HX.out).2) (by (repeat (first | with_reducible exact Nw.refl _ | with_reducible assumption | with_reducible apply Nw.alloc | with_reducible apply Nw.drew | with_reducible apply Nw.drewN | (with_reducible refine Nw.setCell2 ?_ ?_; focus (first | (simp; done) | (simp; omega))) | with_reducible refine Nw.trans2 (by assumption) ?_)))
        · have hnt2 := str_eq_f hnt
          have HK := hid hnt
          clear hnt
          go_wp2_with fail
          go_quiet (fail)
          go_wp2
          go_ret
          exact RetB.no (fun h => by rw [HP.out] at h; exact HK.out (h.seen _ HX.out).1) (by (repeat (first | with_reducible exact Nw.refl _ | with_reducible assumption | with_reducible apply Nw.alloc | with_reducible apply Nw.drew | with_reducible apply Nw.drewN | (with_reducible refine Nw.setCell2 ?_ ?_; focus (first | (simp; done) | (simp; omega))) | with_reducible refine Nw.trans2 (by assumption) ?_)))
      · have hdk : decide ((k : Int) < ss.length) = false := decide_eq_false (by omega)
        have HSN : Hid (∀ y, ss[k]? = some y → nm = y.1 ∧ (kd = 1 ↔ y.2 = 1)) := hid fun y hy => absurd (List.getElem?_eq_some_iff.1 hy).1 hkS
        by_cases h23 : kd = 2 ∨ kd = 3
        · have HNS : Hid (ss.length ≤ k → kd = 2 ∨ kd = 3) := hid fun _ => h23
          have hor : kd = 2 ∨ kd ≠ 2 := Decidable.em _
          rcases hor with h2 | h2
          · have e2 := bne_false h2
            clear h23 h2
            go_wp2_with fail
            go_quiet (fail)

            -- the cover
            by_cases h5 : kd = 5
            · have e5 := beq_true h5
              have e5' := bne_false h5
              have H5 := hid h5
              clear h5
              go_wp2_with fail
              refine (l13Good_any _ _ cv _ (rC.nw (by (repeat (first | with_reducible exact Nw.refl _ | with_reducible assumption | with_reducible apply Nw.alloc | with_reducible apply Nw.drew | with_reducible apply Nw.drewN | (with_reducible refine Nw.setCell2 ?_ ?_; focus (first | (simp; done) | (simp; omega))) | with_reducible refine Nw.trans2 (by assumption) ?_))))).mono ?_
              rintro e w2 ⟨b2, rfl, hb2, hq2⟩
              have hN2 : Nw W0 w2 := by (repeat (first | with_reducible exact Nw.refl _ | with_reducible assumption | with_reducible apply Nw.alloc | with_reducible apply Nw.drew | with_reducible apply Nw.drewN | (with_reducible refine Nw.setCell2 ?_ ?_; focus (first | (simp; done) | (simp; omega))) | with_reducible refine Nw.trans2 (by assumption) ?_))
              obtain ⟨hc2, hf2⟩ := hN2.cells
              clear hq2
              cases b2 with
              | false =>
                have HB2 := hid (RetB.not hb2)
                clear hb2
                go_wp2
                go_ret
                exact RetB.no (fun h => by rw [HP.out] at h; exact HB2.out (h.cover.1 H5.out)) (by (repeat (first | with_reducible exact Nw.refl _ | with_reducible assumption | with_reducible apply Nw.alloc | with_reducible apply Nw.drew | with_reducible apply Nw.drewN | (with_reducible refine Nw.setCell2 ?_ ?_; focus (first | (simp; done) | (simp; omega))) | with_reducible refine Nw.trans2 (by assumption) ?_)))
              | true =>
                have HB2 := hid (hb2.1 rfl)
                have HCV : Hid ((kd = 5 → CoverOk ss.length cv) ∧ (kd ≠ 5 → cv.length = 0)) := hid ⟨fun _ => HB2.out, fun h => absurd H5.out h⟩
                clear hb2
                go_wp2_with fail
                refine (l2Name_any nm _ hnm).mono ?_
                rintro e w3 ⟨b3, rfl, hb3, hq3⟩
                have hN3 : Nw W0 w3 := by (repeat (first | with_reducible exact Nw.refl _ | with_reducible assumption | with_reducible apply Nw.alloc | with_reducible apply Nw.drew | with_reducible apply Nw.drewN | (with_reducible refine Nw.setCell2 ?_ ?_; focus (first | (simp; done) | (simp; omega))) | with_reducible refine Nw.trans2 (by assumption) ?_))
                obtain ⟨hc3, hf3⟩ := hN3.cells
                clear hq3
                cases b3 with
                | false =>
                  have HB3 := hid (RetB.not hb3)
                  clear hb3
                  go_wp2
                  go_ret
                  exact RetB.no (fun h => by rw [HP.out] at h; exact HB3.out h.name) (by (repeat (first | with_reducible exact Nw.refl _ | with_reducible assumption | with_reducible apply Nw.alloc | with_reducible apply Nw.drew | with_reducible apply Nw.drewN | (with_reducible refine Nw.setCell2 ?_ ?_; focus (first | (simp; done) | (simp; omega))) | with_reducible refine Nw.trans2 (by assumption) ?_)))
                | true =>
                  have HB3 := hid (hb3.1 rfl)
                  clear hb3
                  go_wp2_with fail
                  refine (l19Pins_any _ _ _ _ _ _ (ss, ws) _ _ _ (by exact hn.nw (by (repeat (first | with_reducible exact Nw.refl _ | with_reducible assumption | with_reducible apply Nw.alloc | with_reducible apply Nw.drew | with_reducible apply Nw.drewN | (with_reducible refine Nw.setCell2 ?_ ?_; focus (first | (simp; done) | (simp; omega))) | with_reducible refine Nw.trans2 (by assumption) ?_)))) (by exact hx.nw (by (repeat (first | with_reducible exact Nw.refl _ | with_reducible assumption | with_reducible apply Nw.alloc | with_reducible apply Nw.drew | with_reducible apply Nw.drewN | (with_reducible refine Nw.setCell2 ?_ ?_; focus (first | (simp; done) | (simp; omega))) | with_reducible refine Nw.trans2 (by assumption) ?_))))).mono ?_
                  rintro e w4 ⟨b4, rfl, hb4, hq4⟩
                  have HB4 := hid hb4
                  clear hb4
                  go_wp2
                  go_ret
                  refine RetB.of ?_ (by (repeat (first | with_reducible exact Nw.refl _ | with_reducible assumption | with_reducible apply Nw.alloc | with_reducible apply Nw.drew | with_reducible apply Nw.drewN | (with_reducible refine Nw.setCell2 ?_ ?_; focus (first | (simp; done) | (simp; omega))) | with_reducible refine Nw.trans2 (by assumption) ?_)))
                  rw [HP.out]
                  exact HB4.out.trans ⟨fun h => ⟨HKD.out, HNS.out, HSN.out, HCV.out, HB3.out, h.1, h.2⟩, fun h => ⟨h.pins, h.kind2⟩⟩
            · have e5 := beq_false h5
              have e5' := bne_true h5
              have H5 := hid h5
              clear h5
              rcases cv with _ | ⟨c9, cs9⟩
              · have HCV : Hid ((kd = 5 → CoverOk ss.length []) ∧ (kd ≠ 5 → ([] : List ByteArray).length = 0)) := hid ⟨fun h => absurd h H5.out, fun _ => rfl⟩
                go_wp2_with fail
                refine (l2Name_any nm _ hnm).mono ?_
                rintro e w3 ⟨b3, rfl, hb3, hq3⟩
                have hN3 : Nw W0 w3 := by (repeat (first | with_reducible exact Nw.refl _ | with_reducible assumption | with_reducible apply Nw.alloc | with_reducible apply Nw.drew | with_reducible apply Nw.drewN | (with_reducible refine Nw.setCell2 ?_ ?_; focus (first | (simp; done) | (simp; omega))) | with_reducible refine Nw.trans2 (by assumption) ?_))
                obtain ⟨hc3, hf3⟩ := hN3.cells
                clear hq3
                cases b3 with
                | false =>
                  have HB3 := hid (RetB.not hb3)
                  clear hb3
                  go_wp2
                  go_ret
                  exact RetB.no (fun h => by rw [HP.out] at h; exact HB3.out h.name) (by (repeat (first | with_reducible exact Nw.refl _ | with_reducible assumption | with_reducible apply Nw.alloc | with_reducible apply Nw.drew | with_reducible apply Nw.drewN | (with_reducible refine Nw.setCell2 ?_ ?_; focus (first | (simp; done) | (simp; omega))) | with_reducible refine Nw.trans2 (by assumption) ?_)))
                | true =>
                  have HB3 := hid (hb3.1 rfl)
                  clear hb3
                  go_wp2_with fail
                  refine (l19Pins_any _ _ _ _ _ _ (ss, ws) _ _ _ (by exact hn.nw (by (repeat (first | with_reducible exact Nw.refl _ | with_reducible assumption | with_reducible apply Nw.alloc | with_reducible apply Nw.drew | with_reducible apply Nw.drewN | (with_reducible refine Nw.setCell2 ?_ ?_; focus (first | (simp; done) | (simp; omega))) | with_reducible refine Nw.trans2 (by assumption) ?_)))) (by exact hx.nw (by (repeat (first | with_reducible exact Nw.refl _ | with_reducible assumption | with_reducible apply Nw.alloc | with_reducible apply Nw.drew | with_reducible apply Nw.drewN | (with_reducible refine Nw.setCell2 ?_ ?_; focus (first | (simp; done) | (simp; omega))) | with_reducible refine Nw.trans2 (by assumption) ?_))))).mono ?_
                  rintro e w4 ⟨b4, rfl, hb4, hq4⟩
                  have HB4 := hid hb4
                  clear hb4
                  go_wp2
                  go_ret
                  refine RetB.of ?_ (by (repeat (first | with_reducible exact Nw.refl _ | with_reducible assumption | with_reducible apply Nw.alloc | with_reducible apply Nw.drew | with_reducible apply Nw.drewN | (with_reducible refine Nw.setCell2 ?_ ?_; focus (first | (simp; done) | (simp; omega))) | with_reducible refine Nw.trans2 (by assumption) ?_)))
                  rw [HP.out]
                  exact HB4.out.trans ⟨fun h => ⟨HKD.out, HNS.out, HSN.out, HCV.out, HB3.out, h.1, h.2⟩, fun h => ⟨h.pins, h.kind2⟩⟩
              · go_wp2
                go_ret
                exact RetB.no (fun h => by rw [HP.out] at h; exact absurd (h.cover.2 H5.out) (by simp)) (by (repeat (first | with_reducible exact Nw.refl _ | with_reducible assumption | with_reducible apply Nw.alloc | with_reducible apply Nw.drew | with_reducible apply Nw.drewN | (with_reducible refine Nw.setCell2 ?_ ?_; focus (first | (simp; done) | (simp; omega))) | with_reducible refine Nw.trans2 (by assumption) ?_)))
          · have e2 := bne_true h2
            have h3 : kd = 3 := h23.resolve_left h2
            have e3 := bne_false h3
            clear h23 h2 h3
            go_wp2_with fail
            go_quiet (fail)

            -- the cover
            by_cases h5 : kd = 5
            · have e5 := beq_true h5
              have e5' := bne_false h5
              have H5 := hid h5
              clear h5
              go_wp2_with fail
              refine (l13Good_any _ _ cv _ (rC.nw (by (repeat (first | with_reducible exact Nw.refl _ | with_reducible assumption | with_reducible apply Nw.alloc | with_reducible apply Nw.drew | with_reducible apply Nw.drewN | (with_reducible refine Nw.setCell2 ?_ ?_; focus (first | (simp; done) | (simp; omega))) | with_reducible refine Nw.trans2 (by assumption) ?_))))).mono ?_
              rintro e w2 ⟨b2, rfl, hb2, hq2⟩
              have hN2 : Nw W0 w2 := by (repeat (first | with_reducible exact Nw.refl _ | with_reducible assumption | with_reducible apply Nw.alloc | with_reducible apply Nw.drew | with_reducible apply Nw.drewN | (with_reducible refine Nw.setCell2 ?_ ?_; focus (first | (simp; done) | (simp; omega))) | with_reducible refine Nw.trans2 (by assumption) ?_))
              obtain ⟨hc2, hf2⟩ := hN2.cells
              clear hq2
              cases b2 with
              | false =>
                have HB2 := hid (RetB.not hb2)
                clear hb2
                go_wp2
                go_ret
                exact RetB.no (fun h => by rw [HP.out] at h; exact HB2.out (h.cover.1 H5.out)) (by (repeat (first | with_reducible exact Nw.refl _ | with_reducible assumption | with_reducible apply Nw.alloc | with_reducible apply Nw.drew | with_reducible apply Nw.drewN | (with_reducible refine Nw.setCell2 ?_ ?_; focus (first | (simp; done) | (simp; omega))) | with_reducible refine Nw.trans2 (by assumption) ?_)))
              | true =>
                have HB2 := hid (hb2.1 rfl)
                have HCV : Hid ((kd = 5 → CoverOk ss.length cv) ∧ (kd ≠ 5 → cv.length = 0)) := hid ⟨fun _ => HB2.out, fun h => absurd H5.out h⟩
                clear hb2
                go_wp2_with fail
                refine (l2Name_any nm _ hnm).mono ?_
                rintro e w3 ⟨b3, rfl, hb3, hq3⟩
                have hN3 : Nw W0 w3 := by (repeat (first | with_reducible exact Nw.refl _ | with_reducible assumption | with_reducible apply Nw.alloc | with_reducible apply Nw.drew | with_reducible apply Nw.drewN | (with_reducible refine Nw.setCell2 ?_ ?_; focus (first | (simp; done) | (simp; omega))) | with_reducible refine Nw.trans2 (by assumption) ?_))
                obtain ⟨hc3, hf3⟩ := hN3.cells
                clear hq3
                cases b3 with
                | false =>
                  have HB3 := hid (RetB.not hb3)
                  clear hb3
                  go_wp2
                  go_ret
                  exact RetB.no (fun h => by rw [HP.out] at h; exact HB3.out h.name) (by (repeat (first | with_reducible exact Nw.refl _ | with_reducible assumption | with_reducible apply Nw.alloc | with_reducible apply Nw.drew | with_reducible apply Nw.drewN | (with_reducible refine Nw.setCell2 ?_ ?_; focus (first | (simp; done) | (simp; omega))) | with_reducible refine Nw.trans2 (by assumption) ?_)))
                | true =>
                  have HB3 := hid (hb3.1 rfl)
                  clear hb3
                  go_wp2_with fail
                  refine (l19Pins_any _ _ _ _ _ _ (ss, ws) _ _ _ (by exact hn.nw (by (repeat (first | with_reducible exact Nw.refl _ | with_reducible assumption | with_reducible apply Nw.alloc | with_reducible apply Nw.drew | with_reducible apply Nw.drewN | (with_reducible refine Nw.setCell2 ?_ ?_; focus (first | (simp; done) | (simp; omega))) | with_reducible refine Nw.trans2 (by assumption) ?_)))) (by exact hx.nw (by (repeat (first | with_reducible exact Nw.refl _ | with_reducible assumption | with_reducible apply Nw.alloc | with_reducible apply Nw.drew | with_reducible apply Nw.drewN | (with_reducible refine Nw.setCell2 ?_ ?_; focus (first | (simp; done) | (simp; omega))) | with_reducible refine Nw.trans2 (by assumption) ?_))))).mono ?_
                  rintro e w4 ⟨b4, rfl, hb4, hq4⟩
                  have HB4 := hid hb4
                  clear hb4
                  go_wp2
                  go_ret
                  refine RetB.of ?_ (by (repeat (first | with_reducible exact Nw.refl _ | with_reducible assumption | with_reducible apply Nw.alloc | with_reducible apply Nw.drew | with_reducible apply Nw.drewN | (with_reducible refine Nw.setCell2 ?_ ?_; focus (first | (simp; done) | (simp; omega))) | with_reducible refine Nw.trans2 (by assumption) ?_)))
                  rw [HP.out]
                  exact HB4.out.trans ⟨fun h => ⟨HKD.out, HNS.out, HSN.out, HCV.out, HB3.out, h.1, h.2⟩, fun h => ⟨h.pins, h.kind2⟩⟩
            · have e5 := beq_false h5
              have e5' := bne_true h5
              have H5 := hid h5
              clear h5
              rcases cv with _ | ⟨c9, cs9⟩
              · have HCV : Hid ((kd = 5 → CoverOk ss.length []) ∧ (kd ≠ 5 → ([] : List ByteArray).length = 0)) := hid ⟨fun h => absurd h H5.out, fun _ => rfl⟩
                go_wp2_with fail
                refine (l2Name_any nm _ hnm).mono ?_
                rintro e w3 ⟨b3, rfl, hb3, hq3⟩
                have hN3 : Nw W0 w3 := by (repeat (first | with_reducible exact Nw.refl _ | with_reducible assumption | with_reducible apply Nw.alloc | with_reducible apply Nw.drew | with_reducible apply Nw.drewN | (with_reducible refine Nw.setCell2 ?_ ?_; focus (first | (simp; done) | (simp; omega))) | with_reducible refine Nw.trans2 (by assumption) ?_))
                obtain ⟨hc3, hf3⟩ := hN3.cells
                clear hq3
                cases b3 with
                | false =>
                  have HB3 := hid (RetB.not hb3)
                  clear hb3
                  go_wp2
                  go_ret
                  exact RetB.no (fun h => by rw [HP.out] at h; exact HB3.out h.name) (by (repeat (first | with_reducible exact Nw.refl _ | with_reducible assumption | with_reducible apply Nw.alloc | with_reducible apply Nw.drew | with_reducible apply Nw.drewN | (with_reducible refine Nw.setCell2 ?_ ?_; focus (first | (simp; done) | (simp; omega))) | with_reducible refine Nw.trans2 (by assumption) ?_)))
                | true =>
                  have HB3 := hid (hb3.1 rfl)
                  clear hb3
                  go_wp2_with fail
                  refine (l19Pins_any _ _ _ _ _ _ (ss, ws) _ _ _ (by exact hn.nw (by (repeat (first | with_reducible exact Nw.refl _ | with_reducible assumption | with_reducible apply Nw.alloc | with_reducible apply Nw.drew | with_reducible apply Nw.drewN | (with_reducible refine Nw.setCell2 ?_ ?_; focus (first | (simp; done) | (simp; omega))) | with_reducible refine Nw.trans2 (by assumption) ?_)))) (by exact hx.nw (by (repeat (first | with_reducible exact Nw.refl _ | with_reducible assumption | with_reducible apply Nw.alloc | with_reducible apply Nw.drew | with_reducible apply Nw.drewN | (with_reducible refine Nw.setCell2 ?_ ?_; focus (first | (simp; done) | (simp; omega))) | with_reducible refine Nw.trans2 (by assumption) ?_))))).mono ?_
                  rintro e w4 ⟨b4, rfl, hb4, hq4⟩
                  have HB4 := hid hb4
                  clear hb4
                  go_wp2
                  go_ret
                  refine RetB.of ?_ (by (repeat (first | with_reducible exact Nw.refl _ | with_reducible assumption | with_reducible apply Nw.alloc | with_reducible apply Nw.drew | with_reducible apply Nw.drewN | (with_reducible refine Nw.setCell2 ?_ ?_; focus (first | (simp; done) | (simp; omega))) | with_reducible refine Nw.trans2 (by assumption) ?_)))
                  rw [HP.out]
                  exact HB4.out.trans ⟨fun h => ⟨HKD.out, HNS.out, HSN.out, HCV.out, HB3.out, h.1, h.2⟩, fun h => ⟨h.pins, h.kind2⟩⟩
              · go_wp2
                go_ret
                exact RetB.no (fun h => by rw [HP.out] at h; exact absurd (h.cover.2 H5.out) (by simp)) (by (repeat (first | with_reducible exact Nw.refl _ | with_reducible assumption | with_reducible apply Nw.alloc | with_reducible apply Nw.drew | with_reducible apply Nw.drewN | (with_reducible refine Nw.setCell2 ?_ ?_; focus (first | (simp; done) | (simp; omega))) | with_reducible refine Nw.trans2 (by assumption) ?_)))
        · have e2 := bne_true (a := kd) (b := 2) (fun h => h23 (.inl h))
          have e3 := bne_true (a := kd) (b := 3) (fun h => h23 (.inr h))
          have HK := hid h23
          clear h23
          go_wp2
          go_ret
          exact RetB.no (fun h => by rw [HP.out] at h; exact HK.out (h.hidden (by omega))) (by (repeat (first | with_reducible exact Nw.refl _ | with_reducible assumption | with_reducible apply Nw.alloc | with_reducible apply Nw.drew | with_reducible apply Nw.drewN | (with_reducible refine Nw.setCell2 ?_ ?_; focus (first | (simp; done) | (simp; omega))) | with_reducible refine Nw.trans2 (by assumption) ?_)))
  exact HPost _ rfl
end Go.Proofs.Ytbelopdphlllnaa
