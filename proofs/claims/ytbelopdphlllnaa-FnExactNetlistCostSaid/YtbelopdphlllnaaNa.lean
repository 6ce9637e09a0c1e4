/- A netlist, as the reference judges it; its cost. -/
import Derived.Test.YtbelopdphlllnaaWs
import Derived.Test.YtbelopdphlllnaaLit
namespace Go.Proofs.Ytbelopdphlllnaa
open Go.RowKit

def NetAt (ss : List DSignal) (ws : List DWire) (k : Nat) : Prop := ∀ x, ws[k]? = some x → WireA ss ws.length k x ∧ ∀ j y, j < k → ws[j]? = some y → y.1 ≠ x.1
def NetOk (ss : List DSignal) (ws : List DWire) : Prop := SigsOk ss ∧ (ss.length ≤ ws.length ∧ ws.length ≤ 24) ∧ ∀ k, k < ws.length → NetAt ss ws k
theorem NetAt.step {ss : List DSignal} {ws : List DWire} {k : Nat} (h : ∀ j, j < k → NetAt ss ws j) (hk : NetAt ss ws k) : ∀ j, j < k + 1 → NetAt ss ws j := by
  intro j hj
  by_cases e : j = k
  · subst e; exact hk
  · exact h j (by omega)

set_option maxRecDepth 100000 in
set_option maxHeartbeats 4000000 in
theorem l19Good_any (a0 a1 : Value) (n : DNetlist) (w : World) (hn : Rep tNetlist w [a0, a1] n) :
    Calls Try.prog 44 #[.agg #[a0, a1]] w (RetB (NetOk n.1 n.2) w) := by
  obtain ⟨ss, ws⟩ := n
  obtain ⟨rS, rW⟩ := hn.open2 rfl
  dsimp only at rS rW
  obtain ⟨AS, cS, rfl, hlS, hcS⟩ := rS.slv
  obtain ⟨AW, cW, rfl, hlW, hcW⟩ := rW.slv
  have hmS : ss.length ≤ 9223372036854775807 := by unfold maxLen at hcS; omega
  have hmW : ws.length ≤ 9223372036854775807 := by unfold maxLen at hcW; omega
  obtain ⟨W0, hW0, hN0, hcA, hsz⟩ := one_new w #[.slice AS ss.length cS, .slice AW ws.length cW] 32
  have a0 := hcA 0
  have a1 := hcA 1
  simp only [List.getElem?_toArray, List.getElem?_cons_zero, List.getElem?_cons_succ] at a0 a1
  have hs0 : w.heap.size < W0.heap.size := by omega
  clear hcA hsz
  have HPost : ∀ p, p = NetOk ss ws → Calls Try.prog 44 #[.agg #[.slice AS ss.length cS, .slice AW ws.length cW]] w (RetB p w) := by
    intro p hp
    have HP := hid hp
    clear hp
    go_enter Try.func44, Try.ntmps44
    go_wp2_with fail
    rw [← hW0]
    have HW := hid hW0
    clear hW0
    refine (l2Signals_any _ ss _ (rS.nw (by (repeat (first | with_reducible exact Nw.refl _ | with_reducible assumption | with_reducible apply Nw.alloc | with_reducible apply Nw.drew | with_reducible apply Nw.drewN | (with_reducible refine Nw.setCell2 ?_ ?_; focus (first | (simp; done) | (simp; omega))) | with_reducible refine Nw.trans2 (by assumption) ?_))))).mono ?_
    rintro e w1 ⟨b1', rfl, hb1, hq1⟩
    obtain ⟨hc1, hf1⟩ := hq1.cells
    cases b1' with
    | false =>
      have HB1 := hid (RetB.not hb1)
      clear hb1
      go_wp2
      go_ret
      exact RetB.no (fun h => by rw [HP.out] at h; exact HB1.out h.1) (by (repeat (first | with_reducible exact Nw.refl _ | with_reducible assumption | with_reducible apply Nw.alloc | with_reducible apply Nw.drew | with_reducible apply Nw.drewN | (with_reducible refine Nw.setCell2 ?_ ?_; focus (first | (simp; done) | (simp; omega))) | with_reducible refine Nw.trans2 (by assumption) ?_)))
    | true =>
      have HSG := hid (hb1.1 rfl)
      clear hb1
      by_cases hl1 : ws.length < ss.length
      · have hd : decide ((ws.length : Int) < ss.length) = true := decide_eq_true (by omega)
        go_wp2
        go_ret
        exact RetB.no (fun h => by rw [HP.out] at h; have := h.2.1; omega) (by (repeat (first | with_reducible exact Nw.refl _ | with_reducible assumption | with_reducible apply Nw.alloc | with_reducible apply Nw.drew | with_reducible apply Nw.drewN | (with_reducible refine Nw.setCell2 ?_ ?_; focus (first | (simp; done) | (simp; omega))) | with_reducible refine Nw.trans2 (by assumption) ?_)))
      · have hd : decide ((ws.length : Int) < ss.length) = false := decide_eq_false (by omega)
        by_cases hl2 : 24 < ws.length
        · have hd2 : decide ((24 : Int) < ws.length) = true := decide_eq_true (by omega)
          go_wp2
          go_ret
          exact RetB.no (fun h => by rw [HP.out] at h; have := h.2.1; omega) (by (repeat (first | with_reducible exact Nw.refl _ | with_reducible assumption | with_reducible apply Nw.alloc | with_reducible apply Nw.drew | with_reducible apply Nw.drewN | (with_reducible refine Nw.setCell2 ?_ ?_; focus (first | (simp; done) | (simp; omega))) | with_reducible refine Nw.trans2 (by assumption) ?_)))
        · have hd2 : decide ((24 : Int) < ws.length) = false := decide_eq_false (by omega)
          go_wp2
          clear hc1 hf1
          go_loopw [29] (fun i wr => ∃ k : Nat, k ≤ ws.length ∧ i = .int .i64 k ∧ (∀ j, j < k → NetAt ss ws j) ∧ Nw W0 wr) (fun i _ => ws.length - (intOf i).toNat)
          case atStart => exact ⟨0, Nat.zero_le _, rfl, fun j h => absurd h (by omega), hq1⟩
          case round =>
            obtain ⟨wo, rfl⟩ : ∃ wo : World, wo = wr := ⟨_, rfl⟩
            obtain ⟨k, hk, rfl, hyes, hq⟩ := hrel
            have HY := hid hyes
            clear hyes hq1
            obtain ⟨hc0, hf0⟩ := hq.cells
            have hs2 : w.heap.size < wo.heap.size := by have := hq.size; omega
            by_cases hlt : k < ws.length
            · obtain ⟨b, o, v0, v1, v2, v3, rfl, hx, c0, c1, c2, c3⟩ := ((rW.nw hN0).nw hq).at4 rfl (List.getElem?_eq_getElem hlt)
              have HX := hid (List.getElem?_eq_getElem hlt)
              generalize hxk : ws[k] = x at *
              clear hxk
              obtain ⟨nm, kd, l, cv⟩ := x
              obtain ⟨r0, r1, rI, rC⟩ := hx.open4 rfl rfl rfl
              dsimp only at r0 r1 rI rC
              obtain ⟨rfl, hnm⟩ := r0.str_
              obtain ⟨rfl, -⟩ := r1.int_
              obtain ⟨AI, cI, rfl, -, -⟩ := rI.slv
              obtain ⟨AC, cC, rfl, -, -⟩ := rC.slv
              clear r0 r1 rI rC
              go_wp2_with fail
              refine (l19Wire_any _ _ _ _ _ _ (ss, ws) (nm, kd, l, cv) k _ (by omega) (by exact hn.nw (by (repeat (first | with_reducible exact Nw.refl _ | with_reducible assumption | with_reducible apply Nw.alloc | with_reducible apply Nw.drew | with_reducible apply Nw.drewN | (with_reducible refine Nw.setCell2 ?_ ?_; focus (first | (simp; done) | (simp; omega))) | with_reducible refine Nw.trans2 (by assumption) ?_)))) (by exact hx.nw (by (repeat (first | with_reducible exact Nw.refl _ | with_reducible assumption | with_reducible apply Nw.alloc | with_reducible apply Nw.drew | with_reducible apply Nw.drewN | (with_reducible refine Nw.setCell2 ?_ ?_; focus (first | (simp; done) | (simp; omega))) | with_reducible refine Nw.trans2 (by assumption) ?_))))).mono ?_
              rintro e w2 ⟨b2, rfl, hb2, hq2⟩
              obtain ⟨hc2, hf2⟩ := hq2.cells
              have hz1 : wo.heap.size < w2.heap.size := by (have hz2 := hq2.size; simp at hz2; omega)
              have hz2 : w.heap.size < w2.heap.size := by omega
              have hN2 : Nw W0 w2 := by (repeat (first | with_reducible exact Nw.refl _ | with_reducible assumption | with_reducible apply Nw.alloc | with_reducible apply Nw.drew | with_reducible apply Nw.drewN | (with_reducible refine Nw.setCell2 ?_ ?_; focus (first | (simp; done) | (simp; omega))) | with_reducible refine Nw.trans2 (by assumption) ?_))
              cases b2 with
              | false =>
                have HB2 := hid (RetB.not hb2)
                clear hb2
                go_wp2
                go_ret
                exact RetB.no (fun h => by rw [HP.out] at h; exact HB2.out (h.2.2 k hlt _ HX.out).1) (by (repeat (first | with_reducible exact Nw.refl _ | with_reducible assumption | with_reducible apply Nw.alloc | with_reducible apply Nw.drew | with_reducible apply Nw.drewN | (with_reducible refine Nw.setCell2 ?_ ?_; focus (first | (simp; done) | (simp; omega))) | with_reducible refine Nw.trans2 (by assumption) ?_)))
              | true =>
                have HB2 := hid (hb2.1 rfl)
                clear hb2
                have hbx : w2.cell? ⟨wo.heap.size, 0, none⟩ = some (.string nm) := by go_simp
                have hkc : k ≤ cW := by omega
                have HN2 := hN2
                clear hc2 hf2 hq2 c0 c1 c2 c3 hc0 hf0
                obtain ⟨hc2, hf2⟩ := hN2.cells
                go_wp2
                clear hc2 hf2
                go_loopw [44] (fun i wi => ∃ m : Nat, m ≤ k ∧ i = .int .i64 m ∧ (∀ j y, j < m → ws[j]? = some y → y.1 ≠ nm) ∧ Nw w2 wi) (fun i _ => k - (intOf i).toNat)
                case atStart => exact ⟨0, Nat.zero_le _, rfl, fun j y h => absurd h (by omega), Nw.refl _⟩
                case round =>
                  obtain ⟨m, hm2, rfl, hno, hqi⟩ := hrel
                  have HN := hid hno
                  clear hno
                  obtain ⟨hci, hfi⟩ := hqi.cells
                  have hzi : wo.heap.size < wr.heap.size := by have := hqi.size; omega
                  by_cases hlm : m < k
                  · obtain ⟨b', o', y0, y1, y2, y3, e', hy, d0, d1, d2, d3⟩ := (((rW.nw hN0).nw hN2).nw hqi).at4 rfl (List.getElem?_eq_getElem (show m < ws.length by omega))
                    have HYm := hid (List.getElem?_eq_getElem (show m < ws.length by omega))
                    generalize hym : ws[m] = y at *
                    clear hym
                    obtain ⟨t, kd', l', cv'⟩ := y
                    obtain ⟨s0, s1, sI, sC⟩ := hy.open4 rfl rfl rfl
                    dsimp only at s0 s1 sI sC
                    obtain ⟨rfl, -⟩ := s0.str_
                    obtain ⟨rfl, -⟩ := s1.int_
                    obtain ⟨AI', cI', rfl, -, -⟩ := sI.slv
                    obtain ⟨AC', cC', rfl, -, -⟩ := sC.slv
                    simp only [Option.some.injEq, Addr.mk.injEq, and_true] at e'
                    obtain ⟨rfl, rfl⟩ := e'
                    clear hy s0 s1 sI sC
                    by_cases hnt : t = nm
                    · have hnt2 := str_eq_t hnt
                      have HK := hid hnt
                      clear hnt
                      go_wp2
                      go_ret
                      exact RetB.no (fun h => by rw [HP.out] at h; exact (h.2.2 k hlt _ HX.out).2 m _ hlm HYm.out HK.out) (by (repeat (first | with_reducible exact Nw.refl _ | with_reducible assumption | with_reducible apply Nw.alloc | with_reducible apply Nw.drew | with_reducible apply Nw.drewN | (with_reducible refine Nw.setCell2 ?_ ?_; focus (first | (simp; done) | (simp; omega))) | with_reducible refine Nw.trans2 (by assumption) ?_)))
                    · have hnt2 := str_eq_f hnt
                      have HK := hid hnt
                      clear hnt
                      go_wp2
                      go_roundw
                      case rel => exact ⟨m + 1, by omega, by go_num, fun j y hj hy => by
                          by_cases e : j = m
                          · subst e
                            rw [HYm.out] at hy
                            cases hy
                            exact HK.out
                          · exact HN.out j y (by omega) hy, by (repeat (first | with_reducible exact Nw.refl _ | with_reducible assumption | with_reducible apply Nw.alloc | with_reducible apply Nw.drew | with_reducible apply Nw.drewN | (with_reducible refine Nw.setCell2 ?_ ?_; focus (first | (simp; done) | (simp; omega))) | with_reducible refine Nw.trans2 (by assumption) ?_))⟩
                      case measure => simp [intOf]; omega
                  · go_wp2
                    go_roundw
                    case rel => exact ⟨k + 1, by omega, by go_num, NetAt.step HY.out (fun x hx => by
                      rw [HX.out] at hx
                      cases hx
                      exact ⟨HB2.out, fun j y hj hy => HN.out j y (by omega) hy⟩), by (repeat (first | with_reducible exact Nw.refl _ | with_reducible assumption | with_reducible apply Nw.alloc | with_reducible apply Nw.drew | with_reducible apply Nw.drewN | (with_reducible refine Nw.setCell2 ?_ ?_; focus (first | (simp; done) | (simp; omega))) | with_reducible refine Nw.trans2 (by assumption) ?_))⟩
                    case measure => simp [intOf]; omega
            · have : k = ws.length := by omega
              subst this
              go_wp2
              go_ret
              refine RetB.yes ?_ (hN0.trans hq)
              rw [HP.out]
              exact ⟨HSG.out, by omega, HY.out⟩
  exact HPost _ rfl

/-! ### The cost -/
def wireCost (x : DWire) : Nat := x.2.2.1.length + litSum x.2.2.2
def netCost (ws : List DWire) : Nat := (ws.map wireCost).sum
theorem wireCost_le (x : DWire) : wireCost x ≤ Ty.tot tWire x := by
  obtain ⟨nm, kd, l, cv⟩ := x
  have h1 := litSum_le cv
  have h2 : Ty.tot tWire (nm, kd, l, cv) = nm.size + (0 + (Ty.tot (.sl 244 tPin) l + Ty.tot (.sl 9 .str) cv)) := rfl
  have h3 : Ty.tot (.sl 9 .str) cv = cv.length + (cv.map (fun s => s.size)).sum := rfl
  have h4 := tot_sl (E := 244) (e := tPin) l
  unfold wireCost
  dsimp only
  omega
theorem sum_map_le {α : Type} (f g : α → Nat) (h : ∀ x, f x ≤ g x) (xs : List α) : (xs.map f).sum ≤ (xs.map g).sum := by
  induction xs with
  | nil => exact Nat.le_refl _
  | cons x xs ih => simp only [List.map_cons, List.sum_cons]; have := h x; omega
theorem netCost_le (ws : List DWire) : netCost ws ≤ Ty.tot (.sl 97 tWire) ws := by
  rw [tot_sl]
  have := sum_map_le wireCost (Ty.tot tWire) wireCost_le ws
  unfold netCost
  omega

set_option maxRecDepth 100000 in
set_option maxHeartbeats 4000000 in
theorem l27Cost_any (a0 a1 : Value) (n : DNetlist) (w : World) (hn : Rep tNetlist w [a0, a1] n) (hz : Ty.tot tNetlist n ≤ 1048576) :
    Calls Try.prog 45 #[.agg #[a0, a1]] w fun e w' => e = .returned (.int .i64 (netCost n.2)) ∧ Nw w w' := by
  obtain ⟨ss, ws⟩ := n
  obtain ⟨rS, rW⟩ := hn.open2 rfl
  dsimp only at rS rW
  obtain ⟨AS, cS, rfl, hlS, hcS⟩ := rS.slv
  obtain ⟨AW, cW, rfl, hlW, hcW⟩ := rW.slv
  have hz2 : Ty.tot (.sl 97 tWire) ws ≤ 1048576 := by
    have h2 : Ty.tot tNetlist (ss, ws) = Ty.tot (.sl 129 tSignal) ss + Ty.tot (.sl 97 tWire) ws := rfl
    omega
  have hmW : ws.length ≤ 1048576 := by rw [tot_sl] at hz2; omega
  have hcost := netCost_le ws
  have hc9 : netCost ws ≤ 1048576 := by omega
  clear hcost hz
  go_enter Try.func45, Try.ntmps45
  go_wp2
  go_loopw [3, 9] (fun n i wr => ∃ k : Nat, k ≤ ws.length ∧ i = .int .i64 k ∧ n = .int .i64 (netCost (ws.take k)) ∧ Nw w wr) (fun _ i _ => ws.length - (intOf i).toNat)
  case atStart => exact ⟨0, Nat.zero_le _, rfl, rfl, by (repeat (first | with_reducible exact Nw.refl _ | with_reducible assumption | with_reducible apply Nw.alloc | with_reducible apply Nw.drew | with_reducible apply Nw.drewN | (with_reducible refine Nw.setCell2 ?_ ?_; focus (first | (simp; done) | (simp; omega))) | with_reducible refine Nw.trans2 (by assumption) ?_))⟩
  case round =>
    obtain ⟨k, hk, rfl, rfl, hq⟩ := hrel
    by_cases hlt : k < ws.length
    · obtain ⟨b, o, v0, v1, v2, v3, rfl, hx, c0, c1, c2, c3⟩ := (rW.nw hq).at4 rfl (List.getElem?_eq_getElem hlt)
      have h1 : netCost (ws.take (k + 1)) = netCost (ws.take k) + wireCost ws[k] := sum_take_succ wireCost ws k hlt
      have h2 : netCost (ws.take (k + 1)) ≤ netCost ws := sum_take_le wireCost ws (k + 1)
      have h3 : Ty.tot tWire ws[k] ≤ 1048576 := by
        have h4 := sum_take_succ (Ty.tot tWire) ws k hlt
        have h5 := sum_take_le (Ty.tot tWire) ws (k + 1)
        rw [tot_sl] at hz2
        omega
      generalize hxk : ws[k] = x at *
      clear hxk
      obtain ⟨nm, kd, l, cv⟩ := x
      have h6 : Ty.tot tWire (nm, kd, l, cv) = nm.size + (0 + (Ty.tot (.sl 244 tPin) l + Ty.tot (.sl 9 .str) cv)) := rfl
      have h7 : wireCost (nm, kd, l, cv) = l.length + litSum cv := rfl
      have h8 : Ty.tot (.sl 9 .str) cv ≤ 1048576 := by omega
      have h9 : netCost (ws.take k) + (l.length + litSum cv) ≤ 1048576 := by omega
      have hll : l.length ≤ 1048576 := by omega
      have hlc : litSum cv ≤ 1048576 := by omega
      obtain ⟨r0, r1, rI, rC⟩ := hx.open4 rfl rfl rfl
      dsimp only at r0 r1 rI rC
      obtain ⟨rfl, hnm⟩ := r0.str_
      obtain ⟨rfl, -⟩ := r1.int_
      obtain ⟨AI, cI, rfl, -, -⟩ := rI.slv
      obtain ⟨AC, cC, rfl, -, -⟩ := rC.slv
      generalize hS : netCost (ws.take k) = S at *
      clear hS h2 h6 h3
      generalize hS' : netCost (ws.take (k + 1)) = S' at *
      have H1 := hid h1
      have H7 := hid h7
      have HS' := hid hS'
      clear h1 h7 hS' r0 r1 rI hx
      have ew1 : IntKind.i64.wrap ((l.length : Int) + (litSum cv : Int)) = (l.length : Int) + (litSum cv : Int) := IntWalk.i64_in _ (by omega)
      have ew2 : IntKind.i64.wrap ((S : Int) + ((l.length : Int) + (litSum cv : Int))) = (S : Int) + ((l.length : Int) + (litSum cv : Int)) := IntWalk.i64_in _ (by omega)
      go_wp2_with fail
      go_quiet ((go_at_call 98; exact Calls.quiet_of_same (l14Literals_any _ cv _ (by exact rC.nw (by (repeat (first | with_reducible exact Nw.refl _ | with_reducible assumption | with_reducible apply Nw.alloc | with_reducible apply Nw.drew | with_reducible apply Nw.drewN | (with_reducible refine Nw.setCell2 ?_ ?_; focus (first | (simp; done) | (simp; omega))) | with_reducible refine Nw.trans2 (by assumption) ?_)))) h8)))
      clear ew1 ew2
      go_wp2
      go_roundw
      case rel => exact ⟨k + 1, by omega, by go_num, by rw [HS'.out, H1.out, H7.out]; go_num, by (repeat (first | with_reducible exact Nw.refl _ | with_reducible assumption | with_reducible apply Nw.alloc | with_reducible apply Nw.drew | with_reducible apply Nw.drewN | (with_reducible refine Nw.setCell2 ?_ ?_; focus (first | (simp; done) | (simp; omega))) | with_reducible refine Nw.trans2 (by assumption) ?_))⟩
      case measure => simp [intOf]; omega
    · have : k = ws.length := by omega
      subst this
      go_wp2
      go_ret
      exact ⟨by simp, hq⟩
end Go.Proofs.Ytbelopdphlllnaa
