/- spec.NetlistCost, impl.CountPins, impl.NetlistCost. -/
import Derived.Test.YtbelopdphlllnaaNv
namespace Go.Proofs.Ytbelopdphlllnaa
open Go.RowKit

/-- The cost of a netlist, and whether it is one. -/
def IsCost (ss : List DSignal) (ws : List DWire) (c : Int) (b : Bool) : Prop := (b = true ∧ NetOk ss ws ∧ c = netCost ws) ∨ (b = false ∧ ¬ NetOk ss ws ∧ c = 0)
theorem IsCost.uniq {ss : List DSignal} {ws : List DWire} {c d : Int} {b e : Bool} (h : IsCost ss ws c b) (k : IsCost ss ws d e) : c = d ∧ b = e := by
  rcases h with ⟨rfl, h, rfl⟩ | ⟨rfl, h, rfl⟩ <;> rcases k with ⟨rfl, k, rfl⟩ | ⟨rfl, k, rfl⟩
  · exact ⟨rfl, rfl⟩
  · exact absurd h k
  · exact absurd k h
  · exact ⟨rfl, rfl⟩
/-- Two answers. -/
def RetCost (ss : List DSignal) (ws : List DWire) (w : World) (e : Ending) (w' : World) : Prop := ∃ c b, e = .returned (.tuple #[.int .i64 c, .bool b]) ∧ IsCost ss ws c b ∧ Nw w w'

set_option maxRecDepth 100000 in
set_option maxHeartbeats 2000000 in
theorem specCost_any (a0 a1 : Value) (n : DNetlist) (w : World) (hn : Rep tNetlist w [a0, a1] n) (hz : Ty.tot tNetlist n ≤ 1048576) :
    Calls Try.prog 10 #[.agg #[a0, a1]] w (RetCost n.1 n.2 w) := by
  go_enter Try.func10, Try.ntmps10
  obtain ⟨W0, hW0, hN0, hcA, hsz⟩ := one_new w #[a0, a1] 32
  have c0 := hcA 0
  have c1 := hcA 1
  simp only [List.getElem?_toArray, List.getElem?_cons_zero, List.getElem?_cons_succ] at c0 c1
  have hs0 : w.heap.size < W0.heap.size := by omega
  clear hcA hsz
  go_wp2_with fail
  rw [← hW0]
  have HW := hid hW0
  clear hW0
  have hn1 : Rep tNetlist W0 [a0, a1] n := hn.nw hN0
  refine (l19Good_any _ _ n _ hn1).mono ?_
  rintro e w1 ⟨b1', rfl, hb1, hq1⟩
  obtain ⟨hc1, hf1⟩ := hq1.cells
  cases b1' with
  | false =>
    have HB1 := hid (RetB.not hb1)
    clear hb1
    go_wp2
    go_ret2
    exact ⟨0, false, rfl, .inr ⟨rfl, HB1.out, rfl⟩, hN0.trans hq1⟩
  | true =>
    have HB1 := hid (hb1.1 rfl)
    clear hb1
    go_wp2_with fail
    refine (l27Cost_any _ _ n _ (hn1.nw hq1) hz).mono ?_
    rintro e w2 ⟨rfl, hq2⟩
    go_wp2
    go_ret2
    exact ⟨_, true, rfl, .inl ⟨rfl, HB1.out, rfl⟩, (hN0.trans hq1).trans hq2⟩

def pinSum (ws : List DWire) : Nat := (ws.map (fun x : DWire => x.2.2.1.length)).sum
def coverSum (ws : List DWire) : Nat := (ws.map (fun x : DWire => litSum x.2.2.2)).sum
theorem cost_two (ws : List DWire) : netCost ws = pinSum ws + coverSum ws := by
  induction ws with
  | nil => rfl
  | cons x ws ih =>
    simp only [netCost, pinSum, coverSum, wireCost, List.map_cons, List.sum_cons] at *
    omega

/-- The number of pins, and whether it is a netlist. -/
def RetPins (ss : List DSignal) (ws : List DWire) (w : World) (e : Ending) (w' : World) : Prop :=
  ∃ (c : Int) (b : Bool), e = .returned (.tuple #[.int .i64 c, .bool b]) ∧ ((b = true ∧ NetOk ss ws ∧ c = pinSum ws) ∨ (b = false ∧ ¬ NetOk ss ws ∧ c = 0)) ∧ Nw w w'

set_option maxRecDepth 100000 in
set_option maxHeartbeats 2000000 in
theorem CountPins_any (a0 a1 : Value) (n : DNetlist) (w : World) (hn : Rep tNetlist w [a0, a1] n) (hz : Ty.tot tNetlist n ≤ 1048576) :
    Calls Try.prog 48 #[.agg #[a0, a1]] w (RetPins n.1 n.2 w) := by
  obtain ⟨ss, ws⟩ := n
  obtain ⟨rS, rW⟩ := hn.open2 rfl
  dsimp only at rS rW
  obtain ⟨AS, cS, rfl, hlS, hcS⟩ := rS.slv
  obtain ⟨AW, cW, rfl, hlW, hcW⟩ := rW.slv
  have hz2 : Ty.tot (.sl 97 tWire) ws ≤ 1048576 := by
    have h2 : Ty.tot tNetlist (ss, ws) = Ty.tot (.sl 129 tSignal) ss + Ty.tot (.sl 97 tWire) ws := rfl
    omega
  have hmW : ws.length ≤ 1048576 := by rw [tot_sl] at hz2; omega
  have hc9 : pinSum ws ≤ 1048576 := by
    have := netCost_le ws
    rw [cost_two] at this
    omega
  clear hz
  go_enter Try.func48, Try.ntmps48
  obtain ⟨W0, hW0, hN0, hcA, hsz⟩ := one_new w #[.slice AS ss.length cS, .slice AW ws.length cW] 32
  have a0 := hcA 0
  have a1 := hcA 1
  simp only [List.getElem?_toArray, List.getElem?_cons_zero, List.getElem?_cons_succ] at a0 a1
  have hs0 : w.heap.size < W0.heap.size := by omega
  clear hcA hsz
  go_wp2_with fail
  rw [← hW0]
  have HW := hid hW0
  clear hW0
  refine (IsValidNetlist_any _ _ (ss, ws) _ (by exact hn.nw hN0)).mono ?_
  rintro e w1 ⟨b1', rfl, hb1, hq1⟩
  obtain ⟨hc1, hf1⟩ := hq1.cells
  have hN1 := hN0.trans hq1
  dsimp only at hb1
  cases b1' with
  | false =>
    have HB1 := hid (RetB.not hb1)
    clear hb1
    go_wp2
    go_ret2
    exact ⟨0, false, rfl, .inr ⟨rfl, HB1.out, rfl⟩, hN1⟩
  | true =>
    have HB1 := hid (hb1.1 rfl)
    clear hb1
    go_wp2
    clear hc1 hf1
    go_loopw [4, 13] (fun n i wr => ∃ k : Nat, k ≤ ws.length ∧ i = .int .i64 k ∧ n = .int .i64 (pinSum (ws.take k)) ∧ Nw w wr) (fun _ i _ => ws.length - (intOf i).toNat)
    case atStart => exact ⟨0, Nat.zero_le _, rfl, rfl, hN1⟩
    case round =>
      obtain ⟨k, hk, rfl, rfl, hq⟩ := hrel
      by_cases hlt : k < ws.length
      · obtain ⟨b, o, v0, v1, v2, v3, rfl, hx, c0, c1, c2, c3⟩ := (rW.nw hq).at4 rfl (List.getElem?_eq_getElem hlt)
        have h1 : pinSum (ws.take (k + 1)) = pinSum (ws.take k) + ws[k].2.2.1.length := sum_take_succ _ ws k hlt
        have h2 : pinSum (ws.take (k + 1)) ≤ pinSum ws := sum_take_le _ ws (k + 1)
        generalize hxk : ws[k] = x at *
        clear hxk
        obtain ⟨nm, kd, l, cv⟩ := x
        dsimp only at h1
        have h9 : pinSum (ws.take k) + l.length ≤ 1048576 := by omega
        obtain ⟨r0, r1, rI, rC⟩ := hx.open4 rfl rfl rfl
        dsimp only at r0 r1 rI rC
        obtain ⟨rfl, hnm⟩ := r0.str_
        obtain ⟨rfl, -⟩ := r1.int_
        obtain ⟨AI, cI, rfl, -, -⟩ := rI.slv
        obtain ⟨AC, cC, rfl, -, -⟩ := rC.slv
        generalize hS : pinSum (ws.take k) = S at *
        clear hS h2
        generalize hS' : pinSum (ws.take (k + 1)) = S' at *
        have H1 := hid h1
        have HS' := hid hS'
        clear h1 hS' r0 r1 rI rC hx
        have ew2 : IntKind.i64.wrap ((S : Int) + (l.length : Int)) = (S : Int) + (l.length : Int) := IntWalk.i64_in _ (by omega)
        go_wp2
        clear ew2
        go_roundw
        case rel => exact ⟨k + 1, by omega, by go_num, by rw [HS'.out, H1.out]; go_num, by (repeat (first | with_reducible exact Nw.refl _ | with_reducible assumption | with_reducible apply Nw.alloc | with_reducible apply Nw.drew | with_reducible apply Nw.drewN | (with_reducible refine Nw.setCell2 ?_ ?_; focus (first | (simp; done) | (simp; omega))) | with_reducible refine Nw.trans2 (by assumption) ?_))⟩
        case measure => simp [intOf]; omega
      · have : k = ws.length := by omega
        subst this
        go_wp2
        go_ret2
        exact ⟨_, true, rfl, .inl ⟨rfl, HB1.out, by simp⟩, hq⟩

set_option maxRecDepth 100000 in
set_option maxHeartbeats 2000000 in
theorem implCost_any (a0 a1 : Value) (n : DNetlist) (w : World) (hn : Rep tNetlist w [a0, a1] n) (hz : Ty.tot tNetlist n ≤ 1048576) :
    Calls Try.prog 12 #[.agg #[a0, a1]] w (RetCost n.1 n.2 w) := by
  obtain ⟨ss, ws⟩ := n
  obtain ⟨rS, rW⟩ := hn.open2 rfl
  dsimp only at rS rW
  obtain ⟨AS, cS, rfl, hlS, hcS⟩ := rS.slv
  obtain ⟨AW, cW, rfl, hlW, hcW⟩ := rW.slv
  have hz2 : Ty.tot (.sl 97 tWire) ws ≤ 1048576 := by
    have h2 : Ty.tot tNetlist (ss, ws) = Ty.tot (.sl 129 tSignal) ss + Ty.tot (.sl 97 tWire) ws := rfl
    omega
  have hmW : ws.length ≤ 1048576 := by rw [tot_sl] at hz2; omega
  have hcost := cost_two ws
  have hc9 : pinSum ws + coverSum ws ≤ 1048576 := by
    have := netCost_le ws
    omega
  go_enter Try.func12, Try.ntmps12
  obtain ⟨W0, hW0, hN0, hcA, hsz⟩ := one_new w #[.slice AS ss.length cS, .slice AW ws.length cW] 32
  have a0 := hcA 0
  have a1 := hcA 1
  simp only [List.getElem?_toArray, List.getElem?_cons_zero, List.getElem?_cons_succ] at a0 a1
  have hs0 : w.heap.size < W0.heap.size := by omega
  clear hcA hsz
  have HC := hid hcost
  clear hcost
  go_wp2_with fail
  rw [← hW0]
  have HW := hid hW0
  clear hW0
  refine (CountPins_any _ _ (ss, ws) _ (by exact hn.nw hN0) hz).mono ?_
  rintro e w1 ⟨c, b1', rfl, hb1, hq1⟩
  obtain ⟨hc1, hf1⟩ := hq1.cells
  have hN1 := hN0.trans hq1
  dsimp only at hb1
  rcases hb1 with ⟨rfl, hb1, rfl⟩ | ⟨rfl, hb1, rfl⟩
  · have HB1 := hid hb1
    clear hb1
    go_wp2
    clear hc1 hf1
    go_loopw [4, 18] (fun n i wr => ∃ k : Nat, k ≤ ws.length ∧ i = .int .i64 k ∧ n = .int .i64 (pinSum ws + coverSum (ws.take k) : Nat) ∧ Nw w wr) (fun _ i _ => ws.length - (intOf i).toNat)
    case atStart => exact ⟨0, Nat.zero_le _, rfl, rfl, hN1⟩
    case round =>
      obtain ⟨k, hk, rfl, rfl, hq⟩ := hrel
      by_cases hlt : k < ws.length
      · obtain ⟨b, o, v0, v1, v2, v3, rfl, hx, c0, c1, c2, c3⟩ := (rW.nw hq).at4 rfl (List.getElem?_eq_getElem hlt)
        have h1 : coverSum (ws.take (k + 1)) = coverSum (ws.take k) + litSum ws[k].2.2.2 := sum_take_succ _ ws k hlt
        have h2 : coverSum (ws.take (k + 1)) ≤ coverSum ws := sum_take_le _ ws (k + 1)
        have h3 : Ty.tot tWire ws[k] ≤ 1048576 := by
          have h4 := sum_take_succ (Ty.tot tWire) ws k hlt
          have h5 := sum_take_le (Ty.tot tWire) ws (k + 1)
          rw [tot_sl] at hz2
          omega
        generalize hxk : ws[k] = x at *
        clear hxk
        obtain ⟨nm, kd, l, cv⟩ := x
        dsimp only at h1
        have h6 : Ty.tot tWire (nm, kd, l, cv) = nm.size + (0 + (Ty.tot (.sl 244 tPin) l + Ty.tot (.sl 9 .str) cv)) := rfl
        have h8 : Ty.tot (.sl 9 .str) cv ≤ 1048576 := by omega
        have h9 : pinSum ws + coverSum (ws.take k) + litSum cv ≤ 1048576 := by omega
        obtain ⟨r0, r1, rI, rC⟩ := hx.open4 rfl rfl rfl
        dsimp only at r0 r1 rI rC
        obtain ⟨rfl, hnm⟩ := r0.str_
        obtain ⟨rfl, -⟩ := r1.int_
        obtain ⟨AI, cI, rfl, -, -⟩ := rI.slv
        obtain ⟨AC, cC, rfl, -, -⟩ := rC.slv
        have h10 : pinSum ws + coverSum (ws.take (k + 1)) = (pinSum ws + coverSum (ws.take k)) + litSum cv := by omega
        generalize hS : pinSum ws + coverSum (ws.take k) = S at *
        generalize hS' : pinSum ws + coverSum (ws.take (k + 1)) = S' at *
        generalize hL : litSum cv = L at *
        have H1 := hid h10
        have HS' := hid hS'
        have HL := hid hL
        clear h1 hS' h2 hS h3 h6 h10 hL r0 r1 rI hx hc9 HC
        have ew2 : IntKind.i64.wrap ((S : Int) + (L : Int)) = (S : Int) + (L : Int) := IntWalk.i64_in _ (by omega)
        go_wp2_with fail
        refine (literals_any _ cv _ (by exact rC.nw (by (repeat (first | with_reducible exact Nw.refl _ | with_reducible assumption | with_reducible apply Nw.alloc | with_reducible apply Nw.drew | with_reducible apply Nw.drewN | (with_reducible refine Nw.setCell2 ?_ ?_; focus (first | (simp; done) | (simp; omega))) | with_reducible refine Nw.trans2 (by assumption) ?_)))) h8).mono ?_
        rintro e w3 ⟨rfl, rfl⟩
        rw [HL.out]
        go_wp2
        clear ew2
        go_roundw
        case rel => exact ⟨k + 1, by omega, by go_num, by rw [HS'.out, H1.out]; go_num, by (repeat (first | with_reducible exact Nw.refl _ | with_reducible assumption | with_reducible apply Nw.alloc | with_reducible apply Nw.drew | with_reducible apply Nw.drewN | (with_reducible refine Nw.setCell2 ?_ ?_; focus (first | (simp; done) | (simp; omega))) | with_reducible refine Nw.trans2 (by assumption) ?_))⟩
        case measure => simp [intOf]; omega
      · have : k = ws.length := by omega
        subst this
        go_wp2
        go_ret2
        exact ⟨_, true, rfl, .inl ⟨rfl, HB1.out, by rw [HC.out, List.take_length]⟩, hq⟩
  · have HB1 := hid hb1
    clear hb1
    go_wp2
    go_ret2
    exact ⟨0, false, rfl, .inr ⟨rfl, HB1.out, rfl⟩, hN1⟩
end Go.Proofs.Ytbelopdphlllnaa
