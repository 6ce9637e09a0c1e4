/- laws.FnExactNetlistCost: the walk. -/
import Derived.Test.YtbelopdphlllnaaCost
import Derived.Test.YtbelopdphlllnaaTo
import Derived.Test.YtbelopdphlllnaaEq
import Derived.Deep.RegionHeld3
import Derived.Deep.RegionWith
namespace Go.Proofs.Ytbelopdphlllnaa
open Go.RowKit

set_option maxRecDepth 100000 in
set_option maxHeartbeats 2000000 in
theorem FnExactNetlistCost_any (a0 a1 : Value) (n : DNetlist) (w : World) (hn : Rep lNetlist w [a0, a1] n) :
    Calls Try.prog 3 #[.agg #[a0, a1]] w fun e w' => e = .returned (.bool true) ∧ Nw w w' := by
  go_enter Try.func3, Try.ntmps3
  obtain ⟨W0, hW0, hN0, hcA, hsz⟩ := one_new w #[a0, a1] 25
  have c0 := hcA 0
  have c1 := hcA 1
  simp only [List.getElem?_toArray, List.getElem?_cons_zero, List.getElem?_cons_succ] at c0 c1
  have hs0 : w.heap.size < W0.heap.size := by omega
  clear hcA hsz
  go_wp2_with fail
  rw [← hW0]
  have HW := hid hW0
  clear hW0
  refine (szNetlist_any _ _ n _ _ (hn.nw hN0) (by omega) (by omega)).mono ?_
  rintro e w1 ⟨l, rfl, hl, hq1⟩
  have hN1 := hN0.trans hq1
  obtain ⟨hc1, hf1⟩ := hq1.cells
  unfold CutTo at hl
  rcases hl with ⟨hl, rfl⟩ | ⟨hl, rfl⟩
  · have HL := hid hl
    clear hl
    go_wp2
    go_ret
    exact ⟨rfl, hN1⟩
  · have hz : Ty.tot lNetlist n ≤ 1048576 := by omega
    have hz2 : Ty.tot tNetlist n ≤ 1048576 := hz
    have hd : decide (((1048576 : Int) - (Ty.tot lNetlist n : Nat)) < 0) = false := decide_eq_false (by omega)
    generalize hT : Ty.tot lNetlist n = T at *
    have HT := hid hT
    clear hT hl
    go_wp2_with fail
    refine (toNetlist_any _ _ n _ (hn.nw hN1) (by rw [HT.out]; exact hz)).mono ?_
    rintro e w2 ⟨u0, u1, rfl, hf, hq2⟩
    have hr2 := hf.rep
    clear hf
    go_wp2_with fail
    refine (specCost_any _ _ n _ hr2 hz2).mono ?_
    rintro e w3 ⟨c, b, rfl, hcost, hq3⟩
    have HC := hid hcost
    clear hcost
    have hN3 := (hq1.trans hq2).trans hq3
    clear hc1 hf1
    obtain ⟨hc1, hf1⟩ := hN3.cells
    go_wp2_with fail
    refine (toNetlist_any _ _ n _ (hn.nw (hN0.trans hN3)) (by rw [HT.out]; exact hz)).mono ?_
    rintro e w4 ⟨y0, y1, rfl, hf, hq4⟩
    have hr4 := hf.rep
    clear hf
    have hN4 := hN3.trans hq4
    clear hc1 hf1
    obtain ⟨hc1, hf1⟩ := hN4.cells
    have hs4 : w.heap.size < w4.heap.size := by have := hN4.size; omega
    have o0 : y0.oneCell' = true := hr4.one y0 (by simp)
    have o1 : y1.oneCell' = true := hr4.one y1 (by simp)
    go_wp2_with fail
    obtain ⟨W5, hW5, hN5, hcB, hsz5⟩ := one_new w4 #[y0, y1] 32
    have d0 := hcB 0
    have d1 := hcB 1
    simp only [List.getElem?_toArray, List.getElem?_cons_zero, List.getElem?_cons_succ] at d0 d1
    have b0 : W5.cell? ⟨w.heap.size, 0, none⟩ = some a0 := by rw [hN5.cells.1 _ _ hs4, hc1 _ _ hs0]; exact c0
    have b1 : W5.cell? ⟨w.heap.size, 1, none⟩ = some a1 := by rw [hN5.cells.1 _ _ hs4, hc1 _ _ hs0]; exact c1
    have hs5 : w4.heap.size < W5.heap.size := by omega
    rw [← hW5]
    have HW5 := hid hW5
    clear hW5 hcB hsz5 hc1 hf1 c0 c1
    refine (implCost_any _ _ n _ (hr4.nw hN5) hz2).mono ?_
    rintro e w6 ⟨c', b', rfl, hcost, hq6⟩
    obtain ⟨rfl, rfl⟩ := HC.out.uniq hcost
    clear hcost
    have hN6 := (hN4.trans hN5).trans hq6
    have e0 : w6.cell? ⟨w4.heap.size, 0, none⟩ = some y0 := by rw [hq6.cells.1 _ _ hs5]; exact d0
    have e1 : w6.cell? ⟨w4.heap.size, 1, none⟩ = some y1 := by rw [hq6.cells.1 _ _ hs5]; exact d1
    have e2 : w6.cell? ⟨w.heap.size, 0, none⟩ = some a0 := by rw [hq6.cells.1 _ _ (by omega)]; exact b0
    have e3 : w6.cell? ⟨w.heap.size, 1, none⟩ = some a1 := by rw [hq6.cells.1 _ _ (by omega)]; exact b1
    have g4 : w4.heap.size < w6.heap.size := by have := hq6.size; omega
    have g5 : w.heap.size < w6.heap.size := by omega
    have hr6 : Rep lNetlist w6 [a0, a1] n := hn.nw (hN0.trans hN6)
    have hy6 : Rep tNetlist w6 [y0, y1] n := (hr4.nw hN5).nw hq6
    have hz9 : Ty.tot lNetlist n ≤ 1048576 := by rw [HT.out]; exact hz
    clear d0 d1 b0 b1 HT
    go_wp2_with fail
    have hS6 : ∀ w', Nw w6 w' → w'.cell? ⟨w4.heap.size, 0, none⟩ = some y0 ∧ w'.cell? ⟨w4.heap.size, 1, none⟩ = some y1 ∧ w'.cell? ⟨w.heap.size, 0, none⟩ = some a0 ∧ w'.cell? ⟨w.heap.size, 1, none⟩ = some a1 ∧ Nw w6 w' := fun w' h =>
      ⟨by rw [h.cells.1 _ _ g4]; exact e0, by rw [h.cells.1 _ _ g4]; exact e1, by rw [h.cells.1 _ _ g5]; exact e2, by rw [h.cells.1 _ _ g5]; exact e3, h⟩
    have HS6 := hid hS6
    clear hS6
    go_region_held3 (fun w' => w'.cell? ⟨w4.heap.size, 0, none⟩ = some y0 ∧ w'.cell? ⟨w4.heap.size, 1, none⟩ = some y1 ∧ w'.cell? ⟨w.heap.size, 0, none⟩ = some a0 ∧ w'.cell? ⟨w.heap.size, 1, none⟩ = some a1 ∧ Nw w6 w')
      (first
        | exact HS6.out _ (Nw.refl _).drew
        | exact HS6.out _ hS7
        | exact HS6.out _ hS8)
      (first
        | (go_at_call 11; refine (toNetlist_any _ _ n _ hr6.drew hz9).mono ?_; rintro e w7 ⟨z0, z1, rfl, hf7, hq7⟩; have hr7 := hf7.rep; clear hf7; have hS7 : Nw w6 w7 := (Nw.refl _).drew.trans hq7)
        | (go_at_call 13; refine (eqNetlist_same _ _ _ _ n _ (hy6.nw hS7) hr7).mono ?_; rintro e w8 ⟨rfl, hq8⟩; have hS8 : Nw w6 w8 := hS7.trans hq8))
    all_goals go_wp2
    all_goals go_ret
    all_goals exact ⟨rfl, (hN0.trans hN6).trans hS8⟩
end Go.Proofs.Ytbelopdphlllnaa
