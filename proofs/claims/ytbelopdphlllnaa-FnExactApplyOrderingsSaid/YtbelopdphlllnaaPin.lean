/- Pins and wires. -/
import Derived.Test.YtbelopdphlllnaaSig
import Derived.Test.YtbelopdphlllnaaCov
namespace Go.Proofs.Ytbelopdphlllnaa
open Go.RowKit

theorem cell_of_block (w : World) (g : Nat) (c : Array Value) (T : TypeId) (fr : Nat × Nat) (i : Nat) (h : w.heap[g]? = some (.cells c T fr)) : w.cell? ⟨g, i, none⟩ = c[i]? := by
  simp only [World.cell?, h]; rfl
theorem one_new (w : World) (c1 : Array Value) (T1 : TypeId) : ∃ W0, W0 = w.alloc (.cells c1 T1) ∧ Nw w W0 ∧ (∀ i, W0.cell? ⟨w.heap.size, i, none⟩ = c1[i]?) ∧ W0.heap.size = w.heap.size + 1 :=
  ⟨_, rfl, (Nw.refl _).alloc _, fun i => cell_of_block _ _ _ _ _ i (heap_alloc_new w _), by simp⟩
theorem two_new (w : World) (c1 c2 : Array Value) (T1 T2 : TypeId) : ∃ W0, W0 = (w.alloc (.cells c1 T1)).alloc (.cells c2 T2) ∧ Nw w W0 ∧ (∀ i, W0.cell? ⟨w.heap.size, i, none⟩ = c1[i]?) ∧
    (∀ i, W0.cell? ⟨w.heap.size + 1, i, none⟩ = c2[i]?) ∧ W0.heap.size = w.heap.size + 2 := by
  refine ⟨_, rfl, ((Nw.refl _).alloc _).alloc _, fun i => ?_, fun i => ?_, by simp⟩
  · rw [World.cell?_alloc_lt _ _ _ (by simp)]
    exact cell_of_block _ _ _ _ _ i (heap_alloc_new w _)
  · have h := heap_alloc_new (w.alloc (.cells c1 T1)) (.cells c2 T2)
    have e : (w.alloc (.cells c1 T1)).heap.size = w.heap.size + 1 := by simp
    rw [e] at h
    exact cell_of_block _ _ _ _ _ i h

/-! ### arePins, wireOf -/
def PinsIn (n : Int) (l : List DPin) : Prop := ∀ p ∈ l, 0 ≤ p.1 ∧ p.1 ≤ n - 1
theorem enters_arePins1 : Enters Try.prog 202 := fun args W => run_enter Try.func202 (by kernel_rfl) rfl args W
theorem arePins1_any (v0 v1 : Value) (x : DPin) (g : Nat) (n : Int) (W : World) (h0 : 0 ≤ n) (h1 : n ≤ 9223372036854775807) (hx : Rep tPin W [v0, v1] x) (hb : W.cell? ⟨g, 0, none⟩ = some (.int .i64 n)) :
    Calls Try.prog 202 #[.agg #[v0, v1], .pointer (some ⟨g, 0, none⟩)] W (RetB (¬ (0 ≤ x.1 ∧ x.1 ≤ n - 1)) W) := by
  obtain ⟨p, q⟩ := x
  obtain ⟨r0, r1⟩ := hx.open2 rfl
  obtain ⟨rfl, -⟩ := r0.int_
  obtain rfl := r1.bool_
  have hg : g < W.heap.size := World.block_lt_of_cell? W _ hb
  clear hx r0 r1
  go_enter Try.func202, Try.ntmps202
  go_wp2_with fail
  refine (within_any _ _ _ _).mono ?_
  rintro e w1 ⟨b, rfl, hb1, hq1⟩
  have HB := hid hb1
  clear hb1
  go_wp2
  go_ret
  exact RetB.of (by have := HB.out; cases b <;> simp_all) (by (repeat (first | with_reducible exact Nw.refl _ | with_reducible assumption | with_reducible apply Nw.alloc | with_reducible apply Nw.drew | with_reducible apply Nw.drewN | (with_reducible refine Nw.setCell2 ?_ ?_; focus (first | (simp; done) | (simp; omega))) | with_reducible refine Nw.trans2 (by assumption) ?_)))

set_option maxRecDepth 100000 in
theorem arePins_any (v : Value) (l : List DPin) (n : Int) (w : World) (h0 : 0 ≤ n) (h1 : n ≤ 9223372036854775807) (hr : Rep (.sl 244 tPin) w [v] l) :
    Calls Try.prog 152 #[v, .int .i64 n] w (RetB (PinsIn n l) w) := by
  obtain ⟨A, c, rfl, hl, hc⟩ := hr.slv
  go_enter Try.func152, Try.ntmps152
  go_wp2_with fail
  refine (containsFuncPin_any (fun x => ¬ (0 ≤ x.1 ∧ x.1 ≤ n - 1)) l _ _ _ _ (hr.nw (by (repeat (first | with_reducible exact Nw.refl _ | with_reducible assumption | with_reducible apply Nw.alloc | with_reducible apply Nw.drew | with_reducible apply Nw.drewN | (with_reducible refine Nw.setCell2 ?_ ?_; focus (first | (simp; done) | (simp; omega))) | with_reducible refine Nw.trans2 (by assumption) ?_)))) enters_arePins1 ?_).mono ?_
  · intro i y W u0 u1 hi hqW hy
    exact arePins1_any u0 u1 y _ n W h0 h1 hy (by rw [(hqW.cells).1 _ _ (by simp)]; go_simp)
  · rintro e w3 ⟨b3, rfl, hb3, hq3⟩
    have HB3 := hid hb3
    clear hb3
    go_wp2
    go_ret
    refine RetB.of ?_ (by (repeat (first | with_reducible exact Nw.refl _ | with_reducible assumption | with_reducible apply Nw.alloc | with_reducible apply Nw.drew | with_reducible apply Nw.drewN | (with_reducible refine Nw.setCell2 ?_ ?_; focus (first | (simp; done) | (simp; omega))) | with_reducible refine Nw.trans2 (by assumption) ?_)))
    have h3 := HB3.out
    cases b3 with
    | true =>
      simp only [Bool.not_true, Bool.false_eq_true, false_iff]
      obtain ⟨s, hs, hn⟩ := h3.1 rfl
      exact fun h => hn (h s hs)
    | false =>
      simp only [Bool.not_false, true_iff]
      exact fun s hs => Classical.not_not.1 (fun hn => RetB.not h3 ⟨s, hs, hn⟩)

theorem enters_wireOf1 : Enters Try.prog 200 := fun args W => run_enter Try.func200 (by kernel_rfl) rfl args W
theorem wireOf1_any (v0 v1 v2 v3 : Value) (x : DWire) (g : Nat) (s : ByteArray) (W : World) (hx : Rep (tWire) W [v0, v1, v2, v3] x) (hb : W.cell? ⟨g, 0, none⟩ = some (.string s)) :
    Calls Try.prog 200 #[.agg #[v0, v1, v2, v3], .pointer (some ⟨g, 0, none⟩)] W (RetB (x.1 = s) W) := by
  obtain ⟨t, n, i, c⟩ := x
  obtain ⟨r0, -⟩ := hx.open4 rfl rfl rfl
  obtain ⟨rfl, -⟩ := r0.str_
  have hg : g < W.heap.size := World.block_lt_of_cell? W _ hb
  clear hx r0
  by_cases h : t = s
  · have h2 := str_eq_t h
    have H := hid h
    clear h
    go_enter Try.func200, Try.ntmps200
    go_wp2
    go_ret
    exact RetB.of (by simp only [h2, H.out]) ((Nw.refl _).alloc _)
  · have h2 := str_eq_f h
    have H := hid h
    clear h
    go_enter Try.func200, Try.ntmps200
    go_wp2
    go_ret
    exact RetB.of (by simp only [h2, H.out]; simp) ((Nw.refl _).alloc _)
theorem wireOf_any (v : Value) (l : List DWire) (s : ByteArray) (w : World) (hr : Rep (.sl 97 tWire) w [v] l) :
    Calls Try.prog 151 #[v, .string s] w (RetIdx (fun x => x.1 = s) l w) := by
  obtain ⟨A, c, rfl, hl, hc⟩ := hr.slv
  go_enter Try.func151, Try.ntmps151
  go_wp2_with fail
  refine (indexFuncWire_any (fun x => x.1 = s) l _ _ _ _ (hr.nw (by (repeat (first | with_reducible exact Nw.refl _ | with_reducible assumption | with_reducible apply Nw.alloc | with_reducible apply Nw.drew | with_reducible apply Nw.drewN | (with_reducible refine Nw.setCell2 ?_ ?_; focus (first | (simp; done) | (simp; omega))) | with_reducible refine Nw.trans2 (by assumption) ?_)))) enters_wireOf1 ?_).mono ?_
  · intro i y W u0 u1 u2 u3 hi hqW hy
    exact wireOf1_any u0 u1 u2 u3 y _ s W hy (by rw [(hqW.cells).1 _ _ (by simp)]; go_simp)
  · rintro e w3 ⟨r, rfl, hr3, hq3⟩
    have HR := hid hr3
    clear hr3
    go_wp2
    go_ret
    exact ⟨r, rfl, HR.out, by (repeat (first | with_reducible exact Nw.refl _ | with_reducible assumption | with_reducible apply Nw.alloc | with_reducible apply Nw.drew | with_reducible apply Nw.drewN | (with_reducible refine Nw.setCell2 ?_ ?_; focus (first | (simp; done) | (simp; omega))) | with_reducible refine Nw.trans2 (by assumption) ?_))⟩
end Go.Proofs.Ytbelopdphlllnaa
