/- Pins and wires. -/
import Derived.Test.YtbelopdphlllnaaSig
import Derived.Test.YtbelopdphlllnaaCov
namespace Go.Proofs.Ytbelopdphlllnaa
open Go.RowKit

theorem cell_of_block (w : World) (g : Nat) (c : Array Value) (T : TypeId) (fr : Nat × Nat) (i : Nat) (h : w.heap[g]? = some (.cells c T fr)) : w.cell? ⟨g, i, none⟩ = c[i]? := by
  simp only [World.cell?, h]; rfl
theorem one_new (w : World) (c1 : Array Value) (T1 : TypeId) : ∃ W0, W0 = w.alloc (.cells c1 T1) ∧ Nw w W0 ∧ (∀ i, W0.cell? ⟨w.heap.size, i, none⟩ = c1[i]?) ∧ W0.heap.size = w.heap.size + 1 :=
  ⟨_, rfl, (Nw.refl _).alloc _, fun i => cell_of_block _ _ _ _ _ i (heap_alloc_new w _), by simp⟩
/-! ### arePins, wireOf -/
def PinsIn (n : Int) (l : List DPin) : Prop := ∀ p ∈ l, 0 ≤ p.1 ∧ p.1 ≤ n - 1
end Go.Proofs.Ytbelopdphlllnaa
