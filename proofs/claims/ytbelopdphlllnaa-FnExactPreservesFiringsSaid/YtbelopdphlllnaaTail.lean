/- A region that draws its order, whose last operations wait for all the others: the others in whatever order under a condition on the world, then the last ones in the text's order. No program is named here. -/
import Derived.Test.YtbelopdphlllnaaOwn
import Derived.StillTail
import Derived.Deep.RegionHeld3
namespace Go.Proofs.Ytbelopdphlllnaa
open Go.RowKit

/-- The first n operations stand by themselves, their edges lead backwards; the n-th waits for all of them; each later one waits for the one before. -/
def headB (ops : Array Oper) (n : Nat) : Bool :=
  (List.range n).all fun i => match ops[i]? with
    | some o => (o.after.all fun e => !Region.binds .any e || decide (e.on < i)) && (match o.guard with | some (g, _) => decide (g < n) | none => true)
    | none => false
def tailB (l : List Oper) (n : Nat) : Bool :=
  decide (n < l.length) && headB l.toArray n && (List.range n).all (fun i => Region.waitsFor .any l.toArray n i) && Region.chainB .any l.toArray n &&
    Region.seqB .any l.toArray (l.length - n) n (Array.replicate n true ++ Array.replicate (l.length - n) false)
def TailQ (P : Program) (l : List Oper) (n : Nat) (Q : Exit → Act → World → Prop) : Exit → Act → World → Prop
  | .normal, a, w => wpList P l.toArray Q (l.drop n) a w
  | e, a, w => Q e a w

section
variable {P : Program} {Q : Exit → Act → World → Prop} {a : Act} {w : World}

theorem getD_app {n g : Nat} {listed : Array Bool} (hs : listed.size = n) (b : Bool) {i : Nat} (hi : i < n) : (listed ++ Array.replicate g false).getD i b = listed.getD i b := by
  simp [hi, hs, Array.getElem_append_left, show i < n + g by omega]
/-- A head all of whose edges lead backwards: none may come up: all have. -/
theorem all_listed {ops : Array Oper} {n : Nat} {listed : Array Bool} (hH : headB ops n = true) (hs : listed.size = n) (hr : ∀ i, i < n → i ∉ Region.ready .any ops (listed ++ Array.replicate (ops.size - n) false)) (hn : n ≤ ops.size) : ∀ i, i < n → listed.getD i true = true := by
  intro i
  induction i using Nat.strongRecOn with
  | _ i ih =>
    intro hi
    cases h : listed.getD i true with
    | true => rfl
    | false =>
      refine absurd (mem_ready.2 ⟨by rw [getD_app hs _ hi]; exact h, ?_⟩) (hr i hi)
      have h1 := List.all_eq_true.1 hH i (List.mem_range.2 hi)
      cases ho : ops[i]? with
      | none => rw [ho] at h1; cases h1
      | some o =>
        rw [ho] at h1
        simp only [Bool.and_eq_true, Array.all_eq_true_iff_forall_mem, Bool.or_eq_true, Bool.not_eq_true', decide_eq_true_eq] at h1
        refine ⟨o, rfl, fun e he hb => ?_⟩
        have h2 := h1.1 e he
        rw [hb] at h2
        have h3 : e.on < i := by simpa using h2
        rw [getD_app hs _ (by omega)]
        have := ih e.on h3 (by omega)
        have h4 : e.on < listed.size := by omega
        simpa [h4] using this

end
end Go.Proofs.Ytbelopdphlllnaa
