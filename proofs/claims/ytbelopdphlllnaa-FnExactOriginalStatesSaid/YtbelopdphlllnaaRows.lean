/-
  No cell of these rows narrows 'for every input' (looked for: loops, veiled, ifaces, maps, wideKeys, modest, calm, conditions, laid).
  DERIVED. THE GIVEN ROWS OF THIS SEAT. 6 by the template 'for every input the law returns true; each argument reads behind the call as it read before'; 0 by the template 'total and deterministic' (their statements: YtbelopdphlllnaaTotals.lean).
  GIVEN WITH THE SEED: the statements are not yours to turn. If you find one false, say at which input.
  Laid BY PROGRAM, IN A SANDBOX (cutbox-rows.mjs): the forced cells as the released guide's own fill.sh prints them over the translation 5aebd11199ee4c57… (all of the seat's roots in one cut). By AI agents, Wed Nov 11 2026. No macro, syntax, notation, axiom, sorry.
-/
import Derived.Test.YtbelopdphlllnaaChecked
import GoSem.Claim
import GoSem.ClaimJoined
import GoSem.ClaimMapViews
import Derived.JoinedTies
import Derived.KernelRfl
namespace Go.Proofs.Ytbelopdphlllnaa
/- THE CELL 'sum', in the pinned program and in every row, IS THE sha256 OF THE DUMP (.gsa) THAT YtbelopdphlllnaaProg.lean LOADS. Nothing in Lean hashes anything: it is a label: what it is worth is what the hold of that sum in a sandbox is worth. -/
noncomputable def Try.pinned : Pinned := { name := "ytbelopdphlllnaa", sum := "5aebd11199ee4c574a330496b463acdfbd6a15433c8a9e2243541bf0d4e546b4", checked := Try.checked }
namespace Rows
def none {H : Type} : Left H := { results := [], args := [] }

/-- 'laws.FnExactNetlistCost': WHATEVER THE INPUT: true; the input reads as it did. -/
def fnExactNetlistCostSpec : ChangeSpec := { name := "fnExactNetlistCost", fn := fun _ => fun
  | [d] => { results := [.lit (.bool true)], args := [d] }
  | _ => none }
def fnExactNetlistCostRow : OpenClaim := { program := "ytbelopdphlllnaa", sum := "5aebd11199ee4c574a330496b463acdfbd6a15433c8a9e2243541bf0d4e546b4", func := "loop.example/g00862/laws.FnExactNetlistCost", spec := "fnExactNetlistCost", unfollowed := true, recurses := true, plainKeys := false, apart := false }
def FnExactNetlistCostSaid : Prop := fnExactNetlistCostRow.holds Try.pinned (OpenSpec.ofChange fnExactNetlistCostSpec)

/-- ITS FALSE NEIGHBOUR: 'it returns false'. Refute it at one input. -/
def fnExactNetlistCostWrong : ChangeSpec := { name := "fnExactNetlistCost", fn := fun _ => fun
  | [d] => { results := [.lit (.bool false)], args := [d] }
  | _ => none }
def FnExactNetlistCostWrongFalsely : Prop := fnExactNetlistCostRow.holds Try.pinned (OpenSpec.ofChange fnExactNetlistCostWrong)

/-- 'laws.FnExactAddOrdering': WHATEVER THE INPUT: true; the input reads as it did. -/
def fnExactAddOrderingSpec : ChangeSpec := { name := "fnExactAddOrdering", fn := fun _ => fun
  | [d1, d2] => { results := [.lit (.bool true)], args := [d1, d2] }
  | _ => none }
def fnExactAddOrderingRow : OpenClaim := { program := "ytbelopdphlllnaa", sum := "5aebd11199ee4c574a330496b463acdfbd6a15433c8a9e2243541bf0d4e546b4", func := "loop.example/g00862/laws.FnExactAddOrdering", spec := "fnExactAddOrdering", unfollowed := true, recurses := true, plainKeys := false, apart := false }
def FnExactAddOrderingSaid : Prop := fnExactAddOrderingRow.holds Try.pinned (OpenSpec.ofChange fnExactAddOrderingSpec)

/-- ITS FALSE NEIGHBOUR: 'it returns false'. Refute it at one input. -/
def fnExactAddOrderingWrong : ChangeSpec := { name := "fnExactAddOrdering", fn := fun _ => fun
  | [d1, d2] => { results := [.lit (.bool false)], args := [d1, d2] }
  | _ => none }
def FnExactAddOrderingWrongFalsely : Prop := fnExactAddOrderingRow.holds Try.pinned (OpenSpec.ofChange fnExactAddOrderingWrong)

/-- 'laws.FnExactApplyOrderings': WHATEVER THE INPUT: true; the input reads as it did. -/
def fnExactApplyOrderingsSpec : ChangeSpec := { name := "fnExactApplyOrderings", fn := fun _ => fun
  | [d1, d2] => { results := [.lit (.bool true)], args := [d1, d2] }
  | _ => none }
def fnExactApplyOrderingsRow : OpenClaim := { program := "ytbelopdphlllnaa", sum := "5aebd11199ee4c574a330496b463acdfbd6a15433c8a9e2243541bf0d4e546b4", func := "loop.example/g00862/laws.FnExactApplyOrderings", spec := "fnExactApplyOrderings", unfollowed := true, recurses := true, plainKeys := false, apart := false }
def FnExactApplyOrderingsSaid : Prop := fnExactApplyOrderingsRow.holds Try.pinned (OpenSpec.ofChange fnExactApplyOrderingsSpec)

/-- ITS FALSE NEIGHBOUR: 'it returns false'. Refute it at one input. -/
def fnExactApplyOrderingsWrong : ChangeSpec := { name := "fnExactApplyOrderings", fn := fun _ => fun
  | [d1, d2] => { results := [.lit (.bool false)], args := [d1, d2] }
  | _ => none }
def FnExactApplyOrderingsWrongFalsely : Prop := fnExactApplyOrderingsRow.holds Try.pinned (OpenSpec.ofChange fnExactApplyOrderingsWrong)

/-- 'laws.FnExactOriginalStates': WHATEVER THE INPUT: true; the input reads as it did. -/
def fnExactOriginalStatesSpec : ChangeSpec := { name := "fnExactOriginalStates", fn := fun _ => fun
  | [d1, d2, d3] => { results := [.lit (.bool true)], args := [d1, d2, d3] }
  | _ => none }
def fnExactOriginalStatesRow : OpenClaim := { program := "ytbelopdphlllnaa", sum := "5aebd11199ee4c574a330496b463acdfbd6a15433c8a9e2243541bf0d4e546b4", func := "loop.example/g00862/laws.FnExactOriginalStates", spec := "fnExactOriginalStates", unfollowed := true, recurses := true, plainKeys := false, apart := false }
def FnExactOriginalStatesSaid : Prop := fnExactOriginalStatesRow.holds Try.pinned (OpenSpec.ofChange fnExactOriginalStatesSpec)

/-- ITS FALSE NEIGHBOUR: 'it returns false'. Refute it at one input. -/
def fnExactOriginalStatesWrong : ChangeSpec := { name := "fnExactOriginalStates", fn := fun _ => fun
  | [d1, d2, d3] => { results := [.lit (.bool false)], args := [d1, d2, d3] }
  | _ => none }
def FnExactOriginalStatesWrongFalsely : Prop := fnExactOriginalStatesRow.holds Try.pinned (OpenSpec.ofChange fnExactOriginalStatesWrong)

/-- 'laws.FnExactInsertSignal': WHATEVER THE INPUT: true; the input reads as it did. -/
def fnExactInsertSignalSpec : ChangeSpec := { name := "fnExactInsertSignal", fn := fun _ => fun
  | [d1, d2, d3] => { results := [.lit (.bool true)], args := [d1, d2, d3] }
  | _ => none }
def fnExactInsertSignalRow : OpenClaim := { program := "ytbelopdphlllnaa", sum := "5aebd11199ee4c574a330496b463acdfbd6a15433c8a9e2243541bf0d4e546b4", func := "loop.example/g00862/laws.FnExactInsertSignal", spec := "fnExactInsertSignal", unfollowed := true, recurses := true, plainKeys := false, apart := false }
def FnExactInsertSignalSaid : Prop := fnExactInsertSignalRow.holds Try.pinned (OpenSpec.ofChange fnExactInsertSignalSpec)

/-- ITS FALSE NEIGHBOUR: 'it returns false'. Refute it at one input. -/
def fnExactInsertSignalWrong : ChangeSpec := { name := "fnExactInsertSignal", fn := fun _ => fun
  | [d1, d2, d3] => { results := [.lit (.bool false)], args := [d1, d2, d3] }
  | _ => none }
def FnExactInsertSignalWrongFalsely : Prop := fnExactInsertSignalRow.holds Try.pinned (OpenSpec.ofChange fnExactInsertSignalWrong)

/-- 'laws.FnExactPreservesFirings': WHATEVER THE INPUT: true; the input reads as it did. -/
def fnExactPreservesFiringsSpec : ChangeSpec := { name := "fnExactPreservesFirings", fn := fun _ => fun
  | [d1, d2] => { results := [.lit (.bool true)], args := [d1, d2] }
  | _ => none }
def fnExactPreservesFiringsRow : OpenClaim := { program := "ytbelopdphlllnaa", sum := "5aebd11199ee4c574a330496b463acdfbd6a15433c8a9e2243541bf0d4e546b4", func := "loop.example/g00862/laws.FnExactPreservesFirings", spec := "fnExactPreservesFirings", unfollowed := true, recurses := true, plainKeys := false, apart := false }
def FnExactPreservesFiringsSaid : Prop := fnExactPreservesFiringsRow.holds Try.pinned (OpenSpec.ofChange fnExactPreservesFiringsSpec)

/-- ITS FALSE NEIGHBOUR: 'it returns false'. Refute it at one input. -/
def fnExactPreservesFiringsWrong : ChangeSpec := { name := "fnExactPreservesFirings", fn := fun _ => fun
  | [d1, d2] => { results := [.lit (.bool false)], args := [d1, d2] }
  | _ => none }
def FnExactPreservesFiringsWrongFalsely : Prop := fnExactPreservesFiringsRow.holds Try.pinned (OpenSpec.ofChange fnExactPreservesFiringsWrong)

/- THE SECOND FORM. 'bulk': how many values and letters a reading holds, each counted each time it is reached (what is shared counts as often as it is met; a slice's spare places count too). A statement '..UptoSaid' is the law's where the arguments, and the package variables that the reading takes, are together of bulk at most 1048576: NARROWER than '..Said'. Prove '..Said' where nothing that the law and all that it calls make is longer than what came in: it says more and counts as full. Else prove '..UptoSaid'. A law counts once. -/
mutual
def uptoBulk {H : Type} : DataW H → Nat
  | .lit (.string bytes) => bytes.length + 1
  | .lit _ => 1
  | .nil => 1
  | .ptr d => uptoBulk d + 1
  | .slice elems spare => uptoBulkAll elems + uptoBulkAll spare + 1
  | .agg parts => uptoBulkAll parts + 1
  | .iface _ d => uptoBulk d + 1
  | .map entries => uptoBulkEntries entries + 1
  | .held _ => 1
def uptoBulkAll {H : Type} : List (DataW H) → Nat
  | [] => 0
  | d :: r => uptoBulk d + uptoBulkAll r
def uptoBulkEntries {H : Type} : List (Lit × DataW H) → Nat
  | [] => 0
  | x :: r => uptoBulkEntry x + uptoBulkEntries r
def uptoBulkEntry {H : Type} : Lit × DataW H → Nat
  | (.string bytes, d) => bytes.length + uptoBulk d + 1
  | (_, d) => uptoBulk d + 1
 end
def uptoSmall : (H : Type) → List (DataW H) → Bool := fun _ ds => decide (uptoBulkAll ds ≤ 1048576)
def OpenSpec.upto (s : _root_.Go.ChangeSpec) : _root_.Go.OpenSpec := { _root_.Go.OpenSpec.ofChange s with cond := some uptoSmall }

/-- 'laws.FnExactNetlistCost', WHERE WHAT IT READS IS OF BULK AT MOST 1048576: true; the input reads as it did. -/
def fnExactNetlistCostUptoRow : OpenClaim := { program := "ytbelopdphlllnaa", sum := "5aebd11199ee4c574a330496b463acdfbd6a15433c8a9e2243541bf0d4e546b4", func := "loop.example/g00862/laws.FnExactNetlistCost", spec := "fnExactNetlistCost", unfollowed := true, recurses := true, plainKeys := false, apart := false, narrowed := true }
def FnExactNetlistCostUptoSaid : Prop := fnExactNetlistCostUptoRow.holds Try.pinned (OpenSpec.upto fnExactNetlistCostSpec)

/-- 'laws.FnExactAddOrdering', WHERE WHAT IT READS IS OF BULK AT MOST 1048576: true; the input reads as it did. -/
def fnExactAddOrderingUptoRow : OpenClaim := { program := "ytbelopdphlllnaa", sum := "5aebd11199ee4c574a330496b463acdfbd6a15433c8a9e2243541bf0d4e546b4", func := "loop.example/g00862/laws.FnExactAddOrdering", spec := "fnExactAddOrdering", unfollowed := true, recurses := true, plainKeys := false, apart := false, narrowed := true }
def FnExactAddOrderingUptoSaid : Prop := fnExactAddOrderingUptoRow.holds Try.pinned (OpenSpec.upto fnExactAddOrderingSpec)

/-- 'laws.FnExactApplyOrderings', WHERE WHAT IT READS IS OF BULK AT MOST 1048576: true; the input reads as it did. -/
def fnExactApplyOrderingsUptoRow : OpenClaim := { program := "ytbelopdphlllnaa", sum := "5aebd11199ee4c574a330496b463acdfbd6a15433c8a9e2243541bf0d4e546b4", func := "loop.example/g00862/laws.FnExactApplyOrderings", spec := "fnExactApplyOrderings", unfollowed := true, recurses := true, plainKeys := false, apart := false, narrowed := true }
def FnExactApplyOrderingsUptoSaid : Prop := fnExactApplyOrderingsUptoRow.holds Try.pinned (OpenSpec.upto fnExactApplyOrderingsSpec)

/-- 'laws.FnExactOriginalStates', WHERE WHAT IT READS IS OF BULK AT MOST 1048576: true; the input reads as it did. -/
def fnExactOriginalStatesUptoRow : OpenClaim := { program := "ytbelopdphlllnaa", sum := "5aebd11199ee4c574a330496b463acdfbd6a15433c8a9e2243541bf0d4e546b4", func := "loop.example/g00862/laws.FnExactOriginalStates", spec := "fnExactOriginalStates", unfollowed := true, recurses := true, plainKeys := false, apart := false, narrowed := true }
def FnExactOriginalStatesUptoSaid : Prop := fnExactOriginalStatesUptoRow.holds Try.pinned (OpenSpec.upto fnExactOriginalStatesSpec)

/-- 'laws.FnExactInsertSignal', WHERE WHAT IT READS IS OF BULK AT MOST 1048576: true; the input reads as it did. -/
def fnExactInsertSignalUptoRow : OpenClaim := { program := "ytbelopdphlllnaa", sum := "5aebd11199ee4c574a330496b463acdfbd6a15433c8a9e2243541bf0d4e546b4", func := "loop.example/g00862/laws.FnExactInsertSignal", spec := "fnExactInsertSignal", unfollowed := true, recurses := true, plainKeys := false, apart := false, narrowed := true }
def FnExactInsertSignalUptoSaid : Prop := fnExactInsertSignalUptoRow.holds Try.pinned (OpenSpec.upto fnExactInsertSignalSpec)

/-- 'laws.FnExactPreservesFirings', WHERE WHAT IT READS IS OF BULK AT MOST 1048576: true; the input reads as it did. -/
def fnExactPreservesFiringsUptoRow : OpenClaim := { program := "ytbelopdphlllnaa", sum := "5aebd11199ee4c574a330496b463acdfbd6a15433c8a9e2243541bf0d4e546b4", func := "loop.example/g00862/laws.FnExactPreservesFirings", spec := "fnExactPreservesFirings", unfollowed := true, recurses := true, plainKeys := false, apart := false, narrowed := true }
def FnExactPreservesFiringsUptoSaid : Prop := fnExactPreservesFiringsUptoRow.holds Try.pinned (OpenSpec.upto fnExactPreservesFiringsSpec)

end Rows
end Go.Proofs.Ytbelopdphlllnaa
