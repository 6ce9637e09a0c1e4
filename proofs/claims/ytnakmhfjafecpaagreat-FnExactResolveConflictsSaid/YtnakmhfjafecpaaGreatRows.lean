/-
  No cell of these rows narrows 'for every input' (looked for: loops, veiled, ifaces, maps, wideKeys, modest, calm, conditions, laid).
  DERIVED. THE GIVEN ROWS OF THIS SEAT. 8 by the template 'for every input the law returns true; each argument reads behind the call as it read before'; 0 by the template 'total and deterministic' (their statements: YtnakmhfjafecpaaGreatTotals.lean).
  GIVEN WITH THE SEED: the statements are not yours to turn. If you find one false, say at which input.
  Laid BY PROGRAM, IN A SANDBOX (cutbox-rows.mjs): the forced cells as the released guide's own fill.sh prints them over the translation 1d597b463f5ed314… (all of the seat's roots in one cut). By AI agents, Wed Nov 11 2026. No macro, syntax, notation, axiom, sorry.
-/
import Derived.Test.YtnakmhfjafecpaaGreatChecked
import GoSem.Claim
import GoSem.ClaimJoined
import GoSem.ClaimMapViews
import Derived.JoinedTies
import Derived.KernelRfl
namespace Go.Proofs.YtnakmhfjafecpaaGreat
/- THE CELL 'sum', in the pinned program and in every row, IS THE sha256 OF THE DUMP (.gsa) THAT YtnakmhfjafecpaaGreatProg.lean LOADS. Nothing in Lean hashes anything: it is a label: what it is worth is what the hold of that sum in a sandbox is worth. -/
noncomputable def Tryz.pinned : Pinned := { name := "ytnakmhfjafecpaagreat", sum := "1d597b463f5ed3140ed53a4d645e095caedc230324bc99c52ec567492513d26b", checked := Tryz.checked }
namespace Rows
def none {H : Type} : Left H := { results := [], args := [] }

/-- 'laws.FnExactConcurrentlyEnabled': WHATEVER THE INPUT: true; the input reads as it did. -/
def fnExactConcurrentlyEnabledSpec : ChangeSpec := { name := "fnExactConcurrentlyEnabled", fn := fun _ => fun
  | [d] => { results := [.lit (.bool true)], args := [d] }
  | _ => none }
def fnExactConcurrentlyEnabledRow : OpenClaim := { program := "ytnakmhfjafecpaagreat", sum := "1d597b463f5ed3140ed53a4d645e095caedc230324bc99c52ec567492513d26b", func := "loop.example/g00862/laws.FnExactConcurrentlyEnabled", spec := "fnExactConcurrentlyEnabled", unfollowed := true, recurses := true, plainKeys := false, apart := false }
def FnExactConcurrentlyEnabledSaid : Prop := fnExactConcurrentlyEnabledRow.holds Tryz.pinned (OpenSpec.ofChange fnExactConcurrentlyEnabledSpec)

/-- ITS FALSE NEIGHBOUR: 'it returns false'. Refute it at one input. -/
def fnExactConcurrentlyEnabledWrong : ChangeSpec := { name := "fnExactConcurrentlyEnabled", fn := fun _ => fun
  | [d] => { results := [.lit (.bool false)], args := [d] }
  | _ => none }
def FnExactConcurrentlyEnabledWrongFalsely : Prop := fnExactConcurrentlyEnabledRow.holds Tryz.pinned (OpenSpec.ofChange fnExactConcurrentlyEnabledWrong)

/-- 'laws.FnExactInsertionCost': WHATEVER THE INPUT: true; the input reads as it did. -/
def fnExactInsertionCostSpec : ChangeSpec := { name := "fnExactInsertionCost", fn := fun _ => fun
  | [d1, d2] => { results := [.lit (.bool true)], args := [d1, d2] }
  | _ => none }
def fnExactInsertionCostRow : OpenClaim := { program := "ytnakmhfjafecpaagreat", sum := "1d597b463f5ed3140ed53a4d645e095caedc230324bc99c52ec567492513d26b", func := "loop.example/g00862/laws.FnExactInsertionCost", spec := "fnExactInsertionCost", unfollowed := true, recurses := true, plainKeys := false, apart := false }
def FnExactInsertionCostSaid : Prop := fnExactInsertionCostRow.holds Tryz.pinned (OpenSpec.ofChange fnExactInsertionCostSpec)

/-- ITS FALSE NEIGHBOUR: 'it returns false'. Refute it at one input. -/
def fnExactInsertionCostWrong : ChangeSpec := { name := "fnExactInsertionCost", fn := fun _ => fun
  | [d1, d2] => { results := [.lit (.bool false)], args := [d1, d2] }
  | _ => none }
def FnExactInsertionCostWrongFalsely : Prop := fnExactInsertionCostRow.holds Tryz.pinned (OpenSpec.ofChange fnExactInsertionCostWrong)

/-- 'laws.FnExactBestInsertion': WHATEVER THE INPUT: true; the input reads as it did. -/
def fnExactBestInsertionSpec : ChangeSpec := { name := "fnExactBestInsertion", fn := fun _ => fun
  | [d] => { results := [.lit (.bool true)], args := [d] }
  | _ => none }
def fnExactBestInsertionRow : OpenClaim := { program := "ytnakmhfjafecpaagreat", sum := "1d597b463f5ed3140ed53a4d645e095caedc230324bc99c52ec567492513d26b", func := "loop.example/g00862/laws.FnExactBestInsertion", spec := "fnExactBestInsertion", unfollowed := true, recurses := true, plainKeys := false, apart := false }
def FnExactBestInsertionSaid : Prop := fnExactBestInsertionRow.holds Tryz.pinned (OpenSpec.ofChange fnExactBestInsertionSpec)

/-- ITS FALSE NEIGHBOUR: 'it returns false'. Refute it at one input. -/
def fnExactBestInsertionWrong : ChangeSpec := { name := "fnExactBestInsertion", fn := fun _ => fun
  | [d] => { results := [.lit (.bool false)], args := [d] }
  | _ => none }
def FnExactBestInsertionWrongFalsely : Prop := fnExactBestInsertionRow.holds Tryz.pinned (OpenSpec.ofChange fnExactBestInsertionWrong)

/-- 'laws.FnExactCandidateInsertions': WHATEVER THE INPUT: true; the input reads as it did. -/
def fnExactCandidateInsertionsSpec : ChangeSpec := { name := "fnExactCandidateInsertions", fn := fun _ => fun
  | [d] => { results := [.lit (.bool true)], args := [d] }
  | _ => none }
def fnExactCandidateInsertionsRow : OpenClaim := { program := "ytnakmhfjafecpaagreat", sum := "1d597b463f5ed3140ed53a4d645e095caedc230324bc99c52ec567492513d26b", func := "loop.example/g00862/laws.FnExactCandidateInsertions", spec := "fnExactCandidateInsertions", unfollowed := true, recurses := true, plainKeys := false, apart := false }
def FnExactCandidateInsertionsSaid : Prop := fnExactCandidateInsertionsRow.holds Tryz.pinned (OpenSpec.ofChange fnExactCandidateInsertionsSpec)

/-- ITS FALSE NEIGHBOUR: 'it returns false'. Refute it at one input. -/
def fnExactCandidateInsertionsWrong : ChangeSpec := { name := "fnExactCandidateInsertions", fn := fun _ => fun
  | [d] => { results := [.lit (.bool false)], args := [d] }
  | _ => none }
def FnExactCandidateInsertionsWrongFalsely : Prop := fnExactCandidateInsertionsRow.holds Tryz.pinned (OpenSpec.ofChange fnExactCandidateInsertionsWrong)

/-- 'laws.FnExactAdmissibleOrderings': WHATEVER THE INPUT: true; the input reads as it did. -/
def fnExactAdmissibleOrderingsSpec : ChangeSpec := { name := "fnExactAdmissibleOrderings", fn := fun _ => fun
  | [d] => { results := [.lit (.bool true)], args := [d] }
  | _ => none }
def fnExactAdmissibleOrderingsRow : OpenClaim := { program := "ytnakmhfjafecpaagreat", sum := "1d597b463f5ed3140ed53a4d645e095caedc230324bc99c52ec567492513d26b", func := "loop.example/g00862/laws.FnExactAdmissibleOrderings", spec := "fnExactAdmissibleOrderings", unfollowed := true, recurses := true, plainKeys := false, apart := false }
def FnExactAdmissibleOrderingsSaid : Prop := fnExactAdmissibleOrderingsRow.holds Tryz.pinned (OpenSpec.ofChange fnExactAdmissibleOrderingsSpec)

/-- ITS FALSE NEIGHBOUR: 'it returns false'. Refute it at one input. -/
def fnExactAdmissibleOrderingsWrong : ChangeSpec := { name := "fnExactAdmissibleOrderings", fn := fun _ => fun
  | [d] => { results := [.lit (.bool false)], args := [d] }
  | _ => none }
def FnExactAdmissibleOrderingsWrongFalsely : Prop := fnExactAdmissibleOrderingsRow.holds Tryz.pinned (OpenSpec.ofChange fnExactAdmissibleOrderingsWrong)

/-- 'laws.FnExactOrderingCost': WHATEVER THE INPUT: true; the input reads as it did. -/
def fnExactOrderingCostSpec : ChangeSpec := { name := "fnExactOrderingCost", fn := fun _ => fun
  | [d1, d2] => { results := [.lit (.bool true)], args := [d1, d2] }
  | _ => none }
def fnExactOrderingCostRow : OpenClaim := { program := "ytnakmhfjafecpaagreat", sum := "1d597b463f5ed3140ed53a4d645e095caedc230324bc99c52ec567492513d26b", func := "loop.example/g00862/laws.FnExactOrderingCost", spec := "fnExactOrderingCost", unfollowed := true, recurses := true, plainKeys := false, apart := false }
def FnExactOrderingCostSaid : Prop := fnExactOrderingCostRow.holds Tryz.pinned (OpenSpec.ofChange fnExactOrderingCostSpec)

/-- ITS FALSE NEIGHBOUR: 'it returns false'. Refute it at one input. -/
def fnExactOrderingCostWrong : ChangeSpec := { name := "fnExactOrderingCost", fn := fun _ => fun
  | [d1, d2] => { results := [.lit (.bool false)], args := [d1, d2] }
  | _ => none }
def FnExactOrderingCostWrongFalsely : Prop := fnExactOrderingCostRow.holds Tryz.pinned (OpenSpec.ofChange fnExactOrderingCostWrong)

/-- 'laws.FnExactBestOrdering': WHATEVER THE INPUT: true; the input reads as it did. -/
def fnExactBestOrderingSpec : ChangeSpec := { name := "fnExactBestOrdering", fn := fun _ => fun
  | [d] => { results := [.lit (.bool true)], args := [d] }
  | _ => none }
def fnExactBestOrderingRow : OpenClaim := { program := "ytnakmhfjafecpaagreat", sum := "1d597b463f5ed3140ed53a4d645e095caedc230324bc99c52ec567492513d26b", func := "loop.example/g00862/laws.FnExactBestOrdering", spec := "fnExactBestOrdering", unfollowed := true, recurses := true, plainKeys := false, apart := false }
def FnExactBestOrderingSaid : Prop := fnExactBestOrderingRow.holds Tryz.pinned (OpenSpec.ofChange fnExactBestOrderingSpec)

/-- ITS FALSE NEIGHBOUR: 'it returns false'. Refute it at one input. -/
def fnExactBestOrderingWrong : ChangeSpec := { name := "fnExactBestOrdering", fn := fun _ => fun
  | [d] => { results := [.lit (.bool false)], args := [d] }
  | _ => none }
def FnExactBestOrderingWrongFalsely : Prop := fnExactBestOrderingRow.holds Tryz.pinned (OpenSpec.ofChange fnExactBestOrderingWrong)

/-- 'laws.FnExactResolveConflicts': WHATEVER THE INPUT: true; the input reads as it did. -/
def fnExactResolveConflictsSpec : ChangeSpec := { name := "fnExactResolveConflicts", fn := fun _ => fun
  | [d] => { results := [.lit (.bool true)], args := [d] }
  | _ => none }
def fnExactResolveConflictsRow : OpenClaim := { program := "ytnakmhfjafecpaagreat", sum := "1d597b463f5ed3140ed53a4d645e095caedc230324bc99c52ec567492513d26b", func := "loop.example/g00862/laws.FnExactResolveConflicts", spec := "fnExactResolveConflicts", unfollowed := true, recurses := true, plainKeys := false, apart := false }
def FnExactResolveConflictsSaid : Prop := fnExactResolveConflictsRow.holds Tryz.pinned (OpenSpec.ofChange fnExactResolveConflictsSpec)

/-- ITS FALSE NEIGHBOUR: 'it returns false'. Refute it at one input. -/
def fnExactResolveConflictsWrong : ChangeSpec := { name := "fnExactResolveConflicts", fn := fun _ => fun
  | [d] => { results := [.lit (.bool false)], args := [d] }
  | _ => none }
def FnExactResolveConflictsWrongFalsely : Prop := fnExactResolveConflictsRow.holds Tryz.pinned (OpenSpec.ofChange fnExactResolveConflictsWrong)

/- THE SECOND FORM. 'bulk': how many values and letters a reading holds, each counted each time it is reached (what is shared counts as often as it is met; a slice's spare places count too). A statement '..UptoSaid' is the law's where the arguments, and the package variables that the reading takes, are together of bulk at most 1048576: NARROWER than '..Said'. Prove '..Said' where nothing that the law and all that it calls make is longer than what came in: it says more and counts as full. Else prove '..UptoSaid'. A law counts once. -/
mutual
def uptoBulk {H : Type} : DataW H → Nat
  | .lit (.string bytes) => bytes.length + 1
  | .lit _ => 1
  | .nil => 1
  | .ptr d => uptoBulk d + 1
  | .slice elems spare => uptoBulkAll elems + uptoBulkAll spare + 1
  | .agg parts => uptoBulkAll parts + 1
  | .iface _ d => uptoBulk d + 1
  | .map entries => uptoBulkEntries entries + 1
  | .held _ => 1
def uptoBulkAll {H : Type} : List (DataW H) → Nat
  | [] => 0
  | d :: r => uptoBulk d + uptoBulkAll r
def uptoBulkEntries {H : Type} : List (Lit × DataW H) → Nat
  | [] => 0
  | x :: r => uptoBulkEntry x + uptoBulkEntries r
def uptoBulkEntry {H : Type} : Lit × DataW H → Nat
  | (.string bytes, d) => bytes.length + uptoBulk d + 1
  | (_, d) => uptoBulk d + 1
 end
def uptoSmall : (H : Type) → List (DataW H) → Bool := fun _ ds => decide (uptoBulkAll ds ≤ 1048576)
def OpenSpec.upto (s : _root_.Go.ChangeSpec) : _root_.Go.OpenSpec := { _root_.Go.OpenSpec.ofChange s with cond := some uptoSmall }

/-- 'laws.FnExactConcurrentlyEnabled', WHERE WHAT IT READS IS OF BULK AT MOST 1048576: true; the input reads as it did. -/
def fnExactConcurrentlyEnabledUptoRow : OpenClaim := { program := "ytnakmhfjafecpaagreat", sum := "1d597b463f5ed3140ed53a4d645e095caedc230324bc99c52ec567492513d26b", func := "loop.example/g00862/laws.FnExactConcurrentlyEnabled", spec := "fnExactConcurrentlyEnabled", unfollowed := true, recurses := true, plainKeys := false, apart := false, narrowed := true }
def FnExactConcurrentlyEnabledUptoSaid : Prop := fnExactConcurrentlyEnabledUptoRow.holds Tryz.pinned (OpenSpec.upto fnExactConcurrentlyEnabledSpec)

/-- 'laws.FnExactInsertionCost', WHERE WHAT IT READS IS OF BULK AT MOST 1048576: true; the input reads as it did. -/
def fnExactInsertionCostUptoRow : OpenClaim := { program := "ytnakmhfjafecpaagreat", sum := "1d597b463f5ed3140ed53a4d645e095caedc230324bc99c52ec567492513d26b", func := "loop.example/g00862/laws.FnExactInsertionCost", spec := "fnExactInsertionCost", unfollowed := true, recurses := true, plainKeys := false, apart := false, narrowed := true }
def FnExactInsertionCostUptoSaid : Prop := fnExactInsertionCostUptoRow.holds Tryz.pinned (OpenSpec.upto fnExactInsertionCostSpec)

/-- 'laws.FnExactBestInsertion', WHERE WHAT IT READS IS OF BULK AT MOST 1048576: true; the input reads as it did. -/
def fnExactBestInsertionUptoRow : OpenClaim := { program := "ytnakmhfjafecpaagreat", sum := "1d597b463f5ed3140ed53a4d645e095caedc230324bc99c52ec567492513d26b", func := "loop.example/g00862/laws.FnExactBestInsertion", spec := "fnExactBestInsertion", unfollowed := true, recurses := true, plainKeys := false, apart := false, narrowed := true }
def FnExactBestInsertionUptoSaid : Prop := fnExactBestInsertionUptoRow.holds Tryz.pinned (OpenSpec.upto fnExactBestInsertionSpec)

/-- 'laws.FnExactCandidateInsertions', WHERE WHAT IT READS IS OF BULK AT MOST 1048576: true; the input reads as it did. -/
def fnExactCandidateInsertionsUptoRow : OpenClaim := { program := "ytnakmhfjafecpaagreat", sum := "1d597b463f5ed3140ed53a4d645e095caedc230324bc99c52ec567492513d26b", func := "loop.example/g00862/laws.FnExactCandidateInsertions", spec := "fnExactCandidateInsertions", unfollowed := true, recurses := true, plainKeys := false, apart := false, narrowed := true }
def FnExactCandidateInsertionsUptoSaid : Prop := fnExactCandidateInsertionsUptoRow.holds Tryz.pinned (OpenSpec.upto fnExactCandidateInsertionsSpec)

/-- 'laws.FnExactAdmissibleOrderings', WHERE WHAT IT READS IS OF BULK AT MOST 1048576: true; the input reads as it did. -/
def fnExactAdmissibleOrderingsUptoRow : OpenClaim := { program := "ytnakmhfjafecpaagreat", sum := "1d597b463f5ed3140ed53a4d645e095caedc230324bc99c52ec567492513d26b", func := "loop.example/g00862/laws.FnExactAdmissibleOrderings", spec := "fnExactAdmissibleOrderings", unfollowed := true, recurses := true, plainKeys := false, apart := false, narrowed := true }
def FnExactAdmissibleOrderingsUptoSaid : Prop := fnExactAdmissibleOrderingsUptoRow.holds Tryz.pinned (OpenSpec.upto fnExactAdmissibleOrderingsSpec)

/-- 'laws.FnExactOrderingCost', WHERE WHAT IT READS IS OF BULK AT MOST 1048576: true; the input reads as it did. -/
def fnExactOrderingCostUptoRow : OpenClaim := { program := "ytnakmhfjafecpaagreat", sum := "1d597b463f5ed3140ed53a4d645e095caedc230324bc99c52ec567492513d26b", func := "loop.example/g00862/laws.FnExactOrderingCost", spec := "fnExactOrderingCost", unfollowed := true, recurses := true, plainKeys := false, apart := false, narrowed := true }
def FnExactOrderingCostUptoSaid : Prop := fnExactOrderingCostUptoRow.holds Tryz.pinned (OpenSpec.upto fnExactOrderingCostSpec)

/-- 'laws.FnExactBestOrdering', WHERE WHAT IT READS IS OF BULK AT MOST 1048576: true; the input reads as it did. -/
def fnExactBestOrderingUptoRow : OpenClaim := { program := "ytnakmhfjafecpaagreat", sum := "1d597b463f5ed3140ed53a4d645e095caedc230324bc99c52ec567492513d26b", func := "loop.example/g00862/laws.FnExactBestOrdering", spec := "fnExactBestOrdering", unfollowed := true, recurses := true, plainKeys := false, apart := false, narrowed := true }
def FnExactBestOrderingUptoSaid : Prop := fnExactBestOrderingUptoRow.holds Tryz.pinned (OpenSpec.upto fnExactBestOrderingSpec)

/-- 'laws.FnExactResolveConflicts', WHERE WHAT IT READS IS OF BULK AT MOST 1048576: true; the input reads as it did. -/
def fnExactResolveConflictsUptoRow : OpenClaim := { program := "ytnakmhfjafecpaagreat", sum := "1d597b463f5ed3140ed53a4d645e095caedc230324bc99c52ec567492513d26b", func := "loop.example/g00862/laws.FnExactResolveConflicts", spec := "fnExactResolveConflicts", unfollowed := true, recurses := true, plainKeys := false, apart := false, narrowed := true }
def FnExactResolveConflictsUptoSaid : Prop := fnExactResolveConflictsUptoRow.holds Tryz.pinned (OpenSpec.upto fnExactResolveConflictsSpec)

end Rows
end Go.Proofs.YtnakmhfjafecpaaGreat
