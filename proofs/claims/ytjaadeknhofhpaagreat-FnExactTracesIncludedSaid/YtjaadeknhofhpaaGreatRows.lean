/-
  No cell of these rows narrows 'for every input' (looked for: loops, veiled, ifaces, maps, wideKeys, modest, calm, conditions, laid).
  DERIVED. THE GIVEN ROWS OF THIS SEAT. 6 by the template 'for every input the law returns true; each argument reads behind the call as it read before'; 0 by the template 'total and deterministic' (their statements: YtjaadeknhofhpaaGreatTotals.lean).
  GIVEN WITH THE SEED: the statements are not yours to turn. If you find one false, say at which input.
  Laid BY PROGRAM, IN A SANDBOX (cutbox-rows.mjs): the forced cells as the released guide's own fill.sh prints them over the translation b1b63c754342ddc9… (all of the seat's roots in one cut). By AI agents, Wed Nov 11 2026. No macro, syntax, notation, axiom, sorry.
-/
import Derived.Test.YtjaadeknhofhpaaGreatChecked
import GoSem.Claim
import GoSem.ClaimJoined
import GoSem.ClaimMapViews
import Derived.JoinedTies
import Derived.KernelRfl
namespace Go.Proofs.YtjaadeknhofhpaaGreat
/- THE CELL 'sum', in the pinned program and in every row, IS THE sha256 OF THE DUMP (.gsa) THAT YtjaadeknhofhpaaGreatProg.lean LOADS. Nothing in Lean hashes anything: it is a label: what it is worth is what the hold of that sum in a sandbox is worth. -/
noncomputable def Tryz.pinned : Pinned := { name := "ytjaadeknhofhpaagreat", sum := "b1b63c754342ddc99ccbec3f8b6ea8e3fde8cc72ae259a48acb96b930804d6be", checked := Tryz.checked }
namespace Rows
def none {H : Type} : Left H := { results := [], args := [] }

/-- 'laws.FnBestOrder': WHATEVER THE INPUT: true; the input reads as it did. -/
def fnBestOrderSpec : ChangeSpec := { name := "fnBestOrder", fn := fun _ => fun
  | [d1, d2] => { results := [.lit (.bool true)], args := [d1, d2] }
  | _ => none }
def fnBestOrderRow : OpenClaim := { program := "ytjaadeknhofhpaagreat", sum := "b1b63c754342ddc99ccbec3f8b6ea8e3fde8cc72ae259a48acb96b930804d6be", func := "loop.example/g00862/laws.FnBestOrder", spec := "fnBestOrder", unfollowed := true, recurses := true, plainKeys := false, apart := false }
def FnBestOrderSaid : Prop := fnBestOrderRow.holds Tryz.pinned (OpenSpec.ofChange fnBestOrderSpec)

/-- ITS FALSE NEIGHBOUR: 'it returns false'. Refute it at one input. -/
def fnBestOrderWrong : ChangeSpec := { name := "fnBestOrder", fn := fun _ => fun
  | [d1, d2] => { results := [.lit (.bool false)], args := [d1, d2] }
  | _ => none }
def FnBestOrderWrongFalsely : Prop := fnBestOrderRow.holds Tryz.pinned (OpenSpec.ofChange fnBestOrderWrong)

/-- 'laws.FnCheapest': WHATEVER THE INPUT: true; the input reads as it did. -/
def fnCheapestSpec : ChangeSpec := { name := "fnCheapest", fn := fun _ => fun
  | [d1, d2] => { results := [.lit (.bool true)], args := [d1, d2] }
  | _ => none }
def fnCheapestRow : OpenClaim := { program := "ytjaadeknhofhpaagreat", sum := "b1b63c754342ddc99ccbec3f8b6ea8e3fde8cc72ae259a48acb96b930804d6be", func := "loop.example/g00862/laws.FnCheapest", spec := "fnCheapest", unfollowed := true, recurses := true, plainKeys := false, apart := false }
def FnCheapestSaid : Prop := fnCheapestRow.holds Tryz.pinned (OpenSpec.ofChange fnCheapestSpec)

/-- ITS FALSE NEIGHBOUR: 'it returns false'. Refute it at one input. -/
def fnCheapestWrong : ChangeSpec := { name := "fnCheapest", fn := fun _ => fun
  | [d1, d2] => { results := [.lit (.bool false)], args := [d1, d2] }
  | _ => none }
def FnCheapestWrongFalsely : Prop := fnCheapestRow.holds Tryz.pinned (OpenSpec.ofChange fnCheapestWrong)

/-- 'laws.FnExactTracesIncluded': WHATEVER THE INPUT: true; the input reads as it did. -/
def fnExactTracesIncludedSpec : ChangeSpec := { name := "fnExactTracesIncluded", fn := fun _ => fun
  | [d1, d2, d3] => { results := [.lit (.bool true)], args := [d1, d2, d3] }
  | _ => none }
def fnExactTracesIncludedRow : OpenClaim := { program := "ytjaadeknhofhpaagreat", sum := "b1b63c754342ddc99ccbec3f8b6ea8e3fde8cc72ae259a48acb96b930804d6be", func := "loop.example/g00862/laws.FnExactTracesIncluded", spec := "fnExactTracesIncluded", unfollowed := true, recurses := true, plainKeys := false, apart := false }
def FnExactTracesIncludedSaid : Prop := fnExactTracesIncludedRow.holds Tryz.pinned (OpenSpec.ofChange fnExactTracesIncludedSpec)

/-- ITS FALSE NEIGHBOUR: 'it returns false'. Refute it at one input. -/
def fnExactTracesIncludedWrong : ChangeSpec := { name := "fnExactTracesIncluded", fn := fun _ => fun
  | [d1, d2, d3] => { results := [.lit (.bool false)], args := [d1, d2, d3] }
  | _ => none }
def FnExactTracesIncludedWrongFalsely : Prop := fnExactTracesIncludedRow.holds Tryz.pinned (OpenSpec.ofChange fnExactTracesIncludedWrong)

/-- 'laws.FnOrders': WHATEVER THE INPUT: true; the input reads as it did. -/
def fnOrdersSpec : ChangeSpec := { name := "fnOrders", fn := fun _ => fun
  | [d1, d2] => { results := [.lit (.bool true)], args := [d1, d2] }
  | _ => none }
def fnOrdersRow : OpenClaim := { program := "ytjaadeknhofhpaagreat", sum := "b1b63c754342ddc99ccbec3f8b6ea8e3fde8cc72ae259a48acb96b930804d6be", func := "loop.example/g00862/laws.FnOrders", spec := "fnOrders", unfollowed := true, recurses := true, plainKeys := false, apart := false }
def FnOrdersSaid : Prop := fnOrdersRow.holds Tryz.pinned (OpenSpec.ofChange fnOrdersSpec)

/-- ITS FALSE NEIGHBOUR: 'it returns false'. Refute it at one input. -/
def fnOrdersWrong : ChangeSpec := { name := "fnOrders", fn := fun _ => fun
  | [d1, d2] => { results := [.lit (.bool false)], args := [d1, d2] }
  | _ => none }
def FnOrdersWrongFalsely : Prop := fnOrdersRow.holds Tryz.pinned (OpenSpec.ofChange fnOrdersWrong)

/-- 'laws.FnInserted': WHATEVER THE INPUT: true; the input reads as it did. -/
def fnInsertedSpec : ChangeSpec := { name := "fnInserted", fn := fun _ => fun
  | [d1, d2] => { results := [.lit (.bool true)], args := [d1, d2] }
  | _ => none }
def fnInsertedRow : OpenClaim := { program := "ytjaadeknhofhpaagreat", sum := "b1b63c754342ddc99ccbec3f8b6ea8e3fde8cc72ae259a48acb96b930804d6be", func := "loop.example/g00862/laws.FnInserted", spec := "fnInserted", unfollowed := true, recurses := true, plainKeys := false, apart := false }
def FnInsertedSaid : Prop := fnInsertedRow.holds Tryz.pinned (OpenSpec.ofChange fnInsertedSpec)

/-- ITS FALSE NEIGHBOUR: 'it returns false'. Refute it at one input. -/
def fnInsertedWrong : ChangeSpec := { name := "fnInserted", fn := fun _ => fun
  | [d1, d2] => { results := [.lit (.bool false)], args := [d1, d2] }
  | _ => none }
def FnInsertedWrongFalsely : Prop := fnInsertedRow.holds Tryz.pinned (OpenSpec.ofChange fnInsertedWrong)

/-- 'laws.FnResolved': WHATEVER THE INPUT: true; the input reads as it did. -/
def fnResolvedSpec : ChangeSpec := { name := "fnResolved", fn := fun _ => fun
  | [d1, d2] => { results := [.lit (.bool true)], args := [d1, d2] }
  | _ => none }
def fnResolvedRow : OpenClaim := { program := "ytjaadeknhofhpaagreat", sum := "b1b63c754342ddc99ccbec3f8b6ea8e3fde8cc72ae259a48acb96b930804d6be", func := "loop.example/g00862/laws.FnResolved", spec := "fnResolved", unfollowed := true, recurses := true, plainKeys := false, apart := false }
def FnResolvedSaid : Prop := fnResolvedRow.holds Tryz.pinned (OpenSpec.ofChange fnResolvedSpec)

/-- ITS FALSE NEIGHBOUR: 'it returns false'. Refute it at one input. -/
def fnResolvedWrong : ChangeSpec := { name := "fnResolved", fn := fun _ => fun
  | [d1, d2] => { results := [.lit (.bool false)], args := [d1, d2] }
  | _ => none }
def FnResolvedWrongFalsely : Prop := fnResolvedRow.holds Tryz.pinned (OpenSpec.ofChange fnResolvedWrong)

/- THE SECOND FORM. 'bulk': how many values and letters a reading holds, each counted each time it is reached (what is shared counts as often as it is met; a slice's spare places count too). A statement '..UptoSaid' is the law's where the arguments, and the package variables that the reading takes, are together of bulk at most 1048576: NARROWER than '..Said'. Prove '..Said' where nothing that the law and all that it calls make is longer than what came in: it says more and counts as full. Else prove '..UptoSaid'. A law counts once. -/
mutual
def uptoBulk {H : Type} : DataW H → Nat
  | .lit (.string bytes) => bytes.length + 1
  | .lit _ => 1
  | .nil => 1
  | .ptr d => uptoBulk d + 1
  | .slice elems spare => uptoBulkAll elems + uptoBulkAll spare + 1
  | .agg parts => uptoBulkAll parts + 1
  | .iface _ d => uptoBulk d + 1
  | .map entries => uptoBulkEntries entries + 1
  | .held _ => 1
def uptoBulkAll {H : Type} : List (DataW H) → Nat
  | [] => 0
  | d :: r => uptoBulk d + uptoBulkAll r
def uptoBulkEntries {H : Type} : List (Lit × DataW H) → Nat
  | [] => 0
  | x :: r => uptoBulkEntry x + uptoBulkEntries r
def uptoBulkEntry {H : Type} : Lit × DataW H → Nat
  | (.string bytes, d) => bytes.length + uptoBulk d + 1
  | (_, d) => uptoBulk d + 1
 end
def uptoSmall : (H : Type) → List (DataW H) → Bool := fun _ ds => decide (uptoBulkAll ds ≤ 1048576)
def OpenSpec.upto (s : _root_.Go.ChangeSpec) : _root_.Go.OpenSpec := { _root_.Go.OpenSpec.ofChange s with cond := some uptoSmall }

/-- 'laws.FnBestOrder', WHERE WHAT IT READS IS OF BULK AT MOST 1048576: true; the input reads as it did. -/
def fnBestOrderUptoRow : OpenClaim := { program := "ytjaadeknhofhpaagreat", sum := "b1b63c754342ddc99ccbec3f8b6ea8e3fde8cc72ae259a48acb96b930804d6be", func := "loop.example/g00862/laws.FnBestOrder", spec := "fnBestOrder", unfollowed := true, recurses := true, plainKeys := false, apart := false, narrowed := true }
def FnBestOrderUptoSaid : Prop := fnBestOrderUptoRow.holds Tryz.pinned (OpenSpec.upto fnBestOrderSpec)

/-- 'laws.FnCheapest', WHERE WHAT IT READS IS OF BULK AT MOST 1048576: true; the input reads as it did. -/
def fnCheapestUptoRow : OpenClaim := { program := "ytjaadeknhofhpaagreat", sum := "b1b63c754342ddc99ccbec3f8b6ea8e3fde8cc72ae259a48acb96b930804d6be", func := "loop.example/g00862/laws.FnCheapest", spec := "fnCheapest", unfollowed := true, recurses := true, plainKeys := false, apart := false, narrowed := true }
def FnCheapestUptoSaid : Prop := fnCheapestUptoRow.holds Tryz.pinned (OpenSpec.upto fnCheapestSpec)

/-- 'laws.FnExactTracesIncluded', WHERE WHAT IT READS IS OF BULK AT MOST 1048576: true; the input reads as it did. -/
def fnExactTracesIncludedUptoRow : OpenClaim := { program := "ytjaadeknhofhpaagreat", sum := "b1b63c754342ddc99ccbec3f8b6ea8e3fde8cc72ae259a48acb96b930804d6be", func := "loop.example/g00862/laws.FnExactTracesIncluded", spec := "fnExactTracesIncluded", unfollowed := true, recurses := true, plainKeys := false, apart := false, narrowed := true }
def FnExactTracesIncludedUptoSaid : Prop := fnExactTracesIncludedUptoRow.holds Tryz.pinned (OpenSpec.upto fnExactTracesIncludedSpec)

/-- 'laws.FnOrders', WHERE WHAT IT READS IS OF BULK AT MOST 1048576: true; the input reads as it did. -/
def fnOrdersUptoRow : OpenClaim := { program := "ytjaadeknhofhpaagreat", sum := "b1b63c754342ddc99ccbec3f8b6ea8e3fde8cc72ae259a48acb96b930804d6be", func := "loop.example/g00862/laws.FnOrders", spec := "fnOrders", unfollowed := true, recurses := true, plainKeys := false, apart := false, narrowed := true }
def FnOrdersUptoSaid : Prop := fnOrdersUptoRow.holds Tryz.pinned (OpenSpec.upto fnOrdersSpec)

/-- 'laws.FnInserted', WHERE WHAT IT READS IS OF BULK AT MOST 1048576: true; the input reads as it did. -/
def fnInsertedUptoRow : OpenClaim := { program := "ytjaadeknhofhpaagreat", sum := "b1b63c754342ddc99ccbec3f8b6ea8e3fde8cc72ae259a48acb96b930804d6be", func := "loop.example/g00862/laws.FnInserted", spec := "fnInserted", unfollowed := true, recurses := true, plainKeys := false, apart := false, narrowed := true }
def FnInsertedUptoSaid : Prop := fnInsertedUptoRow.holds Tryz.pinned (OpenSpec.upto fnInsertedSpec)

/-- 'laws.FnResolved', WHERE WHAT IT READS IS OF BULK AT MOST 1048576: true; the input reads as it did. -/
def fnResolvedUptoRow : OpenClaim := { program := "ytjaadeknhofhpaagreat", sum := "b1b63c754342ddc99ccbec3f8b6ea8e3fde8cc72ae259a48acb96b930804d6be", func := "loop.example/g00862/laws.FnResolved", spec := "fnResolved", unfollowed := true, recurses := true, plainKeys := false, apart := false, narrowed := true }
def FnResolvedUptoSaid : Prop := fnResolvedUptoRow.holds Tryz.pinned (OpenSpec.upto fnResolvedSpec)

end Rows
end Go.Proofs.YtjaadeknhofhpaaGreat
