/-
  No cell of these rows narrows 'for every input' (looked for: loops, veiled, ifaces, maps, wideKeys, modest, calm, conditions, laid).
  DERIVED. THE GIVEN ROWS OF THIS SEAT. 6 by the template 'for every input the law returns true; each argument reads behind the call as it read before'; 0 by the template 'total and deterministic' (their statements: YtgpdhgadmjfokaaGreatTotals.lean).
  GIVEN WITH THE SEED: the statements are not yours to turn. If you find one false, say at which input.
  Laid BY PROGRAM, IN A SANDBOX (cutbox-rows.mjs): the forced cells as the released guide's own fill.sh prints them over the translation 66c8a5fa9e49fd81… (all of the seat's roots in one cut). By AI agents, Wed Nov 11 2026. No macro, syntax, notation, axiom, sorry.
-/
import Derived.Test.YtgpdhgadmjfokaaGreatChecked
import GoSem.Claim
import GoSem.ClaimJoined
import GoSem.ClaimMapViews
import Derived.JoinedTies
import Derived.KernelRfl
namespace Go.Proofs.YtgpdhgadmjfokaaGreat
/- THE CELL 'sum', in the pinned program and in every row, IS THE sha256 OF THE DUMP (.gsa) THAT YtgpdhgadmjfokaaGreatProg.lean LOADS. Nothing in Lean hashes anything: it is a label: what it is worth is what the hold of that sum in a sandbox is worth. -/
noncomputable def Tryz.pinned : Pinned := { name := "ytgpdhgadmjfokaagreat", sum := "66c8a5fa9e49fd81a270234edfb9ba94fa642f2f2943f13d01b1554a98da8647", checked := Tryz.checked }
namespace Rows
def none {H : Type} : Left H := { results := [], args := [] }

/-- 'laws.FnInserted': WHATEVER THE INPUT: true; the input reads as it did. -/
def fnInsertedSpec : ChangeSpec := { name := "fnInserted", fn := fun _ => fun
  | [d1, d2] => { results := [.lit (.bool true)], args := [d1, d2] }
  | _ => none }
def fnInsertedRow : OpenClaim := { program := "ytgpdhgadmjfokaagreat", sum := "66c8a5fa9e49fd81a270234edfb9ba94fa642f2f2943f13d01b1554a98da8647", func := "loop.example/g00862/laws.FnInserted", spec := "fnInserted", unfollowed := true, recurses := true, plainKeys := false, apart := false }
def FnInsertedSaid : Prop := fnInsertedRow.holds Tryz.pinned (OpenSpec.ofChange fnInsertedSpec)

/-- ITS FALSE NEIGHBOUR: 'it returns false'. Refute it at one input. -/
def fnInsertedWrong : ChangeSpec := { name := "fnInserted", fn := fun _ => fun
  | [d1, d2] => { results := [.lit (.bool false)], args := [d1, d2] }
  | _ => none }
def FnInsertedWrongFalsely : Prop := fnInsertedRow.holds Tryz.pinned (OpenSpec.ofChange fnInsertedWrong)

/-- 'laws.FnResolved': WHATEVER THE INPUT: true; the input reads as it did. -/
def fnResolvedSpec : ChangeSpec := { name := "fnResolved", fn := fun _ => fun
  | [d1, d2] => { results := [.lit (.bool true)], args := [d1, d2] }
  | _ => none }
def fnResolvedRow : OpenClaim := { program := "ytgpdhgadmjfokaagreat", sum := "66c8a5fa9e49fd81a270234edfb9ba94fa642f2f2943f13d01b1554a98da8647", func := "loop.example/g00862/laws.FnResolved", spec := "fnResolved", unfollowed := true, recurses := true, plainKeys := false, apart := false }
def FnResolvedSaid : Prop := fnResolvedRow.holds Tryz.pinned (OpenSpec.ofChange fnResolvedSpec)

/-- ITS FALSE NEIGHBOUR: 'it returns false'. Refute it at one input. -/
def fnResolvedWrong : ChangeSpec := { name := "fnResolved", fn := fun _ => fun
  | [d1, d2] => { results := [.lit (.bool false)], args := [d1, d2] }
  | _ => none }
def FnResolvedWrongFalsely : Prop := fnResolvedRow.holds Tryz.pinned (OpenSpec.ofChange fnResolvedWrong)

/-- 'laws.FnOrders': WHATEVER THE INPUT: true; the input reads as it did. -/
def fnOrdersSpec : ChangeSpec := { name := "fnOrders", fn := fun _ => fun
  | [d1, d2] => { results := [.lit (.bool true)], args := [d1, d2] }
  | _ => none }
def fnOrdersRow : OpenClaim := { program := "ytgpdhgadmjfokaagreat", sum := "66c8a5fa9e49fd81a270234edfb9ba94fa642f2f2943f13d01b1554a98da8647", func := "loop.example/g00862/laws.FnOrders", spec := "fnOrders", unfollowed := true, recurses := true, plainKeys := false, apart := false }
def FnOrdersSaid : Prop := fnOrdersRow.holds Tryz.pinned (OpenSpec.ofChange fnOrdersSpec)

/-- ITS FALSE NEIGHBOUR: 'it returns false'. Refute it at one input. -/
def fnOrdersWrong : ChangeSpec := { name := "fnOrders", fn := fun _ => fun
  | [d1, d2] => { results := [.lit (.bool false)], args := [d1, d2] }
  | _ => none }
def FnOrdersWrongFalsely : Prop := fnOrdersRow.holds Tryz.pinned (OpenSpec.ofChange fnOrdersWrong)

/-- 'laws.FnAsked': WHATEVER THE INPUT: true; the input reads as it did. -/
def fnAskedSpec : ChangeSpec := { name := "fnAsked", fn := fun _ => fun
  | [d1, d2] => { results := [.lit (.bool true)], args := [d1, d2] }
  | _ => none }
def fnAskedRow : OpenClaim := { program := "ytgpdhgadmjfokaagreat", sum := "66c8a5fa9e49fd81a270234edfb9ba94fa642f2f2943f13d01b1554a98da8647", func := "loop.example/g00862/laws.FnAsked", spec := "fnAsked", unfollowed := true, recurses := true, plainKeys := false, apart := false }
def FnAskedSaid : Prop := fnAskedRow.holds Tryz.pinned (OpenSpec.ofChange fnAskedSpec)

/-- ITS FALSE NEIGHBOUR: 'it returns false'. Refute it at one input. -/
def fnAskedWrong : ChangeSpec := { name := "fnAsked", fn := fun _ => fun
  | [d1, d2] => { results := [.lit (.bool false)], args := [d1, d2] }
  | _ => none }
def FnAskedWrongFalsely : Prop := fnAskedRow.holds Tryz.pinned (OpenSpec.ofChange fnAskedWrong)

/-- 'laws.FnFree': WHATEVER THE INPUT: true; the input reads as it did. -/
def fnFreeSpec : ChangeSpec := { name := "fnFree", fn := fun _ => fun
  | [d1, d2] => { results := [.lit (.bool true)], args := [d1, d2] }
  | _ => none }
def fnFreeRow : OpenClaim := { program := "ytgpdhgadmjfokaagreat", sum := "66c8a5fa9e49fd81a270234edfb9ba94fa642f2f2943f13d01b1554a98da8647", func := "loop.example/g00862/laws.FnFree", spec := "fnFree", inPlace := ["internal/bytealg.IndexByteString", "internal/bytealg.IndexString"], unfollowed := true, recurses := true, named := ["internal/bytealg.MaxLen"], plainKeys := false, apart := false }
def FnFreeSaid : Prop := fnFreeRow.holds Tryz.pinned (OpenSpec.ofChange fnFreeSpec)

/-- ITS FALSE NEIGHBOUR: 'it returns false'. Refute it at one input. -/
def fnFreeWrong : ChangeSpec := { name := "fnFree", fn := fun _ => fun
  | [d1, d2] => { results := [.lit (.bool false)], args := [d1, d2] }
  | _ => none }
def FnFreeWrongFalsely : Prop := fnFreeRow.holds Tryz.pinned (OpenSpec.ofChange fnFreeWrong)

/-- 'laws.FnNext': WHATEVER THE INPUT: true; the input reads as it did. -/
def fnNextSpec : ChangeSpec := { name := "fnNext", fn := fun _ => fun
  | [d1, d2] => { results := [.lit (.bool true)], args := [d1, d2] }
  | _ => none }
def fnNextRow : OpenClaim := { program := "ytgpdhgadmjfokaagreat", sum := "66c8a5fa9e49fd81a270234edfb9ba94fa642f2f2943f13d01b1554a98da8647", func := "loop.example/g00862/laws.FnNext", spec := "fnNext", inPlace := ["internal/bytealg.IndexByteString", "internal/bytealg.IndexString"], unfollowed := true, recurses := true, named := ["internal/bytealg.MaxLen"], plainKeys := false, apart := false }
def FnNextSaid : Prop := fnNextRow.holds Tryz.pinned (OpenSpec.ofChange fnNextSpec)

/-- ITS FALSE NEIGHBOUR: 'it returns false'. Refute it at one input. -/
def fnNextWrong : ChangeSpec := { name := "fnNext", fn := fun _ => fun
  | [d1, d2] => { results := [.lit (.bool false)], args := [d1, d2] }
  | _ => none }
def FnNextWrongFalsely : Prop := fnNextRow.holds Tryz.pinned (OpenSpec.ofChange fnNextWrong)

/- THE SECOND FORM. 'bulk': how many values and letters a reading holds, each counted each time it is reached (what is shared counts as often as it is met; a slice's spare places count too). A statement '..UptoSaid' is the law's where the arguments, and the package variables that the reading takes, are together of bulk at most 1048576: NARROWER than '..Said'. Prove '..Said' where nothing that the law and all that it calls make is longer than what came in: it says more and counts as full. Else prove '..UptoSaid'. A law counts once. -/
mutual
def uptoBulk {H : Type} : DataW H → Nat
  | .lit (.string bytes) => bytes.length + 1
  | .lit _ => 1
  | .nil => 1
  | .ptr d => uptoBulk d + 1
  | .slice elems spare => uptoBulkAll elems + uptoBulkAll spare + 1
  | .agg parts => uptoBulkAll parts + 1
  | .iface _ d => uptoBulk d + 1
  | .map entries => uptoBulkEntries entries + 1
  | .held _ => 1
def uptoBulkAll {H : Type} : List (DataW H) → Nat
  | [] => 0
  | d :: r => uptoBulk d + uptoBulkAll r
def uptoBulkEntries {H : Type} : List (Lit × DataW H) → Nat
  | [] => 0
  | x :: r => uptoBulkEntry x + uptoBulkEntries r
def uptoBulkEntry {H : Type} : Lit × DataW H → Nat
  | (.string bytes, d) => bytes.length + uptoBulk d + 1
  | (_, d) => uptoBulk d + 1
 end
def uptoSmall : (H : Type) → List (DataW H) → Bool := fun _ ds => decide (uptoBulkAll ds ≤ 1048576)
def OpenSpec.upto (s : _root_.Go.ChangeSpec) : _root_.Go.OpenSpec := { _root_.Go.OpenSpec.ofChange s with cond := some uptoSmall }

/-- 'laws.FnInserted', WHERE WHAT IT READS IS OF BULK AT MOST 1048576: true; the input reads as it did. -/
def fnInsertedUptoRow : OpenClaim := { program := "ytgpdhgadmjfokaagreat", sum := "66c8a5fa9e49fd81a270234edfb9ba94fa642f2f2943f13d01b1554a98da8647", func := "loop.example/g00862/laws.FnInserted", spec := "fnInserted", unfollowed := true, recurses := true, plainKeys := false, apart := false, narrowed := true }
def FnInsertedUptoSaid : Prop := fnInsertedUptoRow.holds Tryz.pinned (OpenSpec.upto fnInsertedSpec)

/-- 'laws.FnResolved', WHERE WHAT IT READS IS OF BULK AT MOST 1048576: true; the input reads as it did. -/
def fnResolvedUptoRow : OpenClaim := { program := "ytgpdhgadmjfokaagreat", sum := "66c8a5fa9e49fd81a270234edfb9ba94fa642f2f2943f13d01b1554a98da8647", func := "loop.example/g00862/laws.FnResolved", spec := "fnResolved", unfollowed := true, recurses := true, plainKeys := false, apart := false, narrowed := true }
def FnResolvedUptoSaid : Prop := fnResolvedUptoRow.holds Tryz.pinned (OpenSpec.upto fnResolvedSpec)

/-- 'laws.FnOrders', WHERE WHAT IT READS IS OF BULK AT MOST 1048576: true; the input reads as it did. -/
def fnOrdersUptoRow : OpenClaim := { program := "ytgpdhgadmjfokaagreat", sum := "66c8a5fa9e49fd81a270234edfb9ba94fa642f2f2943f13d01b1554a98da8647", func := "loop.example/g00862/laws.FnOrders", spec := "fnOrders", unfollowed := true, recurses := true, plainKeys := false, apart := false, narrowed := true }
def FnOrdersUptoSaid : Prop := fnOrdersUptoRow.holds Tryz.pinned (OpenSpec.upto fnOrdersSpec)

/-- 'laws.FnAsked', WHERE WHAT IT READS IS OF BULK AT MOST 1048576: true; the input reads as it did. -/
def fnAskedUptoRow : OpenClaim := { program := "ytgpdhgadmjfokaagreat", sum := "66c8a5fa9e49fd81a270234edfb9ba94fa642f2f2943f13d01b1554a98da8647", func := "loop.example/g00862/laws.FnAsked", spec := "fnAsked", unfollowed := true, recurses := true, plainKeys := false, apart := false, narrowed := true }
def FnAskedUptoSaid : Prop := fnAskedUptoRow.holds Tryz.pinned (OpenSpec.upto fnAskedSpec)

/-- 'laws.FnFree', WHERE WHAT IT READS IS OF BULK AT MOST 1048576: true; the input reads as it did. -/
def fnFreeUptoRow : OpenClaim := { program := "ytgpdhgadmjfokaagreat", sum := "66c8a5fa9e49fd81a270234edfb9ba94fa642f2f2943f13d01b1554a98da8647", func := "loop.example/g00862/laws.FnFree", spec := "fnFree", inPlace := ["internal/bytealg.IndexByteString", "internal/bytealg.IndexString"], unfollowed := true, recurses := true, named := ["internal/bytealg.MaxLen"], plainKeys := false, apart := false, narrowed := true }
def FnFreeUptoSaid : Prop := fnFreeUptoRow.holds Tryz.pinned (OpenSpec.upto fnFreeSpec)

/-- 'laws.FnNext', WHERE WHAT IT READS IS OF BULK AT MOST 1048576: true; the input reads as it did. -/
def fnNextUptoRow : OpenClaim := { program := "ytgpdhgadmjfokaagreat", sum := "66c8a5fa9e49fd81a270234edfb9ba94fa642f2f2943f13d01b1554a98da8647", func := "loop.example/g00862/laws.FnNext", spec := "fnNext", inPlace := ["internal/bytealg.IndexByteString", "internal/bytealg.IndexString"], unfollowed := true, recurses := true, named := ["internal/bytealg.MaxLen"], plainKeys := false, apart := false, narrowed := true }
def FnNextUptoSaid : Prop := fnNextUptoRow.holds Tryz.pinned (OpenSpec.upto fnNextSpec)

end Rows
end Go.Proofs.YtgpdhgadmjfokaaGreat
