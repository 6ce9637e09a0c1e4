/-
  No cell of these rows narrows 'for every input' (looked for: loops, veiled, ifaces, maps, wideKeys, modest, calm, conditions, laid).
  DERIVED. THE GIVEN ROWS OF THIS SEAT. 4 by the template 'for every input the law returns true; each argument reads behind the call as it read before'; 0 by the template 'total and deterministic' (their statements: YtfkmmpfdncopdaaGreatTotals.lean).
  GIVEN WITH THE SEED: the statements are not yours to turn. If you find one false, say at which input.
  Laid BY PROGRAM, IN A SANDBOX (cutbox-rows.mjs): the forced cells as the released guide's own fill.sh prints them over the translation 111011bb74512961… (all of the seat's roots in one cut). By AI agents, Wed Nov 11 2026. No macro, syntax, notation, axiom, sorry.
-/
import Derived.Test.YtfkmmpfdncopdaaGreatChecked
import GoSem.Claim
import GoSem.ClaimJoined
import GoSem.ClaimMapViews
import Derived.JoinedTies
import Derived.KernelRfl
namespace Go.Proofs.YtfkmmpfdncopdaaGreat
/- THE CELL 'sum', in the pinned program and in every row, IS THE sha256 OF THE DUMP (.gsa) THAT YtfkmmpfdncopdaaGreatProg.lean LOADS. Nothing in Lean hashes anything: it is a label: what it is worth is what the hold of that sum in a sandbox is worth. -/
noncomputable def Tryz.pinned : Pinned := { name := "ytfkmmpfdncopdaagreat", sum := "111011bb7451296115c9021d50385e7a65f288e5112e012bc2bcc3d78ea9b01b", checked := Tryz.checked }
namespace Rows
def none {H : Type} : Left H := { results := [], args := [] }

/-- 'laws.FnFree': WHATEVER THE INPUT: true; the input reads as it did. -/
def fnFreeSpec : ChangeSpec := { name := "fnFree", fn := fun _ => fun
  | [d1, d2] => { results := [.lit (.bool true)], args := [d1, d2] }
  | _ => none }
def fnFreeRow : OpenClaim := { program := "ytfkmmpfdncopdaagreat", sum := "111011bb7451296115c9021d50385e7a65f288e5112e012bc2bcc3d78ea9b01b", func := "loop.example/g00862/laws.FnFree", spec := "fnFree", inPlace := ["internal/bytealg.IndexByteString", "internal/bytealg.IndexString"], unfollowed := true, recurses := true, named := ["internal/bytealg.MaxLen"], plainKeys := false, apart := false }
def FnFreeSaid : Prop := fnFreeRow.holds Tryz.pinned (OpenSpec.ofChange fnFreeSpec)

/-- ITS FALSE NEIGHBOUR: 'it returns false'. Refute it at one input. -/
def fnFreeWrong : ChangeSpec := { name := "fnFree", fn := fun _ => fun
  | [d1, d2] => { results := [.lit (.bool false)], args := [d1, d2] }
  | _ => none }
def FnFreeWrongFalsely : Prop := fnFreeRow.holds Tryz.pinned (OpenSpec.ofChange fnFreeWrong)

/-- 'laws.FnNext': WHATEVER THE INPUT: true; the input reads as it did. -/
def fnNextSpec : ChangeSpec := { name := "fnNext", fn := fun _ => fun
  | [d1, d2] => { results := [.lit (.bool true)], args := [d1, d2] }
  | _ => none }
def fnNextRow : OpenClaim := { program := "ytfkmmpfdncopdaagreat", sum := "111011bb7451296115c9021d50385e7a65f288e5112e012bc2bcc3d78ea9b01b", func := "loop.example/g00862/laws.FnNext", spec := "fnNext", inPlace := ["internal/bytealg.IndexByteString", "internal/bytealg.IndexString"], unfollowed := true, recurses := true, named := ["internal/bytealg.MaxLen"], plainKeys := false, apart := false }
def FnNextSaid : Prop := fnNextRow.holds Tryz.pinned (OpenSpec.ofChange fnNextSpec)

/-- ITS FALSE NEIGHBOUR: 'it returns false'. Refute it at one input. -/
def fnNextWrong : ChangeSpec := { name := "fnNext", fn := fun _ => fun
  | [d1, d2] => { results := [.lit (.bool false)], args := [d1, d2] }
  | _ => none }
def FnNextWrongFalsely : Prop := fnNextRow.holds Tryz.pinned (OpenSpec.ofChange fnNextWrong)

/-- 'laws.FnMonotonous': WHATEVER THE INPUT: true; the input reads as it did. -/
def fnMonotonousSpec : ChangeSpec := { name := "fnMonotonous", fn := fun _ => fun
  | [d1, d2] => { results := [.lit (.bool true)], args := [d1, d2] }
  | _ => none }
def fnMonotonousRow : OpenClaim := { program := "ytfkmmpfdncopdaagreat", sum := "111011bb7451296115c9021d50385e7a65f288e5112e012bc2bcc3d78ea9b01b", func := "loop.example/g00862/laws.FnMonotonous", spec := "fnMonotonous", inPlace := ["internal/abi.NoEscape", "internal/bytealg.MakeNoZero"], unfollowed := true, recurses := true, plainKeys := false, apart := false }
def FnMonotonousSaid : Prop := fnMonotonousRow.holds Tryz.pinned (OpenSpec.ofChange fnMonotonousSpec)

/-- ITS FALSE NEIGHBOUR: 'it returns false'. Refute it at one input. -/
def fnMonotonousWrong : ChangeSpec := { name := "fnMonotonous", fn := fun _ => fun
  | [d1, d2] => { results := [.lit (.bool false)], args := [d1, d2] }
  | _ => none }
def FnMonotonousWrongFalsely : Prop := fnMonotonousRow.holds Tryz.pinned (OpenSpec.ofChange fnMonotonousWrong)

/-- 'laws.FnBursts': WHATEVER THE INPUT: true; the input reads as it did. -/
def fnBurstsSpec : ChangeSpec := { name := "fnBursts", fn := fun _ => fun
  | [d1, d2] => { results := [.lit (.bool true)], args := [d1, d2] }
  | _ => none }
def fnBurstsRow : OpenClaim := { program := "ytfkmmpfdncopdaagreat", sum := "111011bb7451296115c9021d50385e7a65f288e5112e012bc2bcc3d78ea9b01b", func := "loop.example/g00862/laws.FnBursts", spec := "fnBursts", inPlace := ["internal/abi.NoEscape", "internal/bytealg.MakeNoZero"], unfollowed := true, recurses := true, plainKeys := false, apart := false }
def FnBurstsSaid : Prop := fnBurstsRow.holds Tryz.pinned (OpenSpec.ofChange fnBurstsSpec)

/-- ITS FALSE NEIGHBOUR: 'it returns false'. Refute it at one input. -/
def fnBurstsWrong : ChangeSpec := { name := "fnBursts", fn := fun _ => fun
  | [d1, d2] => { results := [.lit (.bool false)], args := [d1, d2] }
  | _ => none }
def FnBurstsWrongFalsely : Prop := fnBurstsRow.holds Tryz.pinned (OpenSpec.ofChange fnBurstsWrong)

/- THE SECOND FORM. 'bulk': how many values and letters a reading holds, each counted each time it is reached (what is shared counts as often as it is met; a slice's spare places count too). A statement '..UptoSaid' is the law's where the arguments, and the package variables that the reading takes, are together of bulk at most 1048576: NARROWER than '..Said'. Prove '..Said' where nothing that the law and all that it calls make is longer than what came in: it says more and counts as full. Else prove '..UptoSaid'. A law counts once. -/
mutual
def uptoBulk {H : Type} : DataW H → Nat
  | .lit (.string bytes) => bytes.length + 1
  | .lit _ => 1
  | .nil => 1
  | .ptr d => uptoBulk d + 1
  | .slice elems spare => uptoBulkAll elems + uptoBulkAll spare + 1
  | .agg parts => uptoBulkAll parts + 1
  | .iface _ d => uptoBulk d + 1
  | .map entries => uptoBulkEntries entries + 1
  | .held _ => 1
def uptoBulkAll {H : Type} : List (DataW H) → Nat
  | [] => 0
  | d :: r => uptoBulk d + uptoBulkAll r
def uptoBulkEntries {H : Type} : List (Lit × DataW H) → Nat
  | [] => 0
  | x :: r => uptoBulkEntry x + uptoBulkEntries r
def uptoBulkEntry {H : Type} : Lit × DataW H → Nat
  | (.string bytes, d) => bytes.length + uptoBulk d + 1
  | (_, d) => uptoBulk d + 1
 end
def uptoSmall : (H : Type) → List (DataW H) → Bool := fun _ ds => decide (uptoBulkAll ds ≤ 1048576)
def OpenSpec.upto (s : _root_.Go.ChangeSpec) : _root_.Go.OpenSpec := { _root_.Go.OpenSpec.ofChange s with cond := some uptoSmall }

/-- 'laws.FnFree', WHERE WHAT IT READS IS OF BULK AT MOST 1048576: true; the input reads as it did. -/
def fnFreeUptoRow : OpenClaim := { program := "ytfkmmpfdncopdaagreat", sum := "111011bb7451296115c9021d50385e7a65f288e5112e012bc2bcc3d78ea9b01b", func := "loop.example/g00862/laws.FnFree", spec := "fnFree", inPlace := ["internal/bytealg.IndexByteString", "internal/bytealg.IndexString"], unfollowed := true, recurses := true, named := ["internal/bytealg.MaxLen"], plainKeys := false, apart := false, narrowed := true }
def FnFreeUptoSaid : Prop := fnFreeUptoRow.holds Tryz.pinned (OpenSpec.upto fnFreeSpec)

/-- 'laws.FnNext', WHERE WHAT IT READS IS OF BULK AT MOST 1048576: true; the input reads as it did. -/
def fnNextUptoRow : OpenClaim := { program := "ytfkmmpfdncopdaagreat", sum := "111011bb7451296115c9021d50385e7a65f288e5112e012bc2bcc3d78ea9b01b", func := "loop.example/g00862/laws.FnNext", spec := "fnNext", inPlace := ["internal/bytealg.IndexByteString", "internal/bytealg.IndexString"], unfollowed := true, recurses := true, named := ["internal/bytealg.MaxLen"], plainKeys := false, apart := false, narrowed := true }
def FnNextUptoSaid : Prop := fnNextUptoRow.holds Tryz.pinned (OpenSpec.upto fnNextSpec)

/-- 'laws.FnMonotonous', WHERE WHAT IT READS IS OF BULK AT MOST 1048576: true; the input reads as it did. -/
def fnMonotonousUptoRow : OpenClaim := { program := "ytfkmmpfdncopdaagreat", sum := "111011bb7451296115c9021d50385e7a65f288e5112e012bc2bcc3d78ea9b01b", func := "loop.example/g00862/laws.FnMonotonous", spec := "fnMonotonous", inPlace := ["internal/abi.NoEscape", "internal/bytealg.MakeNoZero"], unfollowed := true, recurses := true, plainKeys := false, apart := false, narrowed := true }
def FnMonotonousUptoSaid : Prop := fnMonotonousUptoRow.holds Tryz.pinned (OpenSpec.upto fnMonotonousSpec)

/-- 'laws.FnBursts', WHERE WHAT IT READS IS OF BULK AT MOST 1048576: true; the input reads as it did. -/
def fnBurstsUptoRow : OpenClaim := { program := "ytfkmmpfdncopdaagreat", sum := "111011bb7451296115c9021d50385e7a65f288e5112e012bc2bcc3d78ea9b01b", func := "loop.example/g00862/laws.FnBursts", spec := "fnBursts", inPlace := ["internal/abi.NoEscape", "internal/bytealg.MakeNoZero"], unfollowed := true, recurses := true, plainKeys := false, apart := false, narrowed := true }
def FnBurstsUptoSaid : Prop := fnBurstsUptoRow.holds Tryz.pinned (OpenSpec.upto fnBurstsSpec)

end Rows
end Go.Proofs.YtfkmmpfdncopdaaGreat
