/-
  No cell of these rows narrows 'for every input' (looked for: loops, veiled, ifaces, maps, wideKeys, modest, calm, conditions, laid).
  DERIVED. THE GIVEN ROWS OF THIS SEAT. 3 by the template 'for every input the law returns true; each argument reads behind the call as it read before'; 0 by the template 'total and deterministic' (their statements: YtjfpbcmfbnnooaaGreatTotals.lean).
  GIVEN WITH THE SEED: the statements are not yours to turn. If you find one false, say at which input.
  Laid BY PROGRAM, IN A SANDBOX (cutbox-rows.mjs): the forced cells as the released guide's own fill.sh prints them over the translation 70036fd41ff910fb… (all of the seat's roots in one cut). By AI agents, Wed Nov 11 2026. No macro, syntax, notation, axiom, sorry.
-/
import Derived.Test.YtjfpbcmfbnnooaaGreatChecked
import GoSem.Claim
import GoSem.ClaimJoined
import GoSem.ClaimMapViews
import Derived.JoinedTies
import Derived.KernelRfl
namespace Go.Proofs.YtjfpbcmfbnnooaaGreat
/- THE CELL 'sum', in the pinned program and in every row, IS THE sha256 OF THE DUMP (.gsa) THAT YtjfpbcmfbnnooaaGreatProg.lean LOADS. Nothing in Lean hashes anything: it is a label: what it is worth is what the hold of that sum in a sandbox is worth. -/
noncomputable def Tryz.pinned : Pinned := { name := "ytjfpbcmfbnnooaagreat", sum := "70036fd41ff910fb0db961ac3d50cb79d3ece712514f80d9fe82a735271e2e2b", checked := Tryz.checked }
namespace Rows
def none {H : Type} : Left H := { results := [], args := [] }

/-- 'laws.FnGates': WHATEVER THE INPUT: true; the input reads as it did. -/
def fnGatesSpec : ChangeSpec := { name := "fnGates", fn := fun _ => fun
  | [d1, d2] => { results := [.lit (.bool true)], args := [d1, d2] }
  | _ => none }
def fnGatesRow : OpenClaim := { program := "ytjfpbcmfbnnooaagreat", sum := "70036fd41ff910fb0db961ac3d50cb79d3ece712514f80d9fe82a735271e2e2b", func := "loop.example/g00862/laws.FnGates", spec := "fnGates", inPlace := ["internal/bytealg.IndexByteString", "internal/bytealg.IndexString", "internal/abi.NoEscape", "internal/bytealg.MakeNoZero"], unfollowed := true, recurses := true, named := ["internal/bytealg.MaxLen"], plainKeys := false, apart := false }
def FnGatesSaid : Prop := fnGatesRow.holds Tryz.pinned (OpenSpec.ofChange fnGatesSpec)

/-- ITS FALSE NEIGHBOUR: 'it returns false'. Refute it at one input. -/
def fnGatesWrong : ChangeSpec := { name := "fnGates", fn := fun _ => fun
  | [d1, d2] => { results := [.lit (.bool false)], args := [d1, d2] }
  | _ => none }
def FnGatesWrongFalsely : Prop := fnGatesRow.holds Tryz.pinned (OpenSpec.ofChange fnGatesWrong)

/-- 'laws.FnProducts': WHATEVER THE INPUT: true; the input reads as it did. -/
def fnProductsSpec : ChangeSpec := { name := "fnProducts", fn := fun _ => fun
  | [d1, d2] => { results := [.lit (.bool true)], args := [d1, d2] }
  | _ => none }
def fnProductsRow : OpenClaim := { program := "ytjfpbcmfbnnooaagreat", sum := "70036fd41ff910fb0db961ac3d50cb79d3ece712514f80d9fe82a735271e2e2b", func := "loop.example/g00862/laws.FnProducts", spec := "fnProducts", inPlace := ["internal/abi.NoEscape", "internal/bytealg.MakeNoZero"], unfollowed := true, recurses := true, plainKeys := false, apart := false }
def FnProductsSaid : Prop := fnProductsRow.holds Tryz.pinned (OpenSpec.ofChange fnProductsSpec)

/-- ITS FALSE NEIGHBOUR: 'it returns false'. Refute it at one input. -/
def fnProductsWrong : ChangeSpec := { name := "fnProducts", fn := fun _ => fun
  | [d1, d2] => { results := [.lit (.bool false)], args := [d1, d2] }
  | _ => none }
def FnProductsWrongFalsely : Prop := fnProductsRow.holds Tryz.pinned (OpenSpec.ofChange fnProductsWrong)

/-- 'laws.FnFlipNames': WHATEVER THE INPUT: true; the input reads as it did. -/
def fnFlipNamesSpec : ChangeSpec := { name := "fnFlipNames", fn := fun _ => fun
  | [d1, d2] => { results := [.lit (.bool true)], args := [d1, d2] }
  | _ => none }
def fnFlipNamesRow : OpenClaim := { program := "ytjfpbcmfbnnooaagreat", sum := "70036fd41ff910fb0db961ac3d50cb79d3ece712514f80d9fe82a735271e2e2b", func := "loop.example/g00862/laws.FnFlipNames", spec := "fnFlipNames", inPlace := ["internal/abi.NoEscape", "internal/bytealg.MakeNoZero"], unfollowed := true, recurses := true, plainKeys := false, apart := false }
def FnFlipNamesSaid : Prop := fnFlipNamesRow.holds Tryz.pinned (OpenSpec.ofChange fnFlipNamesSpec)

/-- ITS FALSE NEIGHBOUR: 'it returns false'. Refute it at one input. -/
def fnFlipNamesWrong : ChangeSpec := { name := "fnFlipNames", fn := fun _ => fun
  | [d1, d2] => { results := [.lit (.bool false)], args := [d1, d2] }
  | _ => none }
def FnFlipNamesWrongFalsely : Prop := fnFlipNamesRow.holds Tryz.pinned (OpenSpec.ofChange fnFlipNamesWrong)

/- THE SECOND FORM. 'bulk': how many values and letters a reading holds, each counted each time it is reached (what is shared counts as often as it is met; a slice's spare places count too). A statement '..UptoSaid' is the law's where the arguments, and the package variables that the reading takes, are together of bulk at most 1048576: NARROWER than '..Said'. Prove '..Said' where nothing that the law and all that it calls make is longer than what came in: it says more and counts as full. Else prove '..UptoSaid'. A law counts once. -/
mutual
def uptoBulk {H : Type} : DataW H → Nat
  | .lit (.string bytes) => bytes.length + 1
  | .lit _ => 1
  | .nil => 1
  | .ptr d => uptoBulk d + 1
  | .slice elems spare => uptoBulkAll elems + uptoBulkAll spare + 1
  | .agg parts => uptoBulkAll parts + 1
  | .iface _ d => uptoBulk d + 1
  | .map entries => uptoBulkEntries entries + 1
  | .held _ => 1
def uptoBulkAll {H : Type} : List (DataW H) → Nat
  | [] => 0
  | d :: r => uptoBulk d + uptoBulkAll r
def uptoBulkEntries {H : Type} : List (Lit × DataW H) → Nat
  | [] => 0
  | x :: r => uptoBulkEntry x + uptoBulkEntries r
def uptoBulkEntry {H : Type} : Lit × DataW H → Nat
  | (.string bytes, d) => bytes.length + uptoBulk d + 1
  | (_, d) => uptoBulk d + 1
 end
def uptoSmall : (H : Type) → List (DataW H) → Bool := fun _ ds => decide (uptoBulkAll ds ≤ 1048576)
def OpenSpec.upto (s : _root_.Go.ChangeSpec) : _root_.Go.OpenSpec := { _root_.Go.OpenSpec.ofChange s with cond := some uptoSmall }

/-- 'laws.FnGates', WHERE WHAT IT READS IS OF BULK AT MOST 1048576: true; the input reads as it did. -/
def fnGatesUptoRow : OpenClaim := { program := "ytjfpbcmfbnnooaagreat", sum := "70036fd41ff910fb0db961ac3d50cb79d3ece712514f80d9fe82a735271e2e2b", func := "loop.example/g00862/laws.FnGates", spec := "fnGates", inPlace := ["internal/bytealg.IndexByteString", "internal/bytealg.IndexString", "internal/abi.NoEscape", "internal/bytealg.MakeNoZero"], unfollowed := true, recurses := true, named := ["internal/bytealg.MaxLen"], plainKeys := false, apart := false, narrowed := true }
def FnGatesUptoSaid : Prop := fnGatesUptoRow.holds Tryz.pinned (OpenSpec.upto fnGatesSpec)

/-- 'laws.FnProducts', WHERE WHAT IT READS IS OF BULK AT MOST 1048576: true; the input reads as it did. -/
def fnProductsUptoRow : OpenClaim := { program := "ytjfpbcmfbnnooaagreat", sum := "70036fd41ff910fb0db961ac3d50cb79d3ece712514f80d9fe82a735271e2e2b", func := "loop.example/g00862/laws.FnProducts", spec := "fnProducts", inPlace := ["internal/abi.NoEscape", "internal/bytealg.MakeNoZero"], unfollowed := true, recurses := true, plainKeys := false, apart := false, narrowed := true }
def FnProductsUptoSaid : Prop := fnProductsUptoRow.holds Tryz.pinned (OpenSpec.upto fnProductsSpec)

/-- 'laws.FnFlipNames', WHERE WHAT IT READS IS OF BULK AT MOST 1048576: true; the input reads as it did. -/
def fnFlipNamesUptoRow : OpenClaim := { program := "ytjfpbcmfbnnooaagreat", sum := "70036fd41ff910fb0db961ac3d50cb79d3ece712514f80d9fe82a735271e2e2b", func := "loop.example/g00862/laws.FnFlipNames", spec := "fnFlipNames", inPlace := ["internal/abi.NoEscape", "internal/bytealg.MakeNoZero"], unfollowed := true, recurses := true, plainKeys := false, apart := false, narrowed := true }
def FnFlipNamesUptoSaid : Prop := fnFlipNamesUptoRow.holds Tryz.pinned (OpenSpec.upto fnFlipNamesSpec)

end Rows
end Go.Proofs.YtjfpbcmfbnnooaaGreat
