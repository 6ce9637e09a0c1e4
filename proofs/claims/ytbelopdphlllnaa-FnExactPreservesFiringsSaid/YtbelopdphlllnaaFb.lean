/- Closed facts on maps and on structs that are compared. -/
import Derived.Test.YtbelopdphlllnaaFa
import Derived.Test.YtbelopdphlllnaaAl
namespace Go.Proofs.Ytbelopdphlllnaa
open Go.RowKit

theorem eqt_129 : EqT Try.prog 2 129 true (.pr .str .int) := EqT.struct Try.underlying129 (by kernel_rfl) (EqFs.cons (by decide) rfl tsh_9 (fun _ => rfl) (EqT.str und_9) (EqFs.one (by decide) rfl tsh_3 (fun _ => rfl) (EqT.int und_3)))
theorem eqg_129 : (Try.prog.eqGuardType Try.prog.depth 129 = false) ∧ 2 ≤ 10000 := ⟨by kernel_rfl, by decide⟩
theorem eqt_131 : EqT Try.prog 2 131 true (.pr .int .bool) := EqT.struct Try.underlying131 (by kernel_rfl) (EqFs.cons (by decide) rfl tsh_3 (fun _ => rfl) (EqT.int und_3) (EqFs.one (by decide) rfl tsh_4 (fun _ => rfl) (EqT.bool und_4)))
theorem eqg_131 : (Try.prog.eqGuardType Try.prog.depth 131 = false) ∧ 2 ≤ 10000 := ⟨by kernel_rfl, by decide⟩
theorem key_9 : KeyL Try.prog 9 false .str := KeyL.str und_9
theorem zev_3 : ZeroV Try.prog 3 false .int := ⟨_, zer_3, rfl⟩
end Go.Proofs.Ytbelopdphlllnaa
