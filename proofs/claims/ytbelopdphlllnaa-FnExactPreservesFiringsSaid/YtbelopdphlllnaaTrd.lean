/- What the form reads at the laws' struct types is a datum. -/
import Derived.Test.YtbelopdphlllnaaTypes
import Derived.Test.YtbelopdphlllnaaProg
import Derived.KernelRfl
namespace Go.Proofs.Ytbelopdphlllnaa
open Go.RowKit
attribute [local irreducible] TF
theorem list_len5 {l : List Value} (h : l.length = 5) : ∃ a0 a1 a2 a3 a4, l = [a0, a1, a2, a3, a4] := by
  match l, h with
  | [a0, a1, a2, a3, a4], _ => exact ⟨a0, a1, a2, a3, a4, rfl⟩
theorem trdSignal : Trd Try.prog 133 lSignal := Trd.st Try.underlying133 (by kernel_rfl) (TF.cons _ rfl rfl (Trd.str (by kernel_rfl) (by kernel_rfl)) (TF.last _ rfl rfl (Trd.int (by kernel_rfl) (by kernel_rfl))))
theorem trdTransition : Trd Try.prog 201 lTransition := Trd.st Try.underlying201 (by kernel_rfl) (TF.cons _ rfl rfl (Trd.sl (by kernel_rfl) (by kernel_rfl) (Trd.int (by kernel_rfl) (by kernel_rfl))) (TF.last _ rfl rfl (Trd.sl (by kernel_rfl) (by kernel_rfl) (Trd.int (by kernel_rfl) (by kernel_rfl)))))
theorem trdNet : Trd Try.prog 38 lNet := Trd.st Try.underlying38 (by kernel_rfl) (TF.cons _ rfl rfl (Trd.int (by kernel_rfl) (by kernel_rfl)) (TF.last _ rfl rfl (Trd.sl (by kernel_rfl) (by kernel_rfl) trdTransition)))
theorem trdLabel : Trd Try.prog 149 lLabel := Trd.st Try.underlying149 (by kernel_rfl) (TF.cons _ rfl rfl (Trd.int (by kernel_rfl) (by kernel_rfl)) (TF.last _ rfl rfl (Trd.bool (by kernel_rfl) (by kernel_rfl))))
theorem trdSTG : Trd Try.prog 41 lSTG := Trd.st Try.underlying41 (by kernel_rfl) (TF.cons _ rfl rfl trdNet (TF.cons _ rfl rfl (Trd.sl (by kernel_rfl) (by kernel_rfl) trdSignal) (TF.cons _ rfl rfl (Trd.sl (by kernel_rfl) (by kernel_rfl) trdLabel) (TF.last _ rfl rfl (Trd.str (by kernel_rfl) (by kernel_rfl))))))
end Go.Proofs.Ytbelopdphlllnaa
