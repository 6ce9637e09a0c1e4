/- What the form reads at the laws' struct types is a datum. -/
import Derived.Test.YtbelopdphlllnaaTypes
import Derived.Test.YtbelopdphlllnaaProg
import Derived.KernelRfl
namespace Go.Proofs.Ytbelopdphlllnaa
open Go.RowKit
attribute [local irreducible] TF
theorem list_len1 {l : List Value} (h : l.length = 1) : ∃ a0, l = [a0] := by
  match l, h with
  | [a0], _ => exact ⟨a0, rfl⟩
theorem list_len2 {l : List Value} (h : l.length = 2) : ∃ a0 a1, l = [a0, a1] := by
  match l, h with
  | [a0, a1], _ => exact ⟨a0, a1, rfl⟩
theorem list_len3 {l : List Value} (h : l.length = 3) : ∃ a0 a1 a2, l = [a0, a1, a2] := by
  match l, h with
  | [a0, a1, a2], _ => exact ⟨a0, a1, a2, rfl⟩
theorem list_len4 {l : List Value} (h : l.length = 4) : ∃ a0 a1 a2 a3, l = [a0, a1, a2, a3] := by
  match l, h with
  | [a0, a1, a2, a3], _ => exact ⟨a0, a1, a2, a3, rfl⟩
theorem list_len5 {l : List Value} (h : l.length = 5) : ∃ a0 a1 a2 a3 a4, l = [a0, a1, a2, a3, a4] := by
  match l, h with
  | [a0, a1, a2, a3, a4], _ => exact ⟨a0, a1, a2, a3, a4, rfl⟩
theorem list_len6 {l : List Value} (h : l.length = 6) : ∃ a0 a1 a2 a3 a4 a5, l = [a0, a1, a2, a3, a4, a5] := by
  match l, h with
  | [a0, a1, a2, a3, a4, a5], _ => exact ⟨a0, a1, a2, a3, a4, a5, rfl⟩
theorem list_len7 {l : List Value} (h : l.length = 7) : ∃ a0 a1 a2 a3 a4 a5 a6, l = [a0, a1, a2, a3, a4, a5, a6] := by
  match l, h with
  | [a0, a1, a2, a3, a4, a5, a6], _ => exact ⟨a0, a1, a2, a3, a4, a5, a6, rfl⟩
theorem list_len8 {l : List Value} (h : l.length = 8) : ∃ a0 a1 a2 a3 a4 a5 a6 a7, l = [a0, a1, a2, a3, a4, a5, a6, a7] := by
  match l, h with
  | [a0, a1, a2, a3, a4, a5, a6, a7], _ => exact ⟨a0, a1, a2, a3, a4, a5, a6, a7, rfl⟩
theorem trdSignal : Trd Try.prog 133 lSignal := Trd.st Try.underlying133 (by kernel_rfl) (TF.cons _ rfl rfl (Trd.str (by kernel_rfl) (by kernel_rfl)) (TF.last _ rfl rfl (Trd.int (by kernel_rfl) (by kernel_rfl))))
theorem trdPin : Trd Try.prog 246 lPin := Trd.st Try.underlying246 (by kernel_rfl) (TF.cons _ rfl rfl (Trd.int (by kernel_rfl) (by kernel_rfl)) (TF.last _ rfl rfl (Trd.bool (by kernel_rfl) (by kernel_rfl))))
theorem trdWire : Trd Try.prog 137 lWire := Trd.st Try.underlying137 (by kernel_rfl) (TF.cons _ rfl rfl (Trd.str (by kernel_rfl) (by kernel_rfl)) (TF.cons _ rfl rfl (Trd.int (by kernel_rfl) (by kernel_rfl)) (TF.cons _ rfl rfl (Trd.sl (by kernel_rfl) (by kernel_rfl) trdPin) (TF.last _ rfl rfl (Trd.sl (by kernel_rfl) (by kernel_rfl) (Trd.str (by kernel_rfl) (by kernel_rfl)))))))
theorem trdNetlist : Trd Try.prog 25 lNetlist := Trd.st Try.underlying25 (by kernel_rfl) (TF.cons _ rfl rfl (Trd.sl (by kernel_rfl) (by kernel_rfl) trdSignal) (TF.last _ rfl rfl (Trd.sl (by kernel_rfl) (by kernel_rfl) trdWire)))
theorem trdTransition : Trd Try.prog 201 lTransition := Trd.st Try.underlying201 (by kernel_rfl) (TF.cons _ rfl rfl (Trd.sl (by kernel_rfl) (by kernel_rfl) (Trd.int (by kernel_rfl) (by kernel_rfl))) (TF.last _ rfl rfl (Trd.sl (by kernel_rfl) (by kernel_rfl) (Trd.int (by kernel_rfl) (by kernel_rfl)))))
theorem trdNet : Trd Try.prog 38 lNet := Trd.st Try.underlying38 (by kernel_rfl) (TF.cons _ rfl rfl (Trd.int (by kernel_rfl) (by kernel_rfl)) (TF.last _ rfl rfl (Trd.sl (by kernel_rfl) (by kernel_rfl) trdTransition)))
theorem trdLabel : Trd Try.prog 149 lLabel := Trd.st Try.underlying149 (by kernel_rfl) (TF.cons _ rfl rfl (Trd.int (by kernel_rfl) (by kernel_rfl)) (TF.last _ rfl rfl (Trd.bool (by kernel_rfl) (by kernel_rfl))))
theorem trdSTG : Trd Try.prog 41 lSTG := Trd.st Try.underlying41 (by kernel_rfl) (TF.cons _ rfl rfl trdNet (TF.cons _ rfl rfl (Trd.sl (by kernel_rfl) (by kernel_rfl) trdSignal) (TF.cons _ rfl rfl (Trd.sl (by kernel_rfl) (by kernel_rfl) trdLabel) (TF.last _ rfl rfl (Trd.str (by kernel_rfl) (by kernel_rfl))))))
theorem trdOrdering : Trd Try.prog 43 lOrdering := Trd.st Try.underlying43 (by kernel_rfl) (TF.cons _ rfl rfl (Trd.int (by kernel_rfl) (by kernel_rfl)) (TF.cons _ rfl rfl (Trd.int (by kernel_rfl) (by kernel_rfl)) (TF.last _ rfl rfl (Trd.bool (by kernel_rfl) (by kernel_rfl)))))
theorem trdArc : Trd Try.prog 172 lArc := Trd.st Try.underlying172 (by kernel_rfl) (TF.cons _ rfl rfl (Trd.int (by kernel_rfl) (by kernel_rfl)) (TF.cons _ rfl rfl (Trd.int (by kernel_rfl) (by kernel_rfl)) (TF.cons _ rfl rfl (Trd.bool (by kernel_rfl) (by kernel_rfl)) (TF.last _ rfl rfl (Trd.int (by kernel_rfl) (by kernel_rfl))))))
theorem trdStateGraph : Trd Try.prog 70 lStateGraph := Trd.st Try.underlying70 (by kernel_rfl) (TF.cons _ rfl rfl (Trd.sl (by kernel_rfl) (by kernel_rfl) trdSignal) (TF.cons _ rfl rfl (Trd.sl (by kernel_rfl) (by kernel_rfl) (Trd.str (by kernel_rfl) (by kernel_rfl))) (TF.last _ rfl rfl (Trd.sl (by kernel_rfl) (by kernel_rfl) trdArc))))
end Go.Proofs.Ytbelopdphlllnaa
