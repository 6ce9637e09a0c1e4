/- FnExactPreservesFirings: the statement, from its walk. Whatever the input, the law answers true, and the input reads as it did. No condition. -/
import Derived.Test.YtbelopdphlllnaaRows
import Derived.Test.YtbelopdphlllnaaWu
import Derived.Test.YtbelopdphlllnaaTrd
import Derived.WalkKit
import Derived.ProofKit
import Derived.OpenShut
import Derived.ShutString
import Derived.ChangeOld
import Derived.Below
namespace Go.Proofs.Ytbelopdphlllnaa.FnExactPreservesFirings
open Go.ChangeShapes Go.WideShapes Go.ChangeAt Go.RowKit

theorem own : ownKnob Try.prog.godebug = none := by kernel_rfl
theorem laidOut : laidOutB Try.prog = true := by kernel_rfl

set_option maxRecDepth 100000 in
set_option maxHeartbeats 2000000 in
theorem lifted (os : Os) (started : os.Started) (H : Type) (enc : TypeId × Value → H) :
    ReturnsInHanded {} Try.checked os 8 .any (Rows.fnExactPreservesFiringsSpec.pre6 enc Try.prog Try.f8 Rows.fnExactPreservesFiringsRow.domain false) (Rows.fnExactPreservesFiringsSpec.post enc Try.prog Try.f8 false true false false) := by
  refine returnsInHanded_of_change (C := Try.checked) own started (by kernel_rfl) Try.func8
    (ChangeSpec.witness6 (enc := enc) (C := Try.checked) false ⟨#[], #[.agg #[.int .i64 0, .slice none 0 0, .slice none 0 0, .slice none 0 0, .string ⟨#[]⟩], .agg #[.int .i64 0, .slice none 0 0, .slice none 0 0, .slice none 0 0, .string ⟨#[]⟩]], []⟩ 8 (by kernel_rfl) (by kernel_rfl) (by kernel_rfl) (by kernel_rfl)) ?_
  intro W base args ds gs before hval0 hW hcnd _
  have hval : ∀ (j : Nat) t v, Try.f8.params[j]? = some t → args[j]? = some v → Value.okWide Try.prog W .any base t v := hval0
  have hW' := hW
  obtain ⟨p, q, hA0, hV, rfl, hfz, hnd⟩ := hW
  have hA : DataW.TrodAll enc Try.prog W 0 (fun _ => true) true Try.f8.params.toList args.toList ds p := hA0
  rw [Try.params8] at hA hval
  obtain ⟨v0, vs0, d0, ds0, p0, q0, hargs, rfl, rfl, h0, r0⟩ := trodAll_cons hA
  obtain ⟨v1, vs1, d1, ds1, p1, q1, rfl, rfl, rfl, h1, r1⟩ := trodAll_cons r0
  obtain ⟨rfl, rfl, rfl⟩ := trodAll_nil r1
  obtain rfl : args = #[v0, v1] := by cases args; simp_all
  obtain ⟨rfl, rfl⟩ := trodVars_none hV
  have k0 := h0
  have lt0 : ∀ x ∈ p0, x.block < W.heap.size := by obtain ⟨m, hm⟩ := k0; exact DataW.trod_lt m _ _ _ hm
  obtain ⟨cs0, rfl, hcs0⟩ := okWide_struct Try.underlying41 (hval 0 _ v0 rfl rfl)
  obtain ⟨fuel0, hf0⟩ := h0
  obtain ⟨x0, hx0⟩ := trdSTG.2 _ _ _ _ _ _ _ _ hf0
  obtain ⟨cs0⟩ := cs0
  have hl0 := hx0.len
  obtain ⟨a0_0, a0_1, a0_2, a0_3, a0_4, rfl⟩ := list_len5 (l := cs0) hl0
  have hx0 : Rep lSTG W [a0_0, a0_1, a0_2, a0_3, a0_4] x0 := hx0
  have k1 := h1
  have lt1 : ∀ x ∈ p1, x.block < W.heap.size := by obtain ⟨m, hm⟩ := k1; exact DataW.trod_lt m _ _ _ hm
  obtain ⟨cs1, rfl, hcs1⟩ := okWide_struct Try.underlying41 (hval 1 _ v1 rfl rfl)
  obtain ⟨fuel1, hf1⟩ := h1
  obtain ⟨x1, hx1⟩ := trdSTG.2 _ _ _ _ _ _ _ _ hf1
  obtain ⟨cs1⟩ := cs1
  have hl1 := hx1.len
  obtain ⟨a1_0, a1_1, a1_2, a1_3, a1_4, rfl⟩ := list_len5 (l := cs1) hl1
  have hx1 : Rep lSTG W [a1_0, a1_1, a1_2, a1_3, a1_4] x1 := hx1
  clear hA0 hval0
  refine (FC.calls (fc_laws_FnExactPreservesFirings x0 x1) (CmsR.mkA hx0 (CmsR.mkA hx1 CmsR.nil0))).mono fun e W' ⟨he, bel0⟩ => ?_
  subst he
  have bel : Below W.heap.size W W' := bel0
  exact ⟨_, rfl, _, _, _, [], _, [], hW', trodAll_mk1 (shut_bool Try.underlying4 _), (trodAll_cons_mk (Below.trod laidOut (by kernel_rfl) (of_decide_eq_true (by kernel_rfl)) k0 bel lt0) (trodAll_cons_mk (Below.trod laidOut (by kernel_rfl) (of_decide_eq_true (by kernel_rfl)) k1 bel lt1) trodAll_mk0)), rfl, bel.frame _, fun h => by cases h⟩

theorem over : Rows.fnExactPreservesFiringsRow.holds Try.pinned (OpenSpec.ofChange Rows.fnExactPreservesFiringsSpec) :=
  OpenClaim.holds_of_wide 8 Try.f8 rfl rfl rfl rfl rfl rfl rfl ⟨rfl, rfl, rfl, rfl, rfl⟩ rfl rfl rfl rfl rfl (by kernel_rfl) Try.func8 (by kernel_rfl)
    (of_decide_eq_true (by kernel_rfl)) (by unfold Func.isWrapper; first | (rw [if_pos (by decide +kernel)]; kernel_rfl) | (rw [if_neg (by decide +kernel)]; exact ⟨rfl, rfl⟩))
    (fun os started H enc _ => lifted os started H enc)

end Go.Proofs.Ytbelopdphlllnaa.FnExactPreservesFirings
namespace Go.Proofs.Ytbelopdphlllnaa

/-- FnExactPreservesFirings holds of every input. -/
theorem fnExactPreservesFirings_proved : Rows.FnExactPreservesFiringsSaid := FnExactPreservesFirings.over
#print axioms fnExactPreservesFirings_proved
end Go.Proofs.Ytbelopdphlllnaa
