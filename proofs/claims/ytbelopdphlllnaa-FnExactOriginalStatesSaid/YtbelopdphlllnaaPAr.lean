/- FnExactOriginalStates: the statement, from its walk. Whatever the input, the law answers true, and the input reads as it did. No condition. -/
import Derived.Test.YtbelopdphlllnaaRows
import Derived.Test.YtbelopdphlllnaaVi
import Derived.Test.YtbelopdphlllnaaAs
import Derived.WalkKit
import Derived.ProofKit
import Derived.OpenShut
import Derived.ShutString
import Derived.ChangeOld
import Derived.Below
set_option linter.unusedSimpArgs false
set_option linter.unusedVariables false
namespace Go.Proofs.Ytbelopdphlllnaa.FnExactOriginalStates
open Go.ChangeShapes Go.WideShapes Go.ChangeAt Go.RowKit

theorem own : ownKnob Try.prog.godebug = none := by kernel_rfl
theorem laidOut : laidOutB Try.prog = true := by kernel_rfl

set_option maxRecDepth 100000 in
set_option maxHeartbeats 2000000 in
theorem lifted (os : Os) (started : os.Started) (H : Type) (enc : TypeId × Value → H) :
    ReturnsInHanded {} Try.checked os 6 .any (Rows.fnExactOriginalStatesSpec.pre6 enc Try.prog Try.f6 Rows.fnExactOriginalStatesRow.domain false) (Rows.fnExactOriginalStatesSpec.post enc Try.prog Try.f6 false true false false) := by
  refine returnsInHanded_of_change (C := Try.checked) own started (by kernel_rfl) Try.func6
    (ChangeSpec.witness6 (enc := enc) (C := Try.checked) false ⟨#[], #[.agg #[.slice none 0 0, .slice none 0 0, .slice none 0 0], .string ⟨#[]⟩, .string ⟨#[]⟩], []⟩ 8 (by kernel_rfl) (by kernel_rfl) (by kernel_rfl) (by kernel_rfl)) ?_
  intro W base args ds gs before hval0 hW hcnd _
  have hval : ∀ (j : Nat) t v, Try.f6.params[j]? = some t → args[j]? = some v → Value.okWide Try.prog W .any base t v := hval0
  have hW' := hW
  obtain ⟨p, q, hA0, hV, rfl, hfz, hnd⟩ := hW
  have hA : DataW.TrodAll enc Try.prog W 0 (fun _ => true) true Try.f6.params.toList args.toList ds p := hA0
  rw [Try.params6] at hA hval
  obtain ⟨v0, vs0, d0, ds0, p0, q0, hargs, rfl, rfl, h0, r0⟩ := trodAll_cons hA
  obtain ⟨v1, vs1, d1, ds1, p1, q1, rfl, rfl, rfl, h1, r1⟩ := trodAll_cons r0
  obtain ⟨v2, vs2, d2, ds2, p2, q2, rfl, rfl, rfl, h2, r2⟩ := trodAll_cons r1
  obtain ⟨rfl, rfl, rfl⟩ := trodAll_nil r2
  obtain rfl : args = #[v0, v1, v2] := by cases args; simp_all
  obtain ⟨rfl, rfl⟩ := trodVars_none hV
  have k0 := h0
  have lt0 : ∀ x ∈ p0, x.block < W.heap.size := by obtain ⟨m, hm⟩ := k0; exact DataW.trod_lt m _ _ _ hm
  obtain ⟨cs0, rfl, hcs0⟩ := okWide_struct Try.underlying70 (hval 0 _ v0 rfl rfl)
  obtain ⟨fuel0, hf0⟩ := h0
  obtain ⟨x0, hx0⟩ := trdStateGraph.2 _ _ _ _ _ _ _ _ hf0
  obtain ⟨cs0⟩ := cs0
  have hl0 := hx0.len
  obtain ⟨a0_0, a0_1, a0_2, rfl⟩ := list_len3 (l := cs0) hl0
  have hx0 : Rep lStateGraph W [a0_0, a0_1, a0_2] x0 := hx0
  have k1 := h1
  have lt1 : ∀ x ∈ p1, x.block < W.heap.size := by obtain ⟨m, hm⟩ := k1; exact DataW.trod_lt m _ _ _ hm
  obtain ⟨fuel1, hf1⟩ := h1
  obtain ⟨b1, rfl⟩ := okWide_string (by kernel_rfl) (hval 1 _ v1 rfl rfl)
  obtain ⟨x1, hx1⟩ := ((Trd.str (by kernel_rfl) (by kernel_rfl)) : Trd Try.prog _ .str).2 _ _ _ _ _ _ _ _ hf1
  have hx1 : Rep .str W [.string b1] x1 := hx1
  have k2 := h2
  have lt2 : ∀ x ∈ p2, x.block < W.heap.size := by obtain ⟨m, hm⟩ := k2; exact DataW.trod_lt m _ _ _ hm
  obtain ⟨fuel2, hf2⟩ := h2
  obtain ⟨b2, rfl⟩ := okWide_string (by kernel_rfl) (hval 2 _ v2 rfl rfl)
  obtain ⟨x2, hx2⟩ := ((Trd.str (by kernel_rfl) (by kernel_rfl)) : Trd Try.prog _ .str).2 _ _ _ _ _ _ _ _ hf2
  have hx2 : Rep .str W [.string b2] x2 := hx2
  clear hA0 hval0
  refine (FC.calls (fc_laws_FnExactOriginalStates x0 x1 x2) (CmsR.mkA hx0 (CmsR.mkL hx1 (CmsR.mkL hx2 CmsR.nil0)))).mono fun e W' ⟨he, bel0⟩ => ?_
  subst he
  have bel : Below W.heap.size W W' := bel0
  exact ⟨_, rfl, _, _, _, [], _, [], hW', trodAll_mk1 (shut_bool Try.underlying4 _), (trodAll_cons_mk (Below.trod laidOut (by kernel_rfl) (of_decide_eq_true (by kernel_rfl)) k0 bel lt0) (trodAll_cons_mk (Below.trod laidOut (by kernel_rfl) (of_decide_eq_true (by kernel_rfl)) k1 bel lt1) (trodAll_cons_mk (Below.trod laidOut (by kernel_rfl) (of_decide_eq_true (by kernel_rfl)) k2 bel lt2) trodAll_mk0))), rfl, bel.frame _, fun h => by cases h⟩

theorem over : Rows.fnExactOriginalStatesRow.holds Try.pinned (OpenSpec.ofChange Rows.fnExactOriginalStatesSpec) :=
  OpenClaim.holds_of_wide 6 Try.f6 rfl rfl rfl rfl rfl rfl rfl ⟨rfl, rfl, rfl, rfl, rfl⟩ rfl rfl rfl rfl rfl (by kernel_rfl) Try.func6 (by kernel_rfl)
    (of_decide_eq_true (by kernel_rfl)) (by unfold Func.isWrapper; first | (rw [if_pos (by decide +kernel)]; kernel_rfl) | (rw [if_neg (by decide +kernel)]; exact ⟨rfl, rfl⟩))
    (fun os started H enc _ => lifted os started H enc)

end Go.Proofs.Ytbelopdphlllnaa.FnExactOriginalStates
namespace Go.Proofs.Ytbelopdphlllnaa

/-- FnExactOriginalStates holds of every input. -/
theorem fnExactOriginalStates_proved : Rows.FnExactOriginalStatesSaid := FnExactOriginalStates.over
#print axioms fnExactOriginalStates_proved
end Go.Proofs.Ytbelopdphlllnaa
