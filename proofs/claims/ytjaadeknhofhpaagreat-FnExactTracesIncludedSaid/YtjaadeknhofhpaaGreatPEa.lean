/- FnExactTracesIncluded: the statement, from its walk. Whatever the input, the law answers true, and the input reads as it did. No condition. -/
import Derived.Test.YtjaadeknhofhpaaGreatRows
import Derived.Test.YtjaadeknhofhpaaGreatEi
import Derived.Test.YtjaadeknhofhpaaGreatTrd
import Derived.WalkKit
import Derived.ProofKit
import Derived.OpenShut
import Derived.ShutString
import Derived.ChangeOld
import Derived.Below
set_option linter.unusedSimpArgs false
set_option linter.unusedVariables false
set_option linter.unusedSectionVars false
namespace Go.Proofs.YtjaadeknhofhpaaGreat.FnExactTracesIncluded
open Go.ChangeShapes Go.WideShapes Go.ChangeAt Go.RowKit

theorem own : ownKnob Tryz.prog.godebug = none := by kernel_rfl
theorem laidOut : laidOutB Tryz.prog = true := by kernel_rfl

set_option maxRecDepth 100000 in
set_option maxHeartbeats 2000000 in
theorem lifted (os : Os) (started : os.Started) (H : Type) (enc : TypeId × Value → H) :
    ReturnsInHanded {} Tryz.checked os 5 .any (Rows.fnExactTracesIncludedSpec.pre6 enc Tryz.prog Tryz.f5 Rows.fnExactTracesIncludedRow.domain false) (Rows.fnExactTracesIncludedSpec.post enc Tryz.prog Tryz.f5 false true false false) := by
  refine returnsInHanded_of_change (C := Tryz.checked) own started (by kernel_rfl) Tryz.func5
    (ChangeSpec.witness6 (enc := enc) (C := Tryz.checked) false ⟨#[], #[.agg #[.int .i64 0, .slice none 0 0, .slice none 0 0, .slice none 0 0, .string ⟨#[]⟩], .agg #[.int .i64 0, .slice none 0 0, .slice none 0 0, .slice none 0 0, .string ⟨#[]⟩], .int .i64 0], []⟩ 8 (by kernel_rfl) (by kernel_rfl) (by kernel_rfl) (by kernel_rfl)) ?_
  intro W base args ds gs before hval0 hW hcnd _
  have hval : ∀ (j : Nat) t v, Tryz.f5.params[j]? = some t → args[j]? = some v → Value.okWide Tryz.prog W .any base t v := hval0
  have hW' := hW
  obtain ⟨p, q, hA0, hV, rfl, hfz, hnd⟩ := hW
  have hA : DataW.TrodAll enc Tryz.prog W 0 (fun _ => true) true Tryz.f5.params.toList args.toList ds p := hA0
  rw [Tryz.params5] at hA hval
  obtain ⟨v0, vs0, d0, ds0, p0, q0, hargs, rfl, rfl, h0, r0⟩ := trodAll_cons hA
  obtain ⟨v1, vs1, d1, ds1, p1, q1, rfl, rfl, rfl, h1, r1⟩ := trodAll_cons r0
  obtain ⟨v2, vs2, d2, ds2, p2, q2, rfl, rfl, rfl, h2, r2⟩ := trodAll_cons r1
  obtain ⟨rfl, rfl, rfl⟩ := trodAll_nil r2
  obtain rfl : args = #[v0, v1, v2] := by cases args; simp_all
  obtain ⟨rfl, rfl⟩ := trodVars_none hV
  have k0 := h0
  have lt0 : ∀ x ∈ p0, x.block < W.heap.size := by obtain ⟨m, hm⟩ := k0; exact DataW.trod_lt m _ _ _ hm
  obtain ⟨cs0, rfl, hcs0⟩ := okWide_struct Tryz.underlying73 (hval 0 _ v0 rfl rfl)
  obtain ⟨fuel0, hf0⟩ := h0
  obtain ⟨x0, hx0⟩ := trdSTG.2 _ _ _ _ _ _ _ _ hf0
  obtain ⟨cs0⟩ := cs0
  have hl0 := hx0.len
  obtain ⟨a0_0, a0_1, a0_2, a0_3, a0_4, rfl⟩ := list_len5 (l := cs0) hl0
  have hx0 : Rep lSTG W [a0_0, a0_1, a0_2, a0_3, a0_4] x0 := hx0
  have k1 := h1
  have lt1 : ∀ x ∈ p1, x.block < W.heap.size := by obtain ⟨m, hm⟩ := k1; exact DataW.trod_lt m _ _ _ hm
  obtain ⟨cs1, rfl, hcs1⟩ := okWide_struct Tryz.underlying73 (hval 1 _ v1 rfl rfl)
  obtain ⟨fuel1, hf1⟩ := h1
  obtain ⟨x1, hx1⟩ := trdSTG.2 _ _ _ _ _ _ _ _ hf1
  obtain ⟨cs1⟩ := cs1
  have hl1 := hx1.len
  obtain ⟨a1_0, a1_1, a1_2, a1_3, a1_4, rfl⟩ := list_len5 (l := cs1) hl1
  have hx1 : Rep lSTG W [a1_0, a1_1, a1_2, a1_3, a1_4] x1 := hx1
  have k2 := h2
  have lt2 : ∀ x ∈ p2, x.block < W.heap.size := by obtain ⟨m, hm⟩ := k2; exact DataW.trod_lt m _ _ _ hm
  obtain ⟨fuel2, hf2⟩ := h2
  obtain ⟨b2, rfl⟩ := okWide_int (k := .i64) (by kernel_rfl) (hval 2 _ v2 rfl rfl)
  obtain ⟨x2, hx2⟩ := ((Trd.int (by kernel_rfl) (by kernel_rfl)) : Trd Tryz.prog _ .int).2 _ _ _ _ _ _ _ _ hf2
  have hx2 : Rep .int W [.int .i64 b2] x2 := hx2
  clear hA0 hval0
  refine (FC.calls (fc_laws_FnExactTracesIncluded x0 x1 x2) (CmsR.mkA hx0 (CmsR.mkA hx1 (CmsR.mkL hx2 CmsR.nil0)))).mono fun e W' ⟨he, bel0⟩ => ?_
  subst he
  have bel : Below W.heap.size W W' := bel0
  exact ⟨_, rfl, _, _, _, [], _, [], hW', trodAll_mk1 (shut_bool Tryz.underlying4 _), (trodAll_cons_mk (Below.trod laidOut (by kernel_rfl) (of_decide_eq_true (by kernel_rfl)) k0 bel lt0) (trodAll_cons_mk (Below.trod laidOut (by kernel_rfl) (of_decide_eq_true (by kernel_rfl)) k1 bel lt1) (trodAll_cons_mk (Below.trod laidOut (by kernel_rfl) (of_decide_eq_true (by kernel_rfl)) k2 bel lt2) trodAll_mk0))), rfl, bel.frame _, fun h => by cases h⟩

/- the closed facts, one declaration each: together they outgrow the kernel -/
theorem c1 : Tryz.pinned.checked.prog.funcNamed Rows.fnExactTracesIncludedRow.func = some 5 := by kernel_rfl
set_option maxHeartbeats 8000000 in
theorem c2 : joinedFacts Tryz.pinned.checked.prog 5 Tryz.f5 Rows.fnExactTracesIncludedSpec Rows.fnExactTracesIncludedRow = true := by
  unfold joinedFacts
  simp only [Bool.and_eq_true]
  repeat' apply And.intro
  all_goals as_aux_lemma => kernel_rfl
theorem c3 : Tryz.f5.isInstance Tryz.pinned.checked.prog Rows.fnExactTracesIncludedRow.origin Rows.fnExactTracesIncludedRow.targs := of_decide_eq_true (by kernel_rfl)
theorem c4 : Tryz.f5.isWrapper Tryz.pinned.checked.prog Rows.fnExactTracesIncludedRow.wrapper Rows.fnExactTracesIncludedRow.mainSum := by unfold Func.isWrapper; first | (rw [if_pos (by decide +kernel)]; kernel_rfl) | (rw [if_neg (by decide +kernel)]; exact ⟨rfl, rfl⟩)
theorem over : Rows.fnExactTracesIncludedRow.holds Tryz.pinned (OpenSpec.ofChange Rows.fnExactTracesIncludedSpec) :=
  OpenClaim.holds_of_wide 5 Tryz.f5 rfl rfl rfl rfl rfl rfl rfl ⟨rfl, rfl, rfl, rfl, rfl⟩ rfl rfl rfl rfl rfl c1 Tryz.func5 c2 c3 c4
    (fun os started H enc _ => lifted os started H enc)

end Go.Proofs.YtjaadeknhofhpaaGreat.FnExactTracesIncluded
namespace Go.Proofs.YtjaadeknhofhpaaGreat

/-- FnExactTracesIncluded holds of every input. -/
theorem fnExactTracesIncluded_proved : Rows.FnExactTracesIncludedSaid := FnExactTracesIncluded.over
#print axioms fnExactTracesIncluded_proved
end Go.Proofs.YtjaadeknhofhpaaGreat
