/- FnExactResolveConflicts: the statement, from its walk. Whatever the input, the law answers true, and the input reads as it did. No condition. -/
import Derived.Test.YtnakmhfjafecpaaGreatRows
import Derived.Test.YtnakmhfjafecpaaGreatCo
import Derived.Test.YtnakmhfjafecpaaGreatNet
import Derived.WalkKit
import Derived.ProofKit
import Derived.OpenShut
import Derived.ShutString
import Derived.ChangeOld
import Derived.Below
set_option linter.unusedSimpArgs false
set_option linter.unusedVariables false
set_option linter.unusedSectionVars false
namespace Go.Proofs.YtnakmhfjafecpaaGreat.FnExactResolveConflicts
set_option maxHeartbeats 4000000
set_option maxRecDepth 100000
open Go.ChangeShapes Go.WideShapes Go.ChangeAt Go.RowKit
theorem own:ownKnob Tryz.prog.godebug=none:=by kernel_rfl
theorem Qns:laidOutB Tryz.prog=true:=by kernel_rfl
theorem Qpw (os:Os)(started:os.Started)(H:Type)(enc:TypeId×Value→H):
    ReturnsInHanded {} Tryz.checked os 10 .any (Rows.fnExactResolveConflictsSpec.pre6 enc Tryz.prog Tryz.f10 Rows.fnExactResolveConflictsRow.domain false) (Rows.fnExactResolveConflictsSpec.post enc Tryz.prog Tryz.f10 false true false false):=by
  refine returnsInHanded_of_change (C:=Tryz.checked) own started (by kernel_rfl) Tryz.func10
    (ChangeSpec.witness6 (enc:=enc) (C:=Tryz.checked) false ⟨#[], #[.agg #[.slice none 0 0, .slice none 0 0, .slice none 0 0]],[]⟩ 8 (by kernel_rfl) (by kernel_rfl) (by kernel_rfl) (by kernel_rfl)) ?_
  intro W base args ds gs before hval0 hW hcnd _
  have hval:∀(j:Nat) t v,Tryz.f10.params[j]? =some t→args[j]? =some v→Value.okWide Tryz.prog W .any base t v:=hval0
  have hW':=hW
  obtain ⟨p,q,hA0,hV,rfl,hfz,hnd⟩:=hW
  have hA:DataW.TrodAll enc Tryz.prog W 0 (fun _=>true) true Tryz.f10.params.toList args.toList ds p:=hA0
  rw[Tryz.params10] at hA hval
  obtain ⟨v0,vs0,d0,ds0,p0,q0,hargs,rfl,rfl,h0,r0⟩:=trodAll_cons hA
  obtain ⟨rfl,rfl,rfl⟩:=trodAll_nil r0
  obtain rfl:args= #[v0]:=by cases args; simp_all
  obtain ⟨rfl,rfl⟩:=trodVars_none hV
  have k0:=h0
  have lt0:∀x∈p0,x.block < W.heap.size:=by obtain ⟨m,hm⟩:=k0; exact DataW.trod_lt m _ _ _ hm
  obtain ⟨cs0,rfl,hcs0⟩:=okWide_struct Tryz.underlying49 (hval 0 _ v0 rfl rfl)
  obtain ⟨fuel0,hf0⟩:=h0
  obtain ⟨x0,hx0⟩:=QdC.2 _ _ _ _ _ _ _ _ hf0
  obtain ⟨cs0⟩:=cs0
  have hl0:=hx0.len
  obtain ⟨a0_0,a0_1,a0_2,rfl⟩:=Uo (l:=cs0) hl0
  have hx0:Rep ZF W [a0_0,a0_1,a0_2] x0:=hx0
  clear hA0 hval0
  refine (QmQ (Wt x0) (Qma hx0 Qkz)).mono fun e W' ⟨he,bel0⟩=> ?_
  subst he
  have bel:Below W.heap.size W W':=bel0
  exact ⟨_,rfl,_,_,_,[],_,[],hW',trodAll_mk1 (shut_bool Tryz.underlying4 _),(trodAll_cons_mk (Below.trod Qns (by kernel_rfl) (of_decide_eq_true (by kernel_rfl)) k0 bel lt0) trodAll_mk0),rfl,bel.frame _,fun h=>by cases h⟩
theorem c1:Tryz.pinned.checked.prog.funcNamed Rows.fnExactResolveConflictsRow.func=some 10:=by kernel_rfl
theorem c2:joinedFacts Tryz.pinned.checked.prog 10 Tryz.f10 Rows.fnExactResolveConflictsSpec Rows.fnExactResolveConflictsRow=true:=by
  unfold joinedFacts
  simp only[Bool.and_eq_true]
  repeat' apply And.intro
  all_goals as_aux_lemma=>kernel_rfl
theorem c3:Tryz.f10.isInstance Tryz.pinned.checked.prog Rows.fnExactResolveConflictsRow.origin Rows.fnExactResolveConflictsRow.targs:=of_decide_eq_true (by kernel_rfl)
theorem c4:Tryz.f10.isWrapper Tryz.pinned.checked.prog Rows.fnExactResolveConflictsRow.wrapper Rows.fnExactResolveConflictsRow.mainSum:=by unfold Func.isWrapper; first | (rw[if_pos (by decide+kernel)]; kernel_rfl) | (rw[if_neg (by decide+kernel)]; exact ⟨rfl,rfl⟩)
theorem over:Rows.fnExactResolveConflictsRow.holds Tryz.pinned (OpenSpec.ofChange Rows.fnExactResolveConflictsSpec):=
  OpenClaim.holds_of_wide 10 Tryz.f10 rfl rfl rfl rfl rfl rfl rfl ⟨rfl,rfl,rfl,rfl,rfl⟩ rfl rfl rfl rfl rfl c1 Tryz.func10 c2 c3 c4
    (fun os started H enc _=>Qpw os started H enc)
end Go.Proofs.YtnakmhfjafecpaaGreat.FnExactResolveConflicts
namespace Go.Proofs.YtnakmhfjafecpaaGreat
set_option maxHeartbeats 4000000
set_option maxRecDepth 100000
theorem fnExactResolveConflicts_proved:Rows.FnExactResolveConflictsSaid:=FnExactResolveConflicts.over
#print axioms fnExactResolveConflicts_proved
end Go.Proofs.YtnakmhfjafecpaaGreat
