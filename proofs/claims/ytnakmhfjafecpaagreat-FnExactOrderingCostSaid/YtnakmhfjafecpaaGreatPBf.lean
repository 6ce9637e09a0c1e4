/- FnExactOrderingCost: the statement, from its walk. Whatever the input, the law answers true, and the input reads as it did. No condition. -/
import Derived.Test.YtnakmhfjafecpaaGreatRows
import Derived.Test.YtnakmhfjafecpaaGreatCm
import Derived.Test.YtnakmhfjafecpaaGreatTrd
import Derived.WalkKit
import Derived.ProofKit
import Derived.OpenShut
import Derived.ShutString
import Derived.ChangeOld
import Derived.Below
set_option linter.unusedSimpArgs false
set_option linter.unusedVariables false
set_option linter.unusedSectionVars false
namespace Go.Proofs.YtnakmhfjafecpaaGreat.FnExactOrderingCost
set_option maxHeartbeats 4000000
set_option maxRecDepth 100000
open Go.ChangeShapes Go.WideShapes Go.ChangeAt Go.RowKit
theorem own:ownKnob Tryz.prog.godebug=none:=by kernel_rfl
theorem Qbk:laidOutB Tryz.prog=true:=by kernel_rfl
theorem QhY (os:Os)(started:os.Started)(H:Type)(enc:TypeId×Value→H):
    ReturnsInHanded {} Tryz.checked os 8 .any (Rows.fnExactOrderingCostSpec.pre6 enc Tryz.prog Tryz.f8 Rows.fnExactOrderingCostRow.domain false) (Rows.fnExactOrderingCostSpec.post enc Tryz.prog Tryz.f8 false true false false):=by
  refine returnsInHanded_of_change (C:=Tryz.checked) own started (by kernel_rfl) Tryz.func8
    (ChangeSpec.witness6 (enc:=enc) (C:=Tryz.checked) false ⟨#[], #[.agg #[.int .i64 0, .slice none 0 0, .slice none 0 0, .slice none 0 0, .string ⟨#[]⟩], .agg #[.int .i64 0, .int .i64 0, .bool false]],[]⟩ 8 (by kernel_rfl) (by kernel_rfl) (by kernel_rfl) (by kernel_rfl)) ?_
  intro W base args ds gs before hval0 hW hcnd _
  have hval:∀(j:Nat) t v,Tryz.f8.params[j]? =some t→args[j]? =some v→Value.okWide Tryz.prog W .any base t v:=hval0
  have hW':=hW
  obtain ⟨p,q,hA0,hV,rfl,hfz,hnd⟩:=hW
  have hA:DataW.TrodAll enc Tryz.prog W 0 (fun _=>true) true Tryz.f8.params.toList args.toList ds p:=hA0
  rw[Tryz.params8] at hA hval
  obtain ⟨v0,vs0,d0,ds0,p0,q0,hargs,rfl,rfl,h0,r0⟩:=trodAll_cons hA
  obtain ⟨v1,vs1,d1,ds1,p1,q1,rfl,rfl,rfl,h1,r1⟩:=trodAll_cons r0
  obtain ⟨rfl,rfl,rfl⟩:=trodAll_nil r1
  obtain rfl:args= #[v0,v1]:=by cases args; simp_all
  obtain ⟨rfl,rfl⟩:=trodVars_none hV
  have k0:=h0
  have lt0:∀x∈p0,x.block < W.heap.size:=by obtain ⟨m,hm⟩:=k0; exact DataW.trod_lt m _ _ _ hm
  obtain ⟨cs0,rfl,hcs0⟩:=okWide_struct Tryz.underlying28 (hval 0 _ v0 rfl rfl)
  obtain ⟨fuel0,hf0⟩:=h0
  obtain ⟨x0,hx0⟩:=QmS.2 _ _ _ _ _ _ _ _ hf0
  obtain ⟨cs0⟩:=cs0
  have hl0:=hx0.len
  obtain ⟨a0_0,a0_1,a0_2,a0_3,a0_4,rfl⟩:=WR (l:=cs0) hl0
  have hx0:Rep UM W [a0_0,a0_1,a0_2,a0_3,a0_4] x0:=hx0
  have k1:=h1
  have lt1:∀x∈p1,x.block < W.heap.size:=by obtain ⟨m,hm⟩:=k1; exact DataW.trod_lt m _ _ _ hm
  obtain ⟨cs1,rfl,hcs1⟩:=okWide_struct Tryz.underlying83 (hval 1 _ v1 rfl rfl)
  obtain ⟨fuel1,hf1⟩:=h1
  obtain ⟨x1,hx1⟩:=QgZ.2 _ _ _ _ _ _ _ _ hf1
  obtain ⟨cs1⟩:=cs1
  have hl1:=hx1.len
  obtain ⟨a1_0,a1_1,a1_2,rfl⟩:=KP (l:=cs1) hl1
  have hx1:Rep YZ W [a1_0,a1_1,a1_2] x1:=hx1
  clear hA0 hval0
  refine (QgR (WD x0 x1) (Qco hx0 (Qco hx1 Qeo))).mono fun e W' ⟨he,bel0⟩=> ?_
  subst he
  have bel:Below W.heap.size W W':=bel0
  exact ⟨_,rfl,_,_,_,[],_,[],hW',trodAll_mk1 (shut_bool Tryz.underlying4 _),(trodAll_cons_mk (Below.trod Qbk (by kernel_rfl) (of_decide_eq_true (by kernel_rfl)) k0 bel lt0) (trodAll_cons_mk (Below.trod Qbk (by kernel_rfl) (of_decide_eq_true (by kernel_rfl)) k1 bel lt1) trodAll_mk0)),rfl,bel.frame _,fun h=>by cases h⟩
theorem c1:Tryz.pinned.checked.prog.funcNamed Rows.fnExactOrderingCostRow.func=some 8:=by kernel_rfl
theorem c2:joinedFacts Tryz.pinned.checked.prog 8 Tryz.f8 Rows.fnExactOrderingCostSpec Rows.fnExactOrderingCostRow=true:=by
  unfold joinedFacts
  simp only[Bool.and_eq_true]
  repeat' apply And.intro
  all_goals as_aux_lemma=>kernel_rfl
theorem c3:Tryz.f8.isInstance Tryz.pinned.checked.prog Rows.fnExactOrderingCostRow.origin Rows.fnExactOrderingCostRow.targs:=of_decide_eq_true (by kernel_rfl)
theorem c4:Tryz.f8.isWrapper Tryz.pinned.checked.prog Rows.fnExactOrderingCostRow.wrapper Rows.fnExactOrderingCostRow.mainSum:=by unfold Func.isWrapper; first | (rw[if_pos (by decide+kernel)]; kernel_rfl) | (rw[if_neg (by decide+kernel)]; exact ⟨rfl,rfl⟩)
theorem over:Rows.fnExactOrderingCostRow.holds Tryz.pinned (OpenSpec.ofChange Rows.fnExactOrderingCostSpec):=
  OpenClaim.holds_of_wide 8 Tryz.f8 rfl rfl rfl rfl rfl rfl rfl ⟨rfl,rfl,rfl,rfl,rfl⟩ rfl rfl rfl rfl rfl c1 Tryz.func8 c2 c3 c4
    (fun os started H enc _=>QhY os started H enc)
end Go.Proofs.YtnakmhfjafecpaaGreat.FnExactOrderingCost
namespace Go.Proofs.YtnakmhfjafecpaaGreat
set_option maxHeartbeats 4000000
set_option maxRecDepth 100000
theorem fnExactOrderingCost_proved:Rows.FnExactOrderingCostSaid:=FnExactOrderingCost.over
#print axioms fnExactOrderingCost_proved
end Go.Proofs.YtnakmhfjafecpaaGreat
