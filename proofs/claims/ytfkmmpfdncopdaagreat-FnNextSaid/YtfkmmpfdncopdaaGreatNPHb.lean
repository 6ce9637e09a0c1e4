/- FnNext: the statement, from its walk. Whatever the input, the law answers true, and the input reads as it did. No condition. -/
import Derived.Test.YtfkmmpfdncopdaaGreatRows
import Derived.Test.YtfkmmpfdncopdaaGreatNHw
import Derived.Test.YtfkmmpfdncopdaaGreatNStr
import Derived.Test.YtfkmmpfdncopdaaGreatProg
import Derived.KernelRfl
import Derived.WalkKit
import Derived.ProofKit
import Derived.OpenShut
import Derived.ShutString
import Derived.ChangeOld
import Derived.Below
set_option linter.unusedSimpArgs false
set_option linter.unusedVariables false
set_option linter.unusedSectionVars false
namespace Go.Proofs.YtfkmmpfdncopdaaGreat.FnNext
set_option maxHeartbeats 4000000
set_option maxRecDepth 100000
open Go.ChangeShapes Go.WideShapes Go.ChangeAt Go.RowKit
theorem own:ownKnob Tryz.prog.godebug=none:=by kernel_rfl
theorem QiP:laidOutB Tryz.prog=true:=by kernel_rfl
theorem Qqu (os:Os)(started:os.Started)(H:Type)(enc:TypeId×Value→H):
    ReturnsInHanded {} Tryz.checked os 4 .any (Rows.fnNextSpec.pre6 enc Tryz.prog Tryz.f4 Rows.fnNextRow.domain false) (Rows.fnNextSpec.post enc Tryz.prog Tryz.f4 false true false false):=by
  refine returnsInHanded_of_change (C:=Tryz.checked) own started (by kernel_rfl) Tryz.func4
    (ChangeSpec.witness6 (enc:=enc) (C:=Tryz.checked) false ⟨#[], #[.slice none 0 0, .slice none 0 0],[]⟩ 8 (by kernel_rfl) (by kernel_rfl) (by kernel_rfl) (by kernel_rfl)) ?_
  intro W base args ds gs before hval0 hW hcnd _
  have hval:∀(j:Nat) t v,Tryz.f4.params[j]? =some t→args[j]? =some v→Value.okWide Tryz.prog W .any base t v:=hval0
  have hW':=hW
  obtain ⟨p,q,hA0,hV,rfl,hfz,hnd⟩:=hW
  have hA:DataW.TrodAll enc Tryz.prog W 0 (fun _=>true) true Tryz.f4.params.toList args.toList ds p:=hA0
  rw[Tryz.params4] at hA hval
  obtain ⟨v0,vs0,d0,ds0,p0,q0,hargs,rfl,rfl,h0,r0⟩:=trodAll_cons hA
  obtain ⟨v1,vs1,d1,ds1,p1,q1,rfl,rfl,rfl,h1,r1⟩:=trodAll_cons r0
  obtain ⟨rfl,rfl,rfl⟩:=trodAll_nil r1
  obtain rfl:args= #[v0,v1]:=by cases args; simp_all
  obtain ⟨rfl,rfl⟩:=trodVars_none hV
  have k0:=h0
  have lt0:∀x∈p0,x.block < W.heap.size:=by obtain ⟨m,hm⟩:=k0; exact DataW.trod_lt m _ _ _ hm
  obtain ⟨fuel0,hf0⟩:=h0
  obtain ⟨b0,len0,cap0,rfl⟩:=okWide_slice Tryz.underlying22 (hval 0 _ v0 rfl rfl)
  obtain ⟨x0,hx0⟩:=((Trd.sl (by kernel_rfl) (by kernel_rfl) (Trd.u8 (by kernel_rfl) (by kernel_rfl))):Trd Tryz.prog _ (.sl 5 .u8)).2 _ _ _ _ _ _ _ _ hf0
  have hx0:Rep (.sl 5 .u8) W [.slice b0 len0 cap0] x0:=hx0
  have k1:=h1
  have lt1:∀x∈p1,x.block < W.heap.size:=by obtain ⟨m,hm⟩:=k1; exact DataW.trod_lt m _ _ _ hm
  obtain ⟨fuel1,hf1⟩:=h1
  obtain ⟨b1,len1,cap1,rfl⟩:=okWide_slice Tryz.underlying22 (hval 1 _ v1 rfl rfl)
  obtain ⟨x1,hx1⟩:=((Trd.sl (by kernel_rfl) (by kernel_rfl) (Trd.u8 (by kernel_rfl) (by kernel_rfl))):Trd Tryz.prog _ (.sl 5 .u8)).2 _ _ _ _ _ _ _ _ hf1
  have hx1:Rep (.sl 5 .u8) W [.slice b1 len1 cap1] x1:=hx1
  clear hA0 hval0
  refine (Qmv (Qb4 x0 x1) (Qgc hx0 (Qgc hx1 QkJ))).mono fun e W' ⟨he,bel0⟩=> ?_
  subst he
  have bel:Below W.heap.size W W':=bel0
  exact ⟨_,rfl,_,_,_,[],_,[],hW',trodAll_mk1 (shut_bool Tryz.underlying4 _),(trodAll_cons_mk (Below.trod QiP (by kernel_rfl) (ae (by kernel_rfl)) k0 bel lt0) (trodAll_cons_mk (Below.trod QiP (by kernel_rfl) (ae (by kernel_rfl)) k1 bel lt1) trodAll_mk0)),rfl,bel.frame _,fun h=>by cases h⟩
theorem c1:Tryz.pinned.checked.prog.funcNamed Rows.fnNextRow.func=some 4:=by kernel_rfl
theorem c2:joinedFacts Tryz.pinned.checked.prog 4 Tryz.f4 Rows.fnNextSpec Rows.fnNextRow=true:=by
  unfold joinedFacts
  simp only[aL]
  repeat' apply And.intro
  all_goals as_aux_lemma=>kernel_rfl
theorem c3:Tryz.f4.isInstance Tryz.pinned.checked.prog Rows.fnNextRow.origin Rows.fnNextRow.targs:=ae (by kernel_rfl)
theorem c4:Tryz.f4.isWrapper Tryz.pinned.checked.prog Rows.fnNextRow.wrapper Rows.fnNextRow.mainSum:=by unfold Func.isWrapper; first | (rw[if_pos (by decide+kernel)]; kernel_rfl) | (rw[if_neg (by decide+kernel)]; exact ⟨rfl,rfl⟩)
theorem over:Rows.fnNextRow.holds Tryz.pinned (OpenSpec.ofChange Rows.fnNextSpec):=
  OpenClaim.holds_of_wide 4 Tryz.f4 rfl rfl rfl rfl rfl rfl rfl ⟨rfl,rfl,rfl,rfl,rfl⟩ rfl rfl rfl rfl rfl c1 Tryz.func4 c2 c3 c4
    (fun os started H enc _=>Qqu os started H enc)
end Go.Proofs.YtfkmmpfdncopdaaGreat.FnNext
namespace Go.Proofs.YtfkmmpfdncopdaaGreat
set_option maxHeartbeats 4000000
set_option maxRecDepth 100000
theorem fnNext_proved:Rows.FnNextSaid:=FnNext.over
#print axioms fnNext_proved
end Go.Proofs.YtfkmmpfdncopdaaGreat
