/- FnGates: the statement, from its walk. Whatever the input, the law answers true, and the input reads as it did. No condition. -/
import Derived.Test.YtjfpbcmfbnnooaaGreatRows
import Derived.Test.YtjfpbcmfbnnooaaGreatGKj
import Derived.Test.YtjfpbcmfbnnooaaGreatGStr
import Derived.Test.YtjfpbcmfbnnooaaGreatProg
import Derived.KernelRfl
import Derived.WalkKit
import Derived.ProofKit
import Derived.OpenShut
import Derived.ShutString
import Derived.ChangeOld
import Derived.Below
set_option linter.unusedSimpArgs false
set_option linter.unusedVariables false
set_option linter.unusedSectionVars false
namespace Go.Proofs.YtjfpbcmfbnnooaaGreat.FnGates
set_option maxHeartbeats 4000000
set_option maxRecDepth 100000
open Go.ChangeShapes Go.WideShapes Go.ChangeAt Go.RowKit
theorem own:ownKnob Tryz.prog.godebug=none:=by kernel_rfl
theorem QnV:laidOutB Tryz.prog=true:=by kernel_rfl
theorem Qxr (os:Os)(d:os.Started)(H:Type)(enc:TypeId×Value→H):
 ReturnsInHanded {} Tryz.checked os 3 .any (Rows.fnGatesSpec.pre6 enc Tryz.prog Tryz.f3 Rows.fnGatesRow.domain false) (Rows.fnGatesSpec.post enc Tryz.prog Tryz.f3 false true false false):=by
 refine returnsInHanded_of_change (C:=Tryz.checked) own d (by kernel_rfl) Tryz.func3
  (ChangeSpec.witness6 (enc:=enc) (C:=Tryz.checked) false ⟨#[],#[.slice none 0 0,.slice none 0 0],[]⟩ 8 (by kernel_rfl) (by kernel_rfl) (by kernel_rfl) (by kernel_rfl)) ?_
 intro W k a X gs w c M N _
 have b:∀(j:Nat) t v,Tryz.f3.params[j]? =some t→a[j]? =some v→Value.okWide Tryz.prog W .any k t v:=c
 have A:=M
 obtain ⟨p,q,r,hV,rfl,a0,a1⟩:=M
 have L:DataW.TrodAll enc Tryz.prog W 0 (fun _=>true) true Tryz.f3.params.toList a.toList X p:=r
 rw[Tryz.params3] at L b
 obtain ⟨Q,a2,d0,Y,p0,q0,B,rfl,rfl,J,r0⟩:=trodAll_cons L
 obtain ⟨R,a3,d1,Z,p1,q1,rfl,rfl,rfl,K,r1⟩:=trodAll_cons r0
 obtain ⟨rfl,rfl,rfl⟩:=trodAll_nil r1
 obtain rfl:a= #[Q,R]:=by cases a;simp_all
 obtain ⟨rfl,rfl⟩:=trodVars_none hV
 have O:=J
 have G:∀x∈p0,x.block<W.heap.size:=by obtain ⟨m,F⟩:=O;exact DataW.trod_lt m _ _ _ F
 obtain ⟨y,D⟩:=J
 obtain ⟨b0,s,n,rfl⟩:=okWide_slice Tryz.underlying22 (b 0 _ Q rfl rfl)
 obtain ⟨S,g⟩:=((Trd.sl (by kernel_rfl) (by kernel_rfl) (Trd.u8 (by kernel_rfl) (by kernel_rfl))):Trd Tryz.prog _ QS).2 _ _ _ _ _ _ _ _ D
 have g:Rep QS W [.slice b0 s n] S:=g
 have P:=K
 have I:∀x∈p1,x.block<W.heap.size:=by obtain ⟨m,F⟩:=P;exact DataW.trod_lt m _ _ _ F
 obtain ⟨z,E⟩:=K
 obtain ⟨V,u,o,rfl⟩:=okWide_slice Tryz.underlying22 (b 1 _ R rfl rfl)
 obtain ⟨T,i⟩:=((Trd.sl (by kernel_rfl) (by kernel_rfl) (Trd.u8 (by kernel_rfl) (by kernel_rfl))):Trd Tryz.prog _ QS).2 _ _ _ _ _ _ _ _ E
 have i:Rep QS W [.slice V u o] T:=i
 clear r c
 refine (QqF (Qdb S T) (Qi9 g (Qi9 i QoN))).mono fun e U ⟨he,l⟩=> ?_
 subst he
 have f:Below W.heap.size W U:=l
 exact ⟨_,rfl,_,_,_,[],_,[],A,trodAll_mk1 (shut_bool Tryz.underlying4 _),(trodAll_cons_mk (Below.trod QnV (by kernel_rfl) (ab (by kernel_rfl)) O f G) (trodAll_cons_mk (Below.trod QnV (by kernel_rfl) (ab (by kernel_rfl)) P f I) trodAll_mk0)),rfl,f.frame _,fun h=>by cases h⟩
theorem c1:Tryz.pinned.checked.prog.funcNamed Rows.fnGatesRow.func=some 3:=by kernel_rfl
theorem c2:joinedFacts Tryz.pinned.checked.prog 3 Tryz.f3 Rows.fnGatesSpec Rows.fnGatesRow=true:=by
 unfold joinedFacts
 simp only[aM]
 repeat' apply And.intro
 all_goals as_aux_lemma=>kernel_rfl
theorem c3:Tryz.f3.isInstance Tryz.pinned.checked.prog Rows.fnGatesRow.origin Rows.fnGatesRow.targs:=ab (by kernel_rfl)
theorem c4:Tryz.f3.isWrapper Tryz.pinned.checked.prog Rows.fnGatesRow.wrapper Rows.fnGatesRow.mainSum:=by unfold Func.isWrapper;first|(rw[if_pos (by decide+kernel)];kernel_rfl)|(rw[if_neg (by decide+kernel)];exact ⟨rfl,rfl⟩)
theorem over:Rows.fnGatesRow.holds Tryz.pinned (OpenSpec.ofChange Rows.fnGatesSpec):=
 OpenClaim.holds_of_wide 3 Tryz.f3 rfl rfl rfl rfl rfl rfl rfl ⟨rfl,rfl,rfl,rfl,rfl⟩ rfl rfl rfl rfl rfl c1 Tryz.func3 c2 c3 c4
  (fun c a H b _=>Qxr c a H b)
end Go.Proofs.YtjfpbcmfbnnooaaGreat.FnGates
namespace Go.Proofs.YtjfpbcmfbnnooaaGreat
set_option maxHeartbeats 4000000
set_option maxRecDepth 100000
theorem fnGates_proved:Rows.FnGatesSaid:=FnGates.over
#print axioms fnGates_proved
end Go.Proofs.YtjfpbcmfbnnooaaGreat
