import Derived.Test.YtjfpbcmfbnnooaaGreatRows
import Derived.Test.YtjfpbcmfbnnooaaGreatPMk
import Derived.ProofKit
import Derived.OpenShut
import Derived.ShutString
import Derived.ChangeOld
import Derived.Below
set_option linter.all false
namespace Go.Proofs.YtjfpbcmfbnnooaaGreat.FnProducts
set_option maxHeartbeats 4000000
set_option maxRecDepth 100000
open Go.ChangeShapes Go.WideShapes Go.ChangeAt Go.RowKit
def own:ownKnob Tryz.prog.godebug=none:=by kernel_rfl
def Qpq:laidOutB Tryz.prog=true:=by kernel_rfl
theorem QAZ (Q:Os)(d:Q.Started)(H:Type)(enc:TypeId×Value→H):
 ReturnsInHanded {} Tryz.checked Q 4 .any (Rows.fnProductsSpec.pre6 enc Tryz.prog Tryz.f4 Rows.fnProductsRow.domain false) (Rows.fnProductsSpec.post enc Tryz.prog Tryz.f4 false true false false):=by
 refine returnsInHanded_of_change (C:=Tryz.checked) own d (by kernel_rfl) Tryz.func4
  (ChangeSpec.witness6 (enc:=enc) (C:=Tryz.checked) false ⟨#[],#[.slice none 0 0,.slice none 0 0],[]⟩ 8 (by kernel_rfl) (by kernel_rfl) (by kernel_rfl) (by kernel_rfl)) ?_
 intro W k a Y gs w c M N _
 have b:∀(j:Nat) t v,Tryz.f4.params[j]? =some t→a[j]? =some v→Value.okWide Tryz.prog W .any k t v:=c
 have A:=M
 obtain ⟨p,q,r,hV,rfl,a1,a2⟩:=M
 have L:DataW.TrodAll enc Tryz.prog W 0 (fun _=>true) true Tryz.f4.params.toList a.toList Y p:=r
 rw[Tryz.params4] at L b
 obtain ⟨R,a3,d0,Z,p0,q0,B,rfl,rfl,J,r0⟩:=trodAll_cons L
 obtain ⟨S,a4,d1,a0,p1,q1,rfl,rfl,rfl,K,r1⟩:=trodAll_cons r0
 obtain ⟨rfl,rfl,rfl⟩:=trodAll_nil r1
 obtain rfl:a= #[R,S]:=by cases a;simp_all
 obtain ⟨rfl,rfl⟩:=trodVars_none hV
 have O:=J
 have G:∀x∈p0,x.block<W.heap.size:=by obtain ⟨m,F⟩:=O;exact DataW.trod_lt m _ _ _ F
 obtain ⟨y,D⟩:=J
 obtain ⟨b0,s,n,rfl⟩:=okWide_slice Tryz.underlying22 (b 0 _ R rfl rfl)
 obtain ⟨T,g⟩:=((Trd.sl (by kernel_rfl) (by kernel_rfl) (Trd.u8 (by kernel_rfl) (by kernel_rfl))):Trd Tryz.prog _ QP).2 _ _ _ _ _ _ _ _ D
 have g:Rep QP W [.slice b0 s n] T:=g
 have P:=K
 have I:∀x∈p1,x.block<W.heap.size:=by obtain ⟨m,F⟩:=P;exact DataW.trod_lt m _ _ _ F
 obtain ⟨z,E⟩:=K
 obtain ⟨X,u,o,rfl⟩:=okWide_slice Tryz.underlying22 (b 1 _ S rfl rfl)
 obtain ⟨U,i⟩:=((Trd.sl (by kernel_rfl) (by kernel_rfl) (Trd.u8 (by kernel_rfl) (by kernel_rfl))):Trd Tryz.prog _ QP).2 _ _ _ _ _ _ _ _ E
 have i:Rep QP W [.slice X u o] U:=i
 clear r c
 refine (QsL (Qby T U) (Qj9 g (Qj9 i Qqt))).mono fun e V ⟨he,l⟩=> ?_
 subst he
 have f:Below W.heap.size W V:=l
 exact ⟨_,rfl,_,_,_,[],_,[],A,trodAll_mk1 (shut_bool Tryz.underlying4 _),(trodAll_cons_mk (Below.trod Qpq (by kernel_rfl) (aa (by kernel_rfl)) O f G) (trodAll_cons_mk (Below.trod Qpq (by kernel_rfl) (aa (by kernel_rfl)) P f I) trodAll_mk0)),rfl,f.frame _,fun h=>by cases h⟩
def c1:Tryz.pinned.checked.prog.funcNamed Rows.fnProductsRow.func=some 4:=by kernel_rfl
def c2:joinedFacts Tryz.pinned.checked.prog 4 Tryz.f4 Rows.fnProductsSpec Rows.fnProductsRow=true:=by
 unfold joinedFacts
 simp only[aH]
 repeat' apply And.intro
 all_goals as_aux_lemma=>kernel_rfl
def c3:Tryz.f4.isInstance Tryz.pinned.checked.prog Rows.fnProductsRow.origin Rows.fnProductsRow.targs:=aa (by kernel_rfl)
def c4:Tryz.f4.isWrapper Tryz.pinned.checked.prog Rows.fnProductsRow.wrapper Rows.fnProductsRow.mainSum:=by unfold Func.isWrapper;first|(rw[if_pos (by decide+kernel)];kernel_rfl)|(rw[if_neg (by decide+kernel)];exact ⟨rfl,rfl⟩)
def over:Rows.fnProductsRow.holds Tryz.pinned (OpenSpec.ofChange Rows.fnProductsSpec):=
 OpenClaim.holds_of_wide 4 Tryz.f4 rfl rfl rfl rfl rfl rfl rfl ⟨rfl,rfl,rfl,rfl,rfl⟩ rfl rfl rfl rfl rfl c1 Tryz.func4 c2 c3 c4
  (fun c a H b _=>QAZ c a H b)
end Go.Proofs.YtjfpbcmfbnnooaaGreat.FnProducts
namespace Go.Proofs.YtjfpbcmfbnnooaaGreat
set_option maxHeartbeats 4000000
set_option maxRecDepth 100000
theorem fnProducts_proved:Rows.FnProductsSaid:=FnProducts.over
#print axioms fnProducts_proved
end Go.Proofs.YtjfpbcmfbnnooaaGreat
