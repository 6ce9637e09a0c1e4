/- FnExactPrepare: the statement, from its walk. Whatever the input, the law answers true, and the input reads as it did. No condition. -/
import Derived.Test.YtndabgcpnmeeoaaGreatRows
import Derived.Test.YtndabgcpnmeeoaaGreatPKd
import Derived.Test.YtndabgcpnmeeoaaGreatPApp
import Derived.WalkKit
import Derived.ProofKit
import Derived.OpenShut
import Derived.ShutString
import Derived.ChangeOld
import Derived.Below
set_option linter.unusedSimpArgs false
set_option linter.unusedVariables false
set_option linter.unusedSectionVars false
namespace Go.Proofs.YtndabgcpnmeeoaaGreat.FnExactPrepare
set_option maxHeartbeats 4000000
set_option maxRecDepth 100000
open Go.ChangeShapes Go.WideShapes Go.ChangeAt Go.RowKit
theorem own:ownKnob Tryz.prog.godebug=none:=by kernel_rfl
theorem QuI:laidOutB Tryz.prog=true:=by kernel_rfl
theorem Qv7 (os:Os)(c:os.Started)(H:Type)(enc:TypeId×Value→H):
 ReturnsInHanded {} Tryz.checked os 5 .any (Rows.fnExactPrepareSpec.pre6 enc Tryz.prog Tryz.f5 Rows.fnExactPrepareRow.domain false) (Rows.fnExactPrepareSpec.post enc Tryz.prog Tryz.f5 false true false false):=by
 refine returnsInHanded_of_change (C:=Tryz.checked) own c (by kernel_rfl) Tryz.func5
  (ChangeSpec.witness6 (enc:=enc) (C:=Tryz.checked) false ⟨#[], #[.agg #[.int .i64 0, .slice none 0 0, .slice none 0 0, .slice none 0 0, .string ⟨#[]⟩]],[]⟩ 8 (by kernel_rfl) (by kernel_rfl) (by kernel_rfl) (by kernel_rfl)) ?_
 intro W s a R gs z b K L _
 have f:∀(j:Nat) t v,Tryz.f5.params[j]? =some t→a[j]? =some v→Value.okWide Tryz.prog W .any s t v:=b
 have B:=K
 obtain ⟨p,q,y,T,rfl,V,Y⟩:=K
 have J:DataW.TrodAll enc Tryz.prog W 0 (fun _=>true) true Tryz.f5.params.toList a.toList R p:=y
 rw[Tryz.params5] at J f
 obtain ⟨O,a0,d0,S,Z,q0,D,rfl,rfl,I,r0⟩:=trodAll_cons J
 obtain ⟨rfl,rfl,rfl⟩:=trodAll_nil r0
 obtain rfl:a= #[O]:=by cases a; simp_all
 obtain ⟨rfl,rfl⟩:=trodVars_none T
 have N:=I
 have G:∀x∈Z,x.block < W.heap.size:=by obtain ⟨m,X⟩:=N; exact DataW.trod_lt m _ _ _ X
 obtain ⟨g,rfl,M⟩:=okWide_struct Tryz.underlying84 (f 0 _ O rfl rfl)
 obtain ⟨A,E⟩:=I
 obtain ⟨P,d⟩:=QwD.2 _ _ _ _ _ _ _ _ E
 obtain ⟨g⟩:=g
 have F:=d.len
 obtain ⟨i,k,n,o,r,rfl⟩:=KR (l:=g) F
 have d:Rep Qco W [i,k,n,o,r] P:=d
 clear y b
 refine (Qru (Jq P) (Qrl d QpW)).mono fun e Q ⟨U,w⟩=> ?_
 subst U
 have u:Below W.heap.size W Q:=w
 exact ⟨_,rfl,_,_,_,[],_,[],B,trodAll_mk1 (shut_bool Tryz.underlying4 _),(trodAll_cons_mk (Below.trod QuI (by kernel_rfl) (ab (by kernel_rfl)) N u G) trodAll_mk0),rfl,u.frame _,fun h=>by cases h⟩
theorem c1:Tryz.pinned.checked.prog.funcNamed Rows.fnExactPrepareRow.func=some 5:=by kernel_rfl
theorem c2:joinedFacts Tryz.pinned.checked.prog 5 Tryz.f5 Rows.fnExactPrepareSpec Rows.fnExactPrepareRow=true:=by
 unfold joinedFacts
 simp only[aI]
 repeat' apply And.intro
 all_goals as_aux_lemma=>kernel_rfl
theorem c3:Tryz.f5.isInstance Tryz.pinned.checked.prog Rows.fnExactPrepareRow.origin Rows.fnExactPrepareRow.targs:=ab (by kernel_rfl)
theorem c4:Tryz.f5.isWrapper Tryz.pinned.checked.prog Rows.fnExactPrepareRow.wrapper Rows.fnExactPrepareRow.mainSum:=by unfold Func.isWrapper; first | (rw[if_pos (by decide+kernel)]; kernel_rfl) | (rw[if_neg (by decide+kernel)]; exact ⟨rfl,rfl⟩)
theorem over:Rows.fnExactPrepareRow.holds Tryz.pinned (OpenSpec.ofChange Rows.fnExactPrepareSpec):=
 OpenClaim.holds_of_wide 5 Tryz.f5 rfl rfl rfl rfl rfl rfl rfl ⟨rfl,rfl,rfl,rfl,rfl⟩ rfl rfl rfl rfl rfl c1 Tryz.func5 c2 c3 c4
  (fun c a H b _=>Qv7 c a H b)
end Go.Proofs.YtndabgcpnmeeoaaGreat.FnExactPrepare
namespace Go.Proofs.YtndabgcpnmeeoaaGreat
set_option maxHeartbeats 4000000
set_option maxRecDepth 100000
theorem fnExactPrepare_proved:Rows.FnExactPrepareSaid:=FnExactPrepare.over
#print axioms fnExactPrepare_proved
end Go.Proofs.YtndabgcpnmeeoaaGreat
