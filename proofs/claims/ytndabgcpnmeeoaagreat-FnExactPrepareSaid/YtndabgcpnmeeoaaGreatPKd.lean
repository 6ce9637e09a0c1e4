/- Walks over abstract states: a state graph prepared for a circuit, both sides; laws.FnExactPrepare walked. -/
import Derived.Test.YtndabgcpnmeeoaaGreatPCn
import Derived.Test.YtndabgcpnmeeoaaGreatPGa
import Derived.Test.YtndabgcpnmeeoaaGreatPBo
import Derived.Test.YtndabgcpnmeeoaaGreatPBp
import Derived.Test.YtndabgcpnmeeoaaGreatPWi
set_option linter.unusedSimpArgs false
set_option linter.unusedVariables false
set_option linter.unusedSectionVars false
namespace Go.Proofs.YtndabgcpnmeeoaaGreat
open Go.RowKit
set_option maxRecDepth 100000
set_option maxHeartbeats 4000000
abbrev cfT:ByteArray:=⟨#[99,111,110,102,108,105,99,116]⟩
section
variable [∀s,Decidable (StgOk s)][∀c,Decidable (SgOk c)][∀s,Decidable (Zo s)]{s:Yz}
theorem QgN {c:DSg}(h:(ZW c).2.2=true):SgOk (ZW c).1:=by
 unfold ZW at h ⊢
 split at h
 ·rename_i g
  rw[if_pos g]
  have a:∀(f:Nat) (c:DSg) (l:List Z3),SgOk c→SgOk (VH f c l).1:=fun f=>by
   induction f with
   | zero=>intro c l h; exact h
   | succ f b=>
    intro c l h
    rw[VH]
    split
    ·rename_i g
     exact b _ _ (QbK h g.2.1)
    ·exact h
  exact a 2 c [] g.1
 ·cases h
def prV (s:Yz):DSg×Int×Bool:=
 if (sgV s).2=true∧YW (sgV s).1=Vs then ((sgV s).1,0,true)
 else if (sgV s).2=true∧YW (sgV s).1=cfT∧(ZW (sgV s).1).2.2=true∧YW (ZW (sgV s).1).1=Vs then ((ZW (sgV s).1).1,((ZW (sgV s).1).2.1.length:Int),true)
 else (YL,0,false)
theorem Qhi (h:(sgV s).2=false):prV s=(YL,0,false):=by
 unfold prV
 rw[if_neg (fun g=>by rw[h] at g; cases g.1),if_neg (fun g=>by rw[h] at g; cases g.1)]
theorem Qhj (h:(sgV s).2=true)(a:YW (sgV s).1=Vs):prV s=((sgV s).1,0,true):=by
 unfold prV
 rw[if_pos ⟨h,a⟩]
theorem QiS {w:ByteArray}(h:w=cfT):¬w=Vs:=fun g=>absurd (h.symm.trans g) (by decide)
theorem QqQ (h:(sgV s).2=true)(a:YW (sgV s).1=cfT)(b:(ZW (sgV s).1).2.2=true)(c:YW (ZW (sgV s).1).1=Vs):prV s=((ZW (sgV s).1).1,((ZW (sgV s).1).2.1.length:Int),true):=by
 unfold prV
 rw[if_neg (fun g=>QiS a g.2),if_pos ⟨h,a,b,c⟩]
theorem Qhk (a:YW (sgV s).1=cfT)(b:(ZW (sgV s).1).2.2=false):prV s=(YL,0,false):=by
 unfold prV
 rw[if_neg (fun g=>QiS a g.2),if_neg (fun g=>by rw[b] at g; cases g.2.2.1)]
theorem QqR (a:YW (sgV s).1=cfT)(b:¬YW (ZW (sgV s).1).1=Vs):prV s=(YL,0,false):=by
 unfold prV
 rw[if_neg (fun g=>QiS a g.2),if_neg (fun g=>b g.2.2.2)]
theorem Qlg (a:YW (sgV s).1=cfT)(b:(ZW (sgV s).1).2.2=true)(c:decide (SgOk (ZW (sgV s).1).1∧YW (ZW (sgV s).1).1=Vs)=false):prV s=(YL,0,false):=
 QqR a fun g=>aa c ⟨QgN b,g⟩
theorem Qlf (h:(sgV s).2=true)(a:YW (sgV s).1=cfT)(b:(ZW (sgV s).1).2.2=true)(c:decide (SgOk (ZW (sgV s).1).1∧YW (ZW (sgV s).1).1=Vs)=true):prV s=((ZW (sgV s).1).1,((ZW (sgV s).1).2.1.length:Int),true):=QqQ h a b (ab c).2
theorem Qhl (a:¬YW (sgV s).1=Vs)(b:¬YW (sgV s).1=cfT):prV s=(YL,0,false):=by
 unfold prV
 rw[if_neg (fun g=>a g.2),if_neg (fun g=>b g.2.1)]
theorem QqP (s:Yz):(prV s).1.1.length≤8∧(prV s).1.2.1.length≤300∧(prV s).1.2.2.length≤4000:=by
 unfold prV
 split
 ·rename_i h
  have a:=Qlo h.1
  exact ⟨a.sig8,a.some_.2,a.few⟩
 ·split
  ·exact (Qoh _).1
  ·exact ⟨aG _,aG _,aG _⟩
end
theorem JO (s:QcY)[∀s,Decidable (StgOk s)][∀c,Decidable (SgOk c)][∀s,Decidable (Zo s)]:FC Tryz.prog 44 [(true,[dI s.1.1, .dat Xk s.1.2, .dat Ql s.2.1, .dat Yq s.2.2.1,dS s.2.2.2])] [] 0 (Is (PV.tup [(true,[.ref 0, .ref 1, .ref 2]),(false,[dI ((prV s).2.1)]),(false,[dB ((prV s).2.2)])]) [ar 0 77 QE (((prV s).1).1),ar 1 9 .str (((prV s).1).2.1),ar 2 154 QD (((prV s).1).2.2)]):=by
 refine Qv Tryz.func44 rfl rfl Tryz.ntmps44 fun v a u k x r q=> ?_
 refine acG 0 0 fun _=> ?_
 refine w_ ?_
 refine xbx 0 ?_
 refine lc (xal 1 XU Zr) ?_
 refine w5 ?_
 refine lc (dG 2 (Kv s) Ql4) ?_
 refine w3 ?_
 refine lc (xal 5 XU Zr) ?_
 refine w8 ?_
 refine cx_ (fun _=> ?_) fun _=> ?_
 refine w_ ?_
 refine lc (Qi Q8 rfl (ak.1 rfl) rfl rfl) ?_
 refine w4 ?_
 refine AC.wk (Qp 6 (p:=1) (off:=0) 77 QE rfl rfl (Fresh.of rfl) (nlr rfl))<|AC.wk (Qp 7 (p:=1) (off:=1) 9 .str rfl rfl (Fresh.of rfl) (nlr rfl))<|AC.wk (Qp 8 (p:=1) (off:=2) 154 QD rfl rfl (Fresh.of rfl) (nlr rfl))<|Qd ?_
 have l:(0:Int)=((prV s).2.1):=by
  (rw[Qhi ‹_›]; done)
 have m:(false:Bool)=((prV s).2.2):=by
  (rw[Qhi ‹_›]; done)
 exact fi_ [(0,6),(1,7),(2,8)] a ⟨(Qe (by (rw[Qhi ‹_›]; rfl))),(Qe (by (rw[Qhi ‹_›]; rfl))),(Qe (by (rw[Qhi ‹_›]; rfl))),trivial⟩ (h0:=by rw[← l,← m] <;> rfl)
 refine w4 ?_
 refine lc (Ze (UK ((sgV s).1) (by first | exact Qlo ‹_› | exact (QgN ‹_›).w)) QfA ⟨_,_,rfl,(ZJ (Qk rfl) ⟨_,_,rfl, .inr ⟨_,_,_,_,rfl,rfl,rfl⟩,⟨_,_,rfl, .inr ⟨_,_,_,_,rfl,rfl,rfl⟩,⟨_,_,rfl, .inr ⟨_,_,_,_,rfl,rfl,rfl⟩,rfl⟩⟩⟩),rfl⟩ rfl rfl rfl) ?_
 refine w6 ?_
 refine cd_ (fun _ _=> ?_) fun _ _=> ?_
 refine w4 ?_
 refine cd_ (fun _ _=> ?_) fun _ _=> ?_
 refine w3 ?_
 refine lc (Qi Q8 rfl (ak.1 rfl) rfl rfl) ?_
 refine w4 ?_
 refine AC.wk (Qp 9 (p:=1) (off:=0) 77 QE rfl rfl (Fresh.of rfl) (nlr rfl))<|AC.wk (Qp 10 (p:=1) (off:=1) 9 .str rfl rfl (Fresh.of rfl) (nlr rfl))<|AC.wk (Qp 11 (p:=1) (off:=2) 154 QD rfl rfl (Fresh.of rfl) (nlr rfl))<|Qd ?_
 have n:(0:Int)=((prV s).2.1):=by
  (rw[Qhl ‹_› ‹_›]; done)
 have o:(false:Bool)=((prV s).2.2):=by
  (rw[Qhl ‹_› ‹_›]; done)
 exact fi_ [(0,9),(1,10),(2,11)] a ⟨(Qe (by (rw[Qhl ‹_› ‹_›]; rfl))),(Qe (by (rw[Qhl ‹_› ‹_›]; rfl))),(Qe (by (rw[Qhl ‹_› ‹_›]; rfl))),trivial⟩ (h0:=by rw[← n,← o] <;> rfl)
 refine w2 ?_
 refine lc (YX 12 (Ka ((sgV s).1)) Ql9 ⟨_,_,rfl,(ZJ (Qk rfl) ⟨_,_,rfl, .inr ⟨_,_,_,_,rfl,rfl,rfl⟩,⟨_,_,rfl, .inr ⟨_,_,_,_,rfl,rfl,rfl⟩,⟨_,_,rfl, .inr ⟨_,_,_,_,rfl,rfl,rfl⟩,rfl⟩⟩⟩),rfl⟩ rfl rfl rfl ⟨Fresh.of rfl,Fresh.of rfl,Fresh.of rfl,Fresh.of rfl,trivial⟩ (nlr rfl)) ?_
 refine w4 ?_
 refine lc (xal 16 XU Zr) ?_
 refine w7 ?_
 cases t:((ZW ((sgV s).1)).2.2)
 refine w8 ?_
 refine lc (Qi Q8 rfl (ak.1 rfl) rfl rfl) ?_
 refine w4 ?_
 refine AC.wk (Qp 17 (p:=1) (off:=0) 77 QE rfl rfl (Fresh.of rfl) (nlr rfl))<|AC.wk (Qp 18 (p:=1) (off:=1) 9 .str rfl rfl (Fresh.of rfl) (nlr rfl))<|AC.wk (Qp 19 (p:=1) (off:=2) 154 QD rfl rfl (Fresh.of rfl) (nlr rfl))<|Qd ?_
 have b:(0:Int)=((prV s).2.1):=by
  (rw[Qhk ‹_› ‹_›]; done)
 have d:(false:Bool)=((prV s).2.2):=by
  (rw[Qhk ‹_› ‹_›]; done)
 exact fi_ [(0,17),(1,18),(2,19)] a ⟨(Qe (by (rw[Qhk ‹_› ‹_›]; rfl))),(Qe (by (rw[Qhk ‹_› ‹_›]; rfl))),(Qe (by (rw[Qhk ‹_› ‹_›]; rfl))),trivial⟩ (h0:=by rw[← b,← d] <;> rfl)
 refine w_ ?_
 refine lgy rfl rfl (Ze (Qf4 ((ZW ((sgV s).1)).1)) Qqm ⟨_,_,rfl,(ZJ (Qk rfl) ⟨_,_,rfl, .inr ⟨_,_,_,_,rfl,rfl,rfl⟩,⟨_,_,rfl, .inr ⟨_,_,_,_,rfl,rfl,rfl⟩,⟨_,_,rfl, .inr ⟨_,_,_,_,rfl,rfl,rfl⟩,rfl⟩⟩⟩),rfl⟩ rfl rfl rfl) ?_
 refine w2 ?_
 refine cd_ (fun _ _=> ?_) fun _ _=> ?_
 refine w3 ?_
 refine lc (Qi Q8 rfl (ak.1 rfl) rfl rfl) ?_
 refine w4 ?_
 refine AC.wk (Qp 20 (p:=1) (off:=0) 77 QE rfl rfl (Fresh.of rfl) (nlr rfl))<|AC.wk (Qp 21 (p:=1) (off:=1) 9 .str rfl rfl (Fresh.of rfl) (nlr rfl))<|AC.wk (Qp 22 (p:=1) (off:=2) 154 QD rfl rfl (Fresh.of rfl) (nlr rfl))<|Qd ?_
 have e:(0:Int)=((prV s).2.1):=by
  (rw[Qlg ‹_› ‹_› ‹_›]; done)
 have f:(false:Bool)=((prV s).2.2):=by
  (rw[Qlg ‹_› ‹_› ‹_›]; done)
 exact fi_ [(0,20),(1,21),(2,22)] a ⟨(Qe (by (rw[Qlg ‹_› ‹_› ‹_›]; rfl))),(Qe (by (rw[Qlg ‹_› ‹_› ‹_›]; rfl))),(Qe (by (rw[Qlg ‹_› ‹_› ‹_›]; rfl))),trivial⟩ (h0:=by rw[← e,← f] <;> rfl)
 refine w9 ?_
 have g:((((ZW ((sgV s).1)).2.1).length:Int):Int)=((prV s).2.1):=by
  (rw[Qlf ‹_› ‹_› ‹_› ‹_›]; done)
 have h:(true:Bool)=((prV s).2.2):=by
  (rw[Qlf ‹_› ‹_› ‹_› ‹_›]; done)
 exact fi_ [(0,12),(1,13),(2,14)] a ⟨(Qe (by (rw[Qlf ‹_› ‹_› ‹_› ‹_›]; done))),(Qe (by (rw[Qlf ‹_› ‹_› ‹_› ‹_›]; done))),(Qe (by (rw[Qlf ‹_› ‹_› ‹_› ‹_›]; done))),trivial⟩ (h0:=by rw[g,← h] <;> rfl)
 refine w7 ?_
 have i:(0:Int)=((prV s).2.1):=by
  (rw[Qhj ‹_› ‹_›]; done)
 have j:(true:Bool)=((prV s).2.2):=by
  (rw[Qhj ‹_› ‹_›]; done)
 exact fi_ [(0,2),(1,3),(2,4)] a ⟨(Qe (by (rw[Qhj ‹_› ‹_›]; done))),(Qe (by (rw[Qhj ‹_› ‹_›]; done))),(Qe (by (rw[Qhj ‹_› ‹_›]; done))),trivial⟩ (h0:=by rw[← i,← j] <;> rfl)
theorem Qec (s:QcY)[∀s,Decidable (StgOk s)][∀c,Decidable (SgOk c)][∀s,Decidable (Zo s)]:FC Tryz.prog 42 [(true,[dI s.1.1, .dat Xk s.1.2, .dat Ql s.2.1, .dat Yq s.2.2.1,dS s.2.2.2])] [] 0 (Is (PV.tup [(true,[.ref 0, .ref 1, .ref 2]),(false,[dI ((prV s).2.1)]),(false,[dB ((prV s).2.2)])]) [ar 0 77 QE (((prV s).1).1),ar 1 9 .str (((prV s).1).2.1),ar 2 154 QD (((prV s).1).2.2)]):=by
 refine Qv Tryz.func42 rfl rfl Tryz.ntmps42 fun u a t j v r q=> ?_
 refine acG 0 0 fun _=> ?_
 refine w_ ?_
 refine xbx 0 ?_
 refine lc (xal 1 XU Zr) ?_
 refine w5 ?_
 refine lc (dG 2 (KE s) Ql7) ?_
 refine w3 ?_
 refine lc (xal 5 XU Zr) ?_
 refine w8 ?_
 refine cx_ (fun _=> ?_) fun _=> ?_
 refine w_ ?_
 refine lc (Qi Q8 rfl (ak.1 rfl) rfl rfl) ?_
 refine w4 ?_
 refine AC.wk (Qp 6 (p:=1) (off:=0) 77 QE rfl rfl (Fresh.of rfl) (nlr rfl))<|AC.wk (Qp 7 (p:=1) (off:=1) 9 .str rfl rfl (Fresh.of rfl) (nlr rfl))<|AC.wk (Qp 8 (p:=1) (off:=2) 154 QD rfl rfl (Fresh.of rfl) (nlr rfl))<|Qd ?_
 have k:(0:Int)=((prV s).2.1):=by
  (rw[Qhi ‹_›]; done)
 have l:(false:Bool)=((prV s).2.2):=by
  (rw[Qhi ‹_›]; done)
 exact fi_ [(0,6),(1,7),(2,8)] a ⟨(Qe (by (rw[Qhi ‹_›]; rfl))),(Qe (by (rw[Qhi ‹_›]; rfl))),(Qe (by (rw[Qhi ‹_›]; rfl))),trivial⟩ (h0:=by rw[← k,← l] <;> rfl)
 refine w7 ?_
 refine lc (Ze (Kh ((sgV s).1) (by first | exact Qlo ‹_› | exact (QgN ‹_›).w)) Qc0 ⟨_,_,rfl,(ZJ (Qk rfl) ⟨_,_,rfl, .inr ⟨_,_,_,_,rfl,rfl,rfl⟩,⟨_,_,rfl, .inr ⟨_,_,_,_,rfl,rfl,rfl⟩,⟨_,_,rfl, .inr ⟨_,_,_,_,rfl,rfl,rfl⟩,rfl⟩⟩⟩),rfl⟩ rfl rfl rfl) ?_
 refine w2 ?_
 refine cd_ (fun _ _=> ?_) fun _ _=> ?_
 refine w4 ?_
 refine lc (Ze (Kh ((sgV s).1) (by first | exact Qlo ‹_› | exact (QgN ‹_›).w)) Qc0 ⟨_,_,rfl,(ZJ (Qk rfl) ⟨_,_,rfl, .inr ⟨_,_,_,_,rfl,rfl,rfl⟩,⟨_,_,rfl, .inr ⟨_,_,_,_,rfl,rfl,rfl⟩,⟨_,_,rfl, .inr ⟨_,_,_,_,rfl,rfl,rfl⟩,rfl⟩⟩⟩),rfl⟩ rfl rfl rfl) ?_
 refine w2 ?_
 refine cn_ (fun _ _=> ?_) fun _ _=> ?_
 refine w9 ?_
 have m:(0:Int)=((prV s).2.1):=by
  (rw[Qhj ‹_› ‹_›]; done)
 have n:(true:Bool)=((prV s).2.2):=by
  (rw[Qhj ‹_› ‹_›]; done)
 exact fi_ [(0,2),(1,3),(2,4)] a ⟨(Qe (by (rw[Qhj ‹_› ‹_›]; done))),(Qe (by (rw[Qhj ‹_› ‹_›]; done))),(Qe (by (rw[Qhj ‹_› ‹_›]; done))),trivial⟩ (h0:=by rw[← m,← n] <;> rfl)
 refine w_ ?_
 refine lc (Qi Q8 rfl (ak.1 rfl) rfl rfl) ?_
 refine w4 ?_
 refine AC.wk (Qp 9 (p:=1) (off:=0) 77 QE rfl rfl (Fresh.of rfl) (nlr rfl))<|AC.wk (Qp 10 (p:=1) (off:=1) 9 .str rfl rfl (Fresh.of rfl) (nlr rfl))<|AC.wk (Qp 11 (p:=1) (off:=2) 154 QD rfl rfl (Fresh.of rfl) (nlr rfl))<|Qd ?_
 have o:(0:Int)=((prV s).2.1):=by
  (rw[Qhl ‹_› ‹_›]; done)
 have b:(false:Bool)=((prV s).2.2):=by
  (rw[Qhl ‹_› ‹_›]; done)
 exact fi_ [(0,9),(1,10),(2,11)] a ⟨(Qe (by (rw[Qhl ‹_› ‹_›]; rfl))),(Qe (by (rw[Qhl ‹_› ‹_›]; rfl))),(Qe (by (rw[Qhl ‹_› ‹_›]; rfl))),trivial⟩ (h0:=by rw[← o,← b] <;> rfl)
 refine w2 ?_
 refine lc (YX 12 (Kd ((sgV s).1)) Ql8 ⟨_,_,rfl,(ZJ (Qk rfl) ⟨_,_,rfl, .inr ⟨_,_,_,_,rfl,rfl,rfl⟩,⟨_,_,rfl, .inr ⟨_,_,_,_,rfl,rfl,rfl⟩,⟨_,_,rfl, .inr ⟨_,_,_,_,rfl,rfl,rfl⟩,rfl⟩⟩⟩),rfl⟩ rfl rfl rfl ⟨Fresh.of rfl,Fresh.of rfl,Fresh.of rfl,Fresh.of rfl,trivial⟩ (nlr rfl)) ?_
 refine w4 ?_
 refine lc (xal 16 XU Zr) ?_
 refine w9 ?_
 refine cx_ (fun _=> ?_) fun _=> ?_
 refine w_ ?_
 refine lc (Qi Q8 rfl (ak.1 rfl) rfl rfl) ?_
 refine w4 ?_
 refine AC.wk (Qp 17 (p:=1) (off:=0) 77 QE rfl rfl (Fresh.of rfl) (nlr rfl))<|AC.wk (Qp 18 (p:=1) (off:=1) 9 .str rfl rfl (Fresh.of rfl) (nlr rfl))<|AC.wk (Qp 19 (p:=1) (off:=2) 154 QD rfl rfl (Fresh.of rfl) (nlr rfl))<|Qd ?_
 have d:(0:Int)=((prV s).2.1):=by
  (rw[Qhk ‹_› ‹_›]; done)
 have e:(false:Bool)=((prV s).2.2):=by
  (rw[Qhk ‹_› ‹_›]; done)
 exact fi_ [(0,17),(1,18),(2,19)] a ⟨(Qe (by (rw[Qhk ‹_› ‹_›]; rfl))),(Qe (by (rw[Qhk ‹_› ‹_›]; rfl))),(Qe (by (rw[Qhk ‹_› ‹_›]; rfl))),trivial⟩ (h0:=by rw[← d,← e] <;> rfl)
 refine w13 ?_
 refine lc (Ze (Kh ((ZW ((sgV s).1)).1) (by first | exact Qlo ‹_› | exact (QgN ‹_›).w)) Qc0 ⟨_,_,rfl,(ZJ (Qk rfl) ⟨_,_,rfl, .inr ⟨_,_,_,_,rfl,rfl,rfl⟩,⟨_,_,rfl, .inr ⟨_,_,_,_,rfl,rfl,rfl⟩,⟨_,_,rfl, .inr ⟨_,_,_,_,rfl,rfl,rfl⟩,rfl⟩⟩⟩),rfl⟩ rfl rfl rfl) ?_
 refine w2 ?_
 refine cn_ (fun _ _=> ?_) fun _ _=> ?_
 refine w9 ?_
 have f:((((ZW ((sgV s).1)).2.1).length:Int):Int)=((prV s).2.1):=by
  (rw[QqQ ‹_› ‹_› ‹_› ‹_›]; done)
 have g:(true:Bool)=((prV s).2.2):=by
  (rw[QqQ ‹_› ‹_› ‹_› ‹_›]; done)
 exact fi_ [(0,12),(1,13),(2,14)] a ⟨(Qe (by (rw[QqQ ‹_› ‹_› ‹_› ‹_›]; done))),(Qe (by (rw[QqQ ‹_› ‹_› ‹_› ‹_›]; done))),(Qe (by (rw[QqQ ‹_› ‹_› ‹_› ‹_›]; done))),trivial⟩ (h0:=by rw[f,← g] <;> rfl)
 refine w_ ?_
 refine lc (Qi Q8 rfl (ak.1 rfl) rfl rfl) ?_
 refine w4 ?_
 refine AC.wk (Qp 20 (p:=1) (off:=0) 77 QE rfl rfl (Fresh.of rfl) (nlr rfl))<|AC.wk (Qp 21 (p:=1) (off:=1) 9 .str rfl rfl (Fresh.of rfl) (nlr rfl))<|AC.wk (Qp 22 (p:=1) (off:=2) 154 QD rfl rfl (Fresh.of rfl) (nlr rfl))<|Qd ?_
 have h:(0:Int)=((prV s).2.1):=by
  (rw[QqR ‹_› ‹_›]; done)
 have i:(false:Bool)=((prV s).2.2):=by
  (rw[QqR ‹_› ‹_›]; done)
 exact fi_ [(0,20),(1,21),(2,22)] a ⟨(Qe (by (rw[QqR ‹_› ‹_›]; rfl))),(Qe (by (rw[QqR ‹_› ‹_›]; rfl))),(Qe (by (rw[QqR ‹_› ‹_›]; rfl))),trivial⟩ (h0:=by rw[← h,← i] <;> rfl)
theorem Jq (a:QcY):FC Tryz.prog 5 [(true,[dI a.1.1, .dat (.sl 424 (.pr (.sl 3 .int) (.sl 3 .int))) a.1.2, .dat (.sl 311 (.pr .str .int)) a.2.1, .dat (.sl 323 (.pr .int .bool)) a.2.2.1,dS a.2.2.2])] [] 0 (QY (lB true)):=by
 classical
 have D:=QgV 1048576 (Ty.tot Qco a)
 have E:Ty.tot QcI a=Ty.tot Qco a:=rfl
 have B:=QsI a 1
 have C:=QqP a
 have x:=QuJ (prV a).1 1
 refine Qv Tryz.func5 rfl rfl Tryz.ntmps5 fun z g y t A v u=> ?_
 refine acG 0 0 fun _=> ?_
 refine w_ ?_
 refine xbx 0 ?_
 refine w8 ?_
 refine lc (dK (Qsm a 1048576 (by omega) (by omega)) Qqg) ?_
 refine w7 ?_
 refine cd_ (fun _ _=> ?_) fun _ _=> ?_
 refine w3 ?_
 refine lc (dG 1 (Qca a (by omega)) H6) ?_
 refine lc (YX 4 (Qec a) Qqh ⟨_,_,rfl,(ZJ (Qk rfl) ⟨_,_,rfl, .inl rfl,⟨_,_,rfl, .inr ⟨_,_,_,_,rfl,rfl,rfl⟩,⟨_,_,rfl, .inr ⟨_,_,_,_,rfl,rfl,rfl⟩,⟨_,_,rfl, .inr ⟨_,_,_,_,rfl,rfl,rfl⟩,⟨_,_,rfl, .inl rfl,rfl⟩⟩⟩⟩⟩),rfl⟩ rfl rfl rfl ⟨Fresh.of rfl,Fresh.of rfl,Fresh.of rfl,trivial⟩ (nlr rfl)) ?_
 refine w4 ?_
 refine lc (xal 7 XU Zr) ?_
 refine w6 ?_
 refine lc (dG 8 (Qca a (by omega)) H6) ?_
 refine lc (xal 11 (.pr (.pr .int (.sl 275 (.pr (.sl 3 .int) (.sl 3 .int)))) (.pr (.sl 77 (.pr .str .int)) (.pr (.sl 75 (.pr .int .bool)) .str))) QwI) ?_
 refine w4 ?_
 refine lc (YX 12 (JO a) QhN ⟨_,_,rfl,(ZJ (Qk rfl) ⟨_,_,rfl, .inl rfl,⟨_,_,rfl, .inr ⟨_,_,_,_,rfl,rfl,rfl⟩,⟨_,_,rfl, .inr ⟨_,_,_,_,rfl,rfl,rfl⟩,⟨_,_,rfl, .inr ⟨_,_,_,_,rfl,rfl,rfl⟩,⟨_,_,rfl, .inl rfl,rfl⟩⟩⟩⟩⟩),rfl⟩ rfl rfl rfl ⟨Fresh.of rfl,Fresh.of rfl,Fresh.of rfl,trivial⟩ (nlr rfl)) ?_
 refine w4 ?_
 refine lc (xal 15 XU Zr) ?_
 refine w8 ?_
 refine lc (Ze (VD ((prV a).1) ((prV a).1) rfl) QcZ ⟨_,_,rfl,(ZJ (Qk rfl) ⟨_,_,rfl, .inr ⟨_,_,_,_,rfl,rfl,rfl⟩,⟨_,_,rfl, .inr ⟨_,_,_,_,rfl,rfl,rfl⟩,⟨_,_,rfl, .inr ⟨_,_,_,_,rfl,rfl,rfl⟩,rfl⟩⟩⟩),⟨_,_,rfl,(ZJ (Qk rfl) ⟨_,_,rfl, .inr ⟨_,_,_,_,rfl,rfl,rfl⟩,⟨_,_,rfl, .inr ⟨_,_,_,_,rfl,rfl,rfl⟩,⟨_,_,rfl, .inr ⟨_,_,_,_,rfl,rfl,rfl⟩,rfl⟩⟩⟩),rfl⟩⟩ rfl rfl rfl) ?_
 refine w7 ?_
 cases e:(!decide (((prV a).2.1)=((prV a).2.1)))
 have k:(((prV a).2.1)=((prV a).2.1)):=QK e
 refine w2 ?_
 refine lgy rfl rfl (WQ (Qa rfl) (Qa rfl) rfl JU) ?_
 refine w2 ?_
 refine cx_ (fun f=> ?_) fun f=> ?_
 refine w3 ?_
 refine Qd<|fqB g ?_
 ·exfalso; first | omega | (simp at f; done)
 refine w2 ?_
 apply dW (i2 51 _ _ [⟨some 53,ag [dI a.1.1, .ref 16, .ref 17, .ref 18,dS a.2.2.2],[ar 16 275 JT a.1.2,ar 17 77 QE a.2.1,ar 18 75 QF a.2.2.1]⟩,io 54 (lB true),io 55 _]) [0,1,1,0,0]
 refine z2 ?_
 refine zz (fun _ d=>ac (dG 16 (Qca a (by omega)) H6) rfl) ?_
 refine zz (fun _ d=>ac (Ze (Qsl a a rfl) Qqi ⟨_,_,rfl,(ZJ (d.w rfl) ⟨_,_,rfl, .inl rfl,⟨_,_,rfl, .inr ⟨_,_,_,_,rfl,(d.n 8 rfl),rfl⟩,⟨_,_,rfl, .inr ⟨_,_,_,_,rfl,(d.n 9 rfl),rfl⟩,⟨_,_,rfl, .inr ⟨_,_,_,_,rfl,(d.n 10 rfl),rfl⟩,⟨_,_,rfl, .inl rfl,rfl⟩⟩⟩⟩⟩),⟨_,_,rfl,(ZJ (d.w rfl) ⟨_,_,rfl, .inl rfl,⟨_,_,rfl, .inr ⟨_,_,_,_,rfl,(d.n 16 rfl),rfl⟩,⟨_,_,rfl, .inr ⟨_,_,_,_,rfl,(d.n 17 rfl),rfl⟩,⟨_,_,rfl, .inr ⟨_,_,_,_,rfl,(d.n 18 rfl),rfl⟩,⟨_,_,rfl, .inl rfl,rfl⟩⟩⟩⟩⟩),rfl⟩⟩ rfl rfl rfl) rfl) ?_
 exact y1
 refine w8 ?_
 refine lc (dP 19 [(0,8),(1,9),(2,10)] (Qea a 1 (QuK (by omega))) Qqj) ?_
 refine w7 ?_
 cases l:(decide (((Qk3 a 1).2) < 0))
 have m:=aa l
 refine w2 ?_
 refine lgy rfl rfl (Ze (VD ((prV a).1) ((prV a).1) rfl) QcZ ⟨_,_,rfl,(ZJ (Qk rfl) ⟨_,_,rfl, .inr ⟨_,_,_,_,rfl,rfl,rfl⟩,⟨_,_,rfl, .inr ⟨_,_,_,_,rfl,rfl,rfl⟩,⟨_,_,rfl, .inr ⟨_,_,_,_,rfl,rfl,rfl⟩,rfl⟩⟩⟩),⟨_,_,rfl,(ZJ (Qk rfl) ⟨_,_,rfl, .inr ⟨_,_,_,_,rfl,rfl,rfl⟩,⟨_,_,rfl, .inr ⟨_,_,_,_,rfl,rfl,rfl⟩,⟨_,_,rfl, .inr ⟨_,_,_,_,rfl,rfl,rfl⟩,rfl⟩⟩⟩),rfl⟩⟩ rfl rfl rfl) ?_
 refine w8 ?_
 have q:(!decide (((prV a).2.1)=((prV a).2.1)))=false:=QaJ (Qib e)
 try rw[q]
 refine w2 ?_
 refine lgy rfl rfl (WQ (Qa rfl) (Qa rfl) rfl JU) ?_
 refine w2 ?_
 have r:(((prV a).2.2)==((prV a).2.2))=true:=f
 try rw[r]
 refine w8 ?_
 refine lc (dP 22 [(0,12),(1,13),(2,14)] (Jr ((prV a).1) 1 (by omega)) Qqk) ?_
 refine w8 ?_
 refine lc (Ze (Wz ((mSG ((prV a).1) 1).1.1,(mSG ((prV a).1) 1).1.2.1,(mSG ((prV a).1) 1).1.2.2) 1 (prV a).1 rfl (by omega)) QhO ⟨_,_,rfl,(ZJ (Qk rfl) ⟨_,_,rfl, .inr ⟨_,_,_,_,rfl,rfl,rfl⟩,⟨_,_,rfl, .inr ⟨_,_,_,_,rfl,rfl,rfl⟩,⟨_,_,rfl, .inr ⟨_,_,_,_,rfl,rfl,rfl⟩,rfl⟩⟩⟩),⟨_,_,rfl,(Ev.b (Qk rfl)),rfl⟩⟩ rfl rfl rfl) ?_
 refine w7 ?_
 refine cd_ (fun o _=> ?_) fun o _=> ?_
 refine w7 ?_
 refine cn_ (fun p _=> ?_) fun p _=> ?_
 refine w3 ?_
 refine lc (dG 25 (Qca a (by omega)) H6) ?_
 refine lc (YX 28 (JO a) QhN ⟨_,_,rfl,(ZJ (Qk rfl) ⟨_,_,rfl, .inl rfl,⟨_,_,rfl, .inr ⟨_,_,_,_,rfl,rfl,rfl⟩,⟨_,_,rfl, .inr ⟨_,_,_,_,rfl,rfl,rfl⟩,⟨_,_,rfl, .inr ⟨_,_,_,_,rfl,rfl,rfl⟩,⟨_,_,rfl, .inl rfl,rfl⟩⟩⟩⟩⟩),rfl⟩ rfl rfl rfl ⟨Fresh.of rfl,Fresh.of rfl,Fresh.of rfl,trivial⟩ (nlr rfl)) ?_
 refine w4 ?_
 refine lc (xal 31 XU Zr) ?_
 refine w8 ?_
 refine lc (Ze (VD ((prV a).1) ((prV a).1) rfl) QcZ ⟨_,_,rfl,(ZJ (Qk rfl) ⟨_,_,rfl, .inr ⟨_,_,_,_,rfl,rfl,rfl⟩,⟨_,_,rfl, .inr ⟨_,_,_,_,rfl,rfl,rfl⟩,⟨_,_,rfl, .inr ⟨_,_,_,_,rfl,rfl,rfl⟩,rfl⟩⟩⟩),⟨_,_,rfl,(ZJ (Qk rfl) ⟨_,_,rfl, .inr ⟨_,_,_,_,rfl,rfl,rfl⟩,⟨_,_,rfl, .inr ⟨_,_,_,_,rfl,rfl,rfl⟩,⟨_,_,rfl, .inr ⟨_,_,_,_,rfl,rfl,rfl⟩,rfl⟩⟩⟩),rfl⟩⟩ rfl rfl rfl) ?_
 refine w7 ?_
 have h:(!decide (((prV a).2.1)=((prV a).2.1)))=false:=QaJ (Qib e)
 try rw[h]
 refine w2 ?_
 refine lgy rfl rfl (WQ (Qa rfl) (Qa rfl) rfl JU) ?_
 refine w2 ?_
 have i:(((prV a).2.2)==((prV a).2.2))=true:=f
 try rw[i]
 refine w8 ?_
 refine lc (Ze (Wz ((mSG ((prV a).1) 1).1.1,(mSG ((prV a).1) 1).1.2.1,(mSG ((prV a).1) 1).1.2.2) 1 (prV a).1 rfl (by omega)) QhO ⟨_,_,rfl,(ZJ (Qk rfl) ⟨_,_,rfl, .inr ⟨_,_,_,_,rfl,rfl,rfl⟩,⟨_,_,rfl, .inr ⟨_,_,_,_,rfl,rfl,rfl⟩,⟨_,_,rfl, .inr ⟨_,_,_,_,rfl,rfl,rfl⟩,rfl⟩⟩⟩),⟨_,_,rfl,(Ev.b (Qk rfl)),rfl⟩⟩ rfl rfl rfl) ?_
 refine w7 ?_
 have j:(decide (((mSG ((prV a).1) 1).2) < 0))=false:=o
 try rw[j]
 refine w8 ?_
 have c:(!decide (((mSG ((prV a).1) 1).2)=((mSG ((prV a).1) 1).2)))=false:=QaJ (Qib p)
 try rw[c]
 refine w6 ?_
 exact fe_ g
 refine w3 ?_
 refine Qd<|fqB g ?_
 ·exfalso; first | omega | (simp at c; done)
 refine w3 ?_
 refine Qd<|fqB g ?_
 ·exfalso; first | omega | (simp at c; done)
 have m:=ab l
 refine w16 ?_
 refine w4 ?_
 refine Qd<|fqB g ?_
 ·exfalso; first | omega | (simp at c; done)
 have k:¬(((prV a).2.1)=((prV a).2.1)):=QR e
 refine w9 ?_
 refine Qd<|fqB g ?_
 ·exfalso; first | omega | (simp at c; done)
 refine w4 ?_
 exact fe_ g
end Go.Proofs.YtndabgcpnmeeoaaGreat
