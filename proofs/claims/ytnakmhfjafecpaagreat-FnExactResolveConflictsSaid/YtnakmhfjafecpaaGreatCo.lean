/- laws.FnExactResolveConflicts walked. -/
import Derived.Test.YtnakmhfjafecpaaGreatCn
set_option linter.unusedSimpArgs false
set_option linter.unusedVariables false
set_option linter.unusedSectionVars false
namespace Go.Proofs.YtnakmhfjafecpaaGreat
open Go.RowKit
set_option maxRecDepth 100000
set_option maxHeartbeats 4000000
theorem Wt (aC:(List (ByteArray×Int))×List ByteArray×(List (Int×Int×Bool×Int))):FC Tryz.prog 10 [(true,[.dat (.sl 153 (.pr .str .int)) aC.1, .dat (.sl 9 .str) aC.2.1, .dat (.sl 181 (.pr .int (.pr .int (.pr .bool .int)))) aC.2.2])] [] 0 (Zy (lB true)):=by
 classical
 have hs:=QcI 1048576 (Ty.tot ZF aC)
 have ht:Ty.tot YE aC=Ty.tot ZF aC:=rfl
 have hq:=QoL aC
 have hc:=Qjp aC 1
 have hi:=Qhe aC
 have hc2:=Qjp (Zn aC).1 1
 have hms:=J2 (Zn aC).2.1 (mSG (Zn aC).1 1).2
 refine QQ Tryz.func10 rfl rfl Tryz.ntmps10 fun O_ hO w0_ N0_ X_ h0_ f0_=> ?_
 refine w_ ?_
 refine lc (Qr 0 (Qb rfl) rfl rfl (Fresh.of rfl) (nlr rfl)) ?_
 iterate 8 refine w_ ?_
 refine lc (Qh (Qbn aC 1048576 (by omega) (by omega)) Qks ⟨_,_,rfl,(Qb rfl),⟨_,_,rfl,(Qb rfl),rfl⟩⟩ rfl rfl) ?_
 iterate 7 refine w_ ?_
 cases hb1:(decide ((szv 1048576 (Ty.tot ZF aC)) < 0))
 ·have hb1':=of_decide_eq_false hb1
  iterate 4 refine w_ ?_
  refine lc (Ya 1 (XQ aC (by omega)) Jd ⟨_,_,rfl,(Qb rfl),rfl⟩ rfl rfl ⟨Fresh.of rfl,Fresh.of rfl,Fresh.of rfl,trivial⟩ (nlr rfl))<|lc (WT 4 (V9 aC) QkT ⟨_,_,rfl,(YL (Qb rfl) ⟨_,_,rfl, .inr ⟨_,_,_,_,rfl,rfl,rfl⟩,⟨_,_,rfl, .inr ⟨_,_,_,_,rfl,rfl,rfl⟩,⟨_,_,rfl, .inr ⟨_,_,_,_,rfl,rfl,rfl⟩,rfl⟩⟩⟩),rfl⟩ rfl rfl rfl ⟨Fresh.of rfl,Fresh.of rfl,Fresh.of rfl,Fresh.of rfl,trivial⟩ (nlr rfl)) ?_
  iterate 4 refine w_ ?_
  refine lc (Qw 8 (.pr (.sl 145 (.pr .str .int)) (.pr (.sl 9 .str) (.sl 179 (.pr .int (.pr .int (.pr .bool .int)))))) YB rfl rfl (Fresh.of rfl) (nlr rfl))<|lc (Qf (Qa rfl) rfl (Qb rfl) rfl QK rfl) ?_
  iterate 5 refine w_ ?_
  refine lc (Ya 9 (XQ aC (by omega)) Jd ⟨_,_,rfl,(Qb rfl),rfl⟩ rfl rfl ⟨Fresh.of rfl,Fresh.of rfl,Fresh.of rfl,trivial⟩ (nlr rfl))<|lc (Qw 12 (.pr (.sl 145 (.pr .str .int)) (.pr (.sl 9 .str) (.sl 179 (.pr .int (.pr .int (.pr .bool .int)))))) YB rfl rfl (Fresh.of rfl) (nlr rfl))<|lc (Qf (Qa rfl) rfl (Qb rfl) rfl QK rfl) ?_
  iterate 3 refine w_ ?_
  refine lc (WT 13 (XN aC) Qd3 ⟨_,_,rfl,(YL (Qb rfl) ⟨_,_,rfl, .inr ⟨_,_,_,_,rfl,rfl,rfl⟩,⟨_,_,rfl, .inr ⟨_,_,_,_,rfl,rfl,rfl⟩,⟨_,_,rfl, .inr ⟨_,_,_,_,rfl,rfl,rfl⟩,rfl⟩⟩⟩),rfl⟩ rfl rfl rfl ⟨Fresh.of rfl,Fresh.of rfl,Fresh.of rfl,Fresh.of rfl,trivial⟩ (nlr rfl)) ?_
  iterate 4 refine w_ ?_
  refine lc (Qw 17 (.pr (.sl 145 (.pr .str .int)) (.pr (.sl 9 .str) (.sl 179 (.pr .int (.pr .int (.pr .bool .int)))))) YB rfl rfl (Fresh.of rfl) (nlr rfl))<|lc (Qf (Qa rfl) rfl (Qb rfl) rfl QK rfl) ?_
  iterate 7 refine w_ ?_
  refine lc (Zl (XV ((Zn aC).1) ((Zn aC).1) rfl) K4 ⟨_,_,rfl,(YL (Qb rfl) ⟨_,_,rfl, .inr ⟨_,_,_,_,rfl,rfl,rfl⟩,⟨_,_,rfl, .inr ⟨_,_,_,_,rfl,rfl,rfl⟩,⟨_,_,rfl, .inr ⟨_,_,_,_,rfl,rfl,rfl⟩,rfl⟩⟩⟩),⟨_,_,rfl,(YL (Qb rfl) ⟨_,_,rfl, .inr ⟨_,_,_,_,rfl,rfl,rfl⟩,⟨_,_,rfl, .inr ⟨_,_,_,_,rfl,rfl,rfl⟩,⟨_,_,rfl, .inr ⟨_,_,_,_,rfl,rfl,rfl⟩,rfl⟩⟩⟩),rfl⟩⟩ rfl rfl rfl) ?_
  iterate 4 refine w_ ?_
  refine lgy rfl rfl (Zl (Xv ((Zn aC).2.1) ((Zn aC).2.1) rfl) Qat ⟨_,_,rfl,(X2 (Qa rfl) rfl),⟨_,_,rfl,(X2 (Qa rfl) rfl),rfl⟩⟩ rfl rfl rfl) ?_
  iterate 5 refine w_ ?_
  refine lgy rfl rfl (XC (Qa rfl) (Qa rfl) rfl VV) ?_
  iterate 2 refine w_ ?_
  cases hb2:(((Zn aC).2.2)==((Zn aC).2.2))
  ·iterate 4 refine w_ ?_
   refine Qe ?_
   subst hO
   have e3:(false:Bool)=true:=by
    exfalso; first | omega | (simp at hb2; done)
   exact Qg (Qd rfl (Qc rfl)) ((congrArg (fun z_=>lB z_) e3)) rfl
  ·iterate 3 refine w_ ?_
   refine dw [io 52 (ag [.ref 9, .ref 10, .ref 11]),io 53 (ag [.dat (.sl 153 (.pr .str .int)) aC.1, .dat (.sl 9 .str) aC.2.1, .dat (.sl 181 (.pr .int (.pr .int (.pr .bool .int)))) aC.2.2]),⟨some 54,ag [.ref 18, .ref 19, .ref 20],[(18,some (.arr 145 (.pr .str .int) aC.1)),(19,some (.arr 9 .str aC.2.1)),(20,some (.arr 179 (.pr .int (.pr .int (.pr .bool .int))) aC.2.2))]⟩,io 55 (lB true),io 56 (lB false)] [0,0,2,7,15] mixed rfl (by kernel_rfl) ⟨dxa QK rfl rfl rfl rfl,dxa Qpd rfl rfl rfl rfl,fun _ h_=>ac (Ya 18 (XQ aC (by omega)) Jd ⟨_,_,rfl,(h_.w rfl),rfl⟩ rfl rfl ⟨(h_.fr 18 rfl),(h_.fr 19 rfl),(h_.fr 20 rfl),trivial⟩ (nlr rfl)) rfl,fun _ h_=>ac (Zl (XV aC aC rfl) K4 ⟨_,_,rfl,(YL (h_.w rfl) ⟨_,_,rfl, .inr ⟨_,_,_,_,rfl,(h_.n 9 rfl),rfl⟩,⟨_,_,rfl, .inr ⟨_,_,_,_,rfl,(h_.n 10 rfl),rfl⟩,⟨_,_,rfl, .inr ⟨_,_,_,_,rfl,(h_.n 11 rfl),rfl⟩,rfl⟩⟩⟩),⟨_,_,rfl,(YL (h_.w rfl) ⟨_,_,rfl, .inr ⟨_,_,_,_,rfl,(h_.n 18 rfl),rfl⟩,⟨_,_,rfl, .inr ⟨_,_,_,_,rfl,(h_.n 19 rfl),rfl⟩,⟨_,_,rfl, .inr ⟨_,_,_,_,rfl,(h_.n 20 rfl),rfl⟩,rfl⟩⟩⟩),rfl⟩⟩ rfl rfl rfl) rfl,fun _ h_=>ac (ZK (h_.v rfl) rfl) rfl,⟨⟩⟩ ?_
   iterate 8 refine w_ ?_
   refine lc (QP 21 [(0,9),(1,10),(2,11)] (Wj aC 1 (by omega)) QdD ⟨_,_,rfl,(Qb rfl),⟨_,_,rfl,(Qb rfl),rfl⟩⟩ ⟨rfl,rfl,rfl,trivial⟩ rfl ⟨trivial,trivial,trivial,trivial⟩ (nlr rfl)) ?_
   iterate 7 refine w_ ?_
   cases hb4:(decide (((mSG aC 1).2) < 0))
   ·have hb4':=of_decide_eq_false hb4
    iterate 2 refine w_ ?_
    refine lgy rfl rfl (Zl (XV ((Zn aC).1) ((Zn aC).1) rfl) K4 ⟨_,_,rfl,(YL (Qb rfl) ⟨_,_,rfl, .inr ⟨_,_,_,_,rfl,rfl,rfl⟩,⟨_,_,rfl, .inr ⟨_,_,_,_,rfl,rfl,rfl⟩,⟨_,_,rfl, .inr ⟨_,_,_,_,rfl,rfl,rfl⟩,rfl⟩⟩⟩),⟨_,_,rfl,(YL (Qb rfl) ⟨_,_,rfl, .inr ⟨_,_,_,_,rfl,rfl,rfl⟩,⟨_,_,rfl, .inr ⟨_,_,_,_,rfl,rfl,rfl⟩,⟨_,_,rfl, .inr ⟨_,_,_,_,rfl,rfl,rfl⟩,rfl⟩⟩⟩),rfl⟩⟩ rfl rfl rfl) ?_
    iterate 5 refine w_ ?_
    refine lgy rfl rfl (Zl (Xv ((Zn aC).2.1) ((Zn aC).2.1) rfl) Qat ⟨_,_,rfl,(X2 (Qa rfl) rfl),⟨_,_,rfl,(X2 (Qa rfl) rfl),rfl⟩⟩ rfl rfl rfl) ?_
    iterate 5 refine w_ ?_
    refine lgy rfl rfl (XC (Qa rfl) (Qa rfl) rfl VV) ?_
    iterate 2 refine w_ ?_
    have hb5:(((Zn aC).2.2)==((Zn aC).2.2))=true:=hb2
    try rw[hb5]
    iterate 8 refine w_ ?_
    refine lc (QP 24 [(0,13),(1,14),(2,15)] (Wj ((Zn aC).1) 1 (by omega)) QdD ⟨_,_,rfl,(Qb rfl),⟨_,_,rfl,(Qb rfl),rfl⟩⟩ ⟨rfl,rfl,rfl,trivial⟩ rfl ⟨trivial,trivial,trivial,trivial⟩ (nlr rfl)) ?_
    iterate 5 refine w_ ?_
    refine lc (QP 27 [(0,16)] (UX ((Zn aC).2.1) ((mSG ((Zn aC).1) 1).2) (by omega)) Qkl ⟨_,_,rfl,(Qb rfl),⟨_,_,rfl,(Qb rfl),rfl⟩⟩ ⟨rfl,trivial⟩ rfl ⟨trivial,trivial⟩ (nlr rfl)) ?_
    iterate 8 refine w_ ?_
    refine lc (Zl (Wi ((mSG ((Zn aC).1) 1).1.1,(mSG ((Zn aC).1) 1).1.2.1,(mSG ((Zn aC).1) 1).1.2.2) 1 (Zn aC).1 rfl (by omega)) Qeg ⟨_,_,rfl,(YL (Qb rfl) ⟨_,_,rfl, .inr ⟨_,_,_,_,rfl,rfl,rfl⟩,⟨_,_,rfl, .inr ⟨_,_,_,_,rfl,rfl,rfl⟩,⟨_,_,rfl, .inr ⟨_,_,_,_,rfl,rfl,rfl⟩,rfl⟩⟩⟩),⟨_,_,rfl,(Ev.b (Qb rfl)),rfl⟩⟩ rfl rfl rfl) ?_
    iterate 7 refine w_ ?_
    cases hb6:(decide (((mSG ((Zn aC).1) 1).2) < 0))
    ·have hb6':=of_decide_eq_false hb6
     iterate 5 refine w_ ?_
     refine lc (Zl (Wl ((QN Qn ((Zn aC).2.1) ((mSG ((Zn aC).1) 1).2)).1) ((mSG ((Zn aC).1) 1).2) (Zn aC).2.1 rfl (by rw[Ys]; omega)) QdZ ⟨_,_,rfl,(X2 (Qa rfl) rfl),⟨_,_,rfl,(Ev.b (Qb rfl)),rfl⟩⟩ rfl rfl rfl) ?_
     iterate 7 refine w_ ?_
     cases hb7:(decide (((QN Qn ((Zn aC).2.1) ((mSG ((Zn aC).1) 1).2)).2) < 0))
     ·have hb7':=of_decide_eq_false hb7
      iterate 8 refine w_ ?_
      cases hb8:(!decide (((QN Qn ((Zn aC).2.1) ((mSG ((Zn aC).1) 1).2)).2)=((QN Qn ((Zn aC).2.1) ((mSG ((Zn aC).1) 1).2)).2)))
      ·have hb8':(((QN Qn ((Zn aC).2.1) ((mSG ((Zn aC).1) 1).2)).2)=((QN Qn ((Zn aC).2.1) ((mSG ((Zn aC).1) 1).2)).2)):=Ze hb8
       iterate 4 refine w_ ?_
       refine lc (Ya 28 (XQ aC (by omega)) Jd ⟨_,_,rfl,(Qb rfl),rfl⟩ rfl rfl ⟨Fresh.of rfl,Fresh.of rfl,Fresh.of rfl,trivial⟩ (nlr rfl))<|lc (WT 31 (XN aC) Qd3 ⟨_,_,rfl,(YL (Qb rfl) ⟨_,_,rfl, .inr ⟨_,_,_,_,rfl,rfl,rfl⟩,⟨_,_,rfl, .inr ⟨_,_,_,_,rfl,rfl,rfl⟩,⟨_,_,rfl, .inr ⟨_,_,_,_,rfl,rfl,rfl⟩,rfl⟩⟩⟩),rfl⟩ rfl rfl rfl ⟨Fresh.of rfl,Fresh.of rfl,Fresh.of rfl,Fresh.of rfl,trivial⟩ (nlr rfl)) ?_
       iterate 4 refine w_ ?_
       refine lc (Qw 35 (.pr (.sl 145 (.pr .str .int)) (.pr (.sl 9 .str) (.sl 179 (.pr .int (.pr .int (.pr .bool .int)))))) YB rfl rfl (Fresh.of rfl) (nlr rfl))<|lc (Qf (Qa rfl) rfl (Qb rfl) rfl QK rfl) ?_
       iterate 7 refine w_ ?_
       refine lc (Zl (XV ((Zn aC).1) ((Zn aC).1) rfl) K4 ⟨_,_,rfl,(YL (Qb rfl) ⟨_,_,rfl, .inr ⟨_,_,_,_,rfl,rfl,rfl⟩,⟨_,_,rfl, .inr ⟨_,_,_,_,rfl,rfl,rfl⟩,⟨_,_,rfl, .inr ⟨_,_,_,_,rfl,rfl,rfl⟩,rfl⟩⟩⟩),⟨_,_,rfl,(YL (Qb rfl) ⟨_,_,rfl, .inr ⟨_,_,_,_,rfl,rfl,rfl⟩,⟨_,_,rfl, .inr ⟨_,_,_,_,rfl,rfl,rfl⟩,⟨_,_,rfl, .inr ⟨_,_,_,_,rfl,rfl,rfl⟩,rfl⟩⟩⟩),rfl⟩⟩ rfl rfl rfl) ?_
       iterate 4 refine w_ ?_
       refine lgy rfl rfl (Zl (Xv ((Zn aC).2.1) ((Zn aC).2.1) rfl) Qat ⟨_,_,rfl,(X2 (Qa rfl) rfl),⟨_,_,rfl,(X2 (Qa rfl) rfl),rfl⟩⟩ rfl rfl rfl) ?_
       iterate 5 refine w_ ?_
       refine lgy rfl rfl (XC (Qa rfl) (Qa rfl) rfl VV) ?_
       iterate 2 refine w_ ?_
       have hb9:(((Zn aC).2.2)==((Zn aC).2.2))=true:=hb2
       try rw[hb9]
       iterate 8 refine w_ ?_
       refine lc (Zl (Wi ((mSG ((Zn aC).1) 1).1.1,(mSG ((Zn aC).1) 1).1.2.1,(mSG ((Zn aC).1) 1).1.2.2) 1 (Zn aC).1 rfl (by omega)) Qeg ⟨_,_,rfl,(YL (Qb rfl) ⟨_,_,rfl, .inr ⟨_,_,_,_,rfl,rfl,rfl⟩,⟨_,_,rfl, .inr ⟨_,_,_,_,rfl,rfl,rfl⟩,⟨_,_,rfl, .inr ⟨_,_,_,_,rfl,rfl,rfl⟩,rfl⟩⟩⟩),⟨_,_,rfl,(Ev.b (Qb rfl)),rfl⟩⟩ rfl rfl rfl) ?_
       iterate 7 refine w_ ?_
       have hb10:(decide (((mSG ((Zn aC).1) 1).2) < 0))=false:=hb6
       try rw[hb10]
       iterate 5 refine w_ ?_
       refine lc (Zl (Wl ((QN Qn ((Zn aC).2.1) ((mSG ((Zn aC).1) 1).2)).1) ((mSG ((Zn aC).1) 1).2) (Zn aC).2.1 rfl (by rw[Ys]; omega)) QdZ ⟨_,_,rfl,(X2 (Qa rfl) rfl),⟨_,_,rfl,(Ev.b (Qb rfl)),rfl⟩⟩ rfl rfl rfl) ?_
       iterate 7 refine w_ ?_
       have hb11:(decide (((QN Qn ((Zn aC).2.1) ((mSG ((Zn aC).1) 1).2)).2) < 0))=false:=hb7
       try rw[hb11]
       iterate 8 refine w_ ?_
       have hb12:(!decide (((QN Qn ((Zn aC).2.1) ((mSG ((Zn aC).1) 1).2)).2)=((QN Qn ((Zn aC).2.1) ((mSG ((Zn aC).1) 1).2)).2)))=false:=QfI (Qlk hb8)
       try rw[hb12]
       iterate 5 refine w_ ?_
       refine Qe ?_
       subst hO
       exact Qg (Qd rfl (Qc rfl)) rfl rfl
      ·have hb8':¬(((QN Qn ((Zn aC).2.1) ((mSG ((Zn aC).1) 1).2)).2)=((QN Qn ((Zn aC).2.1) ((mSG ((Zn aC).1) 1).2)).2)):=Zp hb8
       iterate 4 refine w_ ?_
       refine Qe ?_
       subst hO
       have e13:(false:Bool)=true:=by
        exfalso; first | omega | (simp at hb12; done)
       exact Qg (Qd rfl (Qc rfl)) ((congrArg (fun z_=>lB z_) e13)) rfl
     ·have hb7':=of_decide_eq_true hb7
      iterate 4 refine w_ ?_
      refine Qe ?_
      subst hO
      have e14:(false:Bool)=true:=by
       exfalso; first | omega | (simp at hb12; done)
      exact Qg (Qd rfl (Qc rfl)) ((congrArg (fun z_=>lB z_) e14)) rfl
    ·have hb6':=of_decide_eq_true hb6
     iterate 4 refine w_ ?_
     refine Qe ?_
     subst hO
     have e15:(false:Bool)=true:=by
      exfalso; first | omega | (simp at hb12; done)
     exact Qg (Qd rfl (Qc rfl)) ((congrArg (fun z_=>lB z_) e15)) rfl
   ·have hb4':=of_decide_eq_true hb4
    iterate 21 refine w_ ?_
    refine Qe ?_
    subst hO
    have e16:(false:Bool)=true:=by
     exfalso; first | omega | (simp at hb12; done)
    exact Qg (Qd rfl (Qc rfl)) ((congrArg (fun z_=>lB z_) e16)) rfl
 ·have hb1':=of_decide_eq_true hb1
  iterate 4 refine w_ ?_
  refine Qe ?_
  subst hO
  exact Qg (Qd rfl (Qc rfl)) rfl rfl
end Go.Proofs.YtnakmhfjafecpaaGreat
