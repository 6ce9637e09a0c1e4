/- laws.FnExactInsertionCost walked. -/
import Derived.Test.YtnakmhfjafecpaaGreatUg
import Derived.Test.YtnakmhfjafecpaaGreatSo
set_option linter.unusedSimpArgs false
set_option linter.unusedVariables false
set_option linter.unusedSectionVars false
namespace Go.Proofs.YtnakmhfjafecpaaGreat
open Go.RowKit
set_option maxRecDepth 100000
set_option maxHeartbeats 4000000
theorem Kd (x:Int×Bool):FC Tryz.prog 74 [(true,[dI x.1,dB x.2])] [] 0 (Zo (ag [dI x.1,dB x.2])):=by
 refine QM Tryz.func74 rfl rfl Tryz.ntmps74 fun O_ hO w0_ N0_ X_ h0_ f0_=> ?_
 refine AC.fact (QO (x:= .tmp 0) (i:=0) (Qb rfl) rfl) fun hi1=> ?_
 refine w_ ?_
 refine lc (Qo 0 (Qb rfl) rfl rfl (Fresh.of rfl) (nlr rfl))<|lc (Qt 1 (.pr .int .bool) Vy rfl rfl (Fresh.of rfl) (nlr rfl)) ?_
 iterate 2 refine w_ ?_
 refine lc (Qt 2 (.pr .int .bool) Vy rfl rfl (Fresh.of rfl) (nlr rfl)) ?_
 iterate 5 refine w_ ?_
 refine lc (Qh (Qa rfl) rfl (Qb rfl) rfl Qz rfl) ?_
 iterate 5 refine w_ ?_
 refine lc (Qh (Qa rfl) rfl (Qb rfl) rfl ZD rfl) ?_
 iterate 3 refine w_ ?_
 refine lc (Qh (Qa rfl) rfl (Qb rfl) rfl YI rfl) ?_
 refine w_ ?_
 refine Qd ?_
 subst hO
 exact Qg (Qe rfl (Zv rfl rfl YI rfl)) rfl rfl
theorem W4 (x:(Int×Bool)×(Int×Bool)):FC Tryz.prog 23 [(true,[dI x.1.1,dB x.1.2,dI x.2.1,dB x.2.2])] [] 0 (Zo (ag [dI x.1.1,dB x.1.2,dI x.2.1,dB x.2.2])):=by
 refine QM Tryz.func23 rfl rfl Tryz.ntmps23 fun O_ hO w0_ N0_ X_ h0_ f0_=> ?_
 refine AC.fact (QO (x:= .tmp 0) (i:=0) (Qb rfl) rfl) fun hi1=>AC.fact (QO (x:= .tmp 0) (i:=2) (Qb rfl) rfl) fun hi2=> ?_
 refine w_ ?_
 refine lc (Qo 0 (Qb rfl) rfl rfl (Fresh.of rfl) (nlr rfl))<|lc (Qt 1 (.pr (.pr .int .bool) (.pr .int .bool)) Wu rfl rfl (Fresh.of rfl) (nlr rfl)) ?_
 iterate 2 refine w_ ?_
 refine lc (Qt 2 (.pr (.pr .int .bool) (.pr .int .bool)) Wu rfl rfl (Fresh.of rfl) (nlr rfl)) ?_
 iterate 4 refine w_ ?_
 refine lc (Qf (Kd x.1) QdO ⟨_,_,rfl,(Qb rfl),rfl⟩ rfl rfl) ?_
 refine w_ ?_
 refine lc (Qh (Qa rfl) rfl (Qb rfl) rfl YI rfl) ?_
 iterate 4 refine w_ ?_
 refine lc (Qf (Kd x.2) QdO ⟨_,_,rfl,(Qb rfl),rfl⟩ rfl rfl) ?_
 refine w_ ?_
 refine lc (Qh (Qa rfl) rfl (Qb rfl) rfl YI rfl) ?_
 iterate 3 refine w_ ?_
 refine lc (Qh (Qa rfl) rfl (Qb rfl) rfl ZK rfl) ?_
 refine w_ ?_
 refine Qd ?_
 subst hO
 exact Qg (Qe rfl (Zv rfl rfl ZK rfl)) rfl rfl
theorem W0 (aC:(List (ByteArray×Int))×List ByteArray×(List (Int×Int×Bool×Int)))(aX:(Int×Bool)×(Int×Bool)):FC Tryz.prog 4 [(true,[.dat (.sl 153 (.pr .str .int)) aC.1, .dat (.sl 9 .str) aC.2.1, .dat (.sl 181 (.pr .int (.pr .int (.pr .bool .int)))) aC.2.2]),(true,[dI aX.1.1,dB aX.1.2,dI aX.2.1,dB aX.2.2])] [] 0 (Zo (lB true)):=by
 classical
 have hs:=KC 1048576 (Ty.tot Zf aC)
 have ht:Ty.tot Z8 aC=Ty.tot Zf aC:=rfl
 have hq:=Qhi aC
 refine QM Tryz.func4 rfl rfl Tryz.ntmps4 fun O_ hO w0_ N0_ X_ h0_ f0_=> ?_
 refine AC.fact (QO (x:= .tmp 1) (i:=0) (Qb rfl) rfl) fun hi1=>AC.fact (QO (x:= .tmp 1) (i:=2) (Qb rfl) rfl) fun hi2=> ?_
 refine w_ ?_
 refine lc (Qo 0 (Qb rfl) rfl rfl (Fresh.of rfl) (nlr rfl))<|lc (Qo 1 (Qb rfl) rfl rfl (Fresh.of rfl) (nlr rfl)) ?_
 iterate 8 refine w_ ?_
 refine lc (Qf (WZ aC 1048576 (by omega) (by omega)) Qab ⟨_,_,rfl,(Qb rfl),⟨_,_,rfl,(Qb rfl),rfl⟩⟩ rfl rfl) ?_
 iterate 7 refine w_ ?_
 cases hb3:(decide ((szv 1048576 (Ty.tot Zf aC)) < 0))
 ·have hb3':=of_decide_eq_false hb3
  iterate 2 refine w_ ?_
  refine dw [io 19 (ag [.dat (.sl 153 (.pr .str .int)) aC.1, .dat (.sl 9 .str) aC.2.1, .dat (.sl 181 (.pr .int (.pr .int (.pr .bool .int)))) aC.2.2]),⟨some 20,ag [.ref 2, .ref 3, .ref 4],[(2,some (.arr 145 (.pr .str .int) aC.1)),(3,some (.arr 9 .str aC.2.1)),(4,some (.arr 179 (.pr .int (.pr .int (.pr .bool .int))) aC.2.2))]⟩,io 21 (ag [dI aX.1.1,dB aX.1.2,dI aX.2.1,dB aX.2.2]),io 22 (ag [dI aX.1.1,dB aX.1.2,dI aX.2.1,dB aX.2.2]),io 23 (PV.tup [(false,[dI (ZB aC aX)]),(false,[dI (Z4 aC aX)]),(false,[dB (YB aC aX)])]),io 18 (PV.tup [(false,[dI (ZB aC aX)]),(false,[dI (Z4 aC aX)]),(false,[dB (YB aC aX)])]),io 24 (lI (ZB aC aX)),io 25 (lI (Z4 aC aX)),io 26 (lB (YB aC aX)),io 6 (lI (ZB aC aX)),io 7 (lI (Z4 aC aX)),io 8 (lB (YB aC aX))] [0,1,0,7,15,31,63,63,63,127,767,2047] mixed rfl (by kernel_rfl) ⟨dxa Qfs rfl rfl rfl rfl,fun _ h_=>ac (Zu 2 (ZH aC (by omega)) Xb ⟨_,_,rfl,(h_.w rfl),rfl⟩ rfl rfl ⟨(h_.fr 2 rfl),(h_.fr 3 rfl),(h_.fr 4 rfl),trivial⟩ (nlr rfl)) rfl,dxa Qlk rfl rfl rfl rfl,fun _ h_=>ac (Qf (W4 aX) Qdy ⟨_,_,rfl,(h_.w rfl),rfl⟩ rfl rfl) rfl,fun _ h_=>ac (Zj (Wn aC aX) QdR ⟨_,_,rfl,(Wl (h_.w rfl) ⟨_,_,rfl, .inr ⟨_,_,_,_,rfl,(h_.n 2 rfl),rfl⟩,⟨_,_,rfl, .inr ⟨_,_,_,_,rfl,(h_.n 3 rfl),rfl⟩,⟨_,_,rfl, .inr ⟨_,_,_,_,rfl,(h_.n 4 rfl),rfl⟩,rfl⟩⟩⟩),⟨_,_,rfl,(Ev.b (h_.w rfl)),rfl⟩⟩ rfl rfl rfl) rfl,dxm rfl rfl,fun _ h_=>ac (Zz (h_.k rfl) rfl rfl) rfl,fun _ h_=>ac (Zz (h_.k rfl) rfl rfl) rfl,fun _ h_=>ac (Zz (h_.k rfl) rfl rfl) rfl,dxt rfl rfl,dxt rfl rfl,dxt rfl rfl,⟨⟩⟩ ?_
  iterate 2 refine w_ ?_
  refine lc (Zu 5 (ZH aC (by omega)) Xb ⟨_,_,rfl,(Qb rfl),rfl⟩ rfl rfl ⟨Fresh.of rfl,Fresh.of rfl,Fresh.of rfl,trivial⟩ (nlr rfl))<|lc (Qt 8 (.pr (.sl 145 (.pr .str .int)) (.pr (.sl 9 .str) (.sl 179 (.pr .int (.pr .int (.pr .bool .int)))))) Xd rfl rfl (Fresh.of rfl) (nlr rfl))<|lc (Qh (Qa rfl) rfl (Qb rfl) rfl QU rfl) ?_
  refine w_ ?_
  refine dw [io 30 (ag [.ref 5, .ref 6, .ref 7]),io 31 (ag [dI aX.1.1,dB aX.1.2,dI aX.2.1,dB aX.2.2]),io 32 (ag [dI aX.1.1,dB aX.1.2,dI aX.2.1,dB aX.2.2]),io 33 (PV.tup [(false,[dI (ZB aC aX)]),(false,[dI (Z4 aC aX)]),(false,[dB (YB aC aX)])]),io 29 (PV.tup [(false,[dI (ZB aC aX)]),(false,[dI (Z4 aC aX)]),(false,[dB (YB aC aX)])]),io 34 (lI (ZB aC aX)),io 35 (lI (Z4 aC aX)),io 36 (lB (YB aC aX)),io 10 (lI (ZB aC aX)),io 11 (lI (Z4 aC aX)),io 12 (lB (YB aC aX))] [0,0,2,7,15,31,31,31,63,383,1023] mixed rfl (by kernel_rfl) ⟨dxa QU rfl rfl rfl rfl,dxa Qlk rfl rfl rfl rfl,fun _ h_=>ac (Qf (W4 aX) Qdy ⟨_,_,rfl,(h_.w rfl),rfl⟩ rfl rfl) rfl,fun _ h_=>ac (Zj (Kk aC aX) Qk4 ⟨_,_,rfl,(Wl (h_.w rfl) ⟨_,_,rfl, .inr ⟨_,_,_,_,rfl,(h_.n 5 rfl),rfl⟩,⟨_,_,rfl, .inr ⟨_,_,_,_,rfl,(h_.n 6 rfl),rfl⟩,⟨_,_,rfl, .inr ⟨_,_,_,_,rfl,(h_.n 7 rfl),rfl⟩,rfl⟩⟩⟩),⟨_,_,rfl,(Ev.b (h_.w rfl)),rfl⟩⟩ rfl rfl rfl) rfl,dxm rfl rfl,fun _ h_=>ac (Zz (h_.k rfl) rfl rfl) rfl,fun _ h_=>ac (Zz (h_.k rfl) rfl rfl) rfl,fun _ h_=>ac (Zz (h_.k rfl) rfl rfl) rfl,dxt rfl rfl,dxt rfl rfl,dxt rfl rfl,⟨⟩⟩ ?_
  iterate 6 refine w_ ?_
  cases hb4:(!decide ((ZB aC aX)=(ZB aC aX)))
  ·have hb4':((ZB aC aX)=(ZB aC aX)):=Zi hb4
   iterate 5 refine w_ ?_
   cases hb5:(!decide ((Z4 aC aX)=(Z4 aC aX)))
   ·have hb5':((Z4 aC aX)=(Z4 aC aX)):=Zi hb5
    iterate 2 refine w_ ?_
    refine lgy rfl rfl (Y6 (Qa rfl) (Qa rfl) rfl Vh) ?_
    iterate 2 refine w_ ?_
    cases hb6:((YB aC aX)==(YB aC aX))
    ·iterate 4 refine w_ ?_
     refine Qd ?_
     subst hO
     have e7:(false:Bool)=true:=by
      exfalso; first | omega | (simp at hb6; done)
     exact Qg (Qe rfl (Qc rfl)) ((congrArg (fun z_=>lB z_) e7)) rfl
    ·iterate 3 refine w_ ?_
     refine dw [io 50 (ag [.ref 5, .ref 6, .ref 7]),io 51 (ag [.dat (.sl 153 (.pr .str .int)) aC.1, .dat (.sl 9 .str) aC.2.1, .dat (.sl 181 (.pr .int (.pr .int (.pr .bool .int)))) aC.2.2]),⟨some 52,ag [.ref 9, .ref 10, .ref 11],[(9,some (.arr 145 (.pr .str .int) aC.1)),(10,some (.arr 9 .str aC.2.1)),(11,some (.arr 179 (.pr .int (.pr .int (.pr .bool .int))) aC.2.2))]⟩,io 53 (lB true),io 54 (lB false)] [0,0,2,7,15] mixed rfl (by kernel_rfl) ⟨dxa QU rfl rfl rfl rfl,dxa Qfs rfl rfl rfl rfl,fun _ h_=>ac (Zu 9 (ZH aC (by omega)) Xb ⟨_,_,rfl,(h_.w rfl),rfl⟩ rfl rfl ⟨(h_.fr 9 rfl),(h_.fr 10 rfl),(h_.fr 11 rfl),trivial⟩ (nlr rfl)) rfl,fun _ h_=>ac (Zj (WV aC aC rfl) QaG ⟨_,_,rfl,(Wl (h_.w rfl) ⟨_,_,rfl, .inr ⟨_,_,_,_,rfl,(h_.n 5 rfl),rfl⟩,⟨_,_,rfl, .inr ⟨_,_,_,_,rfl,(h_.n 6 rfl),rfl⟩,⟨_,_,rfl, .inr ⟨_,_,_,_,rfl,(h_.n 7 rfl),rfl⟩,rfl⟩⟩⟩),⟨_,_,rfl,(Wl (h_.w rfl) ⟨_,_,rfl, .inr ⟨_,_,_,_,rfl,(h_.n 9 rfl),rfl⟩,⟨_,_,rfl, .inr ⟨_,_,_,_,rfl,(h_.n 10 rfl),rfl⟩,⟨_,_,rfl, .inr ⟨_,_,_,_,rfl,(h_.n 11 rfl),rfl⟩,rfl⟩⟩⟩),rfl⟩⟩ rfl rfl rfl) rfl,fun _ h_=>ac (Zy (h_.v rfl) rfl) rfl,⟨⟩⟩ ?_
     iterate 5 refine w_ ?_
     refine Qd ?_
     subst hO
     exact Qg (Qe rfl (Qc rfl)) rfl rfl
   ·have hb5':¬((Z4 aC aX)=(Z4 aC aX)):=Zq hb5
    iterate 9 refine w_ ?_
    refine Qd ?_
    subst hO
    have e8:(false:Bool)=true:=by
     exfalso; first | omega | (simp at hb6; done)
    exact Qg (Qe rfl (Qc rfl)) ((congrArg (fun z_=>lB z_) e8)) rfl
  ·have hb4':¬((ZB aC aX)=(ZB aC aX)):=Zq hb4
   iterate 14 refine w_ ?_
   refine Qd ?_
   subst hO
   have e9:(false:Bool)=true:=by
    exfalso; first | omega | (simp at hb6; done)
   exact Qg (Qe rfl (Qc rfl)) ((congrArg (fun z_=>lB z_) e9)) rfl
 ·have hb3':=of_decide_eq_true hb3
  iterate 4 refine w_ ?_
  refine Qd ?_
  subst hO
  exact Qg (Qe rfl (Qc rfl)) rfl rfl
end Go.Proofs.YtnakmhfjafecpaaGreat
