/- laws.FnBestOrder walked. -/
import Derived.Test.YtjaadeknhofhpaaGreatDn
import Derived.Test.YtjaadeknhofhpaaGreatDi
import Derived.Test.YtjaadeknhofhpaaGreatWj
import Derived.Test.YtjaadeknhofhpaaGreatCl
import Derived.Test.YtjaadeknhofhpaaGreatBu
set_option linter.unusedSimpArgs false
set_option linter.unusedVariables false
set_option linter.unusedSectionVars false
namespace Go.Proofs.YtjaadeknhofhpaaGreat
open Go.RowKit
set_option maxRecDepth 100000
set_option maxHeartbeats 4000000
theorem QhJ {s:QX}{l:List Qq}{o:Qq}[∀s,Decidable (StgOk s)](hx:l[0]? =some o)(h:(QM s l).2=true):(Q7 s o).2=true∧QM (Q7 s o).1 (l.drop 1)=QM s l:=by
  cases l with
  | nil=>cases hx
  | cons p l=>cases hx; exact Qm7 h
theorem Qf9 {s:QX}{l:List Qq}{o:Qq}[∀s,Decidable (StgOk s)](hx:l[0]? =some o)(h:(QM s l).2=true):QM (Q7 s o).1 ((l.take l.length).drop 1)=QM s l:=by
  rw[br]; exact (QhJ hx h).2
theorem H6 (code:List UInt8)(more:List UInt8):FC Tryz.prog 3 [(false,[.dat Zt code]),(false,[.dat Zt more])] [] 0 (Yj (lB true)):=by
 classical
 refine QO Tryz.func3 rfl rfl Tryz.ntmps3 fun O_ hO w0_ N0_ X_ h0_ f0_=> ?_
 iterate 6 refine w_ ?_
 refine AL.fact (Qo (x:= .tmp 38) (Qa rfl)) fun hl1=> ?_
 iterate 2 refine w_ ?_
 refine AL.fact (Qo (x:= .tmp 40) (Qa rfl)) fun hl2=> ?_
 refine w_ ?_
 refine lc (QmY (Qa rfl) (Qa rfl) rfl) ?_
 iterate 2 refine w_ ?_
 cases hb3:(decide (1048576 < (IntKind.i64.wrap ((code.length:Int)+(more.length:Int)))))
 have hb3':=a7 hb3
 iterate 4 refine w_ ?_
 refine Y9 0 [] (U0 code) QoM ⟨_,_,rfl,(Qb rfl),rfl⟩ trivial rfl (fun _=>rfl) (fun _=>trivial) (nlr rfl) fun xs hxs=>lc (Qj 0 Xr ZE rfl rfl (Fresh.of rfl) (nlr rfl))<|lc (Qc (Qa rfl) rfl (Qb rfl) rfl Qz rfl) ?_
 iterate 3 refine w_ ?_
 refine lc (Ql (JZ xs (by omega)) Qmb ⟨_,_,rfl,(Qb rfl),rfl⟩ rfl rfl) ?_
 iterate 3 refine w_ ?_
 refine lc (Qj 1 ZH Yz rfl rfl (Fresh.of rfl) (nlr rfl))<|lc (Qc (Qa rfl) rfl (Qb rfl) rfl Zf rfl) ?_
 iterate 4 refine w_ ?_
 refine lc (Ql (J7 xs (by omega)) Qmk ⟨_,_,rfl,(Qb rfl),rfl⟩ rfl rfl) ?_
 iterate 3 refine w_ ?_
 refine lc (Qj 2 ZH Yz rfl rfl (Fresh.of rfl) (nlr rfl))<|lc (Qc (Qa rfl) rfl (Qb rfl) rfl Zf rfl) ?_
 iterate 4 refine w_ ?_
 refine Y9 3 [] (U2 more) Qni ⟨_,_,rfl,(Qb rfl),rfl⟩ trivial rfl (fun _=>rfl) (fun _=>trivial) (nlr rfl) fun xo hxo=> ?_
 iterate 3 refine w_ ?_
 refine lc (Qj 3 Xr ZE rfl rfl (Fresh.of rfl) (nlr rfl))<|lc (Qj 4 ZH Yz rfl rfl (Fresh.of rfl) (nlr rfl))<|lc (Qc (Qa rfl) rfl (Qb rfl) rfl Qz rfl)<|lc (Qc (Qa rfl) rfl (Qb rfl) rfl Zf rfl) ?_
 iterate 4 refine w_ ?_
 refine lc (Ql (ZQ xo.1 xo.2 (by omega)) Vg ⟨_,_,rfl,(Qb rfl),⟨_,_,rfl,(Qb rfl),rfl⟩⟩ rfl rfl) ?_
 iterate 11 refine w_ ?_
 refine lc (Ql (JC xo.1 xo.2 (by omega)) QmJ ⟨_,_,rfl,(Qb rfl),⟨_,_,rfl,(Qb rfl),rfl⟩⟩ rfl rfl) ?_
 iterate 10 refine w_ ?_
 refine Y9 5 [] (Uu more).frozenX QmH ⟨_,_,rfl,(Qb rfl),rfl⟩ trivial rfl (fun _=>rfl) (fun _=>trivial) (nlr rfl) fun xl hxl=> ?_
 iterate 3 refine w_ ?_
 refine lc (Qj 5 Xr ZE rfl rfl (Fresh.of rfl) (nlr rfl))<|lc (Qc (Qa rfl) rfl (Qb rfl) rfl Qz rfl) ?_
 iterate 5 refine w_ ?_
 refine lc (Ql (WH xl.1 xl.2 (by omega)).frozenG Qf0 ⟨_,_,rfl,(Qb rfl),⟨_,_,rfl,(Qb rfl),rfl⟩⟩ rfl rfl) ?_
 iterate 3 refine w_ ?_
 refine lc (Qj 6 Xr ZE rfl rfl (Fresh.of rfl) (nlr rfl))<|lc (Qc (Qa rfl) rfl (Qb rfl) rfl Qz rfl) ?_
 iterate 5 refine w_ ?_
 refine lc (Ql (Jd xl.1 xl.2 (by omega)).frozenG Qms ⟨_,_,rfl,(Qb rfl),⟨_,_,rfl,(Qb rfl),rfl⟩⟩ rfl rfl) ?_
 iterate 3 refine w_ ?_
 refine lc (Qj 7 Xr ZE rfl rfl (Fresh.of rfl) (nlr rfl))<|lc (Qc (Qa rfl) rfl (Qb rfl) rfl Qz rfl) ?_
 iterate 6 refine w_ ?_
 refine lc (Hz (Qa rfl) (Qa rfl) rfl QfG) ?_
 refine w_ ?_
 cases hb10:((boB xs)==(boB xs))
 iterate 36 refine w_ ?_
 subst hO
 have e11:(false:Bool)=true:=by
  (exfalso; simp_all [Zc]; done)
 exact Qi (Qg rfl (Qd rfl)) (by rw[← e11] <;> rfl) rfl
 iterate 2 refine w_ ?_
 refine lgy rfl rfl (V9 Qjl QjY (Qb rfl) (Qb rfl) (p:=(boV xs)) (q:=(boV xs)) rfl rfl rfl) ?_
 iterate 2 refine w_ ?_
 cases hb12:(Ty.beq ZH (boV xs) (boV xs))
 iterate 31 refine w_ ?_
 subst hO
 have e13:(false:Bool)=true:=by
  (exfalso; simp_all [Zc]; done)
 exact Qi (Qg rfl (Qd rfl)) (by rw[← e13] <;> rfl) rfl
 iterate 2 refine w_ ?_
 refine lgy rfl rfl (Hz (Qa rfl) (Qa rfl) rfl QfG) ?_
 iterate 2 refine w_ ?_
 cases hb14:((ocB xo.1 xo.2)==(ocB xo.1 xo.2))
 iterate 26 refine w_ ?_
 subst hO
 have e15:(false:Bool)=true:=by
  (exfalso; simp_all [Zc]; done)
 exact Qi (Qg rfl (Qd rfl)) (by rw[← e15] <;> rfl) rfl
 iterate 5 refine w_ ?_
 cases hb16:(!decide ((ox1 xo.1 xo.2)=(ox1 xo.1 xo.2)))
 have hb16':((ox1 xo.1 xo.2)=(ox1 xo.1 xo.2)):=Zm hb16
 iterate 5 refine w_ ?_
 cases hb17:(!decide ((ox2 xo.1 xo.2)=(ox2 xo.1 xo.2)))
 have hb17':((ox2 xo.1 xo.2)=(ox2 xo.1 xo.2)):=Zm hb17
 iterate 2 refine w_ ?_
 refine lgy rfl rfl (Hz (Qa rfl) (Qa rfl) rfl QfG) ?_
 iterate 2 refine w_ ?_
 cases hb18:(((QM xl.1 xl.2).2)==((QM xl.1 xl.2).2))
 iterate 11 refine w_ ?_
 subst hO
 have e19:(false:Bool)=true:=by
  (exfalso; simp_all [Zc]; done)
 exact Qi (Qg rfl (Qd rfl)) (by rw[← e19] <;> rfl) rfl
 iterate 2 refine w_ ?_
 refine lgy rfl rfl (Ql (KD ((QM xl.1 xl.2).1) ((QM xl.1 xl.2).1) rfl) Qfv ⟨_,_,rfl,(Qb rfl),⟨_,_,rfl,(Qb rfl),rfl⟩⟩ rfl rfl) ?_
 iterate 9 refine w_ ?_
 cases hb20:((QM xl.1 xl.2).2)
 iterate 12 refine w_ ?_
 cases hb21:(boB xs)
 iterate 5 refine w_ ?_
 subst hO
 exact Qi (Qg rfl (Qd rfl)) rfl rfl
 iterate 2 refine w_ ?_
 refine YY ?_
 have hch:=QkA (s:=xs) ‹_›
 have hsg:=Qcp (s:=xs) ‹_›
 iterate 3 refine w_ ?_
 refine lc (Ql (ZQ xs (boV xs) (by omega)) Vg ⟨_,_,rfl,(Qb rfl),⟨_,_,rfl,(Qb rfl),rfl⟩⟩ rfl rfl) ?_
 iterate 10 refine w_ ?_
 refine lc (Ql (Yd xs (by omega)).frozenG Hw ⟨_,_,rfl,(Qb rfl),rfl⟩ rfl rfl) ?_
 iterate 9 refine w_ ?_
 refine AL.fact (Qo (x:= .tmp 173) (Qa rfl)) fun hl22=> ?_
 iterate 4 refine w_ ?_
 refine Qu (fun m_ s_=>∃(k:Nat),k≤(ZP xs).length∧m_=(ZP xs).length - k∧s_=⟨[(5,lP 0 0),(28,lI (ox1 xs (boV xs))),(29,lI (ox2 xs (boV xs))),(30,lB (ocB xs (boV xs))),(32,lB ((sgV xs).2)),(173,lf (.dat KZ (ZP xs))),(174,lI ((ZP xs).length:Int)),(175,lI (k:Int))],[(0,some (.box 29 [dI xs.1.1, .dat QZ xs.1.2, .dat QJ xs.2.1, .dat QR xs.2.2.1,dS xs.2.2.2]))]⟩) ⟨0,aw _,rfl,rfl⟩ ?_ ?_
 exact wo [(0,0)]
 rintro m_ s_ ⟨k,hk23,hm24,rfl⟩
 iterate 4 refine w_ ?_
 cases hb25:(decide ((k:Int) < ((ZP xs).length:Int)))
 have hb25':=a7 hb25
 iterate 6 refine w_ ?_
 cases hb26:(ocB xs (boV xs))
 iterate 5 refine w_ ?_
 subst hO
 have e27:(false:Bool)=true:=by
  (exfalso; simp_all [Zc]; done)
 exact Qi (Qg rfl (Qd rfl)) (by rw[← e27] <;> rfl) rfl
 iterate 5 refine w_ ?_
 subst hO
 have e28:((sgV xs).2:Bool)=true:=by
  (simp_all; done)
 exact Qi (Qg rfl (Qd rfl)) (by rw[e28] <;> rfl) rfl
 have hb25':=a8 hb25
 iterate 6 refine w_ ?_
 obtain ⟨z,hx30⟩:=gx (ZP xs) k
 have hz:=hch.2 z (ai hx30)
 refine lc (Qh (Qa rfl) (Qa rfl) Xn Zf rfl (by omega) hx30) ?_
 refine w_ ?_
 refine lc (Qj 8 ZH Yz rfl rfl (Fresh.of rfl) (nlr rfl)) ?_
 refine w_ ?_
 refine lc (Qc (Qa rfl) rfl (Qb rfl) rfl Zf rfl) ?_
 iterate 4 refine w_ ?_
 refine lc (Ql (ZQ xs z (by omega)) Vg ⟨_,_,rfl,(Qb rfl),⟨_,_,rfl,(Qb rfl),rfl⟩⟩ rfl rfl) ?_
 iterate 13 refine w_ ?_
 cases hb31:(ocB xs z)
 iterate 9 refine w_ ?_
 refine QQ rfl rfl rfl ?_ rfl
 refine QQ rfl rfl rfl ?_ rfl
 refine QQ rfl rfl rfl ?_ rfl
 iterate 8 refine w_ ?_
 subst hO
 have e32:(false:Bool)=true:=by
  (exfalso; simp_all [Zc]; done)
 exact Qi (Qg rfl (Qd rfl)) (by rw[← e32] <;> rfl) rfl
 iterate 5 refine w_ ?_
 cases hb33:(decide ((ox1 xs z) < (ox1 xs (boV xs))))
 have hb33':=a7 hb33
 iterate 4 refine w_ ?_
 cases hb34:(decide ((ox1 xs z)=(ox1 xs (boV xs))))
 have hb34':=a7 hb34
 iterate 12 refine w_ ?_
 cases hb35:(decide (8 < (k:Int)))
 have hb35':=a7 hb35
 iterate 6 refine w_ ?_
 refine Qm<|QV ⟨k+1,by omega,rfl,rfl⟩ (by omega) ?_
 exact wo [(0,0)]
 have hb35':=a8 hb35
 iterate 6 refine w_ ?_
 cases hb36:(ocB xs (boV xs))
 iterate 5 refine w_ ?_
 subst hO
 have e37:(false:Bool)=true:=by
  (exfalso; simp_all [Zc]; done)
 exact Qi (Qg rfl (Qd rfl)) (by rw[← e37] <;> rfl) rfl
 iterate 5 refine w_ ?_
 subst hO
 have e38:((sgV xs).2:Bool)=true:=by
  (simp_all; done)
 exact Qi (Qg rfl (Qd rfl)) (by rw[e38] <;> rfl) rfl
 have hb34':=a8 hb34
 iterate 6 refine w_ ?_
 cases hb39:(decide ((ox2 xs (boV xs)) < (ox2 xs z)))
 have hb39':=a7 hb39
 iterate 6 refine w_ ?_
 cases hb40:(decide (8 < (k:Int)))
 have hb40':=a7 hb40
 iterate 6 refine w_ ?_
 refine Qm<|QV ⟨k+1,by omega,rfl,rfl⟩ (by omega) ?_
 exact wo [(0,0)]
 have hb40':=a8 hb40
 iterate 6 refine w_ ?_
 cases hb41:(ocB xs (boV xs))
 iterate 5 refine w_ ?_
 subst hO
 have e42:(false:Bool)=true:=by
  (exfalso; simp_all [Zc]; done)
 exact Qi (Qg rfl (Qd rfl)) (by rw[← e42] <;> rfl) rfl
 iterate 5 refine w_ ?_
 subst hO
 have e43:((sgV xs).2:Bool)=true:=by
  (simp_all; done)
 exact Qi (Qg rfl (Qd rfl)) (by rw[e43] <;> rfl) rfl
 have hb39':=a8 hb39
 iterate 5 refine w_ ?_
 subst hO
 have e44:(false:Bool)=true:=by
  (exfalso; simp_all [Zc]; done)
 exact Qi (Qg rfl (Qd rfl)) (by rw[← e44] <;> rfl) rfl
 have hb33':=a8 hb33
 iterate 4 refine w_ ?_
 refine QQ rfl rfl rfl ?_ rfl
 refine QQ rfl rfl rfl ?_ rfl
 refine QQ rfl rfl rfl ?_ rfl
 iterate 8 refine w_ ?_
 subst hO
 have e45:(false:Bool)=true:=by
  (exfalso; simp_all [Zc]; done)
 exact Qi (Qg rfl (Qd rfl)) (by rw[← e45] <;> rfl) rfl
 refine w_ ?_
 refine AL.fact (Qo (x:= .tmp 128) (Qa rfl)) fun hl46=> ?_
 iterate 4 refine w_ ?_
 cases hb47:(decide (0 < (xl.2.length:Int)))
 have hb47':=a7 hb47
 iterate 7 refine w_ ?_
 cases hb48:(boB xs)
 iterate 5 refine w_ ?_
 subst hO
 exact Qi (Qg rfl (Qd rfl)) rfl rfl
 iterate 2 refine w_ ?_
 refine YY ?_
 have hch:=QkA (s:=xs) ‹_›
 have hsg:=Qcp (s:=xs) ‹_›
 iterate 3 refine w_ ?_
 refine lc (Ql (ZQ xs (boV xs) (by omega)) Vg ⟨_,_,rfl,(Qb rfl),⟨_,_,rfl,(Qb rfl),rfl⟩⟩ rfl rfl) ?_
 iterate 10 refine w_ ?_
 refine lc (Ql (Yd xs (by omega)).frozenG Hw ⟨_,_,rfl,(Qb rfl),rfl⟩ rfl rfl) ?_
 iterate 9 refine w_ ?_
 refine AL.fact (Qo (x:= .tmp 173) (Qa rfl)) fun hl49=> ?_
 iterate 4 refine w_ ?_
 refine Qu (fun m_ s_=>∃(k:Nat),k≤(ZP xs).length∧m_=(ZP xs).length - k∧s_=⟨[(5,lP 0 0),(28,lI (ox1 xs (boV xs))),(29,lI (ox2 xs (boV xs))),(30,lB (ocB xs (boV xs))),(32,lB ((sgV xs).2)),(173,lf (.dat KZ (ZP xs))),(174,lI ((ZP xs).length:Int)),(175,lI (k:Int))],[(0,some (.box 29 [dI xs.1.1, .dat QZ xs.1.2, .dat QJ xs.2.1, .dat QR xs.2.2.1,dS xs.2.2.2]))]⟩) ⟨0,aw _,rfl,rfl⟩ ?_ ?_
 exact wo [(0,0)]
 rintro m_ s_ ⟨k,hk50,hm51,rfl⟩
 iterate 4 refine w_ ?_
 cases hb52:(decide ((k:Int) < ((ZP xs).length:Int)))
 have hb52':=a7 hb52
 iterate 6 refine w_ ?_
 cases hb53:(ocB xs (boV xs))
 iterate 5 refine w_ ?_
 subst hO
 have e54:(false:Bool)=true:=by
  (exfalso; simp_all [Zc]; done)
 exact Qi (Qg rfl (Qd rfl)) (by rw[← e54] <;> rfl) rfl
 iterate 5 refine w_ ?_
 subst hO
 have e55:((sgV xs).2:Bool)=true:=by
  (simp_all; done)
 exact Qi (Qg rfl (Qd rfl)) (by rw[e55] <;> rfl) rfl
 have hb52':=a8 hb52
 iterate 6 refine w_ ?_
 obtain ⟨z,hx57⟩:=gx (ZP xs) k
 have hz:=hch.2 z (ai hx57)
 refine lc (Qh (Qa rfl) (Qa rfl) Xn Zf rfl (by omega) hx57) ?_
 refine w_ ?_
 refine lc (Qj 9 ZH Yz rfl rfl (Fresh.of rfl) (nlr rfl)) ?_
 refine w_ ?_
 refine lc (Qc (Qa rfl) rfl (Qb rfl) rfl Zf rfl) ?_
 iterate 4 refine w_ ?_
 refine lc (Ql (ZQ xs z (by omega)) Vg ⟨_,_,rfl,(Qb rfl),⟨_,_,rfl,(Qb rfl),rfl⟩⟩ rfl rfl) ?_
 iterate 13 refine w_ ?_
 cases hb58:(ocB xs z)
 iterate 9 refine w_ ?_
 refine QQ rfl rfl rfl ?_ rfl
 refine QQ rfl rfl rfl ?_ rfl
 refine QQ rfl rfl rfl ?_ rfl
 iterate 8 refine w_ ?_
 subst hO
 have e59:(false:Bool)=true:=by
  (exfalso; simp_all [Zc]; done)
 exact Qi (Qg rfl (Qd rfl)) (by rw[← e59] <;> rfl) rfl
 iterate 5 refine w_ ?_
 cases hb60:(decide ((ox1 xs z) < (ox1 xs (boV xs))))
 have hb60':=a7 hb60
 iterate 4 refine w_ ?_
 cases hb61:(decide ((ox1 xs z)=(ox1 xs (boV xs))))
 have hb61':=a7 hb61
 iterate 12 refine w_ ?_
 cases hb62:(decide (8 < (k:Int)))
 have hb62':=a7 hb62
 iterate 6 refine w_ ?_
 refine Qm<|QV ⟨k+1,by omega,rfl,rfl⟩ (by omega) ?_
 exact wo [(0,0)]
 have hb62':=a8 hb62
 iterate 6 refine w_ ?_
 cases hb63:(ocB xs (boV xs))
 iterate 5 refine w_ ?_
 subst hO
 have e64:(false:Bool)=true:=by
  (exfalso; simp_all [Zc]; done)
 exact Qi (Qg rfl (Qd rfl)) (by rw[← e64] <;> rfl) rfl
 iterate 5 refine w_ ?_
 subst hO
 have e65:((sgV xs).2:Bool)=true:=by
  (simp_all; done)
 exact Qi (Qg rfl (Qd rfl)) (by rw[e65] <;> rfl) rfl
 have hb61':=a8 hb61
 iterate 6 refine w_ ?_
 cases hb66:(decide ((ox2 xs (boV xs)) < (ox2 xs z)))
 have hb66':=a7 hb66
 iterate 6 refine w_ ?_
 cases hb67:(decide (8 < (k:Int)))
 have hb67':=a7 hb67
 iterate 6 refine w_ ?_
 refine Qm<|QV ⟨k+1,by omega,rfl,rfl⟩ (by omega) ?_
 exact wo [(0,0)]
 have hb67':=a8 hb67
 iterate 6 refine w_ ?_
 cases hb68:(ocB xs (boV xs))
 iterate 5 refine w_ ?_
 subst hO
 have e69:(false:Bool)=true:=by
  (exfalso; simp_all [Zc]; done)
 exact Qi (Qg rfl (Qd rfl)) (by rw[← e69] <;> rfl) rfl
 iterate 5 refine w_ ?_
 subst hO
 have e70:((sgV xs).2:Bool)=true:=by
  (simp_all; done)
 exact Qi (Qg rfl (Qd rfl)) (by rw[e70] <;> rfl) rfl
 have hb66':=a8 hb66
 iterate 5 refine w_ ?_
 subst hO
 have e71:(false:Bool)=true:=by
  (exfalso; simp_all [Zc]; done)
 exact Qi (Qg rfl (Qd rfl)) (by rw[← e71] <;> rfl) rfl
 have hb60':=a8 hb60
 iterate 4 refine w_ ?_
 refine QQ rfl rfl rfl ?_ rfl
 refine QQ rfl rfl rfl ?_ rfl
 refine QQ rfl rfl rfl ?_ rfl
 iterate 8 refine w_ ?_
 subst hO
 have e72:(false:Bool)=true:=by
  (exfalso; simp_all [Zc]; done)
 exact Qi (Qg rfl (Qd rfl)) (by rw[← e72] <;> rfl) rfl
 have hb47':=a8 hb47
 refine w_ ?_
 obtain ⟨z0,hx74⟩:=gx xl.2 0
 have hz0:=hx74
 have hap:=QhJ hz0 ‹_›
 have hap2:=Qf9 hz0 ‹_›
 refine dw [io 133 (ag [dI xl.1.1.1, .dat QZ xl.1.1.2, .dat QJ xl.1.2.1, .dat QR xl.1.2.2.1,dS xl.1.2.2.2]),io 134 (lf (.dat KZ xl.2)),io 135 (lf (.elt ZH z0 0)),io 136 (ag [dI z0.1,dI z0.2.1,dB z0.2.2]),io 137 (PV.tup [(true,[dI ((((Q7 xl.1 z0).1).1).1), .dat QZ ((((Q7 xl.1 z0).1).1).2), .dat QJ (((Q7 xl.1 z0).1).2.1), .dat QR (((Q7 xl.1 z0).1).2.2.1),dS (((Q7 xl.1 z0).1).2.2.2)]),(false,[dB ((Q7 xl.1 z0).2)])]),io 132 (PV.tup [(true,[dI ((((Q7 xl.1 z0).1).1).1), .dat QZ ((((Q7 xl.1 z0).1).1).2), .dat QJ (((Q7 xl.1 z0).1).2.1), .dat QR (((Q7 xl.1 z0).1).2.2.1),dS (((Q7 xl.1 z0).1).2.2.2)]),(false,[dB ((Q7 xl.1 z0).2)])]),io 138 (ag [dI ((((Q7 xl.1 z0).1).1).1), .dat QZ ((((Q7 xl.1 z0).1).1).2), .dat QJ (((Q7 xl.1 z0).1).2.1), .dat QR (((Q7 xl.1 z0).1).2.2.1),dS (((Q7 xl.1 z0).1).2.2.2)]),io 139 (lB ((Q7 xl.1 z0).2)),⟨some 24,lP 10 0,[(10,some (.box 29 [dI 0, .val (.slice none 0 0), .val (.slice none 0 0), .val (.slice none 0 0),dS ByteArray.empty]))]⟩,⟨none,lf (.val undef),[(10,some (.box 29 [dI ((((Q7 xl.1 z0).1).1).1), .dat QZ ((((Q7 xl.1 z0).1).1).2), .dat QJ (((Q7 xl.1 z0).1).2.1), .dat QR (((Q7 xl.1 z0).1).2.2.1),dS (((Q7 xl.1 z0).1).2.2.2)]))]⟩,io 25 (lB ((Q7 xl.1 z0).2))] [0,0,2,6,15,31,63,63,0,383,1023] mixed rfl (by kernel_rfl) ⟨dxa Qz rfl rfl rfl rfl,dxm rfl rfl,fun _ h_=>ac (Qh (h_.v rfl) (Qv rfl) Xn Zf rfl (by omega) hx74) rfl,fun _ h_=>ac (Ya (h_.v rfl) Zf rfl rfl) rfl,fun _ h_=>ac (Ql (X8 xl.1 z0 (by omega)).frozenG Qcg ⟨_,_,rfl,(h_.w rfl),⟨_,_,rfl,(h_.w rfl),rfl⟩⟩ rfl rfl) rfl,dxm rfl rfl,fun _ h_=>ac (YI (h_.k rfl) rfl rfl) rfl,fun _ h_=>ac (YI (h_.k rfl) rfl rfl) rfl,fun _ h_=>ac (Qj 10 Xr ZE rfl rfl (h_.fr 10 rfl) (nlr rfl)) rfl,fun _ h_=>ac (Qc (h_.v rfl) (h_.n 10 rfl) (h_.w rfl) rfl Qz rfl) rfl,dxt rfl rfl,⟨⟩⟩<|dw [io 141 (ag [dI ((((Q7 xl.1 z0).1).1).1), .dat QZ ((((Q7 xl.1 z0).1).1).2), .dat QJ (((Q7 xl.1 z0).1).2.1), .dat QR (((Q7 xl.1 z0).1).2.2.1),dS (((Q7 xl.1 z0).1).2.2.2)]),io 142 (lf (.dat KZ xl.2)),io 143 (lf (.dat KZ ((xl.2.take xl.2.length).drop (1:Int).toNat))),io 144 (PV.tup [(true,[dI ((((QM ((Q7 xl.1 z0).1) ((xl.2.take xl.2.length).drop (1:Int).toNat)).1).1).1), .dat QZ ((((QM ((Q7 xl.1 z0).1) ((xl.2.take xl.2.length).drop (1:Int).toNat)).1).1).2), .dat QJ (((QM ((Q7 xl.1 z0).1) ((xl.2.take xl.2.length).drop (1:Int).toNat)).1).2.1), .dat QR (((QM ((Q7 xl.1 z0).1) ((xl.2.take xl.2.length).drop (1:Int).toNat)).1).2.2.1),dS (((QM ((Q7 xl.1 z0).1) ((xl.2.take xl.2.length).drop (1:Int).toNat)).1).2.2.2)]),(false,[dB ((QM ((Q7 xl.1 z0).1) ((xl.2.take xl.2.length).drop (1:Int).toNat)).2)])]),io 140 (PV.tup [(true,[dI ((((QM ((Q7 xl.1 z0).1) ((xl.2.take xl.2.length).drop (1:Int).toNat)).1).1).1), .dat QZ ((((QM ((Q7 xl.1 z0).1) ((xl.2.take xl.2.length).drop (1:Int).toNat)).1).1).2), .dat QJ (((QM ((Q7 xl.1 z0).1) ((xl.2.take xl.2.length).drop (1:Int).toNat)).1).2.1), .dat QR (((QM ((Q7 xl.1 z0).1) ((xl.2.take xl.2.length).drop (1:Int).toNat)).1).2.2.1),dS (((QM ((Q7 xl.1 z0).1) ((xl.2.take xl.2.length).drop (1:Int).toNat)).1).2.2.2)]),(false,[dB ((QM ((Q7 xl.1 z0).1) ((xl.2.take xl.2.length).drop (1:Int).toNat)).2)])]),io 145 (ag [dI ((((QM ((Q7 xl.1 z0).1) ((xl.2.take xl.2.length).drop (1:Int).toNat)).1).1).1), .dat QZ ((((QM ((Q7 xl.1 z0).1) ((xl.2.take xl.2.length).drop (1:Int).toNat)).1).1).2), .dat QJ (((QM ((Q7 xl.1 z0).1) ((xl.2.take xl.2.length).drop (1:Int).toNat)).1).2.1), .dat QR (((QM ((Q7 xl.1 z0).1) ((xl.2.take xl.2.length).drop (1:Int).toNat)).1).2.2.1),dS (((QM ((Q7 xl.1 z0).1) ((xl.2.take xl.2.length).drop (1:Int).toNat)).1).2.2.2)]),io 146 (lB ((QM ((Q7 xl.1 z0).1) ((xl.2.take xl.2.length).drop (1:Int).toNat)).2)),⟨some 26,lP 11 0,[(11,some (.box 29 [dI 0, .val (.slice none 0 0), .val (.slice none 0 0), .val (.slice none 0 0),dS ByteArray.empty]))]⟩,⟨none,lf (.val undef),[(11,some (.box 29 [dI ((((QM ((Q7 xl.1 z0).1) ((xl.2.take xl.2.length).drop (1:Int).toNat)).1).1).1), .dat QZ ((((QM ((Q7 xl.1 z0).1) ((xl.2.take xl.2.length).drop (1:Int).toNat)).1).1).2), .dat QJ (((QM ((Q7 xl.1 z0).1) ((xl.2.take xl.2.length).drop (1:Int).toNat)).1).2.1), .dat QR (((QM ((Q7 xl.1 z0).1) ((xl.2.take xl.2.length).drop (1:Int).toNat)).1).2.2.1),dS (((QM ((Q7 xl.1 z0).1) ((xl.2.take xl.2.length).drop (1:Int).toNat)).1).2.2.2)]))]⟩,io 27 (lB ((QM ((Q7 xl.1 z0).1) ((xl.2.take xl.2.length).drop (1:Int).toNat)).2))] [0,0,2,7,15,31,31,0,191,511] mixed rfl (by kernel_rfl) ⟨dxa Qz rfl rfl rfl rfl,dxm rfl rfl,fun _ h_=>ac (UH (l:=(some 1)) (h:=none) (h_.v rfl) (by exact (Qv rfl)) (by exact trivial) Xn Zf rfl (by simp only[ao,ak]; omega) (by simp only[ao,ak]; omega) (by simp only[ao,ak]; omega)) rfl,fun _ h_=>ac (Ql (WH ((Q7 xl.1 z0).1) ((xl.2.take xl.2.length).drop (1:Int).toNat) (by have h_:=Qij xl.1 z0; omega)).frozenG Qf0 ⟨_,_,rfl,(h_.w rfl),⟨_,_,rfl,(h_.w rfl),rfl⟩⟩ rfl rfl) rfl,dxm rfl rfl,fun _ h_=>ac (YI (h_.k rfl) rfl rfl) rfl,fun _ h_=>ac (YI (h_.k rfl) rfl rfl) rfl,fun _ h_=>ac (Qj 11 Xr ZE rfl rfl (h_.fr 11 rfl) (nlr rfl)) rfl,fun _ h_=>ac (Qc (h_.v rfl) (h_.n 11 rfl) (h_.w rfl) rfl Qz rfl) rfl,dxt rfl rfl,⟨⟩⟩ ?_
 iterate 4 refine w_ ?_
 cases hb75:((Q7 xl.1 z0).2)
 iterate 15 refine w_ ?_
 subst hO
 have e76:(false:Bool)=true:=by
  (exfalso; simp_all [Zc]; done)
 exact Qi (Qg rfl (Qd rfl)) (by rw[← e76] <;> rfl) rfl
 iterate 4 refine w_ ?_
 cases hb77:((QM ((Q7 xl.1 z0).1) ((xl.2.take xl.2.length).drop (1:Int).toNat)).2)
 iterate 11 refine w_ ?_
 subst hO
 have e78:(false:Bool)=true:=by
  (exfalso; simp_all [Zc]; done)
 exact Qi (Qg rfl (Qd rfl)) (by rw[← e78] <;> rfl) rfl
 iterate 2 refine w_ ?_
 refine lgy rfl rfl (Ql (KD ((QM ((Q7 xl.1 z0).1) ((xl.2.take xl.2.length).drop (1:Int).toNat)).1) ((QM xl.1 xl.2).1) (congrArg Prod.fst (Qf9 hz0 ‹_›))) Qfv ⟨_,_,rfl,(Qb rfl),⟨_,_,rfl,(Qb rfl),rfl⟩⟩ rfl rfl) ?_
 iterate 10 refine w_ ?_
 cases hb79:(boB xs)
 iterate 5 refine w_ ?_
 subst hO
 exact Qi (Qg rfl (Qd rfl)) rfl rfl
 iterate 2 refine w_ ?_
 refine YY ?_
 have hch:=QkA (s:=xs) ‹_›
 have hsg:=Qcp (s:=xs) ‹_›
 iterate 3 refine w_ ?_
 refine lc (Ql (ZQ xs (boV xs) (by omega)) Vg ⟨_,_,rfl,(Qb rfl),⟨_,_,rfl,(Qb rfl),rfl⟩⟩ rfl rfl) ?_
 iterate 10 refine w_ ?_
 refine lc (Ql (Yd xs (by omega)).frozenG Hw ⟨_,_,rfl,(Qb rfl),rfl⟩ rfl rfl) ?_
 iterate 9 refine w_ ?_
 refine AL.fact (Qo (x:= .tmp 173) (Qa rfl)) fun hl80=> ?_
 iterate 4 refine w_ ?_
 refine Qu (fun m_ s_=>∃(k:Nat),k≤(ZP xs).length∧m_=(ZP xs).length - k∧s_=⟨[(5,lP 0 0),(28,lI (ox1 xs (boV xs))),(29,lI (ox2 xs (boV xs))),(30,lB (ocB xs (boV xs))),(32,lB ((sgV xs).2)),(173,lf (.dat KZ (ZP xs))),(174,lI ((ZP xs).length:Int)),(175,lI (k:Int))],[(0,some (.box 29 [dI xs.1.1, .dat QZ xs.1.2, .dat QJ xs.2.1, .dat QR xs.2.2.1,dS xs.2.2.2]))]⟩) ⟨0,aw _,rfl,rfl⟩ ?_ ?_
 exact wo [(0,0)]
 rintro m_ s_ ⟨k,hk81,hm82,rfl⟩
 iterate 4 refine w_ ?_
 cases hb83:(decide ((k:Int) < ((ZP xs).length:Int)))
 have hb83':=a7 hb83
 iterate 6 refine w_ ?_
 cases hb84:(ocB xs (boV xs))
 iterate 5 refine w_ ?_
 subst hO
 have e85:(false:Bool)=true:=by
  (exfalso; simp_all [Zc]; done)
 exact Qi (Qg rfl (Qd rfl)) (by rw[← e85] <;> rfl) rfl
 iterate 5 refine w_ ?_
 subst hO
 have e86:((sgV xs).2:Bool)=true:=by
  (simp_all; done)
 exact Qi (Qg rfl (Qd rfl)) (by rw[e86] <;> rfl) rfl
 have hb83':=a8 hb83
 iterate 6 refine w_ ?_
 obtain ⟨z,hx88⟩:=gx (ZP xs) k
 have hz:=hch.2 z (ai hx88)
 refine lc (Qh (Qa rfl) (Qa rfl) Xn Zf rfl (by omega) hx88) ?_
 refine w_ ?_
 refine lc (Qj 12 ZH Yz rfl rfl (Fresh.of rfl) (nlr rfl)) ?_
 refine w_ ?_
 refine lc (Qc (Qa rfl) rfl (Qb rfl) rfl Zf rfl) ?_
 iterate 4 refine w_ ?_
 refine lc (Ql (ZQ xs z (by omega)) Vg ⟨_,_,rfl,(Qb rfl),⟨_,_,rfl,(Qb rfl),rfl⟩⟩ rfl rfl) ?_
 iterate 13 refine w_ ?_
 cases hb89:(ocB xs z)
 iterate 9 refine w_ ?_
 refine QQ rfl rfl rfl ?_ rfl
 refine QQ rfl rfl rfl ?_ rfl
 refine QQ rfl rfl rfl ?_ rfl
 iterate 8 refine w_ ?_
 subst hO
 have e90:(false:Bool)=true:=by
  (exfalso; simp_all [Zc]; done)
 exact Qi (Qg rfl (Qd rfl)) (by rw[← e90] <;> rfl) rfl
 iterate 5 refine w_ ?_
 cases hb91:(decide ((ox1 xs z) < (ox1 xs (boV xs))))
 have hb91':=a7 hb91
 iterate 4 refine w_ ?_
 cases hb92:(decide ((ox1 xs z)=(ox1 xs (boV xs))))
 have hb92':=a7 hb92
 iterate 12 refine w_ ?_
 cases hb93:(decide (8 < (k:Int)))
 have hb93':=a7 hb93
 iterate 6 refine w_ ?_
 refine Qm<|QV ⟨k+1,by omega,rfl,rfl⟩ (by omega) ?_
 exact wo [(0,0)]
 have hb93':=a8 hb93
 iterate 6 refine w_ ?_
 cases hb94:(ocB xs (boV xs))
 iterate 5 refine w_ ?_
 subst hO
 have e95:(false:Bool)=true:=by
  (exfalso; simp_all [Zc]; done)
 exact Qi (Qg rfl (Qd rfl)) (by rw[← e95] <;> rfl) rfl
 iterate 5 refine w_ ?_
 subst hO
 have e96:((sgV xs).2:Bool)=true:=by
  (simp_all; done)
 exact Qi (Qg rfl (Qd rfl)) (by rw[e96] <;> rfl) rfl
 have hb92':=a8 hb92
 iterate 6 refine w_ ?_
 cases hb97:(decide ((ox2 xs (boV xs)) < (ox2 xs z)))
 have hb97':=a7 hb97
 iterate 6 refine w_ ?_
 cases hb98:(decide (8 < (k:Int)))
 have hb98':=a7 hb98
 iterate 6 refine w_ ?_
 refine Qm<|QV ⟨k+1,by omega,rfl,rfl⟩ (by omega) ?_
 exact wo [(0,0)]
 have hb98':=a8 hb98
 iterate 6 refine w_ ?_
 cases hb99:(ocB xs (boV xs))
 iterate 5 refine w_ ?_
 subst hO
 have e100:(false:Bool)=true:=by
  (exfalso; simp_all [Zc]; done)
 exact Qi (Qg rfl (Qd rfl)) (by rw[← e100] <;> rfl) rfl
 iterate 5 refine w_ ?_
 subst hO
 have e101:((sgV xs).2:Bool)=true:=by
  (simp_all; done)
 exact Qi (Qg rfl (Qd rfl)) (by rw[e101] <;> rfl) rfl
 have hb97':=a8 hb97
 iterate 5 refine w_ ?_
 subst hO
 have e102:(false:Bool)=true:=by
  (exfalso; simp_all [Zc]; done)
 exact Qi (Qg rfl (Qd rfl)) (by rw[← e102] <;> rfl) rfl
 have hb91':=a8 hb91
 iterate 4 refine w_ ?_
 refine QQ rfl rfl rfl ?_ rfl
 refine QQ rfl rfl rfl ?_ rfl
 refine QQ rfl rfl rfl ?_ rfl
 iterate 8 refine w_ ?_
 subst hO
 have e103:(false:Bool)=true:=by
  (exfalso; simp_all [Zc]; done)
 exact Qi (Qg rfl (Qd rfl)) (by rw[← e103] <;> rfl) rfl
 have hb17':¬((ox2 xo.1 xo.2)=(ox2 xo.1 xo.2)):=Zx hb17
 iterate 16 refine w_ ?_
 subst hO
 have e104:(false:Bool)=true:=by
  (exfalso; simp_all [Zc]; done)
 exact Qi (Qg rfl (Qd rfl)) (by rw[← e104] <;> rfl) rfl
 have hb16':¬((ox1 xo.1 xo.2)=(ox1 xo.1 xo.2)):=Zx hb16
 iterate 21 refine w_ ?_
 subst hO
 have e105:(false:Bool)=true:=by
  (exfalso; simp_all [Zc]; done)
 exact Qi (Qg rfl (Qd rfl)) (by rw[← e105] <;> rfl) rfl
 have hb3':=a8 hb3
 iterate 5 refine w_ ?_
 subst hO
 exact Qi (Qg rfl (Qd rfl)) rfl rfl
end Go.Proofs.YtjaadeknhofhpaaGreat
