/- Walks over abstract states: valid state graphs, the program. -/
import Derived.Test.YtnakmhfjafecpaaGreatVa
set_option linter.unusedSimpArgs false
set_option linter.unusedVariables false
set_option linter.unusedSectionVars false
namespace Go.Proofs.YtnakmhfjafecpaaGreat
open Go.RowKit
set_option maxRecDepth 100000
set_option maxHeartbeats 4000000
section
variable {c:DSg}{a:DAr}{x y:ByteArray}{k:Nat}
theorem Qjl (h:¬(0≤a.1∧a.1≤(c.2.1.length:Int) - 1)):¬YS c a:=fun g=>h g.1
theorem QjJ (h:¬(0≤a.2.2.2∧a.2.2.2≤(c.2.1.length:Int) - 1)):¬YS c a:=fun g=>h g.2.1
theorem QjA (h:¬Vk (c.1.length:Int) (a.2.1,a.2.2.1)):¬YS c a:=fun g=>h g.2.2.1
theorem Qjg (hx:c.2.1[a.1.toNat]? =some x)(hy:c.2.1[a.2.2.2.toNat]? =some y)(h:¬Fit a x y):¬YS c a:=fun g=>h (by have:=g.2.2.2; rwa [WS hx,WS hy] at this)
theorem Qo8 (h1:0≤a.1∧a.1≤(c.2.1.length:Int) - 1)(h2:0≤a.2.2.2∧a.2.2.2≤(c.2.1.length:Int) - 1)(h3:Vk (c.1.length:Int) (a.2.1,a.2.2.1))(hx:c.2.1[a.1.toNat]? =some x)(hy:c.2.1[a.2.2.2.toNat]? =some y)(h:Fit a x y):YS c a:=
  ⟨h1,h2,h3,by rw[WS hx,WS hy]; exact h⟩
end
theorem YI (c:(List (ByteArray×Int))×List ByteArray×(List (Int×Int×Bool×Int)))[∀c,Decidable (SgOk c)]:FC Tryz.prog 82 [(true,[.dat (.sl 145 (.pr .str .int)) c.1, .dat (.sl 9 .str) c.2.1, .dat (.sl 179 (.pr .int (.pr .int (.pr .bool .int)))) c.2.2])] [] 0 (Zy (lB (decide (SgOk c)))):=by
 classical
 refine QQ Tryz.func82 rfl rfl Tryz.ntmps82 fun O_ hO w0_ N0_ X_ h0_ f0_=> ?_
 refine w_ ?_
 refine lc (Qr 0 (Qb rfl) rfl rfl (Fresh.of rfl) (nlr rfl)) ?_
 iterate 6 refine w_ ?_
 refine lc (Qh (Jx c.1) Qin ⟨_,_,rfl,(Qb rfl),rfl⟩ rfl rfl) ?_
 iterate 2 refine w_ ?_
 cases hb1:(decide (XL c.1))
 ·have hb1':=of_decide_eq_false hb1
  iterate 17 refine w_ ?_
  refine Qe ?_
  subst hO
  have e2:(false:Bool)=(decide (SgOk c)):=by
   exact Qna (by assumption)
  exact Qg (Qd rfl (Qc rfl)) ((congrArg (fun z_=>lB z_) e2)) rfl
 ·have hb1':=of_decide_eq_true hb1
  iterate 2 refine w_ ?_
  refine AL.fact (QB (x:= .tmp 14) (Qa rfl)) fun hl3=> ?_
  refine w_ ?_
  refine lgy rfl rfl (Qh (ZP (c.2.1.length:Int) 1 300) YO ⟨_,_,rfl,(Qb rfl),⟨_,_,rfl,(Evl.ev (QE rfl)),⟨_,_,rfl,(Evl.ev (QE rfl)),rfl⟩⟩⟩ rfl rfl) ?_
  iterate 3 refine w_ ?_
  cases hb4:(decide (1≤(c.2.1.length:Int)∧(c.2.1.length:Int)≤300))
  ·have hb4':=of_decide_eq_false hb4
   iterate 10 refine w_ ?_
   refine Qe ?_
   subst hO
   have e5:(false:Bool)=(decide (SgOk c)):=by
    exact QmN (by assumption)
   exact Qg (Qd rfl (Qc rfl)) ((congrArg (fun z_=>lB z_) e5)) rfl
  ·have hb4':=of_decide_eq_true hb4
   iterate 2 refine w_ ?_
   refine AL.fact (QB (x:= .tmp 21) (Qa rfl)) fun hl6=> ?_
   iterate 4 refine w_ ?_
   cases hb7:(decide (4000 < (c.2.2.length:Int)))
   ·have hb7':=of_decide_eq_false hb7
    iterate 5 refine w_ ?_
    refine AL.fact (QB (x:= .tmp 26) (Qa rfl)) fun hl8=> ?_
    iterate 8 refine w_ ?_
    refine AL.fact (QB (x:= .tmp 30) (Qa rfl)) fun hl9=> ?_
    iterate 4 refine w_ ?_
    refine Qy (fun m_ s_=>∃(k:Nat),k≤c.2.1.length∧m_=c.2.1.length - k∧(∀j,j < k→∀x,c.2.1[j]? =some x→YQ x (c.1.length:Int))∧s_=⟨[(1,lP 0 0),(3,lI ((c.2.1.length:Int) - 1)),(30,lf (.dat (.sl 9 .str) c.2.1)),(31,lI (c.2.1.length:Int)),(32,lI (k:Int))],[(0,some (.box 59 [.dat (.sl 145 (.pr .str .int)) c.1, .dat (.sl 9 .str) c.2.1, .dat (.sl 179 (.pr .int (.pr .int (.pr .bool .int)))) c.2.2]))]⟩) ⟨0,Nat.zero_le _,rfl,(fun j hj=>absurd hj (Nat.not_lt_zero j)),rfl⟩ ?_ ?_
    · exact Wk.of [(0,0)] rfl ⟨rfl,rfl,rfl,rfl,rfl,trivial⟩ ⟨rfl,trivial⟩ rfl rfl
    rintro m_ s_ ⟨k,hk10,hm11,hB,rfl⟩
    iterate 4 refine w_ ?_
    cases hb12:(decide ((k:Int) < (c.2.1.length:Int)))
    ·have hb12':=of_decide_eq_false hb12
     refine w_ ?_
     refine QA ?_
     refine (?_:AC _ _ _ _ _)
     iterate 4 refine w_ ?_
     refine AL.fact (QB (x:= .tmp 44) (Qa rfl)) fun hl13=> ?_
     iterate 4 refine w_ ?_
     refine Qy (fun m_ s_=>∃(i:Nat),i≤c.2.2.length∧m_=c.2.2.length - i∧(∀j,j < i→∀a,c.2.2[j]? =some a→YS c a)∧s_=⟨[(1,lP 0 0),(3,lI ((c.2.1.length:Int) - 1)),(44,lf (.dat (.sl 179 (.pr .int (.pr .int (.pr .bool .int)))) c.2.2)),(45,lI (c.2.2.length:Int)),(46,lI (i:Int))],[(0,some (.box 59 [.dat (.sl 145 (.pr .str .int)) c.1, .dat (.sl 9 .str) c.2.1, .dat (.sl 179 (.pr .int (.pr .int (.pr .bool .int)))) c.2.2]))]⟩) ⟨0,Nat.zero_le _,rfl,(fun j hj=>absurd hj (Nat.not_lt_zero j)),rfl⟩ ?_ ?_
     · exact Wk.of [(0,0)] rfl ⟨rfl,rfl,rfl,rfl,rfl,trivial⟩ ⟨rfl,trivial⟩ rfl rfl
     rintro m_ s_ ⟨i,hk14,hm15,hR,rfl⟩
     iterate 4 refine w_ ?_
     cases hb16:(decide ((i:Int) < (c.2.2.length:Int)))
     ·have hb16':=of_decide_eq_false hb16
      refine w_ ?_
      refine QA ?_
      refine (?_:AC _ _ _ _ _)
      refine dw [io 92 (lP 0 1),io 93 (lf (.dat (.sl 9 .str) c.2.1)),io 94 (lI (c.2.1.length:Int)),io 95 (lP 0 2),io 96 (lf (.dat (.sl 179 (.pr .int (.pr .int (.pr .bool .int)))) c.2.2)),io 97 (lf (.dat (.sl 258 (.pr .int .int)) (ZM c.2.2))),io 98 (lf (.dat (.sl 3 .int) (UB (c.2.1.length:Int).toNat (ZM c.2.2)))),io 99 (lB ((UB (c.2.1.length:Int).toNat (ZM c.2.2)).any (fun y=>decide ((-1)=y)))),io 100 (lB (!((UB (c.2.1.length:Int).toNat (ZM c.2.2)).any (fun y=>decide ((-1)=y))))),io 2 (lB (!((UB (c.2.1.length:Int).toNat (ZM c.2.2)).any (fun y=>decide ((-1)=y)))))] [0,1,3,0,8,24,63,127,255,511] mixed rfl (by kernel_rfl) ⟨dxf Z9 rfl rfl rfl,dxl Xc rfl rfl rfl rfl rfl,fun _ h_=>ac (VA (h_.v rfl) rfl ZL) rfl,dxf YZ rfl rfl rfl,dxl WD rfl rfl rfl rfl rfl,fun _ h_=>ac (Qh (Qam c.2.2 (by omega)).frozen QiG ⟨_,_,rfl,(h_.w rfl),rfl⟩ rfl rfl) rfl,fun _ h_=>ac (Qh (Hl (c.2.1.length:Int) (ZM c.2.2) 0 (by omega) (Qcx (fun a ha=>XG (Xw hR (by omega) a ha))) (by simp only[ZM,List.length_map]; omega) rfl).frozen QhS ⟨_,_,rfl,(h_.w rfl),⟨_,_,rfl,(h_.w rfl),⟨_,_,rfl,(Evl.ev (QE rfl)),rfl⟩⟩⟩ rfl rfl) rfl,fun _ h_=>ac (Qh (Xz (UB (c.2.1.length:Int).toNat (ZM c.2.2)) (-1)) Qcm ⟨_,_,rfl,(h_.w rfl),⟨_,_,rfl,(Evl.ev (QE rfl)),rfl⟩⟩ rfl rfl) rfl,fun _ h_=>ac (ZK (h_.v rfl) rfl) rfl,dxt rfl rfl,⟨⟩⟩<|Qe ?_
      subst hO
      have e17:(!((UB (c.2.1.length:Int).toNat (ZM c.2.2)).any (fun y=>decide ((-1)=y))):Bool)=(decide (SgOk c)):=by
       exact (QlQ (by omega) (Qcx (fun a ha=>XG (Xw hR (by omega) a ha)))).trans (QmM (by assumption) (by assumption) (by assumption) (Xw hB (by omega)) (Xw hR (by omega)))
      exact Qg (Qd rfl (Qc rfl)) ((congrArg (fun z_=>lB z_) e17)) rfl
     ·have hb16':=of_decide_eq_true hb16
      iterate 5 refine w_ ?_
      obtain ⟨ar,hx19⟩:∃z,c.2.2[i]? =some z:=⟨_,List.getElem?_eq_getElem (by omega)⟩
      refine lc (Qm (Qa rfl) (Qa rfl) Q9 QJ rfl (by omega) hx19) ?_
      refine w_ ?_
      refine lc (Qw 1 (.pr .int (.pr .int (.pr .bool .int))) Zq rfl rfl (Fresh.of rfl) (nlr rfl))<|lc (Qf (Qa rfl) rfl (Qb rfl) rfl QJ rfl) ?_
      refine w_ ?_
      cases hb20:(decide (0≤ar.1∧ar.1≤((c.2.1.length:Int) - 1)))
      ·have hb20':=of_decide_eq_false hb20
       refine dw [io 50 (lP 1 0),io 51 (lI ar.1),io 52 (lI ((c.2.1.length:Int) - 1)),io 53 (lB false),io 54 (lB true),io 55 (lB true),io 56 (lf (.val undef)),io 57 (lf (.val undef)),io 58 (lf (.val undef)),io 59 (lf (.val undef)),io 60 (lf (.val undef)),io 61 (lB true),io 62 (lB true),io 63 (lf (.val undef)),io 64 (lf (.val undef)),io 65 (lf (.val undef)),io 66 (lf (.val undef)),io 67 (lf (.val undef)),io 68 (lf (.val undef)),io 69 (lf (.val undef)),io 70 (lf (.val undef)),io 71 (lf (.val undef)),io 72 (lf (.val undef)),io 73 (lB true),io 74 (lB true),io 75 (lf (.val undef)),io 76 (lf (.val undef)),io 77 (lf (.val undef)),io 78 (lf (.val undef)),io 79 (lf (.val undef)),io 80 (lf (.val undef)),io 81 (lf (.val undef)),io 82 (lf (.val undef)),io 83 (lf (.val undef)),io 84 (lf (.val undef)),io 85 (lf (.val undef)),io 86 (lf (.val undef)),io 87 (lf (.val undef)),io 88 (lf (.val undef)),io 89 (lf (.val undef)),io 90 (lB true)] [0,1,0,7,15,31,63,127,63,511,1023,2047,4095,8191,16383,8191,40959,131071,8191,270335,794623,2097151,4194303,8388607,16777215,33554431,33554431,100663295,33554431,301989887,1040187391,2113929215,33554431,4328521727,33554431,17213423615,64458063871,133177540607,274877906943,549755813887,1099511627775] mixed rfl (by kernel_rfl) ⟨dxf Zr rfl rfl rfl,dxl QD rfl rfl rfl rfl rfl,dxm rfl rfl,fun _ h_=>ac (QZ (hb20) (Qh (ZP ar.1 0 ((c.2.1.length:Int) - 1)) YO ⟨_,_,rfl,(h_.w rfl),⟨_,_,rfl,(Evl.ev (QE rfl)),⟨_,_,rfl,(h_.w rfl),rfl⟩⟩⟩ rfl rfl)) rfl,fun _ h_=>ac (ZK (h_.v rfl) rfl) rfl,dxm rfl rfl,dxo rfl rfl rfl,dxo rfl rfl rfl,dxo rfl rfl rfl,dxo rfl rfl rfl,dxo rfl rfl rfl,fun _ h_=>ac (QV (h_.v rfl) (Evl.ev QU) rfl) rfl,dxm rfl rfl,dxo rfl rfl rfl,dxo rfl rfl rfl,dxo rfl rfl rfl,dxo rfl rfl rfl,dxo rfl rfl rfl,dxo rfl rfl rfl,dxo rfl rfl rfl,dxo rfl rfl rfl,dxo rfl rfl rfl,dxo rfl rfl rfl,fun _ h_=>ac (QV (h_.v rfl) (Evl.ev QU) rfl) rfl,dxm rfl rfl,dxo rfl rfl rfl,dxo rfl rfl rfl,dxo rfl rfl rfl,dxo rfl rfl rfl,dxo rfl rfl rfl,dxo rfl rfl rfl,dxo rfl rfl rfl,dxo rfl rfl rfl,dxo rfl rfl rfl,dxo rfl rfl rfl,dxo rfl rfl rfl,dxo rfl rfl rfl,dxo rfl rfl rfl,dxo rfl rfl rfl,dxo rfl rfl rfl,fun _ h_=>ac (QV (h_.v rfl) (Evl.ev QU) rfl) rfl,⟨⟩⟩ ?_
       iterate 4 refine w_ ?_
       refine Qe ?_
       subst hO
       have e21:(false:Bool)=(decide (SgOk c)):=by
        exact Qdl hx19 (by first | exact Qjl (by assumption) | exact QjJ (by assumption) | exact QjA (by assumption) | exact Qjg (x:=cx) (y:=cy) (by assumption) (by assumption) (by assumption))
       exact Qg (Qd rfl (Qc rfl)) ((congrArg (fun z_=>lB z_) e21)) rfl
      ·have hb20':=of_decide_eq_true hb20
       cases hb22:(decide (0≤ar.2.2.2∧ar.2.2.2≤((c.2.1.length:Int) - 1)))
       ·have hb22':=of_decide_eq_false hb22
        refine dw [io 50 (lP 1 0),io 51 (lI ar.1),io 52 (lI ((c.2.1.length:Int) - 1)),io 53 (lB true),io 54 (lB false),io 55 (lB false),io 56 (lP 1 3),io 57 (lI ar.2.2.2),io 58 (lI ((c.2.1.length:Int) - 1)),io 59 (lB false),io 60 (lB true),io 61 (lB true),io 62 (lB true),io 63 (lf (.val undef)),io 64 (lf (.val undef)),io 65 (lf (.val undef)),io 66 (lf (.val undef)),io 67 (lf (.val undef)),io 68 (lf (.val undef)),io 69 (lf (.val undef)),io 70 (lf (.val undef)),io 71 (lf (.val undef)),io 72 (lf (.val undef)),io 73 (lB true),io 74 (lB true),io 75 (lf (.val undef)),io 76 (lf (.val undef)),io 77 (lf (.val undef)),io 78 (lf (.val undef)),io 79 (lf (.val undef)),io 80 (lf (.val undef)),io 81 (lf (.val undef)),io 82 (lf (.val undef)),io 83 (lf (.val undef)),io 84 (lf (.val undef)),io 85 (lf (.val undef)),io 86 (lf (.val undef)),io 87 (lf (.val undef)),io 88 (lf (.val undef)),io 89 (lf (.val undef)),io 90 (lB true)] [0,1,0,7,15,31,63,127,63,511,1023,2047,4095,8191,16383,8191,40959,131071,8191,270335,794623,2097151,4194303,8388607,16777215,33554431,33554431,100663295,33554431,301989887,1040187391,2113929215,33554431,4328521727,33554431,17213423615,64458063871,133177540607,274877906943,549755813887,1099511627775] mixed rfl (by kernel_rfl) ⟨dxf Zr rfl rfl rfl,dxl QD rfl rfl rfl rfl rfl,dxm rfl rfl,fun _ h_=>ac (QZ (hb20) (Qh (ZP ar.1 0 ((c.2.1.length:Int) - 1)) YO ⟨_,_,rfl,(h_.w rfl),⟨_,_,rfl,(Evl.ev (QE rfl)),⟨_,_,rfl,(h_.w rfl),rfl⟩⟩⟩ rfl rfl)) rfl,fun _ h_=>ac (ZK (h_.v rfl) rfl) rfl,dxm rfl rfl,fun _ h_=>day rfl (h_.k rfl) (Qz (h_.v rfl) Zg (by rw[(h_.en 1 rfl)]; rfl) rfl) rfl,fun _ h_=>day rfl (h_.k rfl) (QI (h_.v rfl) (h_.n 1 rfl) QD rfl rfl) rfl,fun _ h_=>day rfl (h_.k rfl) (QF (h_.k rfl) rfl) rfl,fun _ h_=>day rfl (h_.k rfl) (QZ (hb22) (Qh (ZP ar.2.2.2 0 ((c.2.1.length:Int) - 1)) YO ⟨_,_,rfl,(h_.w rfl),⟨_,_,rfl,(Evl.ev (QE rfl)),⟨_,_,rfl,(h_.w rfl),rfl⟩⟩⟩ rfl rfl)) rfl,fun _ h_=>day rfl (h_.k rfl) (ZK (h_.v rfl) rfl) rfl,fun _ h_=>ac (QM (h_.v rfl) (h_.w rfl) rfl) rfl,dxm rfl rfl,dxo rfl rfl rfl,dxo rfl rfl rfl,dxo rfl rfl rfl,dxo rfl rfl rfl,dxo rfl rfl rfl,dxo rfl rfl rfl,dxo rfl rfl rfl,dxo rfl rfl rfl,dxo rfl rfl rfl,dxo rfl rfl rfl,fun _ h_=>ac (QV (h_.v rfl) (Evl.ev QU) rfl) rfl,dxm rfl rfl,dxo rfl rfl rfl,dxo rfl rfl rfl,dxo rfl rfl rfl,dxo rfl rfl rfl,dxo rfl rfl rfl,dxo rfl rfl rfl,dxo rfl rfl rfl,dxo rfl rfl rfl,dxo rfl rfl rfl,dxo rfl rfl rfl,dxo rfl rfl rfl,dxo rfl rfl rfl,dxo rfl rfl rfl,dxo rfl rfl rfl,dxo rfl rfl rfl,fun _ h_=>ac (QV (h_.v rfl) (Evl.ev QU) rfl) rfl,⟨⟩⟩ ?_
        iterate 4 refine w_ ?_
        refine Qe ?_
        subst hO
        have e23:(false:Bool)=(decide (SgOk c)):=by
         exact Qdl hx19 (by first | exact Qjl (by assumption) | exact QjJ (by assumption) | exact QjA (by assumption) | exact Qjg (x:=cx) (y:=cy) (by assumption) (by assumption) (by assumption))
        exact Qg (Qd rfl (Qc rfl)) ((congrArg (fun z_=>lB z_) e23)) rfl
       ·have hb22':=of_decide_eq_true hb22
        cases hb24:(decide (Vk (c.1.length:Int) (ar.2.1,ar.2.2.1)))
        ·have hb24':=of_decide_eq_false hb24
         refine dw [io 50 (lP 1 0),io 51 (lI ar.1),io 52 (lI ((c.2.1.length:Int) - 1)),io 53 (lB true),io 54 (lB false),io 55 (lB false),io 56 (lP 1 3),io 57 (lI ar.2.2.2),io 58 (lI ((c.2.1.length:Int) - 1)),io 59 (lB true),io 60 (lB false),io 61 (lB false),io 62 (lB false),io 63 (lP 1 1),io 64 (lI ar.2.1),io 65 (lP 1 2),io 66 (lB ar.2.2.1),io 67 (ag [dI ar.2.1,dB ar.2.2.1]),io 68 (lP 0 0),io 69 (lf (.dat (.sl 145 (.pr .str .int)) c.1)),io 70 (lI (c.1.length:Int)),io 71 (lB false),io 72 (lB true),io 73 (lB true),io 74 (lB true),io 75 (lf (.val undef)),io 76 (lf (.val undef)),io 77 (lf (.val undef)),io 78 (lf (.val undef)),io 79 (lf (.val undef)),io 80 (lf (.val undef)),io 81 (lf (.val undef)),io 82 (lf (.val undef)),io 83 (lf (.val undef)),io 84 (lf (.val undef)),io 85 (lf (.val undef)),io 86 (lf (.val undef)),io 87 (lf (.val undef)),io 88 (lf (.val undef)),io 89 (lf (.val undef)),io 90 (lB true)] [0,1,0,7,15,31,63,127,63,511,1023,2047,4095,8191,16383,8191,40959,131071,8191,270335,794623,2097151,4194303,8388607,16777215,33554431,33554431,100663295,33554431,301989887,1040187391,2113929215,33554431,4328521727,33554431,17213423615,64458063871,133177540607,274877906943,549755813887,1099511627775] mixed rfl (by kernel_rfl) ⟨dxf Zr rfl rfl rfl,dxl QD rfl rfl rfl rfl rfl,dxm rfl rfl,fun _ h_=>ac (QZ (hb20) (Qh (ZP ar.1 0 ((c.2.1.length:Int) - 1)) YO ⟨_,_,rfl,(h_.w rfl),⟨_,_,rfl,(Evl.ev (QE rfl)),⟨_,_,rfl,(h_.w rfl),rfl⟩⟩⟩ rfl rfl)) rfl,fun _ h_=>ac (ZK (h_.v rfl) rfl) rfl,dxm rfl rfl,fun _ h_=>day rfl (h_.k rfl) (Qz (h_.v rfl) Zg (by rw[(h_.en 1 rfl)]; rfl) rfl) rfl,fun _ h_=>day rfl (h_.k rfl) (QI (h_.v rfl) (h_.n 1 rfl) QD rfl rfl) rfl,fun _ h_=>day rfl (h_.k rfl) (QF (h_.k rfl) rfl) rfl,fun _ h_=>day rfl (h_.k rfl) (QZ (hb22) (Qh (ZP ar.2.2.2 0 ((c.2.1.length:Int) - 1)) YO ⟨_,_,rfl,(h_.w rfl),⟨_,_,rfl,(Evl.ev (QE rfl)),⟨_,_,rfl,(h_.w rfl),rfl⟩⟩⟩ rfl rfl)) rfl,fun _ h_=>day rfl (h_.k rfl) (ZK (h_.v rfl) rfl) rfl,fun _ h_=>ac (QM (h_.v rfl) (h_.w rfl) rfl) rfl,dxm rfl rfl,fun _ h_=>day rfl (h_.k rfl) (Qz (h_.v rfl) ZN (by rw[(h_.en 1 rfl)]; rfl) rfl) rfl,fun _ h_=>day rfl (h_.k rfl) (QI (h_.v rfl) (h_.n 1 rfl) QD rfl rfl) rfl,fun _ h_=>day rfl (h_.k rfl) (Qz (h_.v rfl) YY (by rw[(h_.en 1 rfl)]; rfl) rfl) rfl,fun _ h_=>day rfl (h_.k rfl) (QI (h_.v rfl) (h_.n 1 rfl) ZH rfl rfl) rfl,fun _ h_=>day rfl (h_.k rfl) (QC W5 ⟨_,_,rfl,(h_.w rfl),⟨_,_,rfl,(h_.w rfl),rfl⟩⟩ (List.all_eq_true.1 rfl) rfl rfl) rfl,fun _ h_=>day rfl (h_.k rfl) (Qz (h_.v rfl) KS (by rw[(h_.en 0 rfl)]; rfl) rfl) rfl,fun _ h_=>day rfl (h_.k rfl) (QI (h_.v rfl) (h_.n 0 rfl) JQ rfl rfl) rfl,fun _ h_=>day rfl (h_.k rfl) (VA (h_.v rfl) rfl Yh) rfl,fun _ h_=>day rfl (h_.k rfl) (QZ (hb24) (Qh (Kt (ar.2.1,ar.2.2.1) (c.1.length:Int) (by have:=(‹XL c.1›).2.2; omega)) Qcy ⟨_,_,rfl,(h_.w rfl),⟨_,_,rfl,(h_.w rfl),rfl⟩⟩ rfl rfl)) rfl,fun _ h_=>day rfl (h_.k rfl) (ZK (h_.v rfl) rfl) rfl,fun _ h_=>ac (QM (h_.v rfl) (h_.w rfl) rfl) rfl,dxm rfl rfl,dxo rfl rfl rfl,dxo rfl rfl rfl,dxo rfl rfl rfl,dxo rfl rfl rfl,dxo rfl rfl rfl,dxo rfl rfl rfl,dxo rfl rfl rfl,dxo rfl rfl rfl,dxo rfl rfl rfl,dxo rfl rfl rfl,dxo rfl rfl rfl,dxo rfl rfl rfl,dxo rfl rfl rfl,dxo rfl rfl rfl,dxo rfl rfl rfl,fun _ h_=>ac (QV (h_.v rfl) (Evl.ev QU) rfl) rfl,⟨⟩⟩ ?_
         iterate 4 refine w_ ?_
         refine Qe ?_
         subst hO
         have e25:(false:Bool)=(decide (SgOk c)):=by
          exact Qdl hx19 (by first | exact Qjl (by assumption) | exact QjJ (by assumption) | exact QjA (by assumption) | exact Qjg (x:=cx) (y:=cy) (by assumption) (by assumption) (by assumption))
         exact Qg (Qd rfl (Qc rfl)) ((congrArg (fun z_=>lB z_) e25)) rfl
        ·have hb24':=of_decide_eq_true hb24
         obtain ⟨cx,hx27⟩:∃z,c.2.1[(ar.1).toNat]? =some z:=⟨_,List.getElem?_eq_getElem (by omega)⟩
         have hzcx:YQ cx (c.1.length:Int)→cx.size=c.1.length:=fun h=>by have:=h.2; omega
         have hwcx:c.2.1.length≤k→cx.size=c.1.length:=fun h=>hzcx (Xw hB h _ (List.mem_of_getElem? hx27))
         obtain ⟨cy,hx29⟩:∃z,c.2.1[(ar.2.2.2).toNat]? =some z:=⟨_,List.getElem?_eq_getElem (by omega)⟩
         have hzcy:YQ cy (c.1.length:Int)→cy.size=c.1.length:=fun h=>by have:=h.2; omega
         have hwcy:c.2.1.length≤k→cy.size=c.1.length:=fun h=>hzcy (Xw hB h _ (List.mem_of_getElem? hx29))
         refine dw [io 50 (lP 1 0),io 51 (lI ar.1),io 52 (lI ((c.2.1.length:Int) - 1)),io 53 (lB true),io 54 (lB false),io 55 (lB false),io 56 (lP 1 3),io 57 (lI ar.2.2.2),io 58 (lI ((c.2.1.length:Int) - 1)),io 59 (lB true),io 60 (lB false),io 61 (lB false),io 62 (lB false),io 63 (lP 1 1),io 64 (lI ar.2.1),io 65 (lP 1 2),io 66 (lB ar.2.2.1),io 67 (ag [dI ar.2.1,dB ar.2.2.1]),io 68 (lP 0 0),io 69 (lf (.dat (.sl 145 (.pr .str .int)) c.1)),io 70 (lI (c.1.length:Int)),io 71 (lB true),io 72 (lB false),io 73 (lB false),io 74 (lB false),io 75 (ag [dI ar.1,dI ar.2.1,dB ar.2.2.1,dI ar.2.2.2]),io 76 (lP 0 1),io 77 (lf (.dat (.sl 9 .str) c.2.1)),io 78 (lP 1 0),io 79 (lI ar.1),io 80 (lf (.elt .str cx 0)),io 81 (lf (dS cx)),io 82 (lP 0 1),io 83 (lf (.dat (.sl 9 .str) c.2.1)),io 84 (lP 1 3),io 85 (lI ar.2.2.2),io 86 (lf (.elt .str cy 0)),io 87 (lf (dS cy)),io 88 (lB (decide (Fit ar cx cy))),io 89 (lB (!(decide (Fit ar cx cy)))),io 90 (lB (!(decide (Fit ar cx cy))))] [0,1,0,7,15,31,63,127,63,511,1023,2047,4095,8191,16383,8191,40959,131071,8191,270335,794623,2097151,4194303,8388607,16777215,33554431,33554431,100663295,33554431,301989887,1040187391,2113929215,33554431,4328521727,33554431,17213423615,64458063871,133177540607,274877906943,549755813887,1099511627775] mixed rfl (by kernel_rfl) ⟨dxf Zr rfl rfl rfl,dxl QD rfl rfl rfl rfl rfl,dxm rfl rfl,fun _ h_=>ac (QZ (hb20) (Qh (ZP ar.1 0 ((c.2.1.length:Int) - 1)) YO ⟨_,_,rfl,(h_.w rfl),⟨_,_,rfl,(Evl.ev (QE rfl)),⟨_,_,rfl,(h_.w rfl),rfl⟩⟩⟩ rfl rfl)) rfl,fun _ h_=>ac (ZK (h_.v rfl) rfl) rfl,dxm rfl rfl,fun _ h_=>day rfl (h_.k rfl) (Qz (h_.v rfl) Zg (by rw[(h_.en 1 rfl)]; rfl) rfl) rfl,fun _ h_=>day rfl (h_.k rfl) (QI (h_.v rfl) (h_.n 1 rfl) QD rfl rfl) rfl,fun _ h_=>day rfl (h_.k rfl) (QF (h_.k rfl) rfl) rfl,fun _ h_=>day rfl (h_.k rfl) (QZ (hb22) (Qh (ZP ar.2.2.2 0 ((c.2.1.length:Int) - 1)) YO ⟨_,_,rfl,(h_.w rfl),⟨_,_,rfl,(Evl.ev (QE rfl)),⟨_,_,rfl,(h_.w rfl),rfl⟩⟩⟩ rfl rfl)) rfl,fun _ h_=>day rfl (h_.k rfl) (ZK (h_.v rfl) rfl) rfl,fun _ h_=>ac (QM (h_.v rfl) (h_.w rfl) rfl) rfl,dxm rfl rfl,fun _ h_=>day rfl (h_.k rfl) (Qz (h_.v rfl) ZN (by rw[(h_.en 1 rfl)]; rfl) rfl) rfl,fun _ h_=>day rfl (h_.k rfl) (QI (h_.v rfl) (h_.n 1 rfl) QD rfl rfl) rfl,fun _ h_=>day rfl (h_.k rfl) (Qz (h_.v rfl) YY (by rw[(h_.en 1 rfl)]; rfl) rfl) rfl,fun _ h_=>day rfl (h_.k rfl) (QI (h_.v rfl) (h_.n 1 rfl) ZH rfl rfl) rfl,fun _ h_=>day rfl (h_.k rfl) (QC W5 ⟨_,_,rfl,(h_.w rfl),⟨_,_,rfl,(h_.w rfl),rfl⟩⟩ (List.all_eq_true.1 rfl) rfl rfl) rfl,fun _ h_=>day rfl (h_.k rfl) (Qz (h_.v rfl) KS (by rw[(h_.en 0 rfl)]; rfl) rfl) rfl,fun _ h_=>day rfl (h_.k rfl) (QI (h_.v rfl) (h_.n 0 rfl) JQ rfl rfl) rfl,fun _ h_=>day rfl (h_.k rfl) (VA (h_.v rfl) rfl Yh) rfl,fun _ h_=>day rfl (h_.k rfl) (QZ (hb24) (Qh (Kt (ar.2.1,ar.2.2.1) (c.1.length:Int) (by have:=(‹XL c.1›).2.2; omega)) Qcy ⟨_,_,rfl,(h_.w rfl),⟨_,_,rfl,(h_.w rfl),rfl⟩⟩ rfl rfl)) rfl,fun _ h_=>day rfl (h_.k rfl) (ZK (h_.v rfl) rfl) rfl,fun _ h_=>ac (QM (h_.v rfl) (h_.w rfl) rfl) rfl,dxm rfl rfl,fun _ h_=>day rfl (h_.k rfl) (Z5 (h_.v rfl) (h_.n 1 rfl) QJ rfl rfl) rfl,fun _ h_=>day rfl (h_.k rfl) (Qz (h_.v rfl) Z9 (by rw[(h_.en 0 rfl)]; rfl) rfl) rfl,fun _ h_=>day rfl (h_.k rfl) (QI (h_.v rfl) (h_.n 0 rfl) Xc rfl rfl) rfl,fun _ h_=>day rfl (h_.k rfl) (Qz (h_.v rfl) Zr (by rw[(h_.en 1 rfl)]; rfl) rfl) rfl,fun _ h_=>day rfl (h_.k rfl) (QI (h_.v rfl) (h_.n 1 rfl) QD rfl rfl) rfl,fun _ h_=>day rfl (h_.k rfl) (Qm (h_.v rfl) (h_.v rfl) ZL Zx rfl (by omega) hx27) rfl,fun _ h_=>day rfl (h_.k rfl) (Zv (h_.v rfl) Zx rfl rfl) rfl,fun _ h_=>day rfl (h_.k rfl) (Qz (h_.v rfl) Z9 (by rw[(h_.en 0 rfl)]; rfl) rfl) rfl,fun _ h_=>day rfl (h_.k rfl) (QI (h_.v rfl) (h_.n 0 rfl) Xc rfl rfl) rfl,fun _ h_=>day rfl (h_.k rfl) (Qz (h_.v rfl) Zg (by rw[(h_.en 1 rfl)]; rfl) rfl) rfl,fun _ h_=>day rfl (h_.k rfl) (QI (h_.v rfl) (h_.n 1 rfl) QD rfl rfl) rfl,fun _ h_=>day rfl (h_.k rfl) (Qm (h_.v rfl) (h_.v rfl) ZL Zx rfl (by omega) hx29) rfl,fun _ h_=>day rfl (h_.k rfl) (Zv (h_.v rfl) Zx rfl rfl) rfl,fun _ h_=>day rfl (h_.k rfl) (Qh (HR ar cx cy (by have:=hwcx (by omega); have:=hwcy (by omega); omega)) Qhd ⟨_,_,rfl,(h_.w rfl),⟨_,_,rfl,(h_.w rfl),⟨_,_,rfl,(h_.w rfl),rfl⟩⟩⟩ rfl rfl) rfl,fun _ h_=>day rfl (h_.k rfl) (ZK (h_.v rfl) rfl) rfl,fun _ h_=>ac (QM (h_.v rfl) (h_.w rfl) rfl) rfl,⟨⟩⟩ ?_
         cases hb30:(decide (Fit ar cx cy))
         ·have hb30':=of_decide_eq_false hb30
          iterate 4 refine w_ ?_
          refine Qe ?_
          subst hO
          have e31:(false:Bool)=(decide (SgOk c)):=by
           exact Qdl hx19 (by first | exact Qjl (by assumption) | exact QjJ (by assumption) | exact QjA (by assumption) | exact Qjg (x:=cx) (y:=cy) (by assumption) (by assumption) (by assumption))
          exact Qg (Qd rfl (Qc rfl)) ((congrArg (fun z_=>lB z_) e31)) rfl
         ·have hb30':=of_decide_eq_true hb30
          refine w_ ?_
          refine AC.skip ?_
          refine (?_:AC _ _ _ _ _)
          iterate 3 refine w_ ?_
          refine Qj<|QS ⟨i+1,by omega,rfl,(YW hR hx19 (Qo8 (by assumption) (by assumption) (by assumption) (x:=cx) (y:=cy) (by assumption) (by assumption) (by assumption))),rfl⟩ (by omega) ?_
          exact Wk.of [(0,0)] rfl ⟨rfl,rfl,rfl,rfl,rfl,trivial⟩ ⟨rfl,trivial⟩ rfl rfl
    ·have hb12':=of_decide_eq_true hb12
     iterate 5 refine w_ ?_
     obtain ⟨x32,hx33⟩:∃z,c.2.1[k]? =some z:=⟨_,List.getElem?_eq_getElem (by omega)⟩
     have hzx32:YQ x32 (c.1.length:Int)→x32.size=c.1.length:=fun h=>by have:=h.2; omega
     have hwx32:c.2.1.length≤k→x32.size=c.1.length:=fun h=>hzx32 (Xw hB h _ (List.mem_of_getElem? hx33))
     refine lc (Qm (Qa rfl) (Qa rfl) ZL Zx rfl (by omega) hx33) ?_
     iterate 7 refine w_ ?_
     refine AL.fact (QB (x:= .tmp 38) (Qa rfl)) fun hl34=> ?_
     refine w_ ?_
     refine lc (Qh (Qdi x32 (c.1.length:Int)) Qhx ⟨_,_,rfl,(Qb rfl),⟨_,_,rfl,(Qb rfl),rfl⟩⟩ rfl rfl) ?_
     iterate 2 refine w_ ?_
     cases hb35:(decide (YQ x32 (c.1.length:Int)))
     ·have hb35':=of_decide_eq_false hb35
      iterate 4 refine w_ ?_
      refine Qe ?_
      subst hO
      have e36:(false:Bool)=(decide (SgOk c)):=by
       exact QlJ hx33 (by assumption)
      exact Qg (Qd rfl (Qc rfl)) ((congrArg (fun z_=>lB z_) e36)) rfl
     ·have hb35':=of_decide_eq_true hb35
      refine w_ ?_
      refine AC.skip ?_
      refine (?_:AC _ _ _ _ _)
      iterate 3 refine w_ ?_
      refine Qj<|QS ⟨k+1,by omega,rfl,(YW hB hx33 (by assumption)),rfl⟩ (by omega) ?_
      exact Wk.of [(0,0)] rfl ⟨rfl,rfl,rfl,rfl,rfl,trivial⟩ ⟨rfl,trivial⟩ rfl rfl
   ·have hb7':=of_decide_eq_true hb7
    iterate 4 refine w_ ?_
    refine Qe ?_
    subst hO
    have e37:(false:Bool)=(decide (SgOk c)):=by
     exact QmK (by assumption)
    exact Qg (Qd rfl (Qc rfl)) ((congrArg (fun z_=>lB z_) e37)) rfl
end Go.Proofs.YtnakmhfjafecpaaGreat
