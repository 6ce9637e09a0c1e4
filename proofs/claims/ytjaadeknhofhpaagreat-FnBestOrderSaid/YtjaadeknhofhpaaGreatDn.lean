/- Walks over abstract states: drawn orderings. -/
import Derived.Test.YtjaadeknhofhpaaGreatDl
import Derived.Test.YtjaadeknhofhpaaGreatCi
set_option linter.unusedSimpArgs false
set_option linter.unusedVariables false
set_option linter.unusedSectionVars false
namespace Go.Proofs.YtjaadeknhofhpaaGreat
open Go.RowKit
set_option maxRecDepth 100000
set_option maxHeartbeats 4000000
def odA (code:List UInt8)(n a d:Int):Qq×Int×Int:=
  let a1:=pkA n a; let d1:=pkS code a d n
  let a2:=pkA n a1; let d2:=pkS code a1 d1 n
  let a3:=pkA 2 a2; let d3:=pkS code a2 d2 2
  let a4:=pkA 20 a3; let d4:=pkS code a3 d3 20
  if pkV code a3 d3 20=0 then (((([(-1),24]:List Int)[(pkV code a4 d4 2).toNat]?).getD 0,pkV code a1 d1 n,decide (pkV code a2 d2 2=0)),pkA 2 a4,pkS code a4 d4 2)
  else ((pkV code a d n,pkV code a1 d1 n,decide (pkV code a2 d2 2=0)),a4,d4)
section
variable [∀s,Decidable (StgOk s)]
def odV (code:List UInt8)(s:QX)(a d:Int):Qq×Int×Int:=
  let x:=odA code (max 2 (s.1.2.length:Int)) a d
  if (sgV s).2=true∧0 < (ZP s).length then
    if pkV code x.2.1 x.2.2 2=0 then (((ZP s)[(pkV code (pkA 2 x.2.1) (pkS code x.2.1 x.2.2 2) ((ZP s).length:Int)).toNat]?).getD (0,0,false),pkA ((ZP s).length:Int) (pkA 2 x.2.1),pkS code (pkA 2 x.2.1) (pkS code x.2.1 x.2.2 2) ((ZP s).length:Int))
    else (x.1,pkA 2 x.2.1,pkS code x.2.1 x.2.2 2)
  else x
variable {code:List UInt8}{s:QX}{n a d a_ d_:Int}{o z:Qq}
theorem QpU:a≤(odA code n a d).2.1∧(odA code n a d).2.1≤a+10:=by
  have h1:=(Z2 code a d n).2
  have h2:=(Z2 code (pkA n a) 0 n).2
  have h3:=(Z2 code (pkA n (pkA n a)) 0 2).2
  have h4:=(Z2 code (pkA 2 (pkA n (pkA n a))) 0 20).2
  have h5:=(Z2 code (pkA 20 (pkA 2 (pkA n (pkA n a)))) 0 2).2
  unfold odA
  dsimp only
  split <;> dsimp only <;> omega
theorem QoF (code:List UInt8)(s:QX)(a d:Int):a≤(odV code s a d).2.1∧(odV code s a d).2.1≤a+14:=by
  have h0:=QpU (code:=code) (n:=max 2 (s.1.2.length:Int)) (a:=a) (d:=d)
  unfold odV
  dsimp only
  generalize odA code (max 2 (s.1.2.length:Int)) a d=x at h0 ⊢
  have h1:=(Z2 code x.2.1 0 2).2
  have h2:=(Z2 code (pkA 2 x.2.1) 0 ((ZP s).length:Int)).2
  split
  · split <;> dsimp only <;> omega
  · omega
theorem QnK (h0:(o,a_,d_)=odA code (max 2 (s.1.2.length:Int)) a d)(h:(sgV s).2=false):odV code s a d=(o,a_,d_):=by
  unfold odV; rw[← h0,if_neg (by rw[h]; simp)]
theorem QnR (h0:(o,a_,d_)=odA code (max 2 (s.1.2.length:Int)) a d)(h:¬(0:Int) < ((ZP s).length:Int)):odV code s a d=(o,a_,d_):=by
  unfold odV; rw[← h0,if_neg (by omega)]
theorem QnW (h0:(o,a_,d_)=odA code (max 2 (s.1.2.length:Int)) a d)(h:(sgV s).2=true)(h1:(0:Int) < ((ZP s).length:Int))(h2:¬pkV code a_ d_ 2=0):odV code s a d=(o,pkA 2 a_,pkS code a_ d_ 2):=by
  unfold odV; rw[← h0,if_pos ⟨h,by omega⟩]; exact if_neg h2
theorem QoS (h0:(o,a_,d_)=odA code (max 2 (s.1.2.length:Int)) a d)(h:(sgV s).2=true)(h1:(0:Int) < ((ZP s).length:Int))(h2:pkV code a_ d_ 2=0)
    (hz:(ZP s)[(pkV code (pkA 2 a_) (pkS code a_ d_ 2) ((ZP s).length:Int)).toNat]? =some z):odV code s a d=(z,pkA ((ZP s).length:Int) (pkA 2 a_),pkS code (pkA 2 a_) (pkS code a_ d_ 2) ((ZP s).length:Int)):=by
  unfold odV; rw[← h0,if_pos ⟨h,by omega⟩]; dsimp only; rw[if_pos h2,hz]; rfl
theorem am7 (i:Nat):0≤(([0,1,2,3,2,7]:List Int)[i]?).getD 0∧(([0,1,2,3,2,7]:List Int)[i]?).getD 0≤7:=by
  match i with
  | 0 | 1 | 2 | 3 | 4 | 5=>decide
  | n+6=>exact ⟨Int.le_refl _,by show (0:Int)≤7; omega⟩
theorem Qot {i:Nat}(h:0≤a∧a≤100):0≤a∧a+14*(([0,1,2,3,2,7]:List Int)[i]?).getD 0≤1000:=by have:=am7 i; omega
theorem Qrl {i:Nat}:((([]:List Qq).length:Nat):Int)+(([0,1,2,3,2,7]:List Int)[i]?).getD 0≤7∧0≤(([0,1,2,3,2,7]:List Int)[i]?).getD 0:=by have:=am7 i; rw[aj]; omega
end
theorem VL (code:List UInt8)(at_:Int)(sd:Int)(s:(Int×(List (List Int×List Int)))×(List (ByteArray×Int))×(List (Int×Bool))×ByteArray)[∀s,Decidable (StgOk s)](ha:0≤at_∧at_≤900000000)(hz:Ty.tot ZC s≤2000000):FC Tryz.prog 76 [(false,[.ptr 0 0]),(true,[dI s.1.1, .dat QZ s.1.2, .dat QJ s.2.1, .dat QR s.2.2.1,dS s.2.2.2])] [(0,some (.box 121 [.dat Zt code,dI at_, .val (.int .u64 sd)]))] 1 (Is (ag [dI (((odV code s at_ sd).1).1),dI (((odV code s at_ sd).1).2.1),dB (((odV code s at_ sd).1).2.2)]) [(0,some (.box 121 [.dat Zt code,dI ((odV code s at_ sd).2.1), .val (.int .u64 ((odV code s at_ sd).2.2))]))]):=by
 refine QO Tryz.func76 rfl rfl Tryz.ntmps76 fun O_ hO w0_ N0_ X_ h0_ f0_=> ?_
 refine AC.fact (QI (x:= .tmp 1) (i:=0) (Qb rfl) rfl) fun hi1=> ?_
 refine w_ ?_
 refine lc (Qy 1 (Qb rfl) rfl rfl (Fresh.of rfl) (nlr rfl))<|lc (Qj 2 ZH Yz rfl rfl (Fresh.of rfl) (nlr rfl)) ?_
 iterate 5 refine w_ ?_
 refine AL.fact (Qo (x:= .tmp 11) (Qa rfl)) fun hl2=> ?_
 refine w_ ?_
 refine lc (Ql (Uc 2 (s.1.2.length:Int)) Qal ⟨_,_,rfl,(Evl.ev (Qv rfl)),⟨_,_,rfl,(Qb rfl),rfl⟩⟩ rfl rfl) ?_
 iterate 5 refine w_ ?_
 have hp3:=Z2 code at_ sd (max 2 (s.1.2.length:Int))
 refine lc (QK 3 [(0,0)] (Zh code at_ sd (max 2 (s.1.2.length:Int)) (by omega)) YO ⟨_,_,rfl,(Qb rfl),⟨_,_,rfl,(Qb rfl),rfl⟩⟩ ⟨rfl,trivial⟩ rfl ⟨trivial,trivial⟩ (nlr rfl)) ?_
 iterate 2 refine w_ ?_
 have hp4:=Z2 code (pkA (max 2 (s.1.2.length:Int)) at_) (pkS code at_ sd (max 2 (s.1.2.length:Int))) (max 2 (s.1.2.length:Int))
 refine lc (QK 4 [(0,0)] (Zh code (pkA (max 2 (s.1.2.length:Int)) at_) (pkS code at_ sd (max 2 (s.1.2.length:Int))) (max 2 (s.1.2.length:Int)) (by omega)) YO ⟨_,_,rfl,(Qb rfl),⟨_,_,rfl,(Qb rfl),rfl⟩⟩ ⟨rfl,trivial⟩ rfl ⟨trivial,trivial⟩ (nlr rfl)) ?_
 refine w_ ?_
 have hp5:=Z2 code (pkA (max 2 (s.1.2.length:Int)) (pkA (max 2 (s.1.2.length:Int)) at_)) (pkS code (pkA (max 2 (s.1.2.length:Int)) at_) (pkS code at_ sd (max 2 (s.1.2.length:Int))) (max 2 (s.1.2.length:Int))) 2
 refine lc (QK 5 [(0,0)] (WM code (pkA (max 2 (s.1.2.length:Int)) (pkA (max 2 (s.1.2.length:Int)) at_)) (pkS code (pkA (max 2 (s.1.2.length:Int)) at_) (pkS code at_ sd (max 2 (s.1.2.length:Int))) (max 2 (s.1.2.length:Int))) 2 (by omega)) Qb7 ⟨_,_,rfl,(Qb rfl),⟨_,_,rfl,(Evl.ev (Qv rfl)),rfl⟩⟩ ⟨rfl,trivial⟩ rfl ⟨trivial,trivial⟩ (nlr rfl))<|lc (QA Qds ⟨_,_,rfl,(Qb rfl),⟨_,_,rfl,(Qb rfl),⟨_,_,rfl,(Qb rfl),rfl⟩⟩⟩ (ae.1 rfl) rfl rfl)<|lc (Qj 6 ZH Yz rfl rfl (Fresh.of rfl) (nlr rfl))<|lc (Qc (Qa rfl) rfl (Qb rfl) rfl Zf rfl) ?_
 refine w_ ?_
 refine Qbf (fun s_=>∃(o_:Int×Int×Bool) (a_:Int) (d_:Int),((o_,a_,d_)=odA code (max 2 (s.1.2.length:Int)) at_ sd)∧(at_≤a_∧a_≤at_+10)∧s_=⟨[(0,lP 0 0),(3,lP 1 0),(4,lP 2 0),(6,lP 6 0)],[(0,some (.box 121 [.dat Zt code,dI a_, .val (.int .u64 d_)])),(1,some (.box 29 [dI s.1.1, .dat QZ s.1.2, .dat QJ s.2.1, .dat QR s.2.2.1,dS s.2.2.2])),(2,some (.box 32 [dI 0,dI 0,dB false])),(6,some (.box 32 [dI o_.1,dI o_.2.1,dB o_.2.2]))]⟩) ?_ fun J6=> ?_
 rintro s_ ⟨o_,a_,d_,hOd,hb,rfl⟩
 iterate 3 refine w_ ?_
 refine lc (Ql (Yd s hz).frozenG Hw ⟨_,_,rfl,(Qb rfl),rfl⟩ rfl rfl) ?_
 iterate 9 refine w_ ?_
 cases hb7:((sgV s).2)
 iterate 13 refine w_ ?_
 refine lc (Qc (Qa rfl) rfl (Qb rfl) rfl Zf rfl) ?_
 iterate 2 refine w_ ?_
 subst hO
 have e8:(o_.1:Int)=(((odV code s at_ sd).1).1):=by
  (rw[QnK hOd ‹_›]; done)
 have e9:(o_.2.1:Int)=(((odV code s at_ sd).1).2.1):=by
  (rw[QnK hOd ‹_›]; done)
 have e10:(o_.2.2:Bool)=(((odV code s at_ sd).1).2.2):=by
  (rw[QnK hOd ‹_›]; done)
 exact QD _ _ [(0,0)] (Qg rfl (QG rfl rfl Zf rfl)) (by rw[e8,e9,e10] <;> rfl) ⟨(((congrArg (fun z_=>some (Ent.box 121 [.dat Zt code,dI z_, .val (.int .u64 d_)])) (show (a_:Int)=((odV code s at_ sd).2.1) by (rw[QnK hOd ‹_›]; done)))).trans (congrArg (fun z_:Int=>some (Ent.box 121 [.dat Zt code,dI ((odV code s at_ sd).2.1), .val (.int .u64 z_)])) (show (d_:Int)=((odV code s at_ sd).2.2) by (rw[QnK hOd ‹_›]; done)))),trivial⟩ rfl rfl
 refine w_ ?_
 refine AL.fact (Qo (x:= .tmp 36) (Qa rfl)) fun hl11=> ?_
 iterate 4 refine w_ ?_
 cases hb12:(decide (0 < ((ZP s).length:Int)))
 have hb12':=a7 hb12
 iterate 8 refine w_ ?_
 refine lc (Qc (Qa rfl) rfl (Qb rfl) rfl Zf rfl) ?_
 iterate 2 refine w_ ?_
 subst hO
 have e13:(o_.1:Int)=(((odV code s at_ sd).1).1):=by
  (rw[QnR hOd ‹_›]; done)
 have e14:(o_.2.1:Int)=(((odV code s at_ sd).1).2.1):=by
  (rw[QnR hOd ‹_›]; done)
 have e15:(o_.2.2:Bool)=(((odV code s at_ sd).1).2.2):=by
  (rw[QnR hOd ‹_›]; done)
 exact QD _ _ [(0,0)] (Qg rfl (QG rfl rfl Zf rfl)) (by rw[e13,e14,e15] <;> rfl) ⟨(((congrArg (fun z_=>some (Ent.box 121 [.dat Zt code,dI z_, .val (.int .u64 d_)])) (show (a_:Int)=((odV code s at_ sd).2.1) by (rw[QnR hOd ‹_›]; done)))).trans (congrArg (fun z_:Int=>some (Ent.box 121 [.dat Zt code,dI ((odV code s at_ sd).2.1), .val (.int .u64 z_)])) (show (d_:Int)=((odV code s at_ sd).2.2) by (rw[QnR hOd ‹_›]; done)))),trivial⟩ rfl rfl
 have hb12':=a8 hb12
 refine w_ ?_
 have hp16:=Z2 code a_ d_ 2
 refine lgy rfl rfl (QK 7 [(0,0)] (WM code a_ d_ 2 (by omega)) Qb7 ⟨_,_,rfl,(Qb rfl),⟨_,_,rfl,(Evl.ev (Qv rfl)),rfl⟩⟩ ⟨rfl,trivial⟩ rfl ⟨trivial,trivial⟩ (nlr rfl)) ?_
 iterate 2 refine w_ ?_
 cases hb17:(decide (pkV code a_ d_ 2=0))
 have hb17':=a7 hb17
 iterate 4 refine w_ ?_
 refine lc (Qc (Qa rfl) rfl (Qb rfl) rfl Zf rfl) ?_
 iterate 2 refine w_ ?_
 subst hO
 have e18:(o_.1:Int)=(((odV code s at_ sd).1).1):=by
  (rw[QnW hOd ‹_› ‹_› ‹_›]; done)
 have e19:(o_.2.1:Int)=(((odV code s at_ sd).1).2.1):=by
  (rw[QnW hOd ‹_› ‹_› ‹_›]; done)
 have e20:(o_.2.2:Bool)=(((odV code s at_ sd).1).2.2):=by
  (rw[QnW hOd ‹_› ‹_› ‹_›]; done)
 exact QD _ _ [(0,0)] (Qg rfl (QG rfl rfl Zf rfl)) (by rw[e18,e19,e20] <;> rfl) ⟨(((congrArg (fun z_=>some (Ent.box 121 [.dat Zt code,dI z_, .val (.int .u64 (pkS code a_ d_ 2))])) (show ((pkA 2 a_):Int)=((odV code s at_ sd).2.1) by (rw[QnW hOd ‹_› ‹_› ‹_›]; done)))).trans (congrArg (fun z_:Int=>some (Ent.box 121 [.dat Zt code,dI ((odV code s at_ sd).2.1), .val (.int .u64 z_)])) (show ((pkS code a_ d_ 2):Int)=((odV code s at_ sd).2.2) by (rw[QnW hOd ‹_› ‹_› ‹_›]; done)))),trivial⟩ rfl rfl
 have hb17':=a8 hb17
 iterate 5 refine w_ ?_
 refine AL.fact (Qo (x:= .tmp 46) (Qa rfl)) fun hl21=> ?_
 refine w_ ?_
 have hp22:=Z2 code (pkA 2 a_) (pkS code a_ d_ 2) ((ZP s).length:Int)
 refine lc (QK 8 [(0,0)] (Zh code (pkA 2 a_) (pkS code a_ d_ 2) ((ZP s).length:Int) (by omega)) YO ⟨_,_,rfl,(Qb rfl),⟨_,_,rfl,(Qb rfl),rfl⟩⟩ ⟨rfl,trivial⟩ rfl ⟨trivial,trivial⟩ (nlr rfl)) ?_
 obtain ⟨x23,hx24⟩:=gx (ZP s) ((pkV code (pkA 2 a_) (pkS code a_ d_ 2) ((ZP s).length:Int)).toNat)
 have hadz:=hx24
 refine lc (Qh (Qa rfl) (Qa rfl) Xn Zf rfl (by omega) hx24) ?_
 refine w_ ?_
 refine lc (Qc (Qa rfl) rfl (Qb rfl) rfl Zf rfl) ?_
 iterate 2 refine w_ ?_
 subst hO
 have e25:(x23.1:Int)=(((odV code s at_ sd).1).1):=by
  (rw[QoS hOd ‹_› ‹_› ‹_› hadz]; done)
 have e26:(x23.2.1:Int)=(((odV code s at_ sd).1).2.1):=by
  (rw[QoS hOd ‹_› ‹_› ‹_› hadz]; done)
 have e27:(x23.2.2:Bool)=(((odV code s at_ sd).1).2.2):=by
  (rw[QoS hOd ‹_› ‹_› ‹_› hadz]; done)
 exact QD _ _ [(0,0)] (Qg rfl (QG rfl rfl Zf rfl)) ((((congrArg (fun z_=>ag [dI z_,dI x23.2.1,dB x23.2.2]) e25)).trans (congrArg (fun z_=>ag [dI (((odV code s at_ sd).1).1),dI z_,dB x23.2.2]) e26)).trans (congrArg (fun z_=>ag [dI (((odV code s at_ sd).1).1),dI (((odV code s at_ sd).1).2.1),dB z_]) e27)) ⟨(((congrArg (fun z_=>some (Ent.box 121 [.dat Zt code,dI z_, .val (.int .u64 (pkS code (pkA 2 a_) (pkS code a_ d_ 2) ((ZP s).length:Int)))])) (show ((pkA ((ZP s).length:Int) (pkA 2 a_)):Int)=((odV code s at_ sd).2.1) by (rw[QoS hOd ‹_› ‹_› ‹_› hadz]; done)))).trans (congrArg (fun z_:Int=>some (Ent.box 121 [.dat Zt code,dI ((odV code s at_ sd).2.1), .val (.int .u64 z_)])) (show ((pkS code (pkA 2 a_) (pkS code a_ d_ 2) ((ZP s).length:Int)):Int)=((odV code s at_ sd).2.2) by (rw[QoS hOd ‹_› ‹_› ‹_› hadz]; done)))),trivial⟩ rfl rfl
 iterate 3 refine w_ ?_
 have hp28:=Z2 code (pkA 2 (pkA (max 2 (s.1.2.length:Int)) (pkA (max 2 (s.1.2.length:Int)) at_))) (pkS code (pkA (max 2 (s.1.2.length:Int)) (pkA (max 2 (s.1.2.length:Int)) at_)) (pkS code (pkA (max 2 (s.1.2.length:Int)) at_) (pkS code at_ sd (max 2 (s.1.2.length:Int))) (max 2 (s.1.2.length:Int))) 2) 20
 refine lc (QK 9 [(0,0)] (WM code (pkA 2 (pkA (max 2 (s.1.2.length:Int)) (pkA (max 2 (s.1.2.length:Int)) at_))) (pkS code (pkA (max 2 (s.1.2.length:Int)) (pkA (max 2 (s.1.2.length:Int)) at_)) (pkS code (pkA (max 2 (s.1.2.length:Int)) at_) (pkS code at_ sd (max 2 (s.1.2.length:Int))) (max 2 (s.1.2.length:Int))) 2) 20 (by omega)) Qb7 ⟨_,_,rfl,(Qb rfl),⟨_,_,rfl,(Evl.ev (Qv rfl)),rfl⟩⟩ ⟨rfl,trivial⟩ rfl ⟨trivial,trivial⟩ (nlr rfl)) ?_
 refine w_ ?_
 cases hb29:(decide (pkV code (pkA 2 (pkA (max 2 (s.1.2.length:Int)) (pkA (max 2 (s.1.2.length:Int)) at_))) (pkS code (pkA (max 2 (s.1.2.length:Int)) (pkA (max 2 (s.1.2.length:Int)) at_)) (pkS code (pkA (max 2 (s.1.2.length:Int)) at_) (pkS code at_ sd (max 2 (s.1.2.length:Int))) (max 2 (s.1.2.length:Int))) 2) 20=0))
 have hb29':=a7 hb29
 iterate 2 refine w_ ?_
 refine QcR (J6 _ ⟨(pkV code at_ sd (max 2 (s.1.2.length:Int)),pkV code (pkA (max 2 (s.1.2.length:Int)) at_) (pkS code at_ sd (max 2 (s.1.2.length:Int))) (max 2 (s.1.2.length:Int)),decide (pkV code (pkA (max 2 (s.1.2.length:Int)) (pkA (max 2 (s.1.2.length:Int)) at_)) (pkS code (pkA (max 2 (s.1.2.length:Int)) at_) (pkS code at_ sd (max 2 (s.1.2.length:Int))) (max 2 (s.1.2.length:Int))) 2=0)),(pkA 20 (pkA 2 (pkA (max 2 (s.1.2.length:Int)) (pkA (max 2 (s.1.2.length:Int)) at_)))),(pkS code (pkA 2 (pkA (max 2 (s.1.2.length:Int)) (pkA (max 2 (s.1.2.length:Int)) at_))) (pkS code (pkA (max 2 (s.1.2.length:Int)) (pkA (max 2 (s.1.2.length:Int)) at_)) (pkS code (pkA (max 2 (s.1.2.length:Int)) at_) (pkS code at_ sd (max 2 (s.1.2.length:Int))) (max 2 (s.1.2.length:Int))) 2) 20),(by unfold odA; first | exact (if_pos ‹_›).symm | exact (if_neg ‹_›).symm),(by omega),rfl⟩) ?_
 exact wo [(0,0),(1,1),(2,2),(6,6)]
 have hb29':=a8 hb29
 iterate 3 refine w_ ?_
 refine lc (Qf 10 (e:= .int) QN QL Yu rfl ⟨_,_,rfl,(Evl.ev (Qv rfl)),⟨_,_,rfl,(Evl.ev (Qv rfl)),rfl⟩⟩ (ae.1 rfl) ⟨_,_,_,_,rfl,⟨rfl,rfl⟩,⟨_,_,_,_,rfl,⟨rfl,rfl⟩,⟨rfl,rfl⟩,rfl⟩,rfl⟩ (by decide) rfl rfl (Fresh.of rfl) (nlr rfl)) ?_
 have hp30:=Z2 code (pkA 20 (pkA 2 (pkA (max 2 (s.1.2.length:Int)) (pkA (max 2 (s.1.2.length:Int)) at_)))) (pkS code (pkA 2 (pkA (max 2 (s.1.2.length:Int)) (pkA (max 2 (s.1.2.length:Int)) at_))) (pkS code (pkA (max 2 (s.1.2.length:Int)) (pkA (max 2 (s.1.2.length:Int)) at_)) (pkS code (pkA (max 2 (s.1.2.length:Int)) at_) (pkS code at_ sd (max 2 (s.1.2.length:Int))) (max 2 (s.1.2.length:Int))) 2) 20) (([(-1),24]).length:Int)
 refine lc (QK 11 [(0,0),(1,10)] (Y8 code (pkA 20 (pkA 2 (pkA (max 2 (s.1.2.length:Int)) (pkA (max 2 (s.1.2.length:Int)) at_)))) (pkS code (pkA 2 (pkA (max 2 (s.1.2.length:Int)) (pkA (max 2 (s.1.2.length:Int)) at_))) (pkS code (pkA (max 2 (s.1.2.length:Int)) (pkA (max 2 (s.1.2.length:Int)) at_)) (pkS code (pkA (max 2 (s.1.2.length:Int)) at_) (pkS code at_ sd (max 2 (s.1.2.length:Int))) (max 2 (s.1.2.length:Int))) 2) 20) ([(-1),24]) (by omega) (by decide)) Hg ⟨_,_,rfl,(Qb rfl),⟨_,_,rfl,(Qb rfl),rfl⟩⟩ ⟨rfl,rfl,trivial⟩ rfl ⟨trivial,(Fresh.of rfl),trivial⟩ (nlr rfl)) ?_
 refine w_ ?_
 refine lc (Qc (Qa rfl) rfl (Qb rfl) rfl QL rfl) ?_
 refine w_ ?_
 refine QcR (J6 _ ⟨((([(-1),24])[(pkV code (pkA 20 (pkA 2 (pkA (max 2 (s.1.2.length:Int)) (pkA (max 2 (s.1.2.length:Int)) at_)))) (pkS code (pkA 2 (pkA (max 2 (s.1.2.length:Int)) (pkA (max 2 (s.1.2.length:Int)) at_))) (pkS code (pkA (max 2 (s.1.2.length:Int)) (pkA (max 2 (s.1.2.length:Int)) at_)) (pkS code (pkA (max 2 (s.1.2.length:Int)) at_) (pkS code at_ sd (max 2 (s.1.2.length:Int))) (max 2 (s.1.2.length:Int))) 2) 20) (([(-1),24]).length:Int)).toNat]?).getD 0,pkV code (pkA (max 2 (s.1.2.length:Int)) at_) (pkS code at_ sd (max 2 (s.1.2.length:Int))) (max 2 (s.1.2.length:Int)),decide (pkV code (pkA (max 2 (s.1.2.length:Int)) (pkA (max 2 (s.1.2.length:Int)) at_)) (pkS code (pkA (max 2 (s.1.2.length:Int)) at_) (pkS code at_ sd (max 2 (s.1.2.length:Int))) (max 2 (s.1.2.length:Int))) 2=0)),(pkA (([(-1),24]).length:Int) (pkA 20 (pkA 2 (pkA (max 2 (s.1.2.length:Int)) (pkA (max 2 (s.1.2.length:Int)) at_))))),(pkS code (pkA 20 (pkA 2 (pkA (max 2 (s.1.2.length:Int)) (pkA (max 2 (s.1.2.length:Int)) at_)))) (pkS code (pkA 2 (pkA (max 2 (s.1.2.length:Int)) (pkA (max 2 (s.1.2.length:Int)) at_))) (pkS code (pkA (max 2 (s.1.2.length:Int)) (pkA (max 2 (s.1.2.length:Int)) at_)) (pkS code (pkA (max 2 (s.1.2.length:Int)) at_) (pkS code at_ sd (max 2 (s.1.2.length:Int))) (max 2 (s.1.2.length:Int))) 2) 20) (([(-1),24]).length:Int)),(by unfold odA; first | exact (if_pos ‹_›).symm | exact (if_neg ‹_›).symm),(by omega),rfl⟩) ?_
 exact wo [(0,0),(1,1),(2,2),(6,6)]
theorem WU (code:List UInt8)[∀s,Decidable (StgOk s)][∀s,Decidable (Xv s)]:FC Tryz.prog 68 [(false,[.dat Zt code])] [] 0 (Ex (fun x:QX=>Ty.tot ZC x≤3000) (fun x:QX=>ag [dI x.1.1, .dat QZ x.1.2, .dat QJ x.2.1, .dat QR x.2.2.1,dS x.2.2.2]) (fun x:QX=>[])):=by
 refine QO Tryz.func68 rfl rfl Tryz.ntmps68 fun O_ hO w0_ N0_ X_ h0_ f0_=> ?_
 refine w_ ?_
 refine lc (Qj 0 Xr ZE rfl rfl (Fresh.of rfl) (nlr rfl)) ?_
 iterate 3 refine w_ ?_
 refine lc (Jx [.val (.slice none 0 0),dI 0, .val (.int .u64 0)] (Qhg (offs:=[(0,1),(1,1),(2,1)]) (zs:=[.slice none 0 0, .int .i64 0, .int .u64 0]) Tryz.underlying121 (by kernel_rfl) (by kernel_rfl)) (fun _ _ _=>⟨_,_,rfl,rfl,⟨_,_,rfl,(W7 _ _ _ .int).one rfl,⟨_,_,rfl,rfl,rfl⟩⟩⟩) ⟨_,_,rfl,(Qb rfl),rfl⟩ (ae.1 rfl) rfl rfl)<|lc (Qy 1 (Qb rfl) rfl rfl (Fresh.of rfl) (nlr rfl)) ?_
 iterate 4 refine w_ ?_
 refine Y9 2 [(0,1)] (XL code 0 0 (by omega)) QbV ⟨_,_,rfl,(Qb rfl),rfl⟩ ⟨rfl,trivial⟩ rfl (fun _=>rfl) (fun _=>⟨trivial,trivial⟩) (nlr rfl) fun x1 hx2=>lc (Qc (Qa rfl) rfl (Qb rfl) rfl Qz rfl) ?_
 iterate 2 refine w_ ?_
 subst hO
 refine ZU (x:=((x1.1.1.1,x1.1.1.2),(x1.1.2.1,(x1.1.2.2.1,x1.1.2.2.2)))) [] ?_ (Qg rfl (QG rfl rfl Qz rfl)) rfl trivial rfl rfl
 (have h_:=‹Ty.tot ZC _≤3000∧_›; exact h_.1)
theorem U0 (code:List UInt8)[∀s,Decidable (StgOk s)][∀s,Decidable (Xv s)]:FC Tryz.prog 9 [(false,[.dat Zt code])] [] 0 (Ex (fun x:QX=>Ty.tot ZC x≤3000) (fun x:QX=>ag [dI x.1.1, .dat QZ x.1.2, .dat QJ x.2.1, .dat QR x.2.2.1,dS x.2.2.2]) (fun x:QX=>[])):=by
 refine QO Tryz.func9 rfl rfl Tryz.ntmps9 fun O_ hO w0_ N0_ X_ h0_ f0_=> ?_
 refine w_ ?_
 refine lc (Qj 0 Xr ZE rfl rfl (Fresh.of rfl) (nlr rfl)) ?_
 iterate 3 refine w_ ?_
 refine Y9 1 [] (WU code) QmD ⟨_,_,rfl,(Qb rfl),rfl⟩ trivial rfl (fun _=>rfl) (fun _=>trivial) (nlr rfl) fun x1 hx2=>lc (Qc (Qa rfl) rfl (Qb rfl) rfl Qz rfl) ?_
 iterate 2 refine w_ ?_
 subst hO
 refine ZU (x:=((x1.1.1,x1.1.2),(x1.2.1,(x1.2.2.1,x1.2.2.2)))) [] ?_ (Qg rfl (QG rfl rfl Qz rfl)) rfl trivial rfl rfl
 assumption
theorem KG (code:List UInt8)[∀s,Decidable (StgOk s)][∀s,Decidable (Xv s)]:FC Tryz.prog 39 [(false,[.dat Zt code])] [] 0 (Ex (fun x:QX×Qq=>Ty.tot ZC x.1≤3000) (fun x:QX×Qq=>PV.tup [(true,[dI x.1.1.1, .dat QZ x.1.1.2, .dat QJ x.1.2.1, .dat QR x.1.2.2.1,dS x.1.2.2.2]),(true,[dI x.2.1,dI x.2.2.1,dB x.2.2.2])]) (fun x:QX×Qq=>[])):=by
 refine QO Tryz.func39 rfl rfl Tryz.ntmps39 fun O_ hO w0_ N0_ X_ h0_ f0_=> ?_
 refine w_ ?_
 refine lc (Qj 0 Xr ZE rfl rfl (Fresh.of rfl) (nlr rfl))<|lc (Qj 1 ZH Yz rfl rfl (Fresh.of rfl) (nlr rfl)) ?_
 iterate 3 refine w_ ?_
 refine lc (Jx [.val (.slice none 0 0),dI 0, .val (.int .u64 0)] (Qhg (offs:=[(0,1),(1,1),(2,1)]) (zs:=[.slice none 0 0, .int .i64 0, .int .u64 0]) Tryz.underlying121 (by kernel_rfl) (by kernel_rfl)) (fun _ _ _=>⟨_,_,rfl,rfl,⟨_,_,rfl,(W7 _ _ _ .int).one rfl,⟨_,_,rfl,rfl,rfl⟩⟩⟩) ⟨_,_,rfl,(Qb rfl),rfl⟩ (ae.1 rfl) rfl rfl)<|lc (Qy 2 (Qb rfl) rfl rfl (Fresh.of rfl) (nlr rfl)) ?_
 iterate 4 refine w_ ?_
 refine Y9 3 [(0,2)] (XL code 0 0 (by omega)) QbV ⟨_,_,rfl,(Qb rfl),rfl⟩ ⟨rfl,trivial⟩ rfl (fun _=>rfl) (fun _=>⟨trivial,trivial⟩) (nlr rfl) fun x1 hx2=>lc (Qj 4 Xr ZE rfl rfl (Fresh.of rfl) (nlr rfl))<|lc (Qc (Qa rfl) rfl (Qb rfl) rfl Qz rfl) ?_
 refine w_ ?_
 have hp3:=QoF code x1.1 x1.2.1 x1.2.2
 refine dw [io 11 (ag [dI x1.1.1.1, .dat QZ x1.1.1.2, .dat QJ x1.1.2.1, .dat QR x1.1.2.2.1,dS x1.1.2.2.2]),io 12 (lP 2 0),io 13 (ag [dI x1.1.1.1, .dat QZ x1.1.1.2, .dat QJ x1.1.2.1, .dat QR x1.1.2.2.1,dS x1.1.2.2.2]),⟨some 14,ag [dI (((odV code x1.1 x1.2.1 x1.2.2).1).1),dI (((odV code x1.1 x1.2.1 x1.2.2).1).2.1),dB (((odV code x1.1 x1.2.1 x1.2.2).1).2.2)],[(2,some (.box 121 [.dat Zt code,dI ((odV code x1.1 x1.2.1 x1.2.2).2.1), .val (.int .u64 ((odV code x1.1 x1.2.1 x1.2.2).2.2))])),(2,none)]⟩,⟨none,lf (.val undef),[(0,some (.box 29 [dI x1.1.1.1, .dat QZ x1.1.1.2, .dat QJ x1.1.2.1, .dat QR x1.1.2.2.1,dS x1.1.2.2.2]))]⟩,⟨none,lf (.val undef),[(1,some (.box 32 [dI (((odV code x1.1 x1.2.1 x1.2.2).1).1),dI (((odV code x1.1 x1.2.1 x1.2.2).1).2.1),dB (((odV code x1.1 x1.2.1 x1.2.2).1).2.2)]))]⟩] [0,0,0,6,15,31] mixed rfl (by kernel_rfl) ⟨dxa Qz rfl rfl rfl rfl,dxm rfl rfl,dxa Qz rfl rfl rfl rfl,fun _ h_=>ac (QK 5 [(0,2)] (VL code x1.2.1 x1.2.2 x1.1 (by omega) (by have h_:=‹Ty.tot ZC _≤3000∧_›; omega)) QfM ⟨_,_,rfl,(h_.w rfl),⟨_,_,rfl,(h_.w rfl),rfl⟩⟩ ⟨(h_.en 2 rfl),trivial⟩ rfl ⟨trivial,trivial⟩ (nlr rfl)) rfl,fun _ h_=>ac (Qc (h_.v rfl) (h_.n 0 rfl) (h_.w rfl) rfl Qz rfl) rfl,fun _ h_=>ac (Qc (h_.v rfl) (h_.n 1 rfl) (h_.w rfl) rfl Zf rfl) rfl,⟨⟩⟩<|Q4 ?_
 subst hO
 refine ZU (x:=(((x1.1.1.1,x1.1.1.2),(x1.1.2.1,(x1.1.2.2.1,x1.1.2.2.2))),(((odV code x1.1 x1.2.1 x1.2.2).1).1,(((odV code x1.1 x1.2.1 x1.2.2).1).2.1,((odV code x1.1 x1.2.1 x1.2.2).1).2.2)))) [] ?_ (QB rfl (QG rfl rfl Qz rfl) (QG rfl rfl Zf rfl)) rfl trivial rfl rfl
 (have h_:=‹Ty.tot ZC _≤3000∧_›; exact h_.1)
theorem U2 (code:List UInt8)[∀s,Decidable (StgOk s)][∀s,Decidable (Xv s)]:FC Tryz.prog 12 [(false,[.dat Zt code])] [] 0 (Ex (fun x:QX×Qq=>Ty.tot ZC x.1≤3000) (fun x:QX×Qq=>PV.tup [(true,[dI x.1.1.1, .dat QZ x.1.1.2, .dat QJ x.1.2.1, .dat QR x.1.2.2.1,dS x.1.2.2.2]),(true,[dI x.2.1,dI x.2.2.1,dB x.2.2.2])]) (fun x:QX×Qq=>[])):=by
 refine QO Tryz.func12 rfl rfl Tryz.ntmps12 fun O_ hO w0_ N0_ X_ h0_ f0_=> ?_
 refine w_ ?_
 refine lc (Qj 0 Xr ZE rfl rfl (Fresh.of rfl) (nlr rfl))<|lc (Qj 1 ZH Yz rfl rfl (Fresh.of rfl) (nlr rfl)) ?_
 iterate 3 refine w_ ?_
 refine Y9 2 [] (KG code) QmF ⟨_,_,rfl,(Qb rfl),rfl⟩ trivial rfl (fun _=>rfl) (fun _=>trivial) (nlr rfl) fun x1 hx2=> ?_
 iterate 2 refine w_ ?_
 refine lc (Qc (Qa rfl) rfl (Qb rfl) rfl Qz rfl)<|lc (Qc (Qa rfl) rfl (Qb rfl) rfl Zf rfl) ?_
 iterate 2 refine w_ ?_
 subst hO
 refine ZU (x:=(((x1.1.1.1,x1.1.1.2),(x1.1.2.1,(x1.1.2.2.1,x1.1.2.2.2))),(x1.2.1,(x1.2.2.1,x1.2.2.2)))) [] ?_ (QB rfl (QG rfl rfl Qz rfl) (QG rfl rfl Zf rfl)) rfl trivial rfl rfl
 assumption
theorem Uu (code:List UInt8)[∀s,Decidable (StgOk s)][∀s,Decidable (Xv s)]:FC Tryz.prog 15 [(false,[.dat Zt code])] [] 0 (Ex (fun x:QX×List Qq=>Ty.tot ZC x.1≤3000∧x.2.length≤7) (fun x:QX×List Qq=>PV.tup [(true,[dI x.1.1.1, .dat QZ x.1.1.2, .dat QJ x.1.2.1, .dat QR x.1.2.2.1,dS x.1.2.2.2]),(false,[.ref 0])]) (fun x:QX×List Qq=>[(0,some (.arr 32 ZH x.2))])):=by
 refine QO Tryz.func15 rfl rfl Tryz.ntmps15 fun O_ hO w0_ N0_ X_ h0_ f0_=> ?_
 refine w_ ?_
 refine lc (Qj 0 Xr ZE rfl rfl (Fresh.of rfl) (nlr rfl)) ?_
 iterate 4 refine w_ ?_
 refine lc (Jx [.val (.slice none 0 0),dI 0, .val (.int .u64 0)] (Qhg (offs:=[(0,1),(1,1),(2,1)]) (zs:=[.slice none 0 0, .int .i64 0, .int .u64 0]) Tryz.underlying121 (by kernel_rfl) (by kernel_rfl)) (fun _ _ _=>⟨_,_,rfl,rfl,⟨_,_,rfl,(W7 _ _ _ .int).one rfl,⟨_,_,rfl,rfl,rfl⟩⟩⟩) ⟨_,_,rfl,(Qb rfl),rfl⟩ (ae.1 rfl) rfl rfl)<|lc (Qy 1 (Qb rfl) rfl rfl (Fresh.of rfl) (nlr rfl)) ?_
 iterate 4 refine w_ ?_
 refine Y9 2 [(0,1)] (XL code 0 0 (by omega)) QbV ⟨_,_,rfl,(Qb rfl),rfl⟩ ⟨rfl,trivial⟩ rfl (fun _=>rfl) (fun _=>⟨trivial,trivial⟩) (nlr rfl) fun x1 hx2=>lc (Qj 3 Xr ZE rfl rfl (Fresh.of rfl) (nlr rfl))<|lc (Qc (Qa rfl) rfl (Qb rfl) rfl Qz rfl) ?_
 iterate 7 refine w_ ?_
 refine lc (Qf 4 (e:= .int) QN QL Yu rfl ⟨_,_,rfl,(Evl.ev (Qv rfl)),⟨_,_,rfl,(Evl.ev (Qv rfl)),⟨_,_,rfl,(Evl.ev (Qv rfl)),⟨_,_,rfl,(Evl.ev (Qv rfl)),⟨_,_,rfl,(Evl.ev (Qv rfl)),⟨_,_,rfl,(Evl.ev (Qv rfl)),rfl⟩⟩⟩⟩⟩⟩ (ae.1 rfl) ⟨_,_,_,_,rfl,⟨rfl,rfl⟩,⟨_,_,_,_,rfl,⟨rfl,rfl⟩,⟨_,_,_,_,rfl,⟨rfl,rfl⟩,⟨_,_,_,_,rfl,⟨rfl,rfl⟩,⟨_,_,_,_,rfl,⟨rfl,rfl⟩,⟨_,_,_,_,rfl,⟨rfl,rfl⟩,⟨rfl,rfl⟩,rfl⟩,rfl⟩,rfl⟩,rfl⟩,rfl⟩,rfl⟩ (by decide) rfl rfl (Fresh.of rfl) (nlr rfl)) ?_
 have hp3:=Z2 code x1.2.1 x1.2.2 (([0,1,2,3,2,7]).length:Int)
 refine lc (QK 5 [(0,1),(1,4)] (Y8 code x1.2.1 x1.2.2 ([0,1,2,3,2,7]) (by omega) (by decide)) Hg ⟨_,_,rfl,(Qb rfl),⟨_,_,rfl,(Qb rfl),rfl⟩⟩ ⟨rfl,rfl,trivial⟩ rfl ⟨trivial,(Fresh.of rfl),trivial⟩ (nlr rfl)) ?_
 iterate 3 refine w_ ?_
 refine AC.wk (Wk.nilS 7 6 32 ZH rfl (Fresh.of rfl) (nlr rfl)) ?_
 refine Qu (fun m_ s_=>∃(n_:Int) (l_:List (Int×Int×Bool)) (a_:Int) (d_:Int),m_=n_.toNat∧(0≤a_∧a_+14*n_≤1000)∧((l_.length:Int)+n_≤7∧0≤n_)∧s_=⟨[(2,lP 0 0),(3,lf (.val (.slice none 0 0))),(4,lP 1 0),(5,lP 3 0),(6,lR 8),(7,lI n_)],[(0,some (.box 29 [dI 0, .val (.slice none 0 0), .val (.slice none 0 0), .val (.slice none 0 0),dS ByteArray.empty])),(1,some (.box 121 [.dat Zt code,dI a_, .val (.int .u64 d_)])),(3,some (.box 29 [dI x1.1.1.1, .dat QZ x1.1.1.2, .dat QJ x1.1.2.1, .dat QR x1.1.2.2.1,dS x1.1.2.2.2])),(8,some (.arr 32 ZH l_))]⟩) ⟨(([0,1,2,3,2,7])[(pkV code x1.2.1 x1.2.2 (([0,1,2,3,2,7]).length:Int)).toNat]?).getD 0,([]:(KZ:Ty).Den),(pkA (([0,1,2,3,2,7]).length:Int) x1.2.1),(pkS code x1.2.1 x1.2.2 (([0,1,2,3,2,7]).length:Int)),rfl,(Qot (by omega)),Qrl,rfl⟩ ?_ ?_
 exact wp [(0,0),(1,1),(3,3),(8,7)] ⟨rfl,rfl,rfl,(Qp (by first | rfl | simp)),trivial⟩
 rintro m_ s_ ⟨n_,l_,a_,d_,hm5,hb,hl,rfl⟩
 iterate 5 refine w_ ?_
 cases hb6:(decide (0 < n_))
 have hb6':=a7 hb6
 iterate 6 refine w_ ?_
 refine lc (Qc (Qa rfl) rfl (Qb rfl) rfl Qz rfl) ?_
 iterate 3 refine w_ ?_
 subst hO
 refine ZU (x:=(((x1.1.1.1,x1.1.1.2),(x1.1.2.1,(x1.1.2.2.1,x1.1.2.2.2))),l_)) [(0,8)] ?_ (QB rfl (QG rfl rfl Qz rfl) (Qd rfl)) rfl ⟨rfl,trivial⟩ rfl rfl
 (have h_:=‹Ty.tot ZC _≤3000∧_›; exact ⟨h_.1,by dsimp only; omega⟩)
 have hb6':=a8 hb6
 iterate 8 refine w_ ?_
 have hp7:=QoF code x1.1 a_ d_
 refine lc (QK 9 [(0,1)] (VL code a_ d_ x1.1 (by omega) (by have h_:=‹Ty.tot ZC _≤3000∧_›; omega)) QfM ⟨_,_,rfl,(Qb rfl),⟨_,_,rfl,(Qb rfl),rfl⟩⟩ ⟨rfl,trivial⟩ rfl ⟨trivial,trivial⟩ (nlr rfl))<|lc (Qf 10 (e:=ZH) Xn Zf Yz rfl ⟨_,_,rfl,(Qb rfl),rfl⟩ (ae.1 rfl) ⟨_,_,_,_,rfl,⟨[dI (((odV code x1.1 a_ d_).1).1)],[dI (((odV code x1.1 a_ d_).1).2.1),dB (((odV code x1.1 a_ d_).1).2.2)],_,_,_,_,rfl,rfl,⟨rfl,rfl⟩,⟨[dI (((odV code x1.1 a_ d_).1).2.1)],[dB (((odV code x1.1 a_ d_).1).2.2)],_,_,_,_,rfl,rfl,⟨rfl,rfl⟩,⟨rfl,rfl⟩,rfl⟩,rfl⟩,⟨rfl,rfl⟩,rfl⟩ (by decide) rfl rfl (Fresh.of rfl) (nlr rfl))<|lc (QH 11 (Qa rfl) rfl (Qa rfl) rfl rfl Xn Qjr (by first | omega | (simp only[aa,av,ab,ah,aj]; omega) | (simp only[aa,ay,ab,ah,aj]; omega)) rfl (Fresh.of rfl) (nlr rfl)) ?_
 refine w_ ?_
 refine Qm ?_
 iterate 5 refine w_ ?_
 refine Qm<|QV ⟨(n_ - 1),(l_++([(((odV code x1.1 a_ d_).1).1,((odV code x1.1 a_ d_).1).2.1,((odV code x1.1 a_ d_).1).2.2)])),((odV code x1.1 a_ d_).2.1),((odV code x1.1 a_ d_).2.2),rfl,(by omega),(by simp only[aa,ah,aj]; omega),rfl⟩ (by omega) ?_
 exact wp [(0,0),(1,1),(3,3),(8,11)] ⟨rfl,rfl,rfl,(Qp (by first | rfl | simp)),trivial⟩
end Go.Proofs.YtjaadeknhofhpaaGreat
