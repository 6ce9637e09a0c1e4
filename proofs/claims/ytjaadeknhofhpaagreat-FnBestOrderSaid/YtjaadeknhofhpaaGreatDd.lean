/- Walks over abstract states: the cursor of the draws. -/
import Derived.Test.YtjaadeknhofhpaaGreatBu
import Derived.Test.YtjaadeknhofhpaaGreatVc
set_option linter.unusedSimpArgs false
set_option linter.unusedVariables false
set_option linter.unusedSectionVars false
namespace Go.Proofs.YtjaadeknhofhpaaGreat
open Go.RowKit
set_option maxRecDepth 100000
set_option maxHeartbeats 4000000
def nxB (code:List UInt8)(at_:Int):Int:=if at_ < (code.length:Int) then ((((code[at_.toNat]?).getD 0).toNat:Nat):Int) else 0
def nxS (code:List UInt8)(at_ sd:Int):Int:=IntKind.u64.wrap (IntKind.u64.wrap (IntKind.u64.wrap (sd*6364136223846793005)+nxB code at_)+1442695040888963407)
def nxV (code:List UInt8)(at_ sd:Int):Int:=if at_+1≤(code.length:Int) then nxB code at_ else bits .and .u64 (nxS code at_ sd / 2 ^ 40) 255
def pkV (code:List UInt8)(at_ sd n:Int):Int:=if n≤1 then 0 else if 200 < n then (nxV code at_ sd*256+nxV code (at_+1) (nxS code at_ sd)) % n else nxV code at_ sd % n
def pkA (n at_:Int):Int:=if n≤1 then at_ else if 200 < n then at_+1+1 else at_+1
def pkS (code:List UInt8)(at_ sd n:Int):Int:=if n≤1 then sd else if 200 < n then nxS code (at_+1) (nxS code at_ sd) else nxS code at_ sd
section
variable {code:List UInt8}{at_ sd n:Int}{c:UInt8}
theorem Qqy (code:List UInt8)(at_:Int):0≤nxB code at_∧nxB code at_≤255:=by
  unfold nxB
  split
  · have : ((code[at_.toNat]?).getD 0).toNat < 256 := UInt8.toNat_lt _
    omega
  · omega
theorem Qqs (code:List UInt8)(at_ sd:Int):0≤nxS code at_ sd∧nxS code at_ sd < 18446744073709551616:=Ky _
theorem Qdn (code:List UInt8)(at_ sd:Int):0≤nxV code at_ sd∧nxV code at_ sd≤255:=by
  unfold nxV
  split
  · exact Qqy ..
  · exact Qev (JD (Qqs ..))
theorem Qdp (h:code[at_.toNat]? =some c)(h2:at_ < (code.length:Int)):(((c.toNat:Nat):Int))=nxB code at_:=by unfold nxB; rw[if_pos h2,h]; rfl
theorem Qhr (h:¬at_ < (code.length:Int)):(0:Int)=nxB code at_:=(if_neg h).symm
theorem Qk4 (h:at_+1≤(code.length:Int)):nxB code at_=nxV code at_ sd:=(if_pos h).symm
theorem QnV (h:¬at_+1≤(code.length:Int)):bits .and .u64 (nxS code at_ sd / 2 ^ 40) 255=nxV code at_ sd:=(if_neg h).symm
theorem Z2 (code:List UInt8)(at_ sd n:Int):(0≤pkV code at_ sd n∧(1≤n→pkV code at_ sd n < n))∧(at_≤pkA n at_∧pkA n at_≤at_+2):=by
  refine ⟨?_, ?_⟩
  · unfold pkV
    have h1:=Qdn code at_ sd
    have h2:=Qdn code (at_+1) (nxS code at_ sd)
    split
    · omega
    · split
      · exact ⟨Int.emod_nonneg _ (by omega),fun _=>Int.emod_lt_of_pos _ (by omega)⟩
      · exact ⟨Int.emod_nonneg _ (by omega),fun _=>Int.emod_lt_of_pos _ (by omega)⟩
  · unfold pkA
    split
    · omega
    · split <;> omega
theorem QrU (h:n≤1):pkV code at_ sd n=0∧pkA n at_=at_∧pkS code at_ sd n=sd:=⟨if_pos h,if_pos h,if_pos h⟩
theorem QrC (h:¬n≤1)(h2:200 < n):pkV code at_ sd n=(nxV code at_ sd*256+nxV code (at_+1) (nxS code at_ sd)) % n∧pkA n at_=at_+1+1∧pkS code at_ sd n=nxS code (at_+1) (nxS code at_ sd):=by
  refine ⟨?_, ?_, ?_⟩
  · unfold pkV; rw[if_neg h,if_pos h2]
  · unfold pkA; rw[if_neg h,if_pos h2]
  · unfold pkS; rw[if_neg h,if_pos h2]
theorem QrH (h:¬n≤1)(h2:¬200 < n):pkV code at_ sd n=nxV code at_ sd % n∧pkA n at_=at_+1∧pkS code at_ sd n=nxS code at_ sd:=by
  refine ⟨?_, ?_, ?_⟩
  · unfold pkV; rw[if_neg h,if_neg h2]
  · unfold pkA; rw[if_neg h,if_neg h2]
  · unfold pkS; rw[if_neg h,if_neg h2]
end
def cuN (code:List UInt8)(c:Int×Int)(n:Int):Int×Int:=(pkA n c.1,pkS code c.1 c.2 n)
def cuV (code:List UInt8)(c:Int×Int)(n:Int):Int:=pkV code c.1 c.2 n
def spT (t w:ByteArray)(i q:Int):ByteArray:=if q=0 then t.extract 0 i.toNat++w++t.extract i.toNat t.size else if q=1 then t.extract 0 i.toNat++w++t.extract (i+1).toNat t.size else t.extract 0 i.toNat++t.extract (i+1).toNat t.size
def spW (code:List UInt8)(wt:ByteArray)(c:Int×Int):ByteArray:=⟨#[(wt[(cuV code c (wt.size:Int)).toNat]?).getD 0]⟩
def spN (code:List UInt8)(wt:ByteArray)(s:ByteArray×Int×Int):ByteArray×Int×Int:=
  let c1:=cuN code s.2 (s.1.size:Int); let c2:=cuN code c1 (wt.size:Int)
  (spT s.1 (spW code wt c1) (cuV code s.2 (s.1.size:Int)) (cuV code c2 3),cuN code c2 3)
def spG (code:List UInt8)(wt:ByteArray):Nat→ByteArray×Int×Int→ByteArray×Int×Int
  | 0,s=>s
  | n+1,s=>if 0 < s.1.size then spG code wt n (spN code wt s) else s
def spV (code:List UInt8)(wt t:ByteArray)(at_ sd:Int):ByteArray×Int×Int:=spG code wt (1+pkV code at_ sd 2).toNat (t,pkA 2 at_,pkS code at_ sd 2)
section
variable {code:List UInt8}{wt t:ByteArray}{at_ sd n q i:Int}{s:ByteArray×Int×Int}{w:ByteArray}
theorem Qpz (h:0≤i∧i < (t.size:Int))(hw:w.size=1):(spT t w i q).size≤t.size+1:=by
  unfold spT
  split
  · simp only[aV,aR,hw]; omega
  · split
    · simp only[aV,aR,hw]; omega
    · simp only[aV,aR]; omega
theorem Qqc (h:0 < s.1.size):(spN code wt s).1.size≤s.1.size+1∧s.2.1≤(spN code wt s).2.1∧(spN code wt s).2.1≤s.2.1+6:=by
  have h1:=Z2 code s.2.1 s.2.2 (s.1.size:Int)
  have h2:=Z2 code (pkA (s.1.size:Int) s.2.1) (pkS code s.2.1 s.2.2 (s.1.size:Int)) (wt.size:Int)
  have h3:=Z2 code (pkA (wt.size:Int) (pkA (s.1.size:Int) s.2.1)) (pkS code (pkA (s.1.size:Int) s.2.1) (pkS code s.2.1 s.2.2 (s.1.size:Int)) (wt.size:Int)) 3
  refine ⟨Qpz ⟨h1.1.1,h1.1.2 (by omega)⟩ rfl, ?_, ?_⟩
  · show s.2.1≤pkA 3 (pkA (wt.size:Int) (pkA (s.1.size:Int) s.2.1)); omega
  · show pkA 3 (pkA (wt.size:Int) (pkA (s.1.size:Int) s.2.1))≤s.2.1+6; omega
theorem Qlo:∀(k:Nat) (s:ByteArray×Int×Int),(spG code wt k s).1.size≤s.1.size+k∧s.2.1≤(spG code wt k s).2.1∧(spG code wt k s).2.1≤s.2.1+6*k
  | 0,s=>⟨aL _,Int.le_refl _,by simp[spG]⟩
  | k+1,s=>by
    rw[spG]
    split
    · rename_i h
      have h1:=Qqc (code:=code) (wt:=wt) h
      have h2:=Qlo k (spN code wt s)
      refine ⟨by omega,by omega,by omega⟩
    · exact ⟨by omega,Int.le_refl _,by omega⟩
theorem Qpq {k a_ b_:Int}(hn:0 < k)(ht:0 < t.size):spG code wt k.toNat (t,a_,b_)=spG code wt (k - 1).toNat (spN code wt (t,a_,b_)):=by
  rw[show k.toNat=(k - 1).toNat+1 by omega,spG,if_pos ht]
theorem Qcm {k a_ b_:Int}(h:k≤0∨t.size=0):spG code wt k.toNat (t,a_,b_)=(t,a_,b_):=by
  by_cases hk:k≤0
  · rw[show k.toNat=0 by omega,spG]
  · rw[show k.toNat=(k - 1).toNat+1 by omega,spG,if_neg (by show¬0 < t.size; omega)]
theorem Qsd {a_ s_:Int}{c:UInt8}(hw:wt[(pkV code (pkA (t.size:Int) a_) (pkS code a_ s_ (t.size:Int)) (wt.size:Int)).toNat]? =some c)(hq:pkV code (pkA (wt.size:Int) (pkA (t.size:Int) a_)) (pkS code (pkA (t.size:Int) a_) (pkS code a_ s_ (t.size:Int)) (wt.size:Int)) 3=0):
    spN code wt (t,a_,s_)=(t.extract 0 (pkV code a_ s_ (t.size:Int)).toNat++(⟨#[c]⟩:ByteArray)++t.extract (pkV code a_ s_ (t.size:Int)).toNat t.size,pkA 3 (pkA (wt.size:Int) (pkA (t.size:Int) a_)),pkS code (pkA (wt.size:Int) (pkA (t.size:Int) a_)) (pkS code (pkA (t.size:Int) a_) (pkS code a_ s_ (t.size:Int)) (wt.size:Int)) 3):=by
  unfold spN spT spW cuV cuN
  dsimp only
  rw[if_pos hq,hw]; rfl
theorem Qtd {a_ s_:Int}{c:UInt8}(hw:wt[(pkV code (pkA (t.size:Int) a_) (pkS code a_ s_ (t.size:Int)) (wt.size:Int)).toNat]? =some c)(hq0:¬pkV code (pkA (wt.size:Int) (pkA (t.size:Int) a_)) (pkS code (pkA (t.size:Int) a_) (pkS code a_ s_ (t.size:Int)) (wt.size:Int)) 3=0)
    (hq:pkV code (pkA (wt.size:Int) (pkA (t.size:Int) a_)) (pkS code (pkA (t.size:Int) a_) (pkS code a_ s_ (t.size:Int)) (wt.size:Int)) 3=1):
    spN code wt (t,a_,s_)=(t.extract 0 (pkV code a_ s_ (t.size:Int)).toNat++(⟨#[c]⟩:ByteArray)++t.extract (pkV code a_ s_ (t.size:Int)+1).toNat t.size,pkA 3 (pkA (wt.size:Int) (pkA (t.size:Int) a_)),pkS code (pkA (wt.size:Int) (pkA (t.size:Int) a_)) (pkS code (pkA (t.size:Int) a_) (pkS code a_ s_ (t.size:Int)) (wt.size:Int)) 3):=by
  unfold spN spT spW cuV cuN
  dsimp only
  rw[if_neg hq0,if_pos hq,hw]; rfl
theorem QsT {a_ s_:Int}(hq0:¬pkV code (pkA (wt.size:Int) (pkA (t.size:Int) a_)) (pkS code (pkA (t.size:Int) a_) (pkS code a_ s_ (t.size:Int)) (wt.size:Int)) 3=0)
    (hq:¬pkV code (pkA (wt.size:Int) (pkA (t.size:Int) a_)) (pkS code (pkA (t.size:Int) a_) (pkS code a_ s_ (t.size:Int)) (wt.size:Int)) 3=1):
    spN code wt (t,a_,s_)=(t.extract 0 (pkV code a_ s_ (t.size:Int)).toNat++t.extract (pkV code a_ s_ (t.size:Int)+1).toNat t.size,pkA 3 (pkA (wt.size:Int) (pkA (t.size:Int) a_)),pkS code (pkA (wt.size:Int) (pkA (t.size:Int) a_)) (pkS code (pkA (t.size:Int) a_) (pkS code a_ s_ (t.size:Int)) (wt.size:Int)) 3):=by
  unfold spN spT cuV cuN
  dsimp only
  rw[if_neg hq0,if_neg hq]
theorem Qam (code:List UInt8)(wt t:ByteArray)(at_ sd:Int):(spV code wt t at_ sd).1.size≤t.size+2∧at_≤(spV code wt t at_ sd).2.1∧(spV code wt t at_ sd).2.1≤at_+14:=by
  have h1:=Z2 code at_ sd 2
  have h2:=Qlo (code:=code) (wt:=wt) (1+pkV code at_ sd 2).toNat (t,pkA 2 at_,pkS code at_ sd 2)
  have h3:(1+pkV code at_ sd 2).toNat≤2:=by have:=h1.1.2 (by decide); omega
  unfold spV
  dsimp only at h2
  refine ⟨by omega,by omega,by omega⟩
end
theorem Uk (code:List UInt8)(at_:Int)(sd:Int)(ha:0≤at_∧at_≤1000000000):FC Tryz.prog 186 [(false,[.ptr 0 0])] [(0,some (.box 121 [.dat Zt code,dI at_, .val (.int .u64 sd)]))] 1 (Is (lI (nxV code at_ sd)) [(0,some (.box 121 [.dat Zt code,dI (at_+1), .val (.int .u64 (nxS code at_ sd))]))]):=by
 refine QO Tryz.func186 rfl rfl Tryz.ntmps186 fun O_ hO w0_ N0_ X_ h0_ f0_=> ?_
 iterate 7 refine w_ ?_
 refine dw [io 4 (lP 0 0),io 5 (lP 0 0),io 6 (lP 0 1),io 7 (lI at_),io 8 (lP 0 0),io 9 (lP 0 0),io 10 (lP 0 0),io 11 (lf (.dat Zt code)),io 12 (lI (code.length:Int)),io 13 (lB (decide (at_ < (code.length:Int))))] [0,1,3,7,0,16,48,112,240,511] mixed rfl (by kernel_rfl) ⟨dxm rfl rfl,dxn rfl rfl rfl,dxf Hq rfl rfl rfl,dxl QL rfl rfl rfl rfl rfl,dxm rfl rfl,dxn rfl rfl rfl,dxf HL rfl rfl rfl,dxl QgO rfl rfl rfl rfl rfl,fun _ h_=>ac (WO (h_.v rfl) rfl Ze) rfl,fun _ h_=>ac (JK (h_.v rfl) (h_.v rfl) rfl) rfl,⟨⟩⟩ ?_
 cases hb1:(decide (at_ < (code.length:Int)))
 have hb1':=a7 hb1
 iterate 7 refine w_ ?_
 refine AL.fact (QC (x:= .tmp 28) (Qa rfl)) fun hi2=> ?_
 iterate 3 refine w_ ?_
 refine lc (Qc (Qa rfl) rfl (Qb rfl) rfl QL rfl) ?_
 iterate 7 refine w_ ?_
 refine lc (QfH (Qa rfl) Evl.val rfl) ?_
 refine w_ ?_
 refine lc (Qef (Qa rfl) Qah QcZ (by omega) rfl)<|lc (Hk (Qa rfl) (Qa rfl) rfl)<|lc (Hk (Qa rfl) Evl.val rfl) ?_
 iterate 2 refine w_ ?_
 refine lc (Qc (Qa rfl) rfl (Qb rfl) rfl QlU rfl) ?_
 iterate 2 refine w_ ?_
 refine dw [io 44 (lP 0 0),io 45 (lP 0 0),io 46 (lP 0 1),io 47 (lI (at_+1)),io 48 (lP 0 0),io 49 (lP 0 0),io 50 (lP 0 0),io 51 (lf (.dat Zt code)),io 52 (lI (code.length:Int)),io 53 (lB (decide ((at_+1)≤(code.length:Int))))] [0,1,3,7,0,16,48,112,240,511] mixed rfl (by kernel_rfl) ⟨dxm rfl rfl,dxn rfl rfl rfl,dxf Hq rfl rfl rfl,dxl QL rfl rfl rfl rfl rfl,dxm rfl rfl,dxn rfl rfl rfl,dxf HL rfl rfl rfl,dxl QgO rfl rfl rfl rfl rfl,fun _ h_=>ac (WO (h_.v rfl) rfl Ze) rfl,fun _ h_=>ac (QdB (h_.v rfl) (h_.v rfl) rfl) rfl,⟨⟩⟩ ?_
 cases hb3:(decide ((at_+1)≤(code.length:Int)))
 have hb3':=a7 hb3
 iterate 7 refine w_ ?_
 refine lc (Qf6 (Qa rfl) Evl.val rfl (by omega))<|lc (Qf5 (Qa rfl) Evl.val rfl)<|lc (QdT (Qa rfl) QcZ Qah (by first | omega | exact ⟨(Qev (JD (Ky _))).1,Int.le_trans (Qev (JD (Ky _))).2 (by decide)⟩) rfl) ?_
 iterate 3 refine w_ ?_
 subst hO
 have e4:((bits .and .u64 ((IntKind.u64.wrap ((IntKind.u64.wrap ((IntKind.u64.wrap (sd*(6364136223846793005:Int)))+(0:Int)))+(1442695040888963407:Int))) / 2 ^ (40:Int).toNat) (255:Int)):Int)=(nxV code at_ sd):=by
  (rw[← QnV ‹_›,nxS,← Qhr ‹_›]; rfl)
 exact QD _ _ [(0,0)] (Qg rfl (Qd rfl)) (by rw[e4] <;> rfl) ⟨((congrArg (fun z_:Int=>some (Ent.box 121 [.dat Zt code,dI (at_+1), .val (.int .u64 z_)])) (show ((IntKind.u64.wrap ((IntKind.u64.wrap ((IntKind.u64.wrap (sd*(6364136223846793005:Int)))+(0:Int)))+(1442695040888963407:Int))):Int)=(nxS code at_ sd) by (unfold nxS; rw[← Qhr ‹_›])))),trivial⟩ rfl rfl
 have hb3':=a8 hb3
 iterate 6 refine w_ ?_
 subst hO
 have e5:(0:Int)=(nxV code at_ sd):=by
  (rw[Qhr ‹_›]; exact Qk4 ‹_›)
 exact QD _ _ [(0,0)] (Qg rfl (Qd rfl)) (by rw[← e5] <;> rfl) ⟨((congrArg (fun z_:Int=>some (Ent.box 121 [.dat Zt code,dI (at_+1), .val (.int .u64 z_)])) (show ((IntKind.u64.wrap ((IntKind.u64.wrap ((IntKind.u64.wrap (sd*(6364136223846793005:Int)))+(0:Int)))+(1442695040888963407:Int))):Int)=(nxS code at_ sd) by (unfold nxS; rw[← Qhr ‹_›])))),trivial⟩ rfl rfl
 have hb1':=a8 hb1
 refine w_ ?_
 obtain ⟨cb,hx7⟩:=gx code ((at_).toNat)
 have hcb:=hx7
 have hcl:cb.toNat < 256:=UInt8.toNat_lt _
 refine dz [io 14 (lP 0 0),io 15 (lP 0 0),io 16 (lP 0 0),io 17 (lf (.dat Zt code)),io 18 (lP 0 0),io 19 (lP 0 0),io 20 (lP 0 1),io 21 (lI at_),io 22 (lf (.elt .u8 cb 0)),io 23 (lf (.dat .u8 cb)),io 24 (lI (cb.toNat:Int)),io 3 (lI (cb.toNat:Int))] [0,1,3,7,0,16,48,112,255,511,1023,2047] mixed rfl (by kernel_rfl) ⟨dxm rfl rfl,dxn rfl rfl rfl,dxf HL rfl rfl rfl,dxl QgO rfl rfl rfl rfl rfl,dxm rfl rfl,dxn rfl rfl rfl,dxf Hq rfl rfl rfl,dxl QL rfl rfl rfl rfl rfl,fun _ h_=>ac (Qh (h_.v rfl) (h_.v rfl) Ze Q2 rfl (by omega) hx7) rfl,fun _ h_=>ac (Q3 (h_.v rfl) Q2 rfl rfl) rfl,fun _ h_=>ac (Qmu (h_.v rfl) JA Qah rfl) rfl,dxt rfl rfl,⟨⟩⟩ ?_
 iterate 5 refine w_ ?_
 refine AL.fact (QC (x:= .tmp 28) (Qa rfl)) fun hi8=> ?_
 iterate 3 refine w_ ?_
 refine lc (Qc (Qa rfl) rfl (Qb rfl) rfl QL rfl) ?_
 iterate 7 refine w_ ?_
 refine lc (QfH (Qa rfl) Evl.val rfl) ?_
 refine w_ ?_
 refine lc (Qef (Qa rfl) Qah QcZ (by omega) rfl)<|lc (Hk (Qa rfl) (Qa rfl) rfl)<|lc (Hk (Qa rfl) Evl.val rfl) ?_
 iterate 2 refine w_ ?_
 refine lc (Qc (Qa rfl) rfl (Qb rfl) rfl QlU rfl) ?_
 iterate 2 refine w_ ?_
 refine dw [io 44 (lP 0 0),io 45 (lP 0 0),io 46 (lP 0 1),io 47 (lI (at_+1)),io 48 (lP 0 0),io 49 (lP 0 0),io 50 (lP 0 0),io 51 (lf (.dat Zt code)),io 52 (lI (code.length:Int)),io 53 (lB (decide ((at_+1)≤(code.length:Int))))] [0,1,3,7,0,16,48,112,240,511] mixed rfl (by kernel_rfl) ⟨dxm rfl rfl,dxn rfl rfl rfl,dxf Hq rfl rfl rfl,dxl QL rfl rfl rfl rfl rfl,dxm rfl rfl,dxn rfl rfl rfl,dxf HL rfl rfl rfl,dxl QgO rfl rfl rfl rfl rfl,fun _ h_=>ac (WO (h_.v rfl) rfl Ze) rfl,fun _ h_=>ac (QdB (h_.v rfl) (h_.v rfl) rfl) rfl,⟨⟩⟩ ?_
 cases hb9:(decide ((at_+1)≤(code.length:Int)))
 have hb9':=a7 hb9
 iterate 7 refine w_ ?_
 refine lc (Qf6 (Qa rfl) Evl.val rfl (by omega))<|lc (Qf5 (Qa rfl) Evl.val rfl)<|lc (QdT (Qa rfl) QcZ Qah (by first | omega | exact ⟨(Qev (JD (Ky _))).1,Int.le_trans (Qev (JD (Ky _))).2 (by decide)⟩) rfl) ?_
 iterate 3 refine w_ ?_
 subst hO
 have e10:((bits .and .u64 ((IntKind.u64.wrap ((IntKind.u64.wrap ((IntKind.u64.wrap (sd*(6364136223846793005:Int)))+(cb.toNat:Int)))+(1442695040888963407:Int))) / 2 ^ (40:Int).toNat) (255:Int)):Int)=(nxV code at_ sd):=by
  (rw[← QnV ‹_›,nxS,← Qdp hcb ‹_›]; rfl)
 exact QD _ _ [(0,0)] (Qg rfl (Qd rfl)) (by rw[e10] <;> rfl) ⟨((congrArg (fun z_:Int=>some (Ent.box 121 [.dat Zt code,dI (at_+1), .val (.int .u64 z_)])) (show ((IntKind.u64.wrap ((IntKind.u64.wrap ((IntKind.u64.wrap (sd*(6364136223846793005:Int)))+(cb.toNat:Int)))+(1442695040888963407:Int))):Int)=(nxS code at_ sd) by (unfold nxS; rw[← Qdp hcb ‹_›])))),trivial⟩ rfl rfl
 have hb9':=a8 hb9
 iterate 6 refine w_ ?_
 subst hO
 have e11:((cb.toNat:Int):Int)=(nxV code at_ sd):=by
  (rw[Qdp hcb ‹_›]; exact Qk4 ‹_›)
 exact QD _ _ [(0,0)] (Qg rfl (Qd rfl)) (by rw[e11] <;> rfl) ⟨((congrArg (fun z_:Int=>some (Ent.box 121 [.dat Zt code,dI (at_+1), .val (.int .u64 z_)])) (show ((IntKind.u64.wrap ((IntKind.u64.wrap ((IntKind.u64.wrap (sd*(6364136223846793005:Int)))+(cb.toNat:Int)))+(1442695040888963407:Int))):Int)=(nxS code at_ sd) by (unfold nxS; rw[← Qdp hcb ‹_›])))),trivial⟩ rfl rfl
theorem Zh (code:List UInt8)(at_:Int)(sd:Int)(n:Int)(ha:0≤at_∧at_≤999999000):FC Tryz.prog 96 [(false,[.ptr 0 0]),(false,[dI n])] [(0,some (.box 121 [.dat Zt code,dI at_, .val (.int .u64 sd)]))] 1 (Is (lI (pkV code at_ sd n)) [(0,some (.box 121 [.dat Zt code,dI (pkA n at_), .val (.int .u64 (pkS code at_ sd n))]))]):=by
 refine QO Tryz.func96 rfl rfl Tryz.ntmps96 fun O_ hO w0_ N0_ X_ h0_ f0_=> ?_
 refine AC.fact (QC (x:= .tmp 1) (Qa rfl)) fun hi1=> ?_
 iterate 8 refine w_ ?_
 cases hb2:(decide (n≤1))
 have hb2':=a7 hb2
 iterate 4 refine w_ ?_
 have hp3:=Qdn code at_ sd
 refine lc (QK 1 [(0,0)] (Uk code at_ sd (by omega)) Qdw ⟨_,_,rfl,(Qb rfl),rfl⟩ ⟨rfl,trivial⟩ rfl ⟨trivial,trivial⟩ (nlr rfl)) ?_
 iterate 7 refine w_ ?_
 cases hb4:(decide (200 < n))
 have hb4':=a7 hb4
 iterate 5 refine w_ ?_
 refine lc (QhS (Qa rfl) (Qa rfl) rfl (by omega) (by omega)) ?_
 iterate 3 refine w_ ?_
 subst hO
 have e5:((nxV code at_ sd) % n:Int)=(pkV code at_ sd n):=by
  exact (QrH (code:=code) (sd:=sd) (at_:=at_) ‹_› ‹_›).1.symm
 exact QD _ _ [(0,0)] (Qg rfl (Qd rfl)) (by rw[e5] <;> rfl) ⟨(((congrArg (fun z_=>some (Ent.box 121 [.dat Zt code,dI z_, .val (.int .u64 (nxS code at_ sd))])) (show ((at_+1):Int)=(pkA n at_) by exact (QrH (code:=code) (sd:=sd) (at_:=at_) ‹_› ‹_›).2.1.symm))).trans (congrArg (fun z_:Int=>some (Ent.box 121 [.dat Zt code,dI (pkA n at_), .val (.int .u64 z_)])) (show ((nxS code at_ sd):Int)=(pkS code at_ sd n) by exact (QrH (code:=code) (sd:=sd) (at_:=at_) ‹_› ‹_›).2.2.symm))),trivial⟩ rfl rfl
 have hb4':=a8 hb4
 iterate 3 refine w_ ?_
 refine lc (JJ (Qa rfl) (Qv rfl) rfl (by omega)) ?_
 refine w_ ?_
 have hp6:=Qdn code (at_+1) (nxS code at_ sd)
 refine lc (QK 2 [(0,0)] (Uk code (at_+1) (nxS code at_ sd) (by omega)) Qdw ⟨_,_,rfl,(Qb rfl),rfl⟩ ⟨rfl,trivial⟩ rfl ⟨trivial,trivial⟩ (nlr rfl)) ?_
 iterate 6 refine w_ ?_
 refine lc (QhS (Qa rfl) (Qa rfl) rfl (by omega) (by omega)) ?_
 iterate 3 refine w_ ?_
 subst hO
 have e7:((((nxV code at_ sd)*256)+(nxV code (at_+1) (nxS code at_ sd))) % n:Int)=(pkV code at_ sd n):=by
  exact (QrC (code:=code) (sd:=sd) (at_:=at_) ‹_› ‹_›).1.symm
 exact QD _ _ [(0,0)] (Qg rfl (Qd rfl)) (by rw[e7] <;> rfl) ⟨(((congrArg (fun z_=>some (Ent.box 121 [.dat Zt code,dI z_, .val (.int .u64 (nxS code (at_+1) (nxS code at_ sd)))])) (show (((at_+1)+1):Int)=(pkA n at_) by exact (QrC (code:=code) (sd:=sd) (at_:=at_) ‹_› ‹_›).2.1.symm))).trans (congrArg (fun z_:Int=>some (Ent.box 121 [.dat Zt code,dI (pkA n at_), .val (.int .u64 z_)])) (show ((nxS code (at_+1) (nxS code at_ sd)):Int)=(pkS code at_ sd n) by exact (QrC (code:=code) (sd:=sd) (at_:=at_) ‹_› ‹_›).2.2.symm))),trivial⟩ rfl rfl
 have hb2':=a8 hb2
 iterate 5 refine w_ ?_
 subst hO
 have e8:(0:Int)=(pkV code at_ sd n):=by
  exact (QrU (code:=code) (sd:=sd) (at_:=at_) ‹_›).1.symm
 exact QD _ _ [(0,0)] (Qg rfl (Qd rfl)) (by rw[← e8] <;> rfl) ⟨(((congrArg (fun z_=>some (Ent.box 121 [.dat Zt code,dI z_, .val (.int .u64 sd)])) (show (at_:Int)=(pkA n at_) by exact (QrU (code:=code) (sd:=sd) (at_:=at_) ‹_›).2.1.symm))).trans (congrArg (fun z_:Int=>some (Ent.box 121 [.dat Zt code,dI (pkA n at_), .val (.int .u64 z_)])) (show (sd:Int)=(pkS code at_ sd n) by exact (QrU (code:=code) (sd:=sd) (at_:=at_) ‹_›).2.2.symm))),trivial⟩ rfl rfl
theorem WM (code:List UInt8)(at_:Int)(sd:Int)(n:Int)(ha:0≤at_∧at_≤999999000):FC Tryz.prog 95 [(false,[.ptr 0 0]),(false,[dI n])] [(0,some (.box 121 [.dat Zt code,dI at_, .val (.int .u64 sd)]))] 1 (Is (lB (decide (pkV code at_ sd n=0))) [(0,some (.box 121 [.dat Zt code,dI (pkA n at_), .val (.int .u64 (pkS code at_ sd n))]))]):=by
 refine QO Tryz.func95 rfl rfl Tryz.ntmps95 fun O_ hO w0_ N0_ X_ h0_ f0_=> ?_
 refine AC.fact (QC (x:= .tmp 1) (Qa rfl)) fun hi1=> ?_
 iterate 6 refine w_ ?_
 have hp2:=Z2 code at_ sd n
 refine lc (QK 1 [(0,0)] (Zh code at_ sd n (by omega)) YO ⟨_,_,rfl,(Qb rfl),⟨_,_,rfl,(Qb rfl),rfl⟩⟩ ⟨rfl,trivial⟩ rfl ⟨trivial,trivial⟩ (nlr rfl)) ?_
 iterate 4 refine w_ ?_
 subst hO
 have e3:(decide ((pkV code at_ sd n)=0):Bool)=(decide (pkV code at_ sd n=0)):=by
  rfl
 exact QD _ _ [(0,0)] (Qg rfl (Qd rfl)) (by rw[e3] <;> rfl) ⟨rfl,trivial⟩ rfl rfl
theorem Qcf (code:List UInt8)(at_:Int)(sd:Int)(list:List ByteArray)(ha:0≤at_∧at_≤999999000)(hl:1≤list.length):FC Tryz.prog 134 [(false,[.ptr 0 0]),(false,[.ref 1])] [(0,some (.box 121 [.dat Zt code,dI at_, .val (.int .u64 sd)])),(1,some (.arr 9 .str list))] 1 (Is (lf (dS ((list[(pkV code at_ sd (list.length:Int)).toNat]?).getD ByteArray.empty))) [(0,some (.box 121 [.dat Zt code,dI (pkA (list.length:Int) at_), .val (.int .u64 (pkS code at_ sd (list.length:Int)))])),(1,some (.arr 9 .str list))]):=by
 refine QO Tryz.func134 rfl rfl Tryz.ntmps134 fun O_ hO w0_ N0_ X_ h0_ f0_=> ?_
 iterate 8 refine w_ ?_
 have hp1:=Z2 code at_ sd (list.length:Int)
 refine lc (QK 2 [(0,0)] (Zh code at_ sd (list.length:Int) (by omega)) YO ⟨_,_,rfl,(Qb rfl),⟨_,_,rfl,(Qb rfl),rfl⟩⟩ ⟨rfl,trivial⟩ rfl ⟨trivial,trivial⟩ (nlr rfl))<|lc (Qw (e:= .str) (Qa rfl) rfl (Qa rfl) Zo Zg rfl (by omega) (by first | omega | (simp only[aq]; omega))) ?_
 obtain ⟨x2,hx3⟩:=gx list ((pkV code at_ sd (list.length:Int)).toNat)
 have hx2:=hx3
 refine lc (QP (e:= .str) (Qa rfl) rfl hx3 rfl Zg rfl rfl) ?_
 iterate 3 refine w_ ?_
 subst hO
 have e4:(x2:ByteArray)=((list[(pkV code at_ sd (list.length:Int)).toNat]?).getD ByteArray.empty):=by
  (simp[*])
 exact QD _ _ [(0,0),(1,1)] (Qg rfl (Qd rfl)) (by rw[← e4] <;> rfl) ⟨rfl,rfl,trivial⟩ rfl rfl
theorem Y8 (code:List UInt8)(at_:Int)(sd:Int)(list:List Int)(ha:0≤at_∧at_≤999999000)(hl:1≤list.length):FC Tryz.prog 75 [(false,[.ptr 0 0]),(false,[.ref 1])] [(0,some (.box 121 [.dat Zt code,dI at_, .val (.int .u64 sd)])),(1,some (.arr 3 .int list))] 1 (Is (lI ((list[(pkV code at_ sd (list.length:Int)).toNat]?).getD 0)) [(0,some (.box 121 [.dat Zt code,dI (pkA (list.length:Int) at_), .val (.int .u64 (pkS code at_ sd (list.length:Int)))])),(1,some (.arr 3 .int list))]):=by
 refine QO Tryz.func75 rfl rfl Tryz.ntmps75 fun O_ hO w0_ N0_ X_ h0_ f0_=> ?_
 iterate 8 refine w_ ?_
 have hp1:=Z2 code at_ sd (list.length:Int)
 refine lc (QK 2 [(0,0)] (Zh code at_ sd (list.length:Int) (by omega)) YO ⟨_,_,rfl,(Qb rfl),⟨_,_,rfl,(Qb rfl),rfl⟩⟩ ⟨rfl,trivial⟩ rfl ⟨trivial,trivial⟩ (nlr rfl))<|lc (Qw (e:= .int) (Qa rfl) rfl (Qa rfl) QN QL rfl (by omega) (by first | omega | (simp only[aq]; omega))) ?_
 obtain ⟨x2,hx3⟩:=gx list ((pkV code at_ sd (list.length:Int)).toNat)
 have hx2:=hx3
 refine lc (QP (e:= .int) (Qa rfl) rfl hx3 rfl QL rfl rfl)<|AL.fact (QC (x:= .tmp 11) (Qa rfl)) fun hi4=> ?_
 iterate 3 refine w_ ?_
 subst hO
 have e5:(x2:Int)=((list[(pkV code at_ sd (list.length:Int)).toNat]?).getD 0):=by
  (simp[*])
 exact QD _ _ [(0,0),(1,1)] (Qg rfl (Qd rfl)) (by rw[← e5] <;> rfl) ⟨rfl,rfl,trivial⟩ rfl rfl
theorem Hd (code:List UInt8)(at_:Int)(sd:Int)(t:ByteArray)(wt:ByteArray)(ha:0≤at_∧at_≤900000000)(hs:t.size≤100000∧1≤wt.size):FC Tryz.prog 162 [(false,[.ptr 0 0]),(false,[dS t]),(false,[dS wt])] [(0,some (.box 121 [.dat Zt code,dI at_, .val (.int .u64 sd)]))] 1 (Is (lf (dS ((spV code wt t at_ sd).1))) [(0,some (.box 121 [.dat Zt code,dI ((spV code wt t at_ sd).2.1), .val (.int .u64 ((spV code wt t at_ sd).2.2))]))]):=by
 refine QO Tryz.func162 rfl rfl Tryz.ntmps162 fun O_ hO w0_ N0_ X_ h0_ f0_=> ?_
 iterate 6 refine w_ ?_
 have hp1:=Z2 code at_ sd 2
 refine lc (QK 1 [(0,0)] (Zh code at_ sd 2 (by omega)) YO ⟨_,_,rfl,(Qb rfl),⟨_,_,rfl,(Evl.ev (Qv rfl)),rfl⟩⟩ ⟨rfl,trivial⟩ rfl ⟨trivial,trivial⟩ (nlr rfl)) ?_
 iterate 4 refine w_ ?_
 refine Qu (fun m_ s_=>∃(n_:Int) (t_:ByteArray) (a_:Int) (sd_:Int),m_=n_.toNat∧((spV code wt t at_ sd)=spG code wt n_.toNat (t_,a_,sd_))∧(0≤n_∧n_≤2)∧((t_.size:Int)+n_≤(t.size:Int)+2)∧(at_≤a_∧a_+6*n_≤at_+14)∧s_=⟨[(0,lP 0 0),(1,lf (dS t_)),(2,lf (dS wt)),(6,lf (dS (⟨#[]⟩:ByteArray))),(7,lI n_)],[(0,some (.box 121 [.dat Zt code,dI a_, .val (.int .u64 sd_)]))]⟩) ⟨1+(pkV code at_ sd 2),t,(pkA 2 at_),(pkS code at_ sd 2),rfl,rfl,by omega,by omega,by omega,rfl⟩ ?_ ?_
 exact wo [(0,0)]
 rintro m_ s_ ⟨n_,t_,a_,sd_,hm3,hA,hn,ht,hb,rfl⟩
 iterate 5 refine w_ ?_
 cases hb4:(decide (0 < n_))
 have hb4':=a7 hb4
 iterate 13 refine w_ ?_
 subst hO
 have e5:(t_:ByteArray)=((spV code wt t at_ sd).1):=by
  (rw[hA,Qcm (by omega)])
 exact QD _ _ [(0,0)] (Qg rfl (Qd rfl)) (by rw[← e5] <;> rfl) ⟨(((congrArg (fun z_=>some (Ent.box 121 [.dat Zt code,dI z_, .val (.int .u64 sd_)])) (show (a_:Int)=((spV code wt t at_ sd).2.1) by (rw[hA,Qcm (by omega)])))).trans (congrArg (fun z_:Int=>some (Ent.box 121 [.dat Zt code,dI ((spV code wt t at_ sd).2.1), .val (.int .u64 z_)])) (show (sd_:Int)=((spV code wt t at_ sd).2.2) by (rw[hA,Qcm (by omega)])))),trivial⟩ rfl rfl
 have hb4':=a8 hb4
 refine w_ ?_
 refine AL.fact (U6 (x:= .tmp 16) (Qa rfl)) fun hl6=>lgy rfl rfl (W2 (Qa rfl) rfl ZS) ?_
 iterate 3 refine w_ ?_
 cases hb7:(decide (0 < (t_.size:Int)))
 have hb7':=a7 hb7
 iterate 8 refine w_ ?_
 subst hO
 have e8:(t_:ByteArray)=((spV code wt t at_ sd).1):=by
  (rw[hA,Qcm (by omega)])
 exact QD _ _ [(0,0)] (Qg rfl (Qd rfl)) (by rw[← e8] <;> rfl) ⟨(((congrArg (fun z_=>some (Ent.box 121 [.dat Zt code,dI z_, .val (.int .u64 sd_)])) (show (a_:Int)=((spV code wt t at_ sd).2.1) by (rw[hA,Qcm (by omega)])))).trans (congrArg (fun z_:Int=>some (Ent.box 121 [.dat Zt code,dI ((spV code wt t at_ sd).2.1), .val (.int .u64 z_)])) (show (sd_:Int)=((spV code wt t at_ sd).2.2) by (rw[hA,Qcm (by omega)])))),trivial⟩ rfl rfl
 have hb7':=a8 hb7
 iterate 7 refine w_ ?_
 refine AL.fact (U6 (x:= .tmp 23) (Qa rfl)) fun hl9=>lc (W2 (Qa rfl) rfl ZS) ?_
 have hp10:=Z2 code a_ sd_ (t_.size:Int)
 refine lc (QK 2 [(0,0)] (Zh code a_ sd_ (t_.size:Int) (by omega)) YO ⟨_,_,rfl,(Qb rfl),⟨_,_,rfl,(Qb rfl),rfl⟩⟩ ⟨rfl,trivial⟩ rfl ⟨trivial,trivial⟩ (nlr rfl)) ?_
 iterate 6 refine w_ ?_
 refine AL.fact (U6 (x:= .tmp 28) (Qa rfl)) fun hl11=>lc (W2 (Qa rfl) rfl ZS) ?_
 have hp12:=Z2 code (pkA (t_.size:Int) a_) (pkS code a_ sd_ (t_.size:Int)) (wt.size:Int)
 refine lc (QK 3 [(0,0)] (Zh code (pkA (t_.size:Int) a_) (pkS code a_ sd_ (t_.size:Int)) (wt.size:Int) (by omega)) YO ⟨_,_,rfl,(Qb rfl),⟨_,_,rfl,(Qb rfl),rfl⟩⟩ ⟨rfl,trivial⟩ rfl ⟨trivial,trivial⟩ (nlr rfl)) ?_
 obtain ⟨c13,hc14⟩:=gs wt ((pkV code (pkA (t_.size:Int) a_) (pkS code a_ sd_ (t_.size:Int)) (wt.size:Int)).toNat)
 have hwc:=hc14
 refine lc (ZY (Qa rfl) (Qa rfl) rfl ZS (by omega) hc14)<|lc (Qf 4 (e:= .u8) Ze Q2 QfO rfl ⟨_,_,rfl,(Qb rfl),rfl⟩ (ae.1 rfl) ⟨_,_,_,_,rfl,⟨rfl,rfl⟩,⟨rfl,rfl⟩,rfl⟩ (by decide) rfl rfl (Fresh.of rfl) (nlr rfl))<|lc (Xp (ys:=[c13]) (Uq (Qa rfl) rfl) Ze JA ZS rfl) ?_
 iterate 4 refine w_ ?_
 have hp15:=Z2 code (pkA (wt.size:Int) (pkA (t_.size:Int) a_)) (pkS code (pkA (t_.size:Int) a_) (pkS code a_ sd_ (t_.size:Int)) (wt.size:Int)) 3
 refine lc (QK 5 [(0,0)] (Zh code (pkA (wt.size:Int) (pkA (t_.size:Int) a_)) (pkS code (pkA (t_.size:Int) a_) (pkS code a_ sd_ (t_.size:Int)) (wt.size:Int)) 3 (by omega)) YO ⟨_,_,rfl,(Qb rfl),⟨_,_,rfl,(Evl.ev (Qv rfl)),rfl⟩⟩ ⟨rfl,trivial⟩ rfl ⟨trivial,trivial⟩ (nlr rfl)) ?_
 iterate 6 refine w_ ?_
 cases hb16:(decide ((pkV code (pkA (wt.size:Int) (pkA (t_.size:Int) a_)) (pkS code (pkA (t_.size:Int) a_) (pkS code a_ sd_ (t_.size:Int)) (wt.size:Int)) 3)=0))
 have hb16':=a7 hb16
 iterate 5 refine w_ ?_
 cases hb17:(decide ((pkV code (pkA (wt.size:Int) (pkA (t_.size:Int) a_)) (pkS code (pkA (t_.size:Int) a_) (pkS code a_ sd_ (t_.size:Int)) (wt.size:Int)) 3)=1))
 have hb17':=a7 hb17
 refine w_ ?_
 refine dv [io 36 (lf (dS t_)),io 37 (lI (pkV code a_ sd_ (t_.size:Int))),io 38 (lf (dS (t_.extract 0 (pkV code a_ sd_ (t_.size:Int)).toNat))),io 39 (lf (dS t_)),io 40 (lI (pkV code a_ sd_ (t_.size:Int))),io 41 (lI ((pkV code a_ sd_ (t_.size:Int))+1)),io 42 (lf (dS (t_.extract ((pkV code a_ sd_ (t_.size:Int))+1).toNat t_.size))),io 43 (lf (dS ((t_.extract 0 (pkV code a_ sd_ (t_.size:Int)).toNat)++(t_.extract ((pkV code a_ sd_ (t_.size:Int))+1).toNat t_.size)))),io 1 (lf (dS ((t_.extract 0 (pkV code a_ sd_ (t_.size:Int)).toNat)++(t_.extract ((pkV code a_ sd_ (t_.size:Int))+1).toNat t_.size))))] [0,0,3,0,0,16,56,127,255] mixed rfl (by kernel_rfl) ⟨dxm rfl rfl,dxm rfl rfl,fun _ h_=>ac (show Does _ _ _ _ (St.put _ 38 (lf (dS (t_.extract 0 (pkV code a_ sd_ (t_.size:Int)).toNat)))) from ZW (l:=none) (h:=(some (pkV code a_ sd_ (t_.size:Int)))) (h_.v rfl) (by exact trivial) (by exact (h_.v rfl)) ZS rfl (by first | omega | (simp only[ao,ak]; omega)) (by first | omega | (simp only[ao,ak]; omega)) (by first | omega | (simp only[ao,ak]; omega))) rfl,dxm rfl rfl,dxm rfl rfl,fun _ h_=>ac (Xb (h_.v rfl) (Qv rfl) rfl (by omega)) rfl,fun _ h_=>ac (show Does _ _ _ _ (St.put _ 42 (lf (dS (t_.extract ((pkV code a_ sd_ (t_.size:Int))+1).toNat t_.size)))) from ZW (l:=(some ((pkV code a_ sd_ (t_.size:Int))+1))) (h:=none) (h_.v rfl) (by exact (h_.v rfl)) (by exact trivial) ZS rfl (by first | omega | (simp only[ao,ak]; omega)) (by first | omega | (simp only[ao,ak]; omega)) (by first | omega | (simp only[ao,ak]; omega))) rfl,fun _ h_=>ac (Z9 (h_.v rfl) (h_.v rfl) rfl (by first | omega | (simp only[aV,aR,XZ]; omega))) rfl,dxt rfl rfl,⟨⟩⟩ ?_
 iterate 5 refine w_ ?_
 refine Qm<|QV ⟨(n_ - 1),((t_.extract 0 (pkV code a_ sd_ (t_.size:Int)).toNat)++(t_.extract ((pkV code a_ sd_ (t_.size:Int))+1).toNat t_.size)),(pkA 3 (pkA (wt.size:Int) (pkA (t_.size:Int) a_))),(pkS code (pkA (wt.size:Int) (pkA (t_.size:Int) a_)) (pkS code (pkA (t_.size:Int) a_) (pkS code a_ sd_ (t_.size:Int)) (wt.size:Int)) 3),rfl,(by exact hA.trans ((Qpq (by omega) (by omega)).trans (congrArg _ (QsT ‹_› ‹_›)))),by omega,(by simp only[aV,aR,XZ]; omega),by omega,rfl⟩ (by omega) ?_
 exact wo [(0,0)]
 have hb17':=a8 hb17
 refine w_ ?_
 refine dv [io 57 (lf (dS t_)),io 58 (lI (pkV code a_ sd_ (t_.size:Int))),io 59 (lf (dS (t_.extract 0 (pkV code a_ sd_ (t_.size:Int)).toNat))),io 60 (lf (dS (⟨#[c13]⟩:ByteArray))),io 61 (lf (dS ((t_.extract 0 (pkV code a_ sd_ (t_.size:Int)).toNat)++(⟨#[c13]⟩:ByteArray)))),io 62 (lf (dS t_)),io 63 (lI (pkV code a_ sd_ (t_.size:Int))),io 64 (lI ((pkV code a_ sd_ (t_.size:Int))+1)),io 65 (lf (dS (t_.extract ((pkV code a_ sd_ (t_.size:Int))+1).toNat t_.size))),io 66 (lf (dS (((t_.extract 0 (pkV code a_ sd_ (t_.size:Int)).toNat)++(⟨#[c13]⟩:ByteArray))++(t_.extract ((pkV code a_ sd_ (t_.size:Int))+1).toNat t_.size)))),io 1 (lf (dS (((t_.extract 0 (pkV code a_ sd_ (t_.size:Int)).toNat)++(⟨#[c13]⟩:ByteArray))++(t_.extract ((pkV code a_ sd_ (t_.size:Int))+1).toNat t_.size))))] [0,0,3,0,15,0,0,64,224,511,1023] mixed rfl (by kernel_rfl) ⟨dxm rfl rfl,dxm rfl rfl,fun _ h_=>ac (show Does _ _ _ _ (St.put _ 59 (lf (dS (t_.extract 0 (pkV code a_ sd_ (t_.size:Int)).toNat)))) from ZW (l:=none) (h:=(some (pkV code a_ sd_ (t_.size:Int)))) (h_.v rfl) (by exact trivial) (by exact (h_.v rfl)) ZS rfl (by first | omega | (simp only[ao,ak]; omega)) (by first | omega | (simp only[ao,ak]; omega)) (by first | omega | (simp only[ao,ak]; omega))) rfl,dxm rfl rfl,fun _ h_=>ac (Z9 (h_.v rfl) (h_.v rfl) rfl (by first | omega | (simp only[aV,aR,XZ]; omega))) rfl,dxm rfl rfl,dxm rfl rfl,fun _ h_=>ac (Xb (h_.v rfl) (Qv rfl) rfl (by omega)) rfl,fun _ h_=>ac (show Does _ _ _ _ (St.put _ 65 (lf (dS (t_.extract ((pkV code a_ sd_ (t_.size:Int))+1).toNat t_.size)))) from ZW (l:=(some ((pkV code a_ sd_ (t_.size:Int))+1))) (h:=none) (h_.v rfl) (by exact (h_.v rfl)) (by exact trivial) ZS rfl (by first | omega | (simp only[ao,ak]; omega)) (by first | omega | (simp only[ao,ak]; omega)) (by first | omega | (simp only[ao,ak]; omega))) rfl,fun _ h_=>ac (Z9 (h_.v rfl) (h_.v rfl) rfl (by first | omega | (simp only[aV,aR,XZ]; omega))) rfl,dxt rfl rfl,⟨⟩⟩ ?_
 iterate 5 refine w_ ?_
 refine Qm<|QV ⟨(n_ - 1),(((t_.extract 0 (pkV code a_ sd_ (t_.size:Int)).toNat)++(⟨#[c13]⟩:ByteArray))++(t_.extract ((pkV code a_ sd_ (t_.size:Int))+1).toNat t_.size)),(pkA 3 (pkA (wt.size:Int) (pkA (t_.size:Int) a_))),(pkS code (pkA (wt.size:Int) (pkA (t_.size:Int) a_)) (pkS code (pkA (t_.size:Int) a_) (pkS code a_ sd_ (t_.size:Int)) (wt.size:Int)) 3),rfl,(by exact hA.trans ((Qpq (by omega) (by omega)).trans (congrArg _ (Qtd hwc ‹_› ‹_›)))),by omega,(by simp only[aV,aR,XZ]; omega),by omega,rfl⟩ (by omega) ?_
 exact wo [(0,0)]
 have hb16':=a8 hb16
 refine w_ ?_
 refine dv [io 46 (lf (dS t_)),io 47 (lI (pkV code a_ sd_ (t_.size:Int))),io 48 (lf (dS (t_.extract 0 (pkV code a_ sd_ (t_.size:Int)).toNat))),io 49 (lf (dS (⟨#[c13]⟩:ByteArray))),io 50 (lf (dS ((t_.extract 0 (pkV code a_ sd_ (t_.size:Int)).toNat)++(⟨#[c13]⟩:ByteArray)))),io 51 (lf (dS t_)),io 52 (lI (pkV code a_ sd_ (t_.size:Int))),io 53 (lf (dS (t_.extract (pkV code a_ sd_ (t_.size:Int)).toNat t_.size))),io 54 (lf (dS (((t_.extract 0 (pkV code a_ sd_ (t_.size:Int)).toNat)++(⟨#[c13]⟩:ByteArray))++(t_.extract (pkV code a_ sd_ (t_.size:Int)).toNat t_.size)))),io 1 (lf (dS (((t_.extract 0 (pkV code a_ sd_ (t_.size:Int)).toNat)++(⟨#[c13]⟩:ByteArray))++(t_.extract (pkV code a_ sd_ (t_.size:Int)).toNat t_.size))))] [0,0,3,0,15,0,0,96,255,511] mixed rfl (by kernel_rfl) ⟨dxm rfl rfl,dxm rfl rfl,fun _ h_=>ac (show Does _ _ _ _ (St.put _ 48 (lf (dS (t_.extract 0 (pkV code a_ sd_ (t_.size:Int)).toNat)))) from ZW (l:=none) (h:=(some (pkV code a_ sd_ (t_.size:Int)))) (h_.v rfl) (by exact trivial) (by exact (h_.v rfl)) ZS rfl (by first | omega | (simp only[ao,ak]; omega)) (by first | omega | (simp only[ao,ak]; omega)) (by first | omega | (simp only[ao,ak]; omega))) rfl,dxm rfl rfl,fun _ h_=>ac (Z9 (h_.v rfl) (h_.v rfl) rfl (by first | omega | (simp only[aV,aR,XZ]; omega))) rfl,dxm rfl rfl,dxm rfl rfl,fun _ h_=>ac (show Does _ _ _ _ (St.put _ 53 (lf (dS (t_.extract (pkV code a_ sd_ (t_.size:Int)).toNat t_.size)))) from ZW (l:=(some (pkV code a_ sd_ (t_.size:Int)))) (h:=none) (h_.v rfl) (by exact (h_.v rfl)) (by exact trivial) ZS rfl (by first | omega | (simp only[ao,ak]; omega)) (by first | omega | (simp only[ao,ak]; omega)) (by first | omega | (simp only[ao,ak]; omega))) rfl,fun _ h_=>ac (Z9 (h_.v rfl) (h_.v rfl) rfl (by first | omega | (simp only[aV,aR,XZ]; omega))) rfl,dxt rfl rfl,⟨⟩⟩ ?_
 iterate 5 refine w_ ?_
 refine Qm<|QV ⟨(n_ - 1),(((t_.extract 0 (pkV code a_ sd_ (t_.size:Int)).toNat)++(⟨#[c13]⟩:ByteArray))++(t_.extract (pkV code a_ sd_ (t_.size:Int)).toNat t_.size)),(pkA 3 (pkA (wt.size:Int) (pkA (t_.size:Int) a_))),(pkS code (pkA (wt.size:Int) (pkA (t_.size:Int) a_)) (pkS code (pkA (t_.size:Int) a_) (pkS code a_ sd_ (t_.size:Int)) (wt.size:Int)) 3),rfl,(by exact hA.trans ((Qpq (by omega) (by omega)).trans (congrArg _ (Qsd hwc ‹_›)))),by omega,(by simp only[aV,aR,XZ]; omega),by omega,rfl⟩ (by omega) ?_
 exact wo [(0,0)]
end Go.Proofs.YtjaadeknhofhpaaGreat
