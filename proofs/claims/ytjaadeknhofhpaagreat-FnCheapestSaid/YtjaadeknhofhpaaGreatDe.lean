/- Walks over abstract states: the cursor of the draws. -/
import Derived.Test.YtjaadeknhofhpaaGreatBu
import Derived.Test.YtjaadeknhofhpaaGreatWz
import Derived.Test.YtjaadeknhofhpaaGreatAv
set_option linter.unusedSimpArgs false
set_option linter.unusedVariables false
set_option linter.unusedSectionVars false
namespace Go.Proofs.YtjaadeknhofhpaaGreat
open Go.RowKit
set_option maxRecDepth 100000
set_option maxHeartbeats 4000000
def nxB (code:List UInt8)(at_:Int):Int:=if at_ < (code.length:Int) then ((((code[at_.toNat]?).getD 0).toNat:Nat):Int) else 0
def nxS (code:List UInt8)(at_ sd:Int):Int:=IntKind.u64.wrap (IntKind.u64.wrap (IntKind.u64.wrap (sd*6364136223846793005)+nxB code at_)+1442695040888963407)
def nxV (code:List UInt8)(at_ sd:Int):Int:=if at_+1≤(code.length:Int) then nxB code at_ else bits .and .u64 (nxS code at_ sd / 2 ^ 40) 255
def pkV (code:List UInt8)(at_ sd n:Int):Int:=if n≤1 then 0 else if 200 < n then (nxV code at_ sd*256+nxV code (at_+1) (nxS code at_ sd)) % n else nxV code at_ sd % n
def pkA (n at_:Int):Int:=if n≤1 then at_ else if 200 < n then at_+1+1 else at_+1
def pkS (code:List UInt8)(at_ sd n:Int):Int:=if n≤1 then sd else if 200 < n then nxS code (at_+1) (nxS code at_ sd) else nxS code at_ sd
section
variable {code:List UInt8}{at_ sd n:Int}{c:UInt8}
theorem Qq7 (code:List UInt8)(at_:Int):0≤nxB code at_∧nxB code at_≤255:=by
  unfold nxB
  split
  · have : ((code[at_.toNat]?).getD 0).toNat < 256 := UInt8.toNat_lt _
    omega
  · omega
theorem Qsk (code:List UInt8)(at_ sd:Int):0≤nxS code at_ sd∧nxS code at_ sd < 18446744073709551616:=UZ _
theorem QcY (code:List UInt8)(at_ sd:Int):0≤nxV code at_ sd∧nxV code at_ sd≤255:=by
  unfold nxV
  split
  · exact Qq7 ..
  · exact Qfe (Jt (Qsk ..))
theorem QcQ (h:code[at_.toNat]? =some c)(h2:at_ < (code.length:Int)):(((c.toNat:Nat):Int))=nxB code at_:=by unfold nxB; rw[if_pos h2,h]; rfl
theorem Qhm (h:¬at_ < (code.length:Int)):(0:Int)=nxB code at_:=(if_neg h).symm
theorem QlY (h:at_+1≤(code.length:Int)):nxB code at_=nxV code at_ sd:=(if_pos h).symm
theorem Qpc (h:¬at_+1≤(code.length:Int)):bits .and .u64 (nxS code at_ sd / 2 ^ 40) 255=nxV code at_ sd:=(if_neg h).symm
theorem YK (code:List UInt8)(at_ sd n:Int):(0≤pkV code at_ sd n∧(1≤n→pkV code at_ sd n < n))∧(at_≤pkA n at_∧pkA n at_≤at_+2):=by
  refine ⟨?_, ?_⟩
  · unfold pkV
    have h1:=QcY code at_ sd
    have h2:=QcY code (at_+1) (nxS code at_ sd)
    split
    · omega
    · split
      · exact ⟨Int.emod_nonneg _ (by omega),fun _=>Int.emod_lt_of_pos _ (by omega)⟩
      · exact ⟨Int.emod_nonneg _ (by omega),fun _=>Int.emod_lt_of_pos _ (by omega)⟩
  · unfold pkA
    split
    · omega
    · split <;> omega
theorem QtD (h:n≤1):pkV code at_ sd n=0∧pkA n at_=at_∧pkS code at_ sd n=sd:=⟨if_pos h,if_pos h,if_pos h⟩
theorem Qtg (h:¬n≤1)(h2:200 < n):pkV code at_ sd n=(nxV code at_ sd*256+nxV code (at_+1) (nxS code at_ sd)) % n∧pkA n at_=at_+1+1∧pkS code at_ sd n=nxS code (at_+1) (nxS code at_ sd):=by
  refine ⟨?_, ?_, ?_⟩
  · unfold pkV; rw[if_neg h,if_pos h2]
  · unfold pkA; rw[if_neg h,if_pos h2]
  · unfold pkS; rw[if_neg h,if_pos h2]
theorem QtX (h:¬n≤1)(h2:¬200 < n):pkV code at_ sd n=nxV code at_ sd % n∧pkA n at_=at_+1∧pkS code at_ sd n=nxS code at_ sd:=by
  refine ⟨?_, ?_, ?_⟩
  · unfold pkV; rw[if_neg h,if_neg h2]
  · unfold pkA; rw[if_neg h,if_neg h2]
  · unfold pkS; rw[if_neg h,if_neg h2]
end
def cuN (code:List UInt8)(c:Int×Int)(n:Int):Int×Int:=(pkA n c.1,pkS code c.1 c.2 n)
def cuV (code:List UInt8)(c:Int×Int)(n:Int):Int:=pkV code c.1 c.2 n
def spT (t w:ByteArray)(i q:Int):ByteArray:=if q=0 then t.extract 0 i.toNat++w++t.extract i.toNat t.size else if q=1 then t.extract 0 i.toNat++w++t.extract (i+1).toNat t.size else t.extract 0 i.toNat++t.extract (i+1).toNat t.size
def spW (code:List UInt8)(wt:ByteArray)(c:Int×Int):ByteArray:=⟨#[(wt[(cuV code c (wt.size:Int)).toNat]?).getD 0]⟩
def spN (code:List UInt8)(wt:ByteArray)(s:ByteArray×Int×Int):ByteArray×Int×Int:=
  let c1:=cuN code s.2 (s.1.size:Int); let c2:=cuN code c1 (wt.size:Int)
  (spT s.1 (spW code wt c1) (cuV code s.2 (s.1.size:Int)) (cuV code c2 3),cuN code c2 3)
def spG (code:List UInt8)(wt:ByteArray):Nat→ByteArray×Int×Int→ByteArray×Int×Int
  | 0,s=>s
  | n+1,s=>if 0 < s.1.size then spG code wt n (spN code wt s) else s
def spV (code:List UInt8)(wt t:ByteArray)(at_ sd:Int):ByteArray×Int×Int:=spG code wt (1+pkV code at_ sd 2).toNat (t,pkA 2 at_,pkS code at_ sd 2)
section
variable {code:List UInt8}{wt t:ByteArray}{at_ sd n q i:Int}{s:ByteArray×Int×Int}{w:ByteArray}
theorem Qqa (h:0≤i∧i < (t.size:Int))(hw:w.size=1):(spT t w i q).size≤t.size+1:=by
  unfold spT
  split
  · simp only[aU,aP,hw]; omega
  · split
    · simp only[aU,aP,hw]; omega
    · simp only[aU,aP]; omega
theorem Qr7 (h:0 < s.1.size):(spN code wt s).1.size≤s.1.size+1∧s.2.1≤(spN code wt s).2.1∧(spN code wt s).2.1≤s.2.1+6:=by
  have h1:=YK code s.2.1 s.2.2 (s.1.size:Int)
  have h2:=YK code (pkA (s.1.size:Int) s.2.1) (pkS code s.2.1 s.2.2 (s.1.size:Int)) (wt.size:Int)
  have h3:=YK code (pkA (wt.size:Int) (pkA (s.1.size:Int) s.2.1)) (pkS code (pkA (s.1.size:Int) s.2.1) (pkS code s.2.1 s.2.2 (s.1.size:Int)) (wt.size:Int)) 3
  refine ⟨Qqa ⟨h1.1.1,h1.1.2 (by omega)⟩ rfl, ?_, ?_⟩
  · show s.2.1≤pkA 3 (pkA (wt.size:Int) (pkA (s.1.size:Int) s.2.1)); omega
  · show pkA 3 (pkA (wt.size:Int) (pkA (s.1.size:Int) s.2.1))≤s.2.1+6; omega
theorem QmG:∀(k:Nat) (s:ByteArray×Int×Int),(spG code wt k s).1.size≤s.1.size+k∧s.2.1≤(spG code wt k s).2.1∧(spG code wt k s).2.1≤s.2.1+6*k
  | 0,s=>⟨aO _,Int.le_refl _,by simp[spG]⟩
  | k+1,s=>by
    rw[spG]
    split
    · rename_i h
      have h1:=Qr7 (code:=code) (wt:=wt) h
      have h2:=QmG k (spN code wt s)
      refine ⟨by omega,by omega,by omega⟩
    · exact ⟨by omega,Int.le_refl _,by omega⟩
theorem Qps {k a_ b_:Int}(hn:0 < k)(ht:0 < t.size):spG code wt k.toNat (t,a_,b_)=spG code wt (k - 1).toNat (spN code wt (t,a_,b_)):=by
  rw[show k.toNat=(k - 1).toNat+1 by omega,spG,if_pos ht]
theorem Qb4 {k a_ b_:Int}(h:k≤0∨t.size=0):spG code wt k.toNat (t,a_,b_)=(t,a_,b_):=by
  by_cases hk:k≤0
  · rw[show k.toNat=0 by omega,spG]
  · rw[show k.toNat=(k - 1).toNat+1 by omega,spG,if_neg (by show¬0 < t.size; omega)]
theorem QuC {a_ s_:Int}{c:UInt8}(hw:wt[(pkV code (pkA (t.size:Int) a_) (pkS code a_ s_ (t.size:Int)) (wt.size:Int)).toNat]? =some c)(hq:pkV code (pkA (wt.size:Int) (pkA (t.size:Int) a_)) (pkS code (pkA (t.size:Int) a_) (pkS code a_ s_ (t.size:Int)) (wt.size:Int)) 3=0):
    spN code wt (t,a_,s_)=(t.extract 0 (pkV code a_ s_ (t.size:Int)).toNat++(⟨#[c]⟩:ByteArray)++t.extract (pkV code a_ s_ (t.size:Int)).toNat t.size,pkA 3 (pkA (wt.size:Int) (pkA (t.size:Int) a_)),pkS code (pkA (wt.size:Int) (pkA (t.size:Int) a_)) (pkS code (pkA (t.size:Int) a_) (pkS code a_ s_ (t.size:Int)) (wt.size:Int)) 3):=by
  unfold spN spT spW cuV cuN
  dsimp only
  rw[if_pos hq,hw]; rfl
theorem Qui {a_ s_:Int}{c:UInt8}(hw:wt[(pkV code (pkA (t.size:Int) a_) (pkS code a_ s_ (t.size:Int)) (wt.size:Int)).toNat]? =some c)(hq0:¬pkV code (pkA (wt.size:Int) (pkA (t.size:Int) a_)) (pkS code (pkA (t.size:Int) a_) (pkS code a_ s_ (t.size:Int)) (wt.size:Int)) 3=0)
    (hq:pkV code (pkA (wt.size:Int) (pkA (t.size:Int) a_)) (pkS code (pkA (t.size:Int) a_) (pkS code a_ s_ (t.size:Int)) (wt.size:Int)) 3=1):
    spN code wt (t,a_,s_)=(t.extract 0 (pkV code a_ s_ (t.size:Int)).toNat++(⟨#[c]⟩:ByteArray)++t.extract (pkV code a_ s_ (t.size:Int)+1).toNat t.size,pkA 3 (pkA (wt.size:Int) (pkA (t.size:Int) a_)),pkS code (pkA (wt.size:Int) (pkA (t.size:Int) a_)) (pkS code (pkA (t.size:Int) a_) (pkS code a_ s_ (t.size:Int)) (wt.size:Int)) 3):=by
  unfold spN spT spW cuV cuN
  dsimp only
  rw[if_neg hq0,if_pos hq,hw]; rfl
theorem Qur {a_ s_:Int}(hq0:¬pkV code (pkA (wt.size:Int) (pkA (t.size:Int) a_)) (pkS code (pkA (t.size:Int) a_) (pkS code a_ s_ (t.size:Int)) (wt.size:Int)) 3=0)
    (hq:¬pkV code (pkA (wt.size:Int) (pkA (t.size:Int) a_)) (pkS code (pkA (t.size:Int) a_) (pkS code a_ s_ (t.size:Int)) (wt.size:Int)) 3=1):
    spN code wt (t,a_,s_)=(t.extract 0 (pkV code a_ s_ (t.size:Int)).toNat++t.extract (pkV code a_ s_ (t.size:Int)+1).toNat t.size,pkA 3 (pkA (wt.size:Int) (pkA (t.size:Int) a_)),pkS code (pkA (wt.size:Int) (pkA (t.size:Int) a_)) (pkS code (pkA (t.size:Int) a_) (pkS code a_ s_ (t.size:Int)) (wt.size:Int)) 3):=by
  unfold spN spT cuV cuN
  dsimp only
  rw[if_neg hq0,if_neg hq]
theorem QtF (code:List UInt8)(wt t:ByteArray)(at_ sd:Int):(spV code wt t at_ sd).1.size≤t.size+2∧at_≤(spV code wt t at_ sd).2.1∧(spV code wt t at_ sd).2.1≤at_+14:=by
  have h1:=YK code at_ sd 2
  have h2:=QmG (code:=code) (wt:=wt) (1+pkV code at_ sd 2).toNat (t,pkA 2 at_,pkS code at_ sd 2)
  have h3:(1+pkV code at_ sd 2).toNat≤2:=by have:=h1.1.2 (by decide); omega
  unfold spV
  dsimp only at h2
  refine ⟨by omega,by omega,by omega⟩
end
theorem VZ (code:List UInt8)(at_:Int)(sd:Int)(ha:0≤at_∧at_≤1000000000):FC Tryz.prog 186 [(false,[.ptr 0 0])] [(0,some (.box 121 [.dat Zn code,dI at_, .val (.int .u64 sd)]))] 1 (Is (lI (nxV code at_ sd)) [(0,some (.box 121 [.dat Zn code,dI (at_+1), .val (.int .u64 (nxS code at_ sd))]))]):=by
 refine Qy Tryz.func186 rfl rfl Tryz.ntmps186 fun O_ hO w0_ N0_ X_ h0_ f0_=> ?_
 iterate 7 refine w_ ?_
 apply dW [io 4 _,io 5 _,io 6 _,io 7 _,io 8 _,io 9 _,io 10 _,io 11 _,io 12 _,io 13 _] [0,0,0,0,15,15,15,15,15,0]
 iterate 10 refine z_ ?_
 exact zN
 cases hb1:(decide (at_ < (code.length:Int)))
 have hb1':=a6 hb1
 iterate 7 refine w_ ?_
 refine AL.fact (Ql (x:= .tmp 28) (Qa rfl)) fun hi2=> ?_
 iterate 11 refine w_ ?_
 refine lc (Qft (Qa rfl) Evl.val rfl) ?_
 refine w_ ?_
 refine lc (Ku (Qa rfl) Hy QcS (by omega) rfl)<|lc (JN (Qa rfl) (Qa rfl) rfl)<|lc (JN (Qa rfl) Evl.val rfl) ?_
 iterate 5 refine w_ ?_
 apply dW [io 44 _,io 45 _,io 46 _,io 47 _,io 48 _,io 49 _,io 50 _,io 51 _,io 52 _,io 53 _] [0,0,0,0,15,15,15,15,15,0]
 iterate 10 refine z_ ?_
 exact zN
 cases hb3:(decide ((at_+1)≤(code.length:Int)))
 have hb3':=a6 hb3
 iterate 7 refine w_ ?_
 refine lc (QfG (Qa rfl) Evl.val rfl (by omega))<|lc (QfR (Qa rfl) Evl.val rfl)<|lc (HK (Qa rfl) QcS Hy (by first | omega | exact ⟨(Qfe (Jt (UZ _))).1,Int.le_trans (Qfe (Jt (UZ _))).2 (by decide)⟩) rfl) ?_
 iterate 3 refine w_ ?_
 subst hO
 have e4:((bits .and .u64 ((IntKind.u64.wrap ((IntKind.u64.wrap ((IntKind.u64.wrap (sd*(6364136223846793005:Int)))+(0:Int)))+(1442695040888963407:Int))) / 2 ^ (40:Int).toNat) (255:Int)):Int)=(nxV code at_ sd):=by
  (rw[← Qpc ‹_›,nxS,← Qhm ‹_›]; rfl)
 exact QF _ _ [] (Res.one rfl (Qb rfl)) (by rw[e4] <;> rfl) ⟨((congrArg (fun z_:Int=>some (Ent.box 121 [.dat Zn code,dI (at_+1), .val (.int .u64 z_)])) (show ((IntKind.u64.wrap ((IntKind.u64.wrap ((IntKind.u64.wrap (sd*(6364136223846793005:Int)))+(0:Int)))+(1442695040888963407:Int))):Int)=(nxS code at_ sd) by (unfold nxS; rw[← Qhm ‹_›])))),trivial⟩ rfl rfl
 have hb3':=a7 hb3
 iterate 6 refine w_ ?_
 subst hO
 have e5:(0:Int)=(nxV code at_ sd):=by
  (rw[Qhm ‹_›]; exact QlY ‹_›)
 exact QF _ _ [] (Res.one rfl (Qb rfl)) (by rw[← e5] <;> rfl) ⟨((congrArg (fun z_:Int=>some (Ent.box 121 [.dat Zn code,dI (at_+1), .val (.int .u64 z_)])) (show ((IntKind.u64.wrap ((IntKind.u64.wrap ((IntKind.u64.wrap (sd*(6364136223846793005:Int)))+(0:Int)))+(1442695040888963407:Int))):Int)=(nxS code at_ sd) by (unfold nxS; rw[← Qhm ‹_›])))),trivial⟩ rfl rfl
 have hb1':=a7 hb1
 refine w_ ?_
 obtain ⟨cb,hx7⟩:=gx code ((at_).toNat)
 have hcb:=hx7
 have hcl:cb.toNat < 256:=UInt8.toNat_lt _
 apply dZ [io 14 _,io 15 _,io 16 _,io 17 _,io 18 _,io 19 _,io 20 _,io 21 _,io 22 _,io 23 _,io 24 (lI (cb.toNat:Int)),io 3 _] [0,0,0,0,15,15,15,15,0,0,0,0]
 iterate 10 refine z_ ?_
 refine zz (fun _ h_=>ac (Qm8 (h_.v rfl) Ve Hy rfl) rfl) ?_
 refine z_ ?_
 exact zN
 iterate 5 refine w_ ?_
 refine AL.fact (Ql (x:= .tmp 28) (Qa rfl)) fun hi8=> ?_
 iterate 11 refine w_ ?_
 refine lc (Qft (Qa rfl) Evl.val rfl) ?_
 refine w_ ?_
 refine lc (Ku (Qa rfl) Hy QcS (by omega) rfl)<|lc (JN (Qa rfl) (Qa rfl) rfl)<|lc (JN (Qa rfl) Evl.val rfl) ?_
 iterate 5 refine w_ ?_
 apply dW [io 44 _,io 45 _,io 46 _,io 47 _,io 48 _,io 49 _,io 50 _,io 51 _,io 52 _,io 53 _] [0,0,0,0,15,15,15,15,15,0]
 iterate 10 refine z_ ?_
 exact zN
 cases hb9:(decide ((at_+1)≤(code.length:Int)))
 have hb9':=a6 hb9
 iterate 7 refine w_ ?_
 refine lc (QfG (Qa rfl) Evl.val rfl (by omega))<|lc (QfR (Qa rfl) Evl.val rfl)<|lc (HK (Qa rfl) QcS Hy (by first | omega | exact ⟨(Qfe (Jt (UZ _))).1,Int.le_trans (Qfe (Jt (UZ _))).2 (by decide)⟩) rfl) ?_
 iterate 3 refine w_ ?_
 subst hO
 have e10:((bits .and .u64 ((IntKind.u64.wrap ((IntKind.u64.wrap ((IntKind.u64.wrap (sd*(6364136223846793005:Int)))+(cb.toNat:Int)))+(1442695040888963407:Int))) / 2 ^ (40:Int).toNat) (255:Int)):Int)=(nxV code at_ sd):=by
  (rw[← Qpc ‹_›,nxS,← QcQ hcb ‹_›]; rfl)
 exact QF _ _ [] (Res.one rfl (Qb rfl)) (by rw[e10] <;> rfl) ⟨((congrArg (fun z_:Int=>some (Ent.box 121 [.dat Zn code,dI (at_+1), .val (.int .u64 z_)])) (show ((IntKind.u64.wrap ((IntKind.u64.wrap ((IntKind.u64.wrap (sd*(6364136223846793005:Int)))+(cb.toNat:Int)))+(1442695040888963407:Int))):Int)=(nxS code at_ sd) by (unfold nxS; rw[← QcQ hcb ‹_›])))),trivial⟩ rfl rfl
 have hb9':=a7 hb9
 iterate 6 refine w_ ?_
 subst hO
 have e11:((cb.toNat:Int):Int)=(nxV code at_ sd):=by
  (rw[QcQ hcb ‹_›]; exact QlY ‹_›)
 exact QF _ _ [] (Res.one rfl (Qb rfl)) (by rw[e11] <;> rfl) ⟨((congrArg (fun z_:Int=>some (Ent.box 121 [.dat Zn code,dI (at_+1), .val (.int .u64 z_)])) (show ((IntKind.u64.wrap ((IntKind.u64.wrap ((IntKind.u64.wrap (sd*(6364136223846793005:Int)))+(cb.toNat:Int)))+(1442695040888963407:Int))):Int)=(nxS code at_ sd) by (unfold nxS; rw[← QcQ hcb ‹_›])))),trivial⟩ rfl rfl
theorem QX (code:List UInt8)(at_:Int)(sd:Int)(n:Int)(ha:0≤at_∧at_≤999999000):FC Tryz.prog 96 [(false,[.ptr 0 0]),(false,[dI n])] [(0,some (.box 121 [.dat Zn code,dI at_, .val (.int .u64 sd)]))] 1 (Is (lI (pkV code at_ sd n)) [(0,some (.box 121 [.dat Zn code,dI (pkA n at_), .val (.int .u64 (pkS code at_ sd n))]))]):=by
 refine Qy Tryz.func96 rfl rfl Tryz.ntmps96 fun O_ hO w0_ N0_ X_ h0_ f0_=> ?_
 refine AC.fact (Ql (x:= .tmp 1) (Qa rfl)) fun hi1=> ?_
 iterate 8 refine w_ ?_
 cases hb2:(decide (n≤1))
 have hb2':=a6 hb2
 iterate 4 refine w_ ?_
 have hp3:=QcY code at_ sd
 refine lc (dP 1 [] (VZ code at_ sd (by omega)) Qec) ?_
 iterate 7 refine w_ ?_
 cases hb4:(decide (200 < n))
 have hb4':=a6 hb4
 iterate 5 refine w_ ?_
 refine lc (QeS (Qa rfl) (Qa rfl) rfl (by omega) (by omega)) ?_
 iterate 3 refine w_ ?_
 subst hO
 have e5:((nxV code at_ sd) % n:Int)=(pkV code at_ sd n):=by
  exact (QtX (code:=code) (sd:=sd) (at_:=at_) ‹_› ‹_›).1.symm
 exact QF _ _ [] (Res.one rfl (Qb rfl)) (by rw[e5] <;> rfl) ⟨(((congrArg (fun z_=>some (Ent.box 121 [.dat Zn code,dI z_, .val (.int .u64 (nxS code at_ sd))])) (show ((at_+1):Int)=(pkA n at_) by exact (QtX (code:=code) (sd:=sd) (at_:=at_) ‹_› ‹_›).2.1.symm))).trans (congrArg (fun z_:Int=>some (Ent.box 121 [.dat Zn code,dI (pkA n at_), .val (.int .u64 z_)])) (show ((nxS code at_ sd):Int)=(pkS code at_ sd n) by exact (QtX (code:=code) (sd:=sd) (at_:=at_) ‹_› ‹_›).2.2.symm))),trivial⟩ rfl rfl
 have hb4':=a7 hb4
 iterate 3 refine w_ ?_
 refine lc (W6 (Qa rfl) (Qu rfl) rfl (by omega)) ?_
 refine w_ ?_
 have hp6:=QcY code (at_+1) (nxS code at_ sd)
 refine lc (dP 2 [] (VZ code (at_+1) (nxS code at_ sd) (by omega)) Qec) ?_
 iterate 6 refine w_ ?_
 refine lc (QeS (Qa rfl) (Qa rfl) rfl (by omega) (by omega)) ?_
 iterate 3 refine w_ ?_
 subst hO
 have e7:((((nxV code at_ sd)*256)+(nxV code (at_+1) (nxS code at_ sd))) % n:Int)=(pkV code at_ sd n):=by
  exact (Qtg (code:=code) (sd:=sd) (at_:=at_) ‹_› ‹_›).1.symm
 exact QF _ _ [] (Res.one rfl (Qb rfl)) (by rw[e7] <;> rfl) ⟨(((congrArg (fun z_=>some (Ent.box 121 [.dat Zn code,dI z_, .val (.int .u64 (nxS code (at_+1) (nxS code at_ sd)))])) (show (((at_+1)+1):Int)=(pkA n at_) by exact (Qtg (code:=code) (sd:=sd) (at_:=at_) ‹_› ‹_›).2.1.symm))).trans (congrArg (fun z_:Int=>some (Ent.box 121 [.dat Zn code,dI (pkA n at_), .val (.int .u64 z_)])) (show ((nxS code (at_+1) (nxS code at_ sd)):Int)=(pkS code at_ sd n) by exact (Qtg (code:=code) (sd:=sd) (at_:=at_) ‹_› ‹_›).2.2.symm))),trivial⟩ rfl rfl
 have hb2':=a7 hb2
 iterate 5 refine w_ ?_
 subst hO
 have e8:(0:Int)=(pkV code at_ sd n):=by
  exact (QtD (code:=code) (sd:=sd) (at_:=at_) ‹_›).1.symm
 exact QF _ _ [] (Res.one rfl (Qb rfl)) (by rw[← e8] <;> rfl) ⟨(((congrArg (fun z_=>some (Ent.box 121 [.dat Zn code,dI z_, .val (.int .u64 sd)])) (show (at_:Int)=(pkA n at_) by exact (QtD (code:=code) (sd:=sd) (at_:=at_) ‹_›).2.1.symm))).trans (congrArg (fun z_:Int=>some (Ent.box 121 [.dat Zn code,dI (pkA n at_), .val (.int .u64 z_)])) (show (sd:Int)=(pkS code at_ sd n) by exact (QtD (code:=code) (sd:=sd) (at_:=at_) ‹_›).2.2.symm))),trivial⟩ rfl rfl
theorem Wy (code:List UInt8)(at_:Int)(sd:Int)(n:Int)(ha:0≤at_∧at_≤999999000):FC Tryz.prog 95 [(false,[.ptr 0 0]),(false,[dI n])] [(0,some (.box 121 [.dat Zn code,dI at_, .val (.int .u64 sd)]))] 1 (Is (lB (decide (pkV code at_ sd n=0))) [(0,some (.box 121 [.dat Zn code,dI (pkA n at_), .val (.int .u64 (pkS code at_ sd n))]))]):=by
 refine Qy Tryz.func95 rfl rfl Tryz.ntmps95 fun O_ hO w0_ N0_ X_ h0_ f0_=> ?_
 refine AC.fact (Ql (x:= .tmp 1) (Qa rfl)) fun hi1=> ?_
 iterate 6 refine w_ ?_
 have hp2:=YK code at_ sd n
 refine lc (dP 1 [] (QX code at_ sd n (by omega)) Yk) ?_
 iterate 4 refine w_ ?_
 subst hO
 have e3:(decide ((pkV code at_ sd n)=0):Bool)=(decide (pkV code at_ sd n=0)):=by
  rfl
 exact QF _ _ [] (Res.one rfl (Qb rfl)) (by rw[e3] <;> rfl) ⟨rfl,trivial⟩ rfl rfl
theorem Ji (code:List UInt8)(at_:Int)(sd:Int)(t:ByteArray)(wt:ByteArray)(ha:0≤at_∧at_≤900000000)(hs:t.size≤100000∧1≤wt.size):FC Tryz.prog 162 [(false,[.ptr 0 0]),(false,[dS t]),(false,[dS wt])] [(0,some (.box 121 [.dat Zn code,dI at_, .val (.int .u64 sd)]))] 1 (Is (lf (dS ((spV code wt t at_ sd).1))) [(0,some (.box 121 [.dat Zn code,dI ((spV code wt t at_ sd).2.1), .val (.int .u64 ((spV code wt t at_ sd).2.2))]))]):=by
 refine Qy Tryz.func162 rfl rfl Tryz.ntmps162 fun O_ hO w0_ N0_ X_ h0_ f0_=> ?_
 iterate 6 refine w_ ?_
 have hp1:=YK code at_ sd 2
 refine lc (dP 1 [] (QX code at_ sd 2 (by omega)) Yk) ?_
 iterate 4 refine w_ ?_
 refine Qm (fun m_ s_=>∃(n_:Int) (t_:ByteArray) (a_:Int) (sd_:Int),m_=n_.toNat∧((spV code wt t at_ sd)=spG code wt n_.toNat (t_,a_,sd_))∧(0≤n_∧n_≤2)∧((t_.size:Int)+n_≤(t.size:Int)+2)∧(at_≤a_∧a_+6*n_≤at_+14)∧s_=⟨[(0,lP 0 0),(1,lf (dS t_)),(2,lf (dS wt)),(6,lf (dS (⟨#[]⟩:ByteArray))),(7,lI n_)],[(0,some (.box 121 [.dat Zn code,dI a_, .val (.int .u64 sd_)]))]⟩) ⟨1+(pkV code at_ sd 2),t,(pkA 2 at_),(pkS code at_ sd 2),rfl,rfl,by omega,by omega,by omega,rfl⟩ ?_ ?_
 exact wo []
 rintro m_ s_ ⟨n_,t_,a_,sd_,hm3,hA,hn,ht,hb,rfl⟩
 iterate 5 refine w_ ?_
 cases hb4:(decide (0 < n_))
 have hb4':=a6 hb4
 iterate 13 refine w_ ?_
 subst hO
 have e5:(t_:ByteArray)=((spV code wt t at_ sd).1):=by
  (rw[hA,Qb4 (by omega)])
 exact QF _ _ [] (Res.one rfl (Qb rfl)) (by rw[← e5] <;> rfl) ⟨(((congrArg (fun z_=>some (Ent.box 121 [.dat Zn code,dI z_, .val (.int .u64 sd_)])) (show (a_:Int)=((spV code wt t at_ sd).2.1) by (rw[hA,Qb4 (by omega)])))).trans (congrArg (fun z_:Int=>some (Ent.box 121 [.dat Zn code,dI ((spV code wt t at_ sd).2.1), .val (.int .u64 z_)])) (show (sd_:Int)=((spV code wt t at_ sd).2.2) by (rw[hA,Qb4 (by omega)])))),trivial⟩ rfl rfl
 have hb4':=a7 hb4
 refine w_ ?_
 refine AL.fact (Z4 (x:= .tmp 16) (Qa rfl)) fun hl6=>lgy rfl rfl (ZO (Qa rfl) rfl Zo) ?_
 iterate 3 refine w_ ?_
 cases hb7:(decide (0 < (t_.size:Int)))
 have hb7':=a6 hb7
 iterate 8 refine w_ ?_
 subst hO
 have e8:(t_:ByteArray)=((spV code wt t at_ sd).1):=by
  (rw[hA,Qb4 (by omega)])
 exact QF _ _ [] (Res.one rfl (Qb rfl)) (by rw[← e8] <;> rfl) ⟨(((congrArg (fun z_=>some (Ent.box 121 [.dat Zn code,dI z_, .val (.int .u64 sd_)])) (show (a_:Int)=((spV code wt t at_ sd).2.1) by (rw[hA,Qb4 (by omega)])))).trans (congrArg (fun z_:Int=>some (Ent.box 121 [.dat Zn code,dI ((spV code wt t at_ sd).2.1), .val (.int .u64 z_)])) (show (sd_:Int)=((spV code wt t at_ sd).2.2) by (rw[hA,Qb4 (by omega)])))),trivial⟩ rfl rfl
 have hb7':=a7 hb7
 iterate 7 refine w_ ?_
 refine AL.fact (Z4 (x:= .tmp 23) (Qa rfl)) fun hl9=>lc (ZO (Qa rfl) rfl Zo) ?_
 have hp10:=YK code a_ sd_ (t_.size:Int)
 refine lc (dP 2 [] (QX code a_ sd_ (t_.size:Int) (by omega)) Yk) ?_
 iterate 6 refine w_ ?_
 refine AL.fact (Z4 (x:= .tmp 28) (Qa rfl)) fun hl11=>lc (ZO (Qa rfl) rfl Zo) ?_
 have hp12:=YK code (pkA (t_.size:Int) a_) (pkS code a_ sd_ (t_.size:Int)) (wt.size:Int)
 refine lc (dP 3 [] (QX code (pkA (t_.size:Int) a_) (pkS code a_ sd_ (t_.size:Int)) (wt.size:Int) (by omega)) Yk) ?_
 obtain ⟨c13,hc14⟩:=gs wt ((pkV code (pkA (t_.size:Int) a_) (pkS code a_ sd_ (t_.size:Int)) (wt.size:Int)).toNat)
 have hwc:=hc14
 refine w_ ?_
 refine lc (dBs 4 (e:= .u8) Qdl) ?_
 refine lc (Zt (ys:=[c13]) (YS (Qa rfl) rfl) ZF Ve Zo rfl) ?_
 iterate 4 refine w_ ?_
 have hp15:=YK code (pkA (wt.size:Int) (pkA (t_.size:Int) a_)) (pkS code (pkA (t_.size:Int) a_) (pkS code a_ sd_ (t_.size:Int)) (wt.size:Int)) 3
 refine lc (dP 5 [] (QX code (pkA (wt.size:Int) (pkA (t_.size:Int) a_)) (pkS code (pkA (t_.size:Int) a_) (pkS code a_ sd_ (t_.size:Int)) (wt.size:Int)) 3 (by omega)) Yk) ?_
 iterate 6 refine w_ ?_
 cases hb16:(decide ((pkV code (pkA (wt.size:Int) (pkA (t_.size:Int) a_)) (pkS code (pkA (t_.size:Int) a_) (pkS code a_ sd_ (t_.size:Int)) (wt.size:Int)) 3)=0))
 have hb16':=a6 hb16
 iterate 5 refine w_ ?_
 cases hb17:(decide ((pkV code (pkA (wt.size:Int) (pkA (t_.size:Int) a_)) (pkS code (pkA (t_.size:Int) a_) (pkS code a_ sd_ (t_.size:Int)) (wt.size:Int)) 3)=1))
 have hb17':=a6 hb17
 refine w_ ?_
 apply dV [io 36 _,io 37 _,io 38 (lf (dS (t_.extract 0 (pkV code a_ sd_ (t_.size:Int)).toNat))),io 39 _,io 40 _,io 41 _,io 42 (lf (dS (t_.extract ((pkV code a_ sd_ (t_.size:Int))+1).toNat t_.size))),io 43 (lf (dS ((t_.extract 0 (pkV code a_ sd_ (t_.size:Int)).toNat)++(t_.extract ((pkV code a_ sd_ (t_.size:Int))+1).toNat t_.size)))),io 1 _] [0,1,0,7,15,15,7,0,0]
 iterate 2 refine z_ ?_
 refine zz (fun _ h_=>ac (show Does _ _ _ _ (St.put _ 38 (lf (dS (t_.extract 0 (pkV code a_ sd_ (t_.size:Int)).toNat)))) from Zm (l:=none) (h:=(some (pkV code a_ sd_ (t_.size:Int)))) (h_.v rfl) (by exact trivial) (by exact (h_.v rfl)) Zo rfl (by first | omega | (simp only[aj,ae]; omega)) (by first | omega | (simp only[aj,ae]; omega)) (by first | omega | (simp only[aj,ae]; omega))) rfl) ?_
 iterate 3 refine z_ ?_
 refine zz (fun _ h_=>ac (show Does _ _ _ _ (St.put _ 42 (lf (dS (t_.extract ((pkV code a_ sd_ (t_.size:Int))+1).toNat t_.size)))) from Zm (l:=(some ((pkV code a_ sd_ (t_.size:Int))+1))) (h:=none) (h_.v rfl) (by exact (h_.v rfl)) (by exact trivial) Zo rfl (by first | omega | (simp only[aj,ae]; omega)) (by first | omega | (simp only[aj,ae]; omega)) (by first | omega | (simp only[aj,ae]; omega))) rfl)<|zz (fun _ h_=>ac (ZR (h_.v rfl) (h_.v rfl) rfl (by first | omega | (simp only[aU,aP,X5]; omega))) rfl) ?_
 refine z_ ?_
 exact zN
 iterate 5 refine w_ ?_
 refine Qc<|QE ⟨(n_ - 1),((t_.extract 0 (pkV code a_ sd_ (t_.size:Int)).toNat)++(t_.extract ((pkV code a_ sd_ (t_.size:Int))+1).toNat t_.size)),(pkA 3 (pkA (wt.size:Int) (pkA (t_.size:Int) a_))),(pkS code (pkA (wt.size:Int) (pkA (t_.size:Int) a_)) (pkS code (pkA (t_.size:Int) a_) (pkS code a_ sd_ (t_.size:Int)) (wt.size:Int)) 3),rfl,(by exact hA.trans ((Qps (by omega) (by omega)).trans (congrArg _ (Qur ‹_› ‹_›)))),by omega,(by simp only[aU,aP,X5]; omega),by omega,rfl⟩ (by omega) ?_
 exact wo []
 have hb17':=a7 hb17
 refine w_ ?_
 apply dV [io 57 _,io 58 _,io 59 (lf (dS (t_.extract 0 (pkV code a_ sd_ (t_.size:Int)).toNat))),io 60 _,io 61 (lf (dS ((t_.extract 0 (pkV code a_ sd_ (t_.size:Int)).toNat)++(⟨#[c13]⟩:ByteArray)))),io 62 _,io 63 _,io 64 _,io 65 (lf (dS (t_.extract ((pkV code a_ sd_ (t_.size:Int))+1).toNat t_.size))),io 66 (lf (dS (((t_.extract 0 (pkV code a_ sd_ (t_.size:Int)).toNat)++(⟨#[c13]⟩:ByteArray))++(t_.extract ((pkV code a_ sd_ (t_.size:Int))+1).toNat t_.size)))),io 1 _] [0,1,0,7,0,31,63,63,31,0,0]
 iterate 2 refine z_ ?_
 refine zz (fun _ h_=>ac (show Does _ _ _ _ (St.put _ 59 (lf (dS (t_.extract 0 (pkV code a_ sd_ (t_.size:Int)).toNat)))) from Zm (l:=none) (h:=(some (pkV code a_ sd_ (t_.size:Int)))) (h_.v rfl) (by exact trivial) (by exact (h_.v rfl)) Zo rfl (by first | omega | (simp only[aj,ae]; omega)) (by first | omega | (simp only[aj,ae]; omega)) (by first | omega | (simp only[aj,ae]; omega))) rfl) ?_
 refine z_ ?_
 refine zz (fun _ h_=>ac (ZR (h_.v rfl) (h_.v rfl) rfl (by first | omega | (simp only[aU,aP,X5]; omega))) rfl) ?_
 iterate 3 refine z_ ?_
 refine zz (fun _ h_=>ac (show Does _ _ _ _ (St.put _ 65 (lf (dS (t_.extract ((pkV code a_ sd_ (t_.size:Int))+1).toNat t_.size)))) from Zm (l:=(some ((pkV code a_ sd_ (t_.size:Int))+1))) (h:=none) (h_.v rfl) (by exact (h_.v rfl)) (by exact trivial) Zo rfl (by first | omega | (simp only[aj,ae]; omega)) (by first | omega | (simp only[aj,ae]; omega)) (by first | omega | (simp only[aj,ae]; omega))) rfl)<|zz (fun _ h_=>ac (ZR (h_.v rfl) (h_.v rfl) rfl (by first | omega | (simp only[aU,aP,X5]; omega))) rfl) ?_
 refine z_ ?_
 exact zN
 iterate 5 refine w_ ?_
 refine Qc<|QE ⟨(n_ - 1),(((t_.extract 0 (pkV code a_ sd_ (t_.size:Int)).toNat)++(⟨#[c13]⟩:ByteArray))++(t_.extract ((pkV code a_ sd_ (t_.size:Int))+1).toNat t_.size)),(pkA 3 (pkA (wt.size:Int) (pkA (t_.size:Int) a_))),(pkS code (pkA (wt.size:Int) (pkA (t_.size:Int) a_)) (pkS code (pkA (t_.size:Int) a_) (pkS code a_ sd_ (t_.size:Int)) (wt.size:Int)) 3),rfl,(by exact hA.trans ((Qps (by omega) (by omega)).trans (congrArg _ (Qui hwc ‹_› ‹_›)))),by omega,(by simp only[aU,aP,X5]; omega),by omega,rfl⟩ (by omega) ?_
 exact wo []
 have hb16':=a7 hb16
 refine w_ ?_
 apply dV [io 46 _,io 47 _,io 48 (lf (dS (t_.extract 0 (pkV code a_ sd_ (t_.size:Int)).toNat))),io 49 _,io 50 (lf (dS ((t_.extract 0 (pkV code a_ sd_ (t_.size:Int)).toNat)++(⟨#[c13]⟩:ByteArray)))),io 51 _,io 52 _,io 53 (lf (dS (t_.extract (pkV code a_ sd_ (t_.size:Int)).toNat t_.size))),io 54 (lf (dS (((t_.extract 0 (pkV code a_ sd_ (t_.size:Int)).toNat)++(⟨#[c13]⟩:ByteArray))++(t_.extract (pkV code a_ sd_ (t_.size:Int)).toNat t_.size)))),io 1 _] [0,1,0,7,0,31,63,31,0,0]
 iterate 2 refine z_ ?_
 refine zz (fun _ h_=>ac (show Does _ _ _ _ (St.put _ 48 (lf (dS (t_.extract 0 (pkV code a_ sd_ (t_.size:Int)).toNat)))) from Zm (l:=none) (h:=(some (pkV code a_ sd_ (t_.size:Int)))) (h_.v rfl) (by exact trivial) (by exact (h_.v rfl)) Zo rfl (by first | omega | (simp only[aj,ae]; omega)) (by first | omega | (simp only[aj,ae]; omega)) (by first | omega | (simp only[aj,ae]; omega))) rfl) ?_
 refine z_ ?_
 refine zz (fun _ h_=>ac (ZR (h_.v rfl) (h_.v rfl) rfl (by first | omega | (simp only[aU,aP,X5]; omega))) rfl) ?_
 iterate 2 refine z_ ?_
 refine zz (fun _ h_=>ac (show Does _ _ _ _ (St.put _ 53 (lf (dS (t_.extract (pkV code a_ sd_ (t_.size:Int)).toNat t_.size)))) from Zm (l:=(some (pkV code a_ sd_ (t_.size:Int)))) (h:=none) (h_.v rfl) (by exact (h_.v rfl)) (by exact trivial) Zo rfl (by first | omega | (simp only[aj,ae]; omega)) (by first | omega | (simp only[aj,ae]; omega)) (by first | omega | (simp only[aj,ae]; omega))) rfl)<|zz (fun _ h_=>ac (ZR (h_.v rfl) (h_.v rfl) rfl (by first | omega | (simp only[aU,aP,X5]; omega))) rfl) ?_
 refine z_ ?_
 exact zN
 iterate 5 refine w_ ?_
 refine Qc<|QE ⟨(n_ - 1),(((t_.extract 0 (pkV code a_ sd_ (t_.size:Int)).toNat)++(⟨#[c13]⟩:ByteArray))++(t_.extract (pkV code a_ sd_ (t_.size:Int)).toNat t_.size)),(pkA 3 (pkA (wt.size:Int) (pkA (t_.size:Int) a_))),(pkS code (pkA (wt.size:Int) (pkA (t_.size:Int) a_)) (pkS code (pkA (t_.size:Int) a_) (pkS code a_ sd_ (t_.size:Int)) (wt.size:Int)) 3),rfl,(by exact hA.trans ((Qps (by omega) (by omega)).trans (congrArg _ (QuC hwc ‹_›)))),by omega,(by simp only[aU,aP,X5]; omega),by omega,rfl⟩ (by omega) ?_
 exact wo []
end Go.Proofs.YtjaadeknhofhpaaGreat
namespace Go.Proofs.YtjaadeknhofhpaaGreat
open Go.RowKit
set_option maxRecDepth 100000
set_option maxHeartbeats 4000000
section
variable {s:ByteArray}{b c:UInt8}{i:Nat}{out:List ByteArray}{fr:Int}
theorem Qnq (hA:(out,fr)=spS s b i)(hi:s.size≤i)(hk:i≤s.size):out++[s.extract fr.toNat s.size]=ZW s b:=by
  have e:i=s.size:=by omega
  subst e
  unfold ZW
  rw[← hA]
theorem QnM (hA:(out,fr)=spS s b i)(h:s[((i:Nat):Int).toNat]? =some c)(e:c=b):(out++[s.extract fr.toNat ((i:Nat):Int).toNat],(i:Int)+1)=spS s b (i+1):=by
  rw[cM] at h ⊢
  rw[← Qrf h e,← hA]
theorem Qoq (s:ByteArray)(b:UInt8):1≤(ZW s b).length:=by unfold ZW; rw[aa,ao,aD]; omega
theorem H8 {x:ByteArray}(h:x∈ZW s b):x.size≤s.size:=by
  have h1:∀i,∀x∈(spS s b i).1,x.size≤s.size:=fun i=>by
    induction i with
    | zero=>intro x h; cases h
    | succ i ih=>
      intro x h
      rw[spS] at h
      split at h
      · rcases aL.1 h with h | h
        · exact ih x h
        · rw[aK.1 h]; simp only[aP]; omega
      · exact ih x h
  unfold ZW at h
  rcases aL.1 h with h | h
  · exact h1 _ x h
  · rw[aK.1 h]; simp only[aP]; omega
theorem QqM (hA:(out,fr)=spS s b i)(h:s[((i:Nat):Int).toNat]? =some c)(e:¬c=b):(out,fr)=spS s b (i+1):=by
  rw[cM] at h
  rw[← QtM h e,← hA]
end
theorem Vj (s:ByteArray)(b:UInt8)(hs:s.size≤100000):FC Tryz.prog 335 [(false,[dS s]),(false,[.dat .u8 b])] [] 0 (Xe 9 .str (ZW s b)):=by
 refine Qy Tryz.func335 rfl rfl Tryz.ntmps335 fun O_ hO w0_ N0_ X_ h0_ f0_=> ?_
 iterate 14 refine w_ ?_
 refine AC.wk (Wk.nilS 0 5 9 .str rfl (Fresh.of rfl) (nlr rfl)) ?_
 refine Qm (fun m_ s_=>∃(i:Nat) (out:List ByteArray) (fr:Int),i≤s.size∧m_=s.size - i∧((out,fr)=spS s b i)∧s_=⟨[(0,lf (dS s)),(1,lf (.dat .u8 b)),(4,lf (.val (.slice none 0 0))),(5,lR 1),(6,lI fr),(7,lI (i:Int))],[(1,some (.arr 9 .str out))]⟩) ⟨0,([]:(Qr:Ty).Den),0,ap _,rfl,rfl,rfl⟩ ?_ ?_
 exact wp [(1,0)] ⟨(Qh (by first | rfl | simp)),trivial⟩
 rintro m_ s_ ⟨i,out,fr,hk1,hm2,hA,rfl⟩
 have hsr:=QmL (s:=s) (b:=b) (i:=i)
 rw[← hA] at hsr
 dsimp only at hsr
 iterate 4 refine w_ ?_
 refine AL.fact (Z4 (x:= .tmp 9) (Qa rfl)) fun hl3=>lc (ZO (Qa rfl) rfl Zo) ?_
 iterate 2 refine w_ ?_
 cases hb4:(decide ((i:Int) < (s.size:Int)))
 have hb4':=a6 hb4
 iterate 7 refine w_ ?_
 refine lc (show Does _ _ _ _ (St.put _ 31 (lf (dS (s.extract (fr).toNat s.size)))) from Zm (l:=(some fr)) (h:=none) (Qa rfl) (by exact (Qa rfl)) (by exact trivial) Zo rfl (by first | omega | (simp only[aj,ae]; omega)) (by first | omega | (simp only[aj,ae]; omega)) (by first | omega | (simp only[aj,ae]; omega))) ?_
 refine lc (dBs 2 (e:= .str) U2) ?_
 refine lc (dA 3 Qcd) ?_
 iterate 3 refine w_ ?_
 subst hO
 refine Zc (e:= .str) (xs:=(out++([s.extract (fr).toNat s.size]))) (Res.one rfl (Qb rfl)) rfl ?_
 exact Qnq hA (by omega) hk1
 have hb4':=a7 hb4
 iterate 7 refine w_ ?_
 obtain ⟨c5,hc6⟩:=gs s (((i:Int)).toNat)
 have hcz:=hc6
 iterate 4 refine w_ ?_
 cases hb7:(decide (c5=b))
 have hb7':=a6 hb7
 iterate 7 refine w_ ?_
 refine Qc<|QE ⟨i+1,out,fr,by omega,rfl,(by exact QqM hA hcz ‹_›),rfl⟩ (by omega) ?_
 exact wo []
 have hb7':=a7 hb7
 iterate 6 refine w_ ?_
 refine lc (show Does _ _ _ _ (St.put _ 23 (lf (dS (s.extract (fr).toNat ((i:Int)).toNat)))) from Zm (l:=(some fr)) (h:=(some (i:Int))) (Qa rfl) (by exact (Qa rfl)) (by exact (Qa rfl)) Zo rfl (by first | omega | (simp only[aj,ae]; omega)) (by first | omega | (simp only[aj,ae]; omega)) (by first | omega | (simp only[aj,ae]; omega))) ?_
 refine lc (dBs 4 (e:= .str) U2) ?_
 refine lc (dA 5 Qcd) ?_
 iterate 6 refine w_ ?_
 refine Qc ?_
 iterate 5 refine w_ ?_
 refine Qc<|QE ⟨i+1,(out++([s.extract (fr).toNat ((i:Int)).toNat])),((i:Int)+1),by omega,rfl,(by exact QnM hA hcz ‹_›),rfl⟩ (by omega) ?_
 exact wp [(1,5)] ⟨(Qh (by first | rfl | simp)),trivial⟩
section
variable {word text nm:ByteArray}{G:List QJ}{c0 cz:UInt8}{k:Nat}{x:DTr}{T_:List DTr}{t p:Int}
theorem Qtr (hn:Qao word=nm)(hc:nm[(0:Int).toNat]? =some c0)(h:c0=126):((-1,false):Zy)=QjS G word:=by
  unfold QjS b0
  rw[hn,show nm[0]? =some c0 from hc]
  exact (if_pos (show (some c0).getD 0=126 from h)).symm
theorem Qte (hn:Qao word=nm)(hc:nm[(0:Int).toNat]? =some c0)(h:¬c0=126)(hz:nm[((nm.size:Int) - 1).toNat]? =some cz):
    ((Ze (fun g=>decide (g.1=nm.extract 0 ((nm.size:Int) - 1).toNat)) G,decide (cz=43)):Zy)=QjS G word:=by
  unfold QjS b0 bZ
  have e:((nm.size:Int) - 1).toNat=nm.size - 1:=by omega
  rw[e] at hz ⊢
  rw[hn,show nm[0]? =some c0 from hc]
  refine Eq.trans ?_ (if_neg (show¬(some c0).getD 0=126 from h)).symm
  rw[hz]; rfl
theorem Qn1 (hx:T_[t.toNat]? =some x):T_.set t.toNat (x.1,YF ltI p x.2)=QdN T_ t p:=by
  unfold QdN
  apply bz
  intro i
  rw[bm,cF]
  by_cases e:t.toNat=i
  · subst e; rw[hx]; simp[(ab.1 hx).1]
  · simp[e]
theorem Qnm (hx:T_[t.toNat]? =some x):T_.set t.toNat (YF ltI p x.1,x.2)=QeH T_ t p:=by
  unfold QeH
  apply bz
  intro i
  rw[bm,cF]
  by_cases e:t.toNat=i
  · subst e; rw[hx]; simp[(ab.1 hx).1]
  · simp[e]
end
theorem Qay (b:DB)(name:ByteArray)(hp:0≤b.1.1.1∧b.1.1.1≤100000)(hl:b.2.1.length≤100000∧b.1.2.2.2.size≤100000):FC Tryz.prog 376 [(false,[.ptr 0 0]),(false,[dS name])] [(0,some (.box 347 [dI b.1.1.1, .ref 1, .ref 2, .ref 3,dS b.1.2.2.2, .ref 5, .ref 4])),(1,some (.arr 198 Zw b.1.1.2)),(2,some (.arr 90 QK b.1.2.1)),(3,some (.arr 55 Qw b.1.2.2.1)),(5,some (.arr 9 .str b.2.1)),(4,some (.arr 9 .str b.2.2))] 5 (Is (lI (plI b name)) [(0,some (.box 347 [dI ((plV b name).1.1.1), .ref 1, .ref 2, .ref 3,dS ((plV b name).1.2.2.2), .ref 5, .ref 4])),(1,some (.arr 198 Zw ((plV b name).1.1.2))),(2,some (.arr 90 QK ((plV b name).1.2.1))),(3,some (.arr 55 Qw ((plV b name).1.2.2.1))),(5,some (.arr 9 .str ((plV b name).2.1))),(4,some (.arr 9 .str ((plV b name).2.2)))]):=by
 refine Qy Tryz.func376 rfl rfl Tryz.ntmps376 fun O_ hO w0_ N0_ X_ h0_ f0_=> ?_
 iterate 13 refine w_ ?_
 refine Qm (fun m_ s_=>∃(k:Nat),k≤b.2.1.length∧m_=b.2.1.length - k∧(NoneTo (fun y=>decide (y=name)) b.2.1 k)∧s_=⟨[(0,lP 0 0),(1,lf (dS name)),(10,lR 5),(11,lI (b.2.1.length:Int)),(12,lI (k:Int))],[(0,some (.box 347 [dI b.1.1.1, .ref 1, .ref 2, .ref 3,dS b.1.2.2.2, .ref 5, .ref 4])),(1,some (.arr 198 Zw b.1.1.2)),(2,some (.arr 90 QK b.1.2.1)),(3,some (.arr 55 Qw b.1.2.2.1)),(4,some (.arr 9 .str b.2.2)),(5,some (.arr 9 .str b.2.1))]⟩) ⟨0,ap _,rfl,NoneTo.zero,rfl⟩ ?_ ?_
 exact wo []
 rintro m_ s_ ⟨k,hk1,hm2,hno,rfl⟩
 iterate 4 refine w_ ?_
 cases hb3:(decide ((k:Int) < (b.2.1.length:Int)))
 have hb3':=a6 hb3
 iterate 10 refine w_ ?_
 refine lc (dBs 6 (e:= .str) U2) ?_
 refine lc (dA 7 Qcd) ?_
 iterate 10 refine w_ ?_
 refine lc (ZR (Qa rfl) (Evl.str rfl) rfl (by (simp only[X5]; omega))) ?_
 iterate 12 refine w_ ?_
 refine AL.fact (Ql (x:= .tmp 46) (Qa rfl)) fun hi4=>lc (XS (Qa rfl) (Qu rfl) rfl (by first | omega | (simp only[aa,ao,aD]; omega))) ?_
 iterate 12 refine w_ ?_
 refine lc (Vi (Qa rfl) (Qu rfl) rfl (by first | omega | (simp only[aa,ao,aD]; omega))) ?_
 iterate 3 refine w_ ?_
 subst hO
 have e5:(((b.2.1++([name])).length:Int) - 1:Int)=(plI b name):=by
  (unfold plI; rw[Qbe (Ye hno (by omega)),aa]; simp)
 exact QF _ _ [(5,7)] (Res.one rfl (Qb rfl)) (by rw[e5] <;> rfl) ⟨(((congrArg (fun z_=>some (Ent.box 347 [dI z_, .ref 1, .ref 2, .ref 3,dS (b.1.2.2.2++(⟨#[48]⟩:ByteArray)), .ref 7, .ref 4])) (show (b.1.1.1+1:Int)=(plV b name).1.1.1 by (rw[Vy (Ye hno (by omega))]; done)))).trans (congrArg (fun z_=>some (Ent.box 347 [dI ((plV b name).1.1.1), .ref 1, .ref 2, .ref 3,dS z_, .ref 7, .ref 4])) (show (b.1.2.2.2++(⟨#[48]⟩:ByteArray):ByteArray)=(plV b name).1.2.2.2 by (rw[Vy (Ye hno (by omega))]; done)))),(Qh (by (rw[Vy (Ye hno (by omega))]; done))),(Qh (by (rw[Vy (Ye hno (by omega))]; done))),(Qh (by (rw[Vy (Ye hno (by omega))]; done))),(Qh (by (rw[Vy (Ye hno (by omega))]; done))),(Qh (by (rw[Vy (Ye hno (by omega))]; done))),trivial⟩ rfl rfl
 have hb3':=a7 hb3
 iterate 7 refine w_ ?_
 obtain ⟨x,hx7⟩:=gx b.2.1 k
 have hxz:=hx7
 iterate 9 refine w_ ?_
 cases hb8:(decide (x=name))
 have hb8':=a6 hb8
 iterate 4 refine w_ ?_
 refine lc (XS (Qa rfl) (Qu rfl) rfl (by first | omega | (simp only[aa,ao,aD]; omega))) ?_
 refine w_ ?_
 refine Qc<|QE ⟨k+1,by omega,rfl,hno.step hx7 (az ‹_›),rfl⟩ (by omega) ?_
 exact wo []
 have hb8':=a7 hb8
 iterate 6 refine w_ ?_
 subst hO
 have e9:((k:Int):Int)=(plI b name):=by
  exact Qp0 hno hxz ‹_›
 exact QF _ _ [] (Res.one rfl (Qb rfl)) (by rw[e9] <;> rfl) ⟨(((congrArg (fun z_=>some (Ent.box 347 [dI z_, .ref 1, .ref 2, .ref 3,dS b.1.2.2.2, .ref 5, .ref 4])) (show (b.1.1.1:Int)=(plV b name).1.1.1 by (rw[KA (Xj hxz ‹_›)]; done)))).trans (congrArg (fun z_=>some (Ent.box 347 [dI ((plV b name).1.1.1), .ref 1, .ref 2, .ref 3,dS z_, .ref 5, .ref 4])) (show (b.1.2.2.2:ByteArray)=(plV b name).1.2.2.2 by (rw[KA (Xj hxz ‹_›)]; done)))),(Qh (by (rw[KA (Xj hxz ‹_›)]; done))),(Qh (by (rw[KA (Xj hxz ‹_›)]; done))),(Qh (by (rw[KA (Xj hxz ‹_›)]; done))),(Qh (by (rw[KA (Xj hxz ‹_›)]; done))),(Qh (by (rw[KA (Xj hxz ‹_›)]; done))),trivial⟩ rfl rfl
theorem Uk (b:DB)(word:ByteArray)(hw:word.size≤1000∧1≤(Qao word).size)(hl:b.1.1.2.length≤100000∧b.1.2.2.1.length≤100000∧b.2.2.length≤100000):FC Tryz.prog 377 [(false,[.ptr 0 0]),(false,[dS word])] [(0,some (.box 347 [dI b.1.1.1, .ref 3, .ref 1, .ref 4,dS b.1.2.2.2, .ref 2, .ref 5])),(3,some (.arr 198 Zw b.1.1.2)),(1,some (.arr 90 QK b.1.2.1)),(4,some (.arr 55 Qw b.1.2.2.1)),(2,some (.arr 9 .str b.2.1)),(5,some (.arr 9 .str b.2.2))] 3 (Is (lI (trI b word)) [(0,some (.box 347 [dI ((trV b word).1.1.1), .ref 3, .ref 1, .ref 4,dS ((trV b word).1.2.2.2), .ref 2, .ref 5])),(3,some (.arr 198 Zw ((trV b word).1.1.2))),(1,some (.arr 90 QK ((trV b word).1.2.1))),(4,some (.arr 55 Qw ((trV b word).1.2.2.1))),(2,some (.arr 9 .str ((trV b word).2.1))),(5,some (.arr 9 .str ((trV b word).2.2)))]):=by
 have hsp:=Qoq word 47
 refine Qy Tryz.func377 rfl rfl Tryz.ntmps377 fun O_ hO w0_ N0_ X_ h0_ f0_=> ?_
 iterate 13 refine w_ ?_
 refine Qm (fun m_ s_=>∃(k:Nat),k≤b.2.2.length∧m_=b.2.2.length - k∧(NoneTo (fun y=>decide (y=word)) b.2.2 k)∧s_=⟨[(0,lP 0 0),(1,lf (dS word)),(12,lR 5),(13,lI (b.2.2.length:Int)),(14,lI (k:Int))],[(0,some (.box 347 [dI b.1.1.1, .ref 3, .ref 1, .ref 4,dS b.1.2.2.2, .ref 2, .ref 5])),(1,some (.arr 90 QK b.1.2.1)),(2,some (.arr 9 .str b.2.1)),(3,some (.arr 198 Zw b.1.1.2)),(4,some (.arr 55 Qw b.1.2.2.1)),(5,some (.arr 9 .str b.2.2))]⟩) ⟨0,ap _,rfl,NoneTo.zero,rfl⟩ ?_ ?_
 exact wo []
 rintro m_ s_ ⟨k,hk1,hm2,hno,rfl⟩
 iterate 4 refine w_ ?_
 cases hb3:(decide ((k:Int) < (b.2.2.length:Int)))
 have hb3':=a6 hb3
 iterate 10 refine w_ ?_
 refine lc (dBs 6 (e:= .str) U2) ?_
 refine lc (dA 7 Qcd) ?_
 iterate 6 refine w_ ?_
 refine lc (JO (Vj word 47 (by omega)).frozen H7 ⟨_,_,rfl,(Qf rfl),⟨_,_,rfl,(Evl.ev (QB 47 rfl)),rfl⟩⟩ rfl rfl) ?_
 obtain ⟨nm,hx5⟩:=gx (ZW word 47) 0
 have hnw:Qao word=nm:=by unfold Qao; rw[show (ZW word 47)[0]? =some nm from hx5]; rfl
 have hnz:1≤nm.size:=by rw[← hnw]; exact hw.2
 have hnl:=H8 (a8 hx5)
 iterate 5 refine w_ ?_
 refine lc (Qi XM ⟨_,_,rfl,(Evl.ev (Qu rfl)),rfl⟩ (ah.1 rfl) rfl rfl)<|lc (xal 8 Qw Ys) ?_
 iterate 5 refine w_ ?_
 obtain ⟨c0,hc7⟩:=gs nm ((0:Int).toNat)
 have hc0:=hc7
 refine w_ ?_
 refine lc (Q7 (Qa rfl) (QB 126 rfl) rfl) ?_
 refine w_ ?_
 cases hb8:(!decide (c0=126))
 have hb8':(c0=126):=QT hb8
 iterate 10 refine w_ ?_
 refine lc (Qi Qdd rfl (ah.1 rfl) rfl rfl) ?_
 refine lc (dBs 9 (e:=Zw) Ky (hab:=by exact ⟨_,_,_,_,rfl,⟨[.val (.slice none 0 0)],[.val (.slice none 0 0)],_,_,_,_,rfl,rfl,(.inr ⟨rfl,rfl,rfl⟩),(.inr ⟨rfl,rfl,rfl⟩),rfl⟩,⟨rfl,rfl⟩,rfl⟩)) ?_
 refine lc (dA 10 Qc1) ?_
 iterate 6 refine w_ ?_
 apply dW [io 74 _,io 75 _,io 76 _,io 77 _,io 78 _,io 79 _,io 80 _,⟨some 81,lR 11,[(11,some (.arr 55 Qw ([((-1),false)])))]⟩,⟨some 82,lR 12,[(12,some (.arr 55 Qw (b.1.2.2.1++([((-1),false)])))),(4,none),(11,none)]⟩,io 83 _,io 84 _,io 85 _,⟨none,lf (.val undef),[(0,some (.box 347 [dI b.1.1.1, .ref 10, .ref 1, .ref 12,dS b.1.2.2.2, .ref 2, .ref 7]))]⟩] [0,1,1,1,1,1,63,63,1,0,0,0,0]
 iterate 7 refine z_ ?_
 refine zz (fun _ h_=>ac (dBs 11 (e:=Qw) Ys (hab:=by exact ⟨_,_,_,_,rfl,⟨[dI (-1)],[dB false],_,_,_,_,rfl,rfl,⟨rfl,rfl⟩,⟨rfl,rfl⟩,rfl⟩,⟨rfl,rfl⟩,rfl⟩)) rfl) ?_
 refine zz (fun _ h_=>ac (dA 12 Qaa) rfl) ?_
 iterate 3 refine z_ ?_
 refine zz (fun _ h_=>ac (QZ (h_.v rfl) (h_.en 0 rfl) (h_.w rfl) (by simp only[Q6,Wx,aW,bc]; rw[(h_.en 12 rfl)]; rfl) Qqe rfl) rfl) ?_
 exact zN
 iterate 6 refine w_ ?_
 refine lc (Vi (Qa rfl) (Qu rfl) rfl (by first | omega | (simp only[aa,ao,aD]; omega))) ?_
 iterate 3 refine w_ ?_
 subst hO
 have e9:(((b.2.2++([word])).length:Int) - 1:Int)=(trI b word):=by
  (unfold trI; rw[Qbe (Ye hno (by omega)),aa]; simp)
 exact QF _ _ [(3,10),(4,12),(5,7)] (Res.one rfl (Qb rfl)) (by rw[e9] <;> rfl) ⟨(((congrArg (fun z_=>some (Ent.box 347 [dI z_, .ref 10, .ref 1, .ref 12,dS b.1.2.2.2, .ref 2, .ref 7])) (show (b.1.1.1:Int)=(trV b word).1.1.1 by (rw[YH (Ye hno (by omega))]; done)))).trans (congrArg (fun z_=>some (Ent.box 347 [dI ((trV b word).1.1.1), .ref 10, .ref 1, .ref 12,dS z_, .ref 2, .ref 7])) (show (b.1.2.2.2:ByteArray)=(trV b word).1.2.2.2 by (rw[YH (Ye hno (by omega))]; done)))),(Qh (by (rw[YH (Ye hno (by omega))]; done))),(Qh (by (rw[YH (Ye hno (by omega))]; done))),(Qh (by (rw[YH (Ye hno (by omega)),← Qtr hnw hc0 ‹_›]; done))),(Qh (by (rw[YH (Ye hno (by omega))]; done))),(Qh (by (rw[YH (Ye hno (by omega))]; done))),trivial⟩ rfl rfl
 have hb8':¬(c0=126):=Q0 hb8
 refine w_ ?_
 obtain ⟨cz,hc11⟩:=gs nm (((nm.size:Int) - 1).toNat)
 have hcz:=hc11
 apply dZ [io 42 _,io 43 _,io 44 _,io 45 _,io 46 _,io 47 _,io 48 _,io 49 (lI (nm.size:Int)),io 50 (lI ((nm.size:Int) - 1)),io 51 (lf (dS (nm.extract 0 ((nm.size:Int) - 1).toNat))),io 52 (lI (Ze (fun x:QJ=>decide (x.1=(nm.extract 0 ((nm.size:Int) - 1).toNat))) b.1.2.1)),io 53 _,io 54 _,io 55 (lI (nm.size:Int)),io 56 (lI ((nm.size:Int) - 1)),io 57 _,io 58 (lB (decide (cz=43))),io 59 (ag [dI (Ze (fun x:QJ=>decide (x.1=(nm.extract 0 ((nm.size:Int) - 1).toNat))) b.1.2.1),dB (decide (cz=43))]),⟨none,lf (.val undef),[(8,some (.box 55 [dI (Ze (fun x:QJ=>decide (x.1=(nm.extract 0 ((nm.size:Int) - 1).toNat))) b.1.2.1),dB (decide (cz=43))]))]⟩] [0,0,0,0,0,31,63,63,63,31,0,2047,4095,4095,4095,2047,2047,0,0]
 iterate 7 refine z_ ?_
 refine zz (fun _ h_=>ac (ZO (h_.v rfl) rfl Zo) rfl)<|zz (fun _ h_=>ac (Vi (h_.v rfl) (Qu rfl) rfl (by first | omega | (simp only[aa,ao,aD]; omega))) rfl)<|zz (fun _ h_=>ac (show Does _ _ _ _ (St.put _ 51 (lf (dS (nm.extract 0 ((nm.size:Int) - 1).toNat)))) from Zm (l:=none) (h:=(some ((nm.size:Int) - 1))) (h_.v rfl) (by exact trivial) (by exact (h_.v rfl)) Zo rfl (by first | omega | (simp only[aj,ae]; omega)) (by first | omega | (simp only[aj,ae]; omega)) (by first | omega | (simp only[aj,ae]; omega))) rfl) ?_
 refine zz (fun _ h_=>ac (dB_ (WV b.1.2.1 (nm.extract 0 ((nm.size:Int) - 1).toNat)) H6) rfl) ?_
 iterate 2 refine z_ ?_
 refine zz (fun _ h_=>ac (ZO (h_.v rfl) rfl Zo) rfl)<|zz (fun _ h_=>ac (Vi (h_.v rfl) (Qu rfl) rfl (by first | omega | (simp only[aa,ao,aD]; omega))) rfl) ?_
 refine z_ ?_
 refine zz (fun _ h_=>ac (Qt (h_.v rfl) (QB 43 rfl) rfl) rfl)<|zz (fun _ h_=>ac (Qi XM ⟨_,_,rfl,(h_.w rfl),⟨_,_,rfl,(h_.w rfl),rfl⟩⟩ (ah.1 rfl) rfl rfl) rfl) ?_
 refine z_ ?_
 exact zN
 iterate 8 refine w_ ?_
 refine lc (Qi Qdd rfl (ah.1 rfl) rfl rfl) ?_
 refine lc (dBs 13 (e:=Zw) Ky (hab:=by exact ⟨_,_,_,_,rfl,⟨[.val (.slice none 0 0)],[.val (.slice none 0 0)],_,_,_,_,rfl,rfl,(.inr ⟨rfl,rfl,rfl⟩),(.inr ⟨rfl,rfl,rfl⟩),rfl⟩,⟨rfl,rfl⟩,rfl⟩)) ?_
 refine lc (dA 14 Qc1) ?_
 iterate 6 refine w_ ?_
 apply dW [io 74 _,io 75 _,io 76 _,io 77 _,io 78 _,io 79 _,io 80 _,⟨some 81,lR 15,[(15,some (.arr 55 Qw ([(Ze (fun x:QJ=>decide (x.1=(nm.extract 0 ((nm.size:Int) - 1).toNat))) b.1.2.1,decide (cz=43))])))]⟩,⟨some 82,lR 16,[(16,some (.arr 55 Qw (b.1.2.2.1++([(Ze (fun x:QJ=>decide (x.1=(nm.extract 0 ((nm.size:Int) - 1).toNat))) b.1.2.1,decide (cz=43))])))),(4,none),(15,none)]⟩,io 83 _,io 84 _,io 85 _,⟨none,lf (.val undef),[(0,some (.box 347 [dI b.1.1.1, .ref 14, .ref 1, .ref 16,dS b.1.2.2.2, .ref 2, .ref 7]))]⟩] [0,1,1,1,1,1,63,63,1,0,0,0,0]
 iterate 7 refine z_ ?_
 refine zz (fun _ h_=>ac (dBs 15 (e:=Qw) Ys (hab:=by exact ⟨_,_,_,_,rfl,⟨[dI (Ze (fun x:QJ=>decide (x.1=(nm.extract 0 ((nm.size:Int) - 1).toNat))) b.1.2.1)],[dB (decide (cz=43))],_,_,_,_,rfl,rfl,⟨rfl,rfl⟩,⟨rfl,rfl⟩,rfl⟩,⟨rfl,rfl⟩,rfl⟩)) rfl) ?_
 refine zz (fun _ h_=>ac (dA 16 Qaa) rfl) ?_
 iterate 3 refine z_ ?_
 refine zz (fun _ h_=>ac (QZ (h_.v rfl) (h_.en 0 rfl) (h_.w rfl) (by simp only[Q6,Wx,aW,bc]; rw[(h_.en 16 rfl)]; rfl) Qqe rfl) rfl) ?_
 exact zN
 iterate 6 refine w_ ?_
 refine lc (Vi (Qa rfl) (Qu rfl) rfl (by first | omega | (simp only[aa,ao,aD]; omega))) ?_
 iterate 3 refine w_ ?_
 subst hO
 have e12:(((b.2.2++([word])).length:Int) - 1:Int)=(trI b word):=by
  (unfold trI; rw[Qbe (Ye hno (by omega)),aa]; simp)
 exact QF _ _ [(3,14),(4,16),(5,7)] (Res.one rfl (Qb rfl)) (by rw[e12] <;> rfl) ⟨(((congrArg (fun z_=>some (Ent.box 347 [dI z_, .ref 14, .ref 1, .ref 16,dS b.1.2.2.2, .ref 2, .ref 7])) (show (b.1.1.1:Int)=(trV b word).1.1.1 by (rw[YH (Ye hno (by omega))]; done)))).trans (congrArg (fun z_=>some (Ent.box 347 [dI ((trV b word).1.1.1), .ref 14, .ref 1, .ref 16,dS z_, .ref 2, .ref 7])) (show (b.1.2.2.2:ByteArray)=(trV b word).1.2.2.2 by (rw[YH (Ye hno (by omega))]; done)))),(Qh (by (rw[YH (Ye hno (by omega))]; done))),(Qh (by (rw[YH (Ye hno (by omega))]; done))),(Qh (by (rw[YH (Ye hno (by omega)),← Qte hnw hc0 ‹_› hcz]; done))),(Qh (by (rw[YH (Ye hno (by omega))]; done))),(Qh (by (rw[YH (Ye hno (by omega))]; done))),trivial⟩ rfl rfl
 have hb3':=a7 hb3
 iterate 7 refine w_ ?_
 obtain ⟨x,hx14⟩:=gx b.2.2 k
 have hxz:=hx14
 iterate 9 refine w_ ?_
 cases hb15:(decide (x=word))
 have hb15':=a6 hb15
 iterate 4 refine w_ ?_
 refine lc (XS (Qa rfl) (Qu rfl) rfl (by first | omega | (simp only[aa,ao,aD]; omega))) ?_
 refine w_ ?_
 refine Qc<|QE ⟨k+1,by omega,rfl,hno.step hx14 (az ‹_›),rfl⟩ (by omega) ?_
 exact wo []
 have hb15':=a7 hb15
 iterate 6 refine w_ ?_
 subst hO
 have e16:((k:Int):Int)=(trI b word):=by
  exact Qp0 hno hxz ‹_›
 exact QF _ _ [] (Res.one rfl (Qb rfl)) (by rw[e16] <;> rfl) ⟨(((congrArg (fun z_=>some (Ent.box 347 [dI z_, .ref 3, .ref 1, .ref 4,dS b.1.2.2.2, .ref 2, .ref 5])) (show (b.1.1.1:Int)=(trV b word).1.1.1 by (rw[Ke (Xj hxz ‹_›)]; done)))).trans (congrArg (fun z_=>some (Ent.box 347 [dI ((trV b word).1.1.1), .ref 3, .ref 1, .ref 4,dS z_, .ref 2, .ref 5])) (show (b.1.2.2.2:ByteArray)=(trV b word).1.2.2.2 by (rw[Ke (Xj hxz ‹_›)]; done)))),(Qh (by (rw[Ke (Xj hxz ‹_›)]; done))),(Qh (by (rw[Ke (Xj hxz ‹_›)]; done))),(Qh (by (rw[Ke (Xj hxz ‹_›)]; done))),(Qh (by (rw[Ke (Xj hxz ‹_›)]; done))),(Qh (by (rw[Ke (Xj hxz ‹_›)]; done))),trivial⟩ rfl rfl
end Go.Proofs.YtjaadeknhofhpaaGreat
