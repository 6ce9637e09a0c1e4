/- Walks over abstract states: the cursor of the draws. -/
import Derived.Test.YtgpdhgadmjfokaaGreatBBu
import Derived.Test.YtgpdhgadmjfokaaGreatBBe
import Derived.Test.YtgpdhgadmjfokaaGreatBVa
import Derived.Test.YtgpdhgadmjfokaaGreatBCg
import Derived.Test.YtgpdhgadmjfokaaGreatBWw
import Derived.Test.YtgpdhgadmjfokaaGreatBCb
import Derived.Test.YtgpdhgadmjfokaaGreatBUa
import Derived.Test.YtgpdhgadmjfokaaGreatBAv
import Derived.Test.YtgpdhgadmjfokaaGreatBAl
set_option linter.unusedSimpArgs false
set_option linter.unusedVariables false
set_option linter.unusedSectionVars false
namespace Go.Proofs.YtgpdhgadmjfokaaGreat
open Go.RowKit
set_option maxRecDepth 100000
set_option maxHeartbeats 4000000
def nxB (code:List UInt8)(at_:Int):Int:=if at_ < (code.length:Int) then ((((code[at_.toNat]?).getD 0).toNat:Nat):Int) else 0
def nxS (code:List UInt8)(at_ sd:Int):Int:=IntKind.u64.wrap (IntKind.u64.wrap (IntKind.u64.wrap (sd*6364136223846793005)+nxB code at_)+1442695040888963407)
def nxV (code:List UInt8)(at_ sd:Int):Int:=if at_+1≤(code.length:Int) then nxB code at_ else bits .and .u64 (nxS code at_ sd / 2 ^ 40) 255
def pkV (code:List UInt8)(at_ sd n:Int):Int:=if n≤1 then 0 else if 200 < n then (nxV code at_ sd*256+nxV code (at_+1) (nxS code at_ sd)) % n else nxV code at_ sd % n
def pkA (n at_:Int):Int:=if n≤1 then at_ else if 200 < n then at_+1+1 else at_+1
def pkS (code:List UInt8)(at_ sd n:Int):Int:=if n≤1 then sd else if 200 < n then nxS code (at_+1) (nxS code at_ sd) else nxS code at_ sd
section
variable {code:List UInt8}{at_ sd n:Int}{c:UInt8}
theorem QtK (code:List UInt8)(at_:Int):0≤nxB code at_∧nxB code at_≤255:=by
 unfold nxB
 split
 ·have:((code[at_.toNat]?).getD 0).toNat < 256:=UInt8.toNat_lt _
  omega
 ·omega
theorem QuF (code:List UInt8)(at_ sd:Int):0≤nxS code at_ sd∧nxS code at_ sd < 18446744073709551616:=UQ _
theorem QdE (code:List UInt8)(at_ sd:Int):0≤nxV code at_ sd∧nxV code at_ sd≤255:=by
 unfold nxV
 split
 ·exact QtK ..
 ·exact QfR (JD (QuF ..))
theorem Qds (h:code[at_.toNat]? =some c)(a:at_ < (code.length:Int)):(((c.toNat:Nat):Int))=nxB code at_:=by unfold nxB; rw[if_pos a,h]; rfl
theorem QhK (h:¬at_ < (code.length:Int)):(0:Int)=nxB code at_:=(if_neg h).symm
theorem Qne (h:at_+1≤(code.length:Int)):nxB code at_=nxV code at_ sd:=(if_pos h).symm
theorem QrW (h:¬at_+1≤(code.length:Int)):bits .and .u64 (nxS code at_ sd / 2 ^ 40) 255=nxV code at_ sd:=(if_neg h).symm
theorem Vu (code:List UInt8)(at_ sd n:Int):(0≤pkV code at_ sd n∧(1≤n→pkV code at_ sd n < n))∧(at_≤pkA n at_∧pkA n at_≤at_+2):=by
 refine ⟨?_, ?_⟩
 ·unfold pkV
  have a:=QdE code at_ sd
  have b:=QdE code (at_+1) (nxS code at_ sd)
  split
  ·omega
  ·split
   ·exact ⟨Int.emod_nonneg _ (by omega),fun _=>Int.emod_lt_of_pos _ (by omega)⟩
   ·exact ⟨Int.emod_nonneg _ (by omega),fun _=>Int.emod_lt_of_pos _ (by omega)⟩
 ·unfold pkA
  split
  ·omega
  ·split <;> omega
theorem QwW (h:n≤1):pkV code at_ sd n=0∧pkA n at_=at_∧pkS code at_ sd n=sd:=⟨if_pos h,if_pos h,if_pos h⟩
theorem Qw0 (h:¬n≤1)(a:200 < n):pkV code at_ sd n=(nxV code at_ sd*256+nxV code (at_+1) (nxS code at_ sd)) % n∧pkA n at_=at_+1+1∧pkS code at_ sd n=nxS code (at_+1) (nxS code at_ sd):=by
 refine ⟨?_, ?_, ?_⟩
 ·unfold pkV; rw[if_neg h,if_pos a]
 ·unfold pkA; rw[if_neg h,if_pos a]
 ·unfold pkS; rw[if_neg h,if_pos a]
theorem QwD (h:¬n≤1)(a:¬200 < n):pkV code at_ sd n=nxV code at_ sd % n∧pkA n at_=at_+1∧pkS code at_ sd n=nxS code at_ sd:=by
 refine ⟨?_, ?_, ?_⟩
 ·unfold pkV; rw[if_neg h,if_neg a]
 ·unfold pkA; rw[if_neg h,if_neg a]
 ·unfold pkS; rw[if_neg h,if_neg a]
end
def cuN (code:List UInt8)(c:Int×Int)(n:Int):Int×Int:=(pkA n c.1,pkS code c.1 c.2 n)
def cuV (code:List UInt8)(c:Int×Int)(n:Int):Int:=pkV code c.1 c.2 n
def spT (t w:ByteArray)(i q:Int):ByteArray:=if q=0 then t.extract 0 i.toNat++w++t.extract i.toNat t.size else if q=1 then t.extract 0 i.toNat++w++t.extract (i+1).toNat t.size else t.extract 0 i.toNat++t.extract (i+1).toNat t.size
def spW (code:List UInt8)(wt:ByteArray)(c:Int×Int):ByteArray:=⟨#[(wt[(cuV code c (wt.size:Int)).toNat]?).getD 0]⟩
def spN (code:List UInt8)(wt:ByteArray)(s:ByteArray×Int×Int):ByteArray×Int×Int:=
 let c1:=cuN code s.2 (s.1.size:Int); let c2:=cuN code c1 (wt.size:Int)
 (spT s.1 (spW code wt c1) (cuV code s.2 (s.1.size:Int)) (cuV code c2 3),cuN code c2 3)
def spG (code:List UInt8)(wt:ByteArray):Nat→ByteArray×Int×Int→ByteArray×Int×Int
 | 0,s=>s
 | n+1,s=>if 0 < s.1.size then spG code wt n (spN code wt s) else s
def spV (code:List UInt8)(wt t:ByteArray)(at_ sd:Int):ByteArray×Int×Int:=spG code wt (1+pkV code at_ sd 2).toNat (t,pkA 2 at_,pkS code at_ sd 2)
section
variable {code:List UInt8}{wt t:ByteArray}{at_ sd n q i:Int}{s:ByteArray×Int×Int}{w:ByteArray}
theorem Qsd (h:0≤i∧i < (t.size:Int))(a:w.size=1):(spT t w i q).size≤t.size+1:=by
 unfold spT
 split
 ·simp only[aX,aW,a]; omega
 ·split
  ·simp only[aX,aW,a]; omega
  ·simp only[aX,aW]; omega
theorem QtL (h:0 < s.1.size):(spN code wt s).1.size≤s.1.size+1∧s.2.1≤(spN code wt s).2.1∧(spN code wt s).2.1≤s.2.1+6:=by
 have a:=Vu code s.2.1 s.2.2 (s.1.size:Int)
 have b:=Vu code (pkA (s.1.size:Int) s.2.1) (pkS code s.2.1 s.2.2 (s.1.size:Int)) (wt.size:Int)
 have d:=Vu code (pkA (wt.size:Int) (pkA (s.1.size:Int) s.2.1)) (pkS code (pkA (s.1.size:Int) s.2.1) (pkS code s.2.1 s.2.2 (s.1.size:Int)) (wt.size:Int)) 3
 refine ⟨Qsd ⟨a.1.1,a.1.2 (by omega)⟩ rfl, ?_, ?_⟩
 ·show s.2.1≤pkA 3 (pkA (wt.size:Int) (pkA (s.1.size:Int) s.2.1)); omega
 ·show pkA 3 (pkA (wt.size:Int) (pkA (s.1.size:Int) s.2.1))≤s.2.1+6; omega
theorem QoC:∀(k:Nat) (s:ByteArray×Int×Int),(spG code wt k s).1.size≤s.1.size+k∧s.2.1≤(spG code wt k s).2.1∧(spG code wt k s).2.1≤s.2.1+6*k
 | 0,s=>⟨aO _,Int.le_refl _,by simp[spG]⟩
 | k+1,s=>by
  rw[spG]
  split
  ·rename_i h
   have a:=QtL (code:=code) (wt:=wt) h
   have b:=QoC k (spN code wt s)
   refine ⟨by omega,by omega,by omega⟩
  ·exact ⟨by omega,Int.le_refl _,by omega⟩
theorem Qr7 {k a b:Int}(e:0 < k)(d:0 < t.size):spG code wt k.toNat (t,a,b)=spG code wt (k - 1).toNat (spN code wt (t,a,b)):=by
 rw[show k.toNat=(k - 1).toNat+1 by omega,spG,if_pos d]
theorem QcC {k a b:Int}(h:k≤0∨t.size=0):spG code wt k.toNat (t,a,b)=(t,a,b):=by
 by_cases d:k≤0
 ·rw[show k.toNat=0 by omega,spG]
 ·rw[show k.toNat=(k - 1).toNat+1 by omega,spG,if_neg (by show¬0 < t.size; omega)]
theorem QyU {a b:Int}{c:UInt8}(e:wt[(pkV code (pkA (t.size:Int) a) (pkS code a b (t.size:Int)) (wt.size:Int)).toNat]? =some c)(d:pkV code (pkA (wt.size:Int) (pkA (t.size:Int) a)) (pkS code (pkA (t.size:Int) a) (pkS code a b (t.size:Int)) (wt.size:Int)) 3=0):
 spN code wt (t,a,b)=(t.extract 0 (pkV code a b (t.size:Int)).toNat++(⟨#[c]⟩:ByteArray)++t.extract (pkV code a b (t.size:Int)).toNat t.size,pkA 3 (pkA (wt.size:Int) (pkA (t.size:Int) a)),pkS code (pkA (wt.size:Int) (pkA (t.size:Int) a)) (pkS code (pkA (t.size:Int) a) (pkS code a b (t.size:Int)) (wt.size:Int)) 3):=by
 unfold spN spT spW cuV cuN
 dsimp only
 rw[if_pos d,e]; rfl
theorem Qx8 {a b:Int}{c:UInt8}(e:wt[(pkV code (pkA (t.size:Int) a) (pkS code a b (t.size:Int)) (wt.size:Int)).toNat]? =some c)(d:¬pkV code (pkA (wt.size:Int) (pkA (t.size:Int) a)) (pkS code (pkA (t.size:Int) a) (pkS code a b (t.size:Int)) (wt.size:Int)) 3=0)
 (hq:pkV code (pkA (wt.size:Int) (pkA (t.size:Int) a)) (pkS code (pkA (t.size:Int) a) (pkS code a b (t.size:Int)) (wt.size:Int)) 3=1):
 spN code wt (t,a,b)=(t.extract 0 (pkV code a b (t.size:Int)).toNat++(⟨#[c]⟩:ByteArray)++t.extract (pkV code a b (t.size:Int)+1).toNat t.size,pkA 3 (pkA (wt.size:Int) (pkA (t.size:Int) a)),pkS code (pkA (wt.size:Int) (pkA (t.size:Int) a)) (pkS code (pkA (t.size:Int) a) (pkS code a b (t.size:Int)) (wt.size:Int)) 3):=by
 unfold spN spT spW cuV cuN
 dsimp only
 rw[if_neg d,if_pos hq,e]; rfl
theorem QxR {a b:Int}(d:¬pkV code (pkA (wt.size:Int) (pkA (t.size:Int) a)) (pkS code (pkA (t.size:Int) a) (pkS code a b (t.size:Int)) (wt.size:Int)) 3=0)
 (hq:¬pkV code (pkA (wt.size:Int) (pkA (t.size:Int) a)) (pkS code (pkA (t.size:Int) a) (pkS code a b (t.size:Int)) (wt.size:Int)) 3=1):
 spN code wt (t,a,b)=(t.extract 0 (pkV code a b (t.size:Int)).toNat++t.extract (pkV code a b (t.size:Int)+1).toNat t.size,pkA 3 (pkA (wt.size:Int) (pkA (t.size:Int) a)),pkS code (pkA (wt.size:Int) (pkA (t.size:Int) a)) (pkS code (pkA (t.size:Int) a) (pkS code a b (t.size:Int)) (wt.size:Int)) 3):=by
 unfold spN spT cuV cuN
 dsimp only
 rw[if_neg d,if_neg hq]
theorem Qw3 (code:List UInt8)(wt t:ByteArray)(at_ sd:Int):(spV code wt t at_ sd).1.size≤t.size+2∧at_≤(spV code wt t at_ sd).2.1∧(spV code wt t at_ sd).2.1≤at_+14:=by
 have a:=Vu code at_ sd 2
 have b:=QoC (code:=code) (wt:=wt) (1+pkV code at_ sd 2).toNat (t,pkA 2 at_,pkS code at_ sd 2)
 have d:(1+pkV code at_ sd 2).toNat≤2:=by have:=a.1.2 (by decide); omega
 unfold spV
 dsimp only at b
 refine ⟨by omega,by omega,by omega⟩
end
theorem Uh (code:List UInt8)(at_:Int)(sd:Int)(y:0≤at_∧at_≤1000000000):FC Tryz.prog 277 [(false,[.ptr 0 0])] [bx 0 119 [.dat ZQ code,dI at_, .val (.int .u64 sd)]] 1 (Is (lI (nxV code at_ sd)) [bx 0 119 [.dat ZQ code,dI (at_+1), .val (.int .u64 (nxS code at_ sd))]]):=by
 refine Qt Tryz.func277 rfl rfl Tryz.ntmps277 fun u d r h x m l=> ?_
 refine w7 ?_
 apply dW (i9 4 _ _ _ _ _ _ _ _ _ [io 13 _]) [0,0,0,0,15,15,15,15,15,0]
 exact y10
 refine cd_ (fun _ _=> ?_) fun _ _=> ?_
 refine w6 ?_
 refine alI 28 fun _=> ?_
 refine w11 ?_
 refine lc (Qg0 (Qa rfl) Evl.val rfl) ?_
 refine w_ ?_
 refine lc (K5 (Qa rfl) Uu QdP (by omega) rfl)<|lc (J5 (Qa rfl) (Qa rfl) rfl)<|lc (J5 (Qa rfl) Evl.val rfl) ?_
 refine w5 ?_
 apply dW (i9 44 _ _ _ _ _ _ _ _ _ [io 53 _]) [0,0,0,0,15,15,15,15,15,0]
 exact y10
 refine cd_ (fun _ _=> ?_) fun _ _=> ?_
 refine w6 ?_
 refine lc (QgE (Qa rfl) Evl.val rfl (by omega))<|lc (QgV (Qa rfl) Evl.val rfl)<|lc (H2 (Qa rfl) QdP Uu (by first | omega | exact ⟨(QfR (JD (UQ _))).1,Int.le_trans (QfR (JD (UQ _))).2 (by decide)⟩) rfl) ?_
 refine w3 ?_
 have j:((bits .and .u64 ((IntKind.u64.wrap ((IntKind.u64.wrap ((IntKind.u64.wrap (sd*(6364136223846793005:Int)))+(0:Int)))+(1442695040888963407:Int))) / 2 ^ (40:Int).toNat) (255:Int)):Int)=(nxV code at_ sd):=by
  (rw[← QrW ‹_›,nxS,← QhK ‹_›]; rfl)
 exact fi_ [] d ⟨((congrArg (fun z_:Int=>some (Ent.box 119 [.dat ZQ code,dI (at_+1), .val (.int .u64 z_)])) (show ((IntKind.u64.wrap ((IntKind.u64.wrap ((IntKind.u64.wrap (sd*(6364136223846793005:Int)))+(0:Int)))+(1442695040888963407:Int))):Int)=(nxS code at_ sd) by (unfold nxS; rw[← QhK ‹_›])))),trivial⟩ (h0:=by rw[j] <;> rfl)
 refine w5 ?_
 have k:(0:Int)=(nxV code at_ sd):=by
  (rw[QhK ‹_›]; exact Qne ‹_›)
 exact fi_ [] d ⟨((congrArg (fun z_:Int=>some (Ent.box 119 [.dat ZQ code,dI (at_+1), .val (.int .u64 z_)])) (show ((IntKind.u64.wrap ((IntKind.u64.wrap ((IntKind.u64.wrap (sd*(6364136223846793005:Int)))+(0:Int)))+(1442695040888963407:Int))):Int)=(nxS code at_ sd) by (unfold nxS; rw[← QhK ‹_›])))),trivial⟩ (h0:=by rw[← k] <;> rfl)
 obtain ⟨b,g⟩:=gx code ((at_).toNat)
 have a:=g
 have p:b.toNat < 256:=UInt8.toNat_lt _
 apply dZ (i9 14 _ _ _ _ _ _ _ _ _ [io 23 _,io 24 (lI (b.toNat:Int)),io 3 _]) [0,0,0,0,15,15,15,15,0,0,0,0]
 refine z10 ?_
 refine zz (fun _ o=>ac (QpA (o.v rfl) Vl Uu rfl) rfl) ?_
 exact y1
 refine w5 ?_
 refine alI 28 fun _=> ?_
 refine w11 ?_
 refine lc (Qg0 (Qa rfl) Evl.val rfl) ?_
 refine w_ ?_
 refine lc (K5 (Qa rfl) Uu QdP (by omega) rfl)<|lc (J5 (Qa rfl) (Qa rfl) rfl)<|lc (J5 (Qa rfl) Evl.val rfl) ?_
 refine w5 ?_
 apply dW (i9 44 _ _ _ _ _ _ _ _ _ [io 53 _]) [0,0,0,0,15,15,15,15,15,0]
 exact y10
 refine cd_ (fun _ _=> ?_) fun _ _=> ?_
 refine w6 ?_
 refine lc (QgE (Qa rfl) Evl.val rfl (by omega))<|lc (QgV (Qa rfl) Evl.val rfl)<|lc (H2 (Qa rfl) QdP Uu (by first | omega | exact ⟨(QfR (JD (UQ _))).1,Int.le_trans (QfR (JD (UQ _))).2 (by decide)⟩) rfl) ?_
 refine w3 ?_
 have e:((bits .and .u64 ((IntKind.u64.wrap ((IntKind.u64.wrap ((IntKind.u64.wrap (sd*(6364136223846793005:Int)))+(b.toNat:Int)))+(1442695040888963407:Int))) / 2 ^ (40:Int).toNat) (255:Int)):Int)=(nxV code at_ sd):=by
  (rw[← QrW ‹_›,nxS,← Qds a ‹_›]; rfl)
 exact fi_ [] d ⟨((congrArg (fun z_:Int=>some (Ent.box 119 [.dat ZQ code,dI (at_+1), .val (.int .u64 z_)])) (show ((IntKind.u64.wrap ((IntKind.u64.wrap ((IntKind.u64.wrap (sd*(6364136223846793005:Int)))+(b.toNat:Int)))+(1442695040888963407:Int))):Int)=(nxS code at_ sd) by (unfold nxS; rw[← Qds a ‹_›])))),trivial⟩ (h0:=by rw[e] <;> rfl)
 refine w5 ?_
 have f:((b.toNat:Int):Int)=(nxV code at_ sd):=by
  (rw[Qds a ‹_›]; exact Qne ‹_›)
 exact fi_ [] d ⟨((congrArg (fun z_:Int=>some (Ent.box 119 [.dat ZQ code,dI (at_+1), .val (.int .u64 z_)])) (show ((IntKind.u64.wrap ((IntKind.u64.wrap ((IntKind.u64.wrap (sd*(6364136223846793005:Int)))+(b.toNat:Int)))+(1442695040888963407:Int))):Int)=(nxS code at_ sd) by (unfold nxS; rw[← Qds a ‹_›])))),trivial⟩ (h0:=by rw[f] <;> rfl)
theorem Zr (code:List UInt8)(at_:Int)(sd:Int)(n:Int)(p:0≤at_∧at_≤999999000):FC Tryz.prog 156 [(false,[.ptr 0 0]),(false,[dI n])] [bx 0 119 [.dat ZQ code,dI at_, .val (.int .u64 sd)]] 1 (Is (lI (pkV code at_ sd n)) [bx 0 119 [.dat ZQ code,dI (pkA n at_), .val (.int .u64 (pkS code at_ sd n))]]):=by
 refine Qt Tryz.func156 rfl rfl Tryz.ntmps156 fun m a l b o h g=> ?_
 refine acI 1 fun _=> ?_
 refine w8 ?_
 refine cd_ (fun _ _=> ?_) fun _ _=> ?_
 refine w3 ?_
 have j:=QdE code at_ sd
 refine lc (dP 1 [] (Uh code at_ sd (by omega)) Qfr) ?_
 refine w7 ?_
 refine cd_ (fun _ _=> ?_) fun _ _=> ?_
 refine w4 ?_
 refine lc (QeW (Qa rfl) (Qa rfl) rfl (by omega) (by omega)) ?_
 refine w3 ?_
 have d:((nxV code at_ sd) % n:Int)=(pkV code at_ sd n):=by
  exact (QwD (code:=code) (sd:=sd) (at_:=at_) ‹_› ‹_›).1.symm
 exact fi_ [] a ⟨(((congrArg (fun z_=>some (Ent.box 119 [.dat ZQ code,dI z_, .val (.int .u64 (nxS code at_ sd))])) (show ((at_+1):Int)=(pkA n at_) by exact (QwD (code:=code) (sd:=sd) (at_:=at_) ‹_› ‹_›).2.1.symm))).trans (congrArg (fun z_:Int=>some (Ent.box 119 [.dat ZQ code,dI (pkA n at_), .val (.int .u64 z_)])) (show ((nxS code at_ sd):Int)=(pkS code at_ sd n) by exact (QwD (code:=code) (sd:=sd) (at_:=at_) ‹_› ‹_›).2.2.symm))),trivial⟩ (h0:=by rw[d] <;> rfl)
 refine w2 ?_
 refine lc (Vg (Qa rfl) (Qp rfl) rfl (by omega)) ?_
 refine w_ ?_
 have k:=QdE code (at_+1) (nxS code at_ sd)
 refine lc (dP 2 [] (Uh code (at_+1) (nxS code at_ sd) (by omega)) Qfr) ?_
 refine w6 ?_
 refine lc (QeW (Qa rfl) (Qa rfl) rfl (by omega) (by omega)) ?_
 refine w3 ?_
 have e:((((nxV code at_ sd)*256)+(nxV code (at_+1) (nxS code at_ sd))) % n:Int)=(pkV code at_ sd n):=by
  exact (Qw0 (code:=code) (sd:=sd) (at_:=at_) ‹_› ‹_›).1.symm
 exact fi_ [] a ⟨(((congrArg (fun z_=>some (Ent.box 119 [.dat ZQ code,dI z_, .val (.int .u64 (nxS code (at_+1) (nxS code at_ sd)))])) (show (((at_+1)+1):Int)=(pkA n at_) by exact (Qw0 (code:=code) (sd:=sd) (at_:=at_) ‹_› ‹_›).2.1.symm))).trans (congrArg (fun z_:Int=>some (Ent.box 119 [.dat ZQ code,dI (pkA n at_), .val (.int .u64 z_)])) (show ((nxS code (at_+1) (nxS code at_ sd)):Int)=(pkS code at_ sd n) by exact (Qw0 (code:=code) (sd:=sd) (at_:=at_) ‹_› ‹_›).2.2.symm))),trivial⟩ (h0:=by rw[e] <;> rfl)
 refine w4 ?_
 have f:(0:Int)=(pkV code at_ sd n):=by
  exact (QwW (code:=code) (sd:=sd) (at_:=at_) ‹_›).1.symm
 exact fi_ [] a ⟨(((congrArg (fun z_=>some (Ent.box 119 [.dat ZQ code,dI z_, .val (.int .u64 sd)])) (show (at_:Int)=(pkA n at_) by exact (QwW (code:=code) (sd:=sd) (at_:=at_) ‹_›).2.1.symm))).trans (congrArg (fun z_:Int=>some (Ent.box 119 [.dat ZQ code,dI (pkA n at_), .val (.int .u64 z_)])) (show (sd:Int)=(pkS code at_ sd n) by exact (QwW (code:=code) (sd:=sd) (at_:=at_) ‹_›).2.2.symm))),trivial⟩ (h0:=by rw[← f] <;> rfl)
theorem Jv (code:List UInt8)(at_:Int)(sd:Int)(t:ByteArray)(wt:ByteArray)(S:0≤at_∧at_≤900000000)(V:t.size≤100000∧1≤wt.size):FC Tryz.prog 191 [(false,[.ptr 0 0]),(false,[dS t]),(false,[dS wt])] [bx 0 119 [.dat ZQ code,dI at_, .val (.int .u64 sd)]] 1 (Is (lf (dS ((spV code wt t at_ sd).1))) [bx 0 119 [.dat ZQ code,dI ((spV code wt t at_ sd).2.1), .val (.int .u64 ((spV code wt t at_ sd).2.2))]]):=by
 refine Qt Tryz.func191 rfl rfl Tryz.ntmps191 fun Q C P I R M L=> ?_
 refine w6 ?_
 have O:=Vu code at_ sd 2
 refine lc (dP 1 [] (Zr code at_ sd 2 (by omega)) Xl) ?_
 refine w4 ?_
 refine QL (fun G H=>∃(j:Int) (a:ByteArray) (d:Int) (b:Int),G=j.toNat∧((spV code wt t at_ sd)=spG code wt j.toNat (a,d,b))∧(0≤j∧j≤2)∧((a.size:Int)+j≤(t.size:Int)+2)∧(at_≤d∧d+6*j≤at_+14)∧H=⟨[(0,lP 0 0),(1,lf (dS a)),(2,lf (dS wt)),(6,lf (dS (⟨#[]⟩:ByteArray))),(7,lI j)],[bx 0 119 [.dat ZQ code,dI d, .val (.int .u64 b)]]⟩) ⟨1+(pkV code at_ sd 2),t,(pkA 2 at_),(pkS code at_ sd 2),rfl,rfl,by omega,by omega,by omega,rfl⟩ ?_ ?_
 exact wo []
 rintro G H ⟨j,a,d,b,N,k,U,W,T,rfl⟩
 refine w5 ?_
 cases u:(decide (0 < j))
 have x:=aa u
 refine w13 ?_
 have J:(a:ByteArray)=((spV code wt t at_ sd).1):=by
  (rw[k,QcC (by omega)])
 exact fi_ [] C ⟨(((congrArg (fun z_=>some (Ent.box 119 [.dat ZQ code,dI z_, .val (.int .u64 b)])) (show (d:Int)=((spV code wt t at_ sd).2.1) by (rw[k,QcC (by omega)])))).trans (congrArg (fun z_:Int=>some (Ent.box 119 [.dat ZQ code,dI ((spV code wt t at_ sd).2.1), .val (.int .u64 z_)])) (show (b:Int)=((spV code wt t at_ sd).2.2) by (rw[k,QcC (by omega)])))),trivial⟩ (h0:=by rw[← J] <;> rfl)
 have x:=ab u
 refine w_ ?_
 refine alS 16 fun _=> ?_
 refine lgy rfl rfl (ZJ (Qa rfl) rfl Zf) ?_
 refine w3 ?_
 cases y:(decide (0 < (a.size:Int)))
 have z:=aa y
 refine w8 ?_
 have K:(a:ByteArray)=((spV code wt t at_ sd).1):=by
  (rw[k,QcC (by omega)])
 exact fi_ [] C ⟨(((congrArg (fun z_=>some (Ent.box 119 [.dat ZQ code,dI z_, .val (.int .u64 b)])) (show (d:Int)=((spV code wt t at_ sd).2.1) by (rw[k,QcC (by omega)])))).trans (congrArg (fun z_:Int=>some (Ent.box 119 [.dat ZQ code,dI ((spV code wt t at_ sd).2.1), .val (.int .u64 z_)])) (show (b:Int)=((spV code wt t at_ sd).2.2) by (rw[k,QcC (by omega)])))),trivial⟩ (h0:=by rw[← K] <;> rfl)
 have z:=ab y
 refine w7 ?_
 refine alS 23 fun _=> ?_
 refine lc (ZJ (Qa rfl) rfl Zf) ?_
 have D:=Vu code d b (a.size:Int)
 refine lc (dP 2 [] (Zr code d b (a.size:Int) (by omega)) Xl) ?_
 refine w6 ?_
 refine alS 28 fun _=> ?_
 refine lc (ZJ (Qa rfl) rfl Zf) ?_
 have E:=Vu code (pkA (a.size:Int) d) (pkS code d b (a.size:Int)) (wt.size:Int)
 refine lc (dP 3 [] (Zr code (pkA (a.size:Int) d) (pkS code d b (a.size:Int)) (wt.size:Int) (by omega)) Xl) ?_
 obtain ⟨g,A⟩:=gs wt ((pkV code (pkA (a.size:Int) d) (pkS code d b (a.size:Int)) (wt.size:Int)).toNat)
 have B:=A
 refine w_ ?_
 refine lc (dBs 4 (e:= .u8) Qfc) ?_
 refine lc (Zm (ys:=[g]) (YM (Qa rfl) rfl) ZD Vl Zf rfl) ?_
 refine w4 ?_
 have F:=Vu code (pkA (wt.size:Int) (pkA (a.size:Int) d)) (pkS code (pkA (a.size:Int) d) (pkS code d b (a.size:Int)) (wt.size:Int)) 3
 refine lc (dP 5 [] (Zr code (pkA (wt.size:Int) (pkA (a.size:Int) d)) (pkS code (pkA (a.size:Int) d) (pkS code d b (a.size:Int)) (wt.size:Int)) 3 (by omega)) Xl) ?_
 refine w6 ?_
 cases m:(decide ((pkV code (pkA (wt.size:Int) (pkA (a.size:Int) d)) (pkS code (pkA (a.size:Int) d) (pkS code d b (a.size:Int)) (wt.size:Int)) 3)=0))
 have p:=aa m
 refine w5 ?_
 cases o:(decide ((pkV code (pkA (wt.size:Int) (pkA (a.size:Int) d)) (pkS code (pkA (a.size:Int) d) (pkS code d b (a.size:Int)) (wt.size:Int)) 3)=1))
 have r:=aa o
 refine w_ ?_
 apply dV (i2 36 _ _ (io 38 (lf (dS (a.extract 0 (pkV code d b (a.size:Int)).toNat))) :: i3 39 _ _ _ [io 42 (lf (dS (a.extract ((pkV code d b (a.size:Int))+1).toNat a.size))),io 43 (lf (dS ((a.extract 0 (pkV code d b (a.size:Int)).toNat)++(a.extract ((pkV code d b (a.size:Int))+1).toNat a.size)))),io 1 _])) [0,1,0,7,15,15,7,0,0]
 refine z2 ?_
 refine zz (fun _ f=>ac (show Does _ _ _ _ (St.put _ 38 (lf (dS (a.extract 0 (pkV code d b (a.size:Int)).toNat)))) from Zj (l:=none) (h:=(some (pkV code d b (a.size:Int)))) (f.v rfl) (by exact trivial) (by exact (f.v rfl)) Zf rfl (by first | omega | (simp only[av,ao]; omega)) (by first | omega | (simp only[av,ao]; omega)) (by first | omega | (simp only[av,ao]; omega))) rfl) ?_
 refine z3 ?_
 refine zz (fun _ f=>ac (show Does _ _ _ _ (St.put _ 42 (lf (dS (a.extract ((pkV code d b (a.size:Int))+1).toNat a.size)))) from Zj (l:=(some ((pkV code d b (a.size:Int))+1))) (h:=none) (f.v rfl) (by exact (f.v rfl)) (by exact trivial) Zf rfl (by first | omega | (simp only[av,ao]; omega)) (by first | omega | (simp only[av,ao]; omega)) (by first | omega | (simp only[av,ao]; omega))) rfl)<|zz (fun _ f=>ac (Zn (f.v rfl) (f.v rfl) rfl (by first | omega | (simp only[aX,aW,Xt]; omega))) rfl) ?_
 exact y1
 refine w5 ?_
 refine Qb<|Q2 ⟨(j - 1),((a.extract 0 (pkV code d b (a.size:Int)).toNat)++(a.extract ((pkV code d b (a.size:Int))+1).toNat a.size)),(pkA 3 (pkA (wt.size:Int) (pkA (a.size:Int) d))),(pkS code (pkA (wt.size:Int) (pkA (a.size:Int) d)) (pkS code (pkA (a.size:Int) d) (pkS code d b (a.size:Int)) (wt.size:Int)) 3),rfl,(by exact k.trans ((Qr7 (by omega) (by omega)).trans (congrArg _ (QxR ‹_› ‹_›)))),by omega,(by simp only[aX,aW,Xt]; omega),by omega,rfl⟩ (by omega) ?_
 exact wo []
 have r:=ab o
 refine w_ ?_
 apply dV (i2 57 _ _ (io 59 (lf (dS (a.extract 0 (pkV code d b (a.size:Int)).toNat))) :: io 60 _ :: io 61 (lf (dS ((a.extract 0 (pkV code d b (a.size:Int)).toNat)++(⟨#[g]⟩:ByteArray)))) :: i3 62 _ _ _ [io 65 (lf (dS (a.extract ((pkV code d b (a.size:Int))+1).toNat a.size))),io 66 (lf (dS (((a.extract 0 (pkV code d b (a.size:Int)).toNat)++(⟨#[g]⟩:ByteArray))++(a.extract ((pkV code d b (a.size:Int))+1).toNat a.size)))),io 1 _])) [0,1,0,7,0,31,63,63,31,0,0]
 refine z2 ?_
 refine zz (fun _ f=>ac (show Does _ _ _ _ (St.put _ 59 (lf (dS (a.extract 0 (pkV code d b (a.size:Int)).toNat)))) from Zj (l:=none) (h:=(some (pkV code d b (a.size:Int)))) (f.v rfl) (by exact trivial) (by exact (f.v rfl)) Zf rfl (by first | omega | (simp only[av,ao]; omega)) (by first | omega | (simp only[av,ao]; omega)) (by first | omega | (simp only[av,ao]; omega))) rfl) ?_
 refine z_ ?_
 refine zz (fun _ f=>ac (Zn (f.v rfl) (f.v rfl) rfl (by first | omega | (simp only[aX,aW,Xt]; omega))) rfl) ?_
 refine z3 ?_
 refine zz (fun _ f=>ac (show Does _ _ _ _ (St.put _ 65 (lf (dS (a.extract ((pkV code d b (a.size:Int))+1).toNat a.size)))) from Zj (l:=(some ((pkV code d b (a.size:Int))+1))) (h:=none) (f.v rfl) (by exact (f.v rfl)) (by exact trivial) Zf rfl (by first | omega | (simp only[av,ao]; omega)) (by first | omega | (simp only[av,ao]; omega)) (by first | omega | (simp only[av,ao]; omega))) rfl)<|zz (fun _ f=>ac (Zn (f.v rfl) (f.v rfl) rfl (by first | omega | (simp only[aX,aW,Xt]; omega))) rfl) ?_
 exact y1
 refine w5 ?_
 refine Qb<|Q2 ⟨(j - 1),(((a.extract 0 (pkV code d b (a.size:Int)).toNat)++(⟨#[g]⟩:ByteArray))++(a.extract ((pkV code d b (a.size:Int))+1).toNat a.size)),(pkA 3 (pkA (wt.size:Int) (pkA (a.size:Int) d))),(pkS code (pkA (wt.size:Int) (pkA (a.size:Int) d)) (pkS code (pkA (a.size:Int) d) (pkS code d b (a.size:Int)) (wt.size:Int)) 3),rfl,(by exact k.trans ((Qr7 (by omega) (by omega)).trans (congrArg _ (Qx8 B ‹_› ‹_›)))),by omega,(by simp only[aX,aW,Xt]; omega),by omega,rfl⟩ (by omega) ?_
 exact wo []
 have p:=ab m
 refine w_ ?_
 apply dV (i2 46 _ _ (io 48 (lf (dS (a.extract 0 (pkV code d b (a.size:Int)).toNat))) :: io 49 _ :: io 50 (lf (dS ((a.extract 0 (pkV code d b (a.size:Int)).toNat)++(⟨#[g]⟩:ByteArray)))) :: i2 51 _ _ [io 53 (lf (dS (a.extract (pkV code d b (a.size:Int)).toNat a.size))),io 54 (lf (dS (((a.extract 0 (pkV code d b (a.size:Int)).toNat)++(⟨#[g]⟩:ByteArray))++(a.extract (pkV code d b (a.size:Int)).toNat a.size)))),io 1 _])) [0,1,0,7,0,31,63,31,0,0]
 refine z2 ?_
 refine zz (fun _ f=>ac (show Does _ _ _ _ (St.put _ 48 (lf (dS (a.extract 0 (pkV code d b (a.size:Int)).toNat)))) from Zj (l:=none) (h:=(some (pkV code d b (a.size:Int)))) (f.v rfl) (by exact trivial) (by exact (f.v rfl)) Zf rfl (by first | omega | (simp only[av,ao]; omega)) (by first | omega | (simp only[av,ao]; omega)) (by first | omega | (simp only[av,ao]; omega))) rfl) ?_
 refine z_ ?_
 refine zz (fun _ f=>ac (Zn (f.v rfl) (f.v rfl) rfl (by first | omega | (simp only[aX,aW,Xt]; omega))) rfl) ?_
 refine z2 ?_
 refine zz (fun _ f=>ac (show Does _ _ _ _ (St.put _ 53 (lf (dS (a.extract (pkV code d b (a.size:Int)).toNat a.size)))) from Zj (l:=(some (pkV code d b (a.size:Int)))) (h:=none) (f.v rfl) (by exact (f.v rfl)) (by exact trivial) Zf rfl (by first | omega | (simp only[av,ao]; omega)) (by first | omega | (simp only[av,ao]; omega)) (by first | omega | (simp only[av,ao]; omega))) rfl)<|zz (fun _ f=>ac (Zn (f.v rfl) (f.v rfl) rfl (by first | omega | (simp only[aX,aW,Xt]; omega))) rfl) ?_
 exact y1
 refine w5 ?_
 refine Qb<|Q2 ⟨(j - 1),(((a.extract 0 (pkV code d b (a.size:Int)).toNat)++(⟨#[g]⟩:ByteArray))++(a.extract (pkV code d b (a.size:Int)).toNat a.size)),(pkA 3 (pkA (wt.size:Int) (pkA (a.size:Int) d))),(pkS code (pkA (wt.size:Int) (pkA (a.size:Int) d)) (pkS code (pkA (a.size:Int) d) (pkS code d b (a.size:Int)) (wt.size:Int)) 3),rfl,(by exact k.trans ((Qr7 (by omega) (by omega)).trans (congrArg _ (QyU B ‹_›)))),by omega,(by simp only[aX,aW,Xt]; omega),by omega,rfl⟩ (by omega) ?_
 exact wo []
end Go.Proofs.YtgpdhgadmjfokaaGreat
namespace Go.Proofs.YtgpdhgadmjfokaaGreat
open Go.RowKit
set_option maxRecDepth 100000
set_option maxHeartbeats 4000000
def fbS:Q5:=((4,[([3],[0]),([0],[1]),([1],[2]),([2],[3])]),[(⟨#[97]⟩,1),(⟨#[98]⟩,2)],[(0,true),(1,true),(0,false),(1,false)],⟨#[48,48,48,49]⟩)
theorem Qwp:QJ ⟨#[97]⟩ ⟨#[98]⟩ ⟨#[]⟩ ⟨#[97,43,62,98,43,32,98,43,62,97,45,32,97,45,62,98,45,32,42,98,45,62,97,43]⟩=fbS:=by decide+kernel
theorem Qnq {x hi:Int}(h:0≤x∧x≤hi):JL [x] hi:=by
 intro k a
 have:k=0:=by simpa using a
 subst this
 unfold RisAt
 simp
 omega
theorem Qop {c:UInt8}(h:Yv 0 c.toNat):Zx ⟨#[c]⟩:=by
 refine ⟨fun k a=> ?_,aO _,by show (1:Nat)≤6; omega⟩
 have b:k < 1:=a
 have:k=0:=by omega
 subst this
 exact h
theorem QxC:StgOk fbS:=by
 refine ⟨⟨⟨by decide,by decide⟩,by decide,fun t d=> ?_⟩,⟨fun k a x e=> ?_,by decide,by decide⟩,rfl,fun l c=> ?_,fun k a h=> ?_,rfl⟩
 ·simp only[fbS,aD,cJ,or_false] at d
  rcases d with rfl | rfl | rfl | rfl <;> exact ⟨by simp,Qnq (by show _∧_≤(4:Int) - 1; omega),Qnq (by show _∧_≤(4:Int) - 1; omega)⟩
 ·have g:k < 2:=a
  rcases (show k=0∨k=1 by omega) with rfl | rfl
  ·cases e
   exact ⟨Qop (by unfold Yv; decide),by decide,fun j y b=>absurd b (bi j)⟩
  ·cases e
   refine ⟨Qop (by unfold Yv; decide),by decide,fun j y b f=> ?_⟩
   have:j=0:=by omega
   subst this
   cases f
   decide
 ·simp only[fbS,aD,cJ,or_false] at c
  rcases c with rfl | rfl | rfl | rfl <;> exact .inl (by decide)
 ·have i:k < 4:=a
  rcases (show k=0∨k=1∨k=2∨k=3 by omega) with rfl | rfl | rfl | rfl <;> first | exact .inl rfl | exact .inr rfl
theorem Qwe [∀s,Decidable (StgOk s)]:(sgV fbS).2=true:=by
 have a:Qq fbS=(((ZO fbS).1.1,(ZO fbS).1.2.1),true):=if_pos ⟨QxC,by decide+kernel⟩
 obtain ⟨c,d⟩:=bg.1 (show (goS (ZO fbS).1.1.length (QP fbS.2.2.1 (ZO fbS).1.2.1) fbS.2.1.length 0 (List.replicate (ZO fbS).1.1.length ByteArray.empty)).isSome=true by decide+kernel)
 have b:¬(4000:Int) < ((ZO fbS).1.2.1.length:Int):=by decide+kernel
 rw[Qbp (s:=fbS) (c:=c) (by rw[a]) (by rw[a]; exact b) (by rw[a]; exact d)]
end Go.Proofs.YtgpdhgadmjfokaaGreat
namespace Go.Proofs.YtgpdhgadmjfokaaGreat
open Go.RowKit
set_option maxRecDepth 100000
set_option maxHeartbeats 4000000
section
variable {l:List ByteArray}{x:ByteArray}{j kd:Int}{i k:Nat}{g:List QD}
theorem QoE:∀(l:List ByteArray) (j:Int),sgA (l++[x]) j=sgA l j++sgN x (j+(l.length:Int)) x.size
 | [],j=>by simp[sgA]
 | y :: l,j=>by
  rw[cq,sgA,sgA,QoE l (j+1),aP,aj]
  congr 3
  omega
theorem QqQ (a:l[k]? =some x):sgA (l.take k) 1++sgN x ((k:Int)+1) x.size=sgA (l.take (k+1)) 1:=by
 have b:=(ai.1 a).1
 rw[QG a,QoE,ap,show (1:Int)+((min k l.length:Nat):Int)=(k:Int)+1 by omega]
theorem QqF:(g++sgN x kd i)++[(x.extract ((i:Nat):Int).toNat ((i:Int)+1).toNat,kd)]=g++sgN x kd (i+1):=by
 unfold sgN
 rw[ce,bj,aP,cM,show ((i:Int)+1).toNat=i+1 by omega]; rfl
end
theorem QY (f:ByteArray)(d:ByteArray)(a:ByteArray)(c:ByteArray)(Y:(ZW c 32).all okA=true)(hs:c.size≤900∧f.size≤100∧d.size≤100∧a.size≤100):FC Tryz.prog 275 [(false,[dS f]),(false,[dS d]),(false,[dS a]),(false,[dS c])] [] 0 (Is (ag [dI (((QJ f d a c).1).1), .ref 0, .ref 1, .ref 2,dS ((QJ f d a c).2.2.2)]) [ar 0 245 Zs (((QJ f d a c).1).2),ar 1 44 Qz ((QJ f d a c).2.1),ar 2 86 Qy ((QJ f d a c).2.2.1)]):=by
 have a4:=Qpi (s:=c) (b:=32)
 have V:([f,d,a]:List ByteArray).length=3:=rfl
 refine Qt Tryz.func275 rfl rfl Tryz.ntmps275 fun O_ X a6 Q X_ U T=> ?_
 refine w_ ?_
 refine lc (xal 0 Qqe H9) ?_
 refine w2 ?_
 refine lc (Qg QtG rfl (au.1 rfl) rfl rfl) ?_
 refine xbx 1 ?_
 refine w7 ?_
 refine lc (dBs 2 (e:= .str) Va) ?_
 refine w4 ?_
 refine AC.wk (Qn 3 (p:=1) (off:=2) 44 Qz rfl rfl (Fresh.of rfl) (nlr rfl)) ?_
 refine QL (fun A B=>∃(k:Nat) (t:List (ByteArray×Int)),k≤([f,d,a]).length∧A=([f,d,a]).length - k∧(t=sgA (([f,d,a]:List ByteArray).take k) 1)∧(t.length≤100*k)∧B=⟨[(3,lf (dS c)),(8,lP 0 0),(9,lP 1 0),(20,lR 2),(21,lI (([f,d,a]).length:Int)),(22,lI (k:Int))],[bx 0 62 [dI 0, .val (.slice none 0 0), .val (.slice none 0 0), .val (.slice none 0 0),dS ByteArray.empty],bx 1 341 [dI 0, .val (.slice none 0 0), .ref 4, .val (.slice none 0 0),dS ByteArray.empty, .val (.slice none 0 0), .val (.slice none 0 0)],ar 2 9 .str ([f,d,a]),ar 4 44 Qz t]⟩) ⟨0,([]:(Ql:Ty).Den),aS _,rfl,rfl,(aS _),rfl⟩ ?_ ?_
 exact wp [(4,3)] ⟨rfl,rfl,rfl,(Qe (by first | rfl | simp)),trivial⟩
 rintro A B ⟨k,t,Z,a1,F,hL,rfl⟩
 refine w4 ?_
 cases H:(decide ((k:Int) < (([f,d,a]).length:Int)))
 have I:=aa H
 refine w6 ?_
 refine lc (Hb (Vq c 32 (by omega)).frozen Qap ⟨_,_,rfl,(Qo rfl),⟨_,_,rfl,(Evl.ev (Qw 32 rfl)),rfl⟩⟩ rfl rfl) ?_
 refine alL 54 fun _=> ?_
 refine w4 ?_
 refine AC.wk (Qn 5 (p:=1) (off:=1) 245 Zs rfl rfl (Fresh.of rfl) (nlr rfl))<|AC.wk (Qn 6 (p:=1) (off:=3) 86 Qy rfl rfl (Fresh.of rfl) (nlr rfl))<|AC.wk (Qn 7 (p:=1) (off:=5) 9 .str rfl rfl (Fresh.of rfl) (nlr rfl))<|AC.wk (Qn 8 (p:=1) (off:=6) 9 .str rfl rfl (Fresh.of rfl) (nlr rfl)) ?_
 refine QL (fun A B=>∃(m:Nat) (n:((Int×(List (List Int×List Int)))×(List (ByteArray×Int))×(List (Int×Bool))×ByteArray)×List ByteArray×List ByteArray),m≤(ZW c 32).length∧A=(ZW c 32).length - m∧(n=((ZW c 32).take m).foldl arV (((0,[]),t,[],ByteArray.empty),[],[]))∧(DBJ n m (2*m) (2*m))∧B=⟨[(8,lP 0 0),(9,lP 1 0),(54,lf (.dat Qm (ZW c 32))),(55,lI ((ZW c 32).length:Int)),(56,lI (m:Int))],[bx 0 62 [dI 0, .val (.slice none 0 0), .val (.slice none 0 0), .val (.slice none 0 0),dS ByteArray.empty],bx 1 341 [dI n.1.1.1, .ref 9, .ref 10, .ref 11,dS n.1.2.2.2, .ref 12, .ref 13],ar 9 245 Zs n.1.1.2,ar 10 44 Qz n.1.2.1,ar 11 86 Qy n.1.2.2.1,ar 12 9 .str n.2.1,ar 13 9 .str n.2.2]⟩) ⟨0,(((0,([]:(X7:Ty).Den)),t,([]:(YQ:Ty).Den),ByteArray.empty),([]:(Qm:Ty).Den),([]:(Qm:Ty).Den)),aS _,rfl,rfl,(DBJ.zero _),rfl⟩ ?_ ?_
 exact wp [(9,5),(10,4),(11,6),(12,7),(13,8)] ⟨rfl,rfl,(Qe (by first | rfl | simp)),(Qe (by first | rfl | simp)),(Qe (by first | rfl | simp)),(Qe (by first | rfl | simp)),(Qe (by first | rfl | simp)),trivial⟩
 rintro A B ⟨m,n,a0,a2,E,N,rfl⟩
 refine w4 ?_
 cases J:(decide ((m:Int) < ((ZW c 32).length:Int)))
 have K:=aa J
 refine w11 ?_
 have R:(n.1.1.1:Int)=(((QJ f d a c).1).1):=by
  (rw[E,QH (by omega),F,QH (by omega)]; rfl)
 have S:(n.1.2.2.2:ByteArray)=((QJ f d a c).2.2.2):=by
  (rw[E,QH (by omega),F,QH (by omega)]; rfl)
 exact fi_ [(0,9),(1,10),(2,11)] X ⟨(Qe (by (rw[E,QH (by omega),F,QH (by omega)]; rfl))),(Qe (by (rw[E,QH (by omega),F,QH (by omega)]; rfl))),(Qe (by (rw[E,QH (by omega),F,QH (by omega)]; rfl))),trivial⟩ (h0:=by rw[R,S] <;> rfl)
 have K:=ab J
 refine w5 ?_
 obtain ⟨r,y⟩:=gx (ZW c 32) m
 have L:=y
 have a5:=QaD (ah y)
 refine w7 ?_
 refine lc (dP 14 [(0,1),(1,10),(2,9),(3,11),(4,12),(5,13)] (Qc1 n r m N (by omega) (au.1 Y _ (ah L)) (by omega)) Qlt) ?_
 refine Qb ?_
 refine w4 ?_
 refine Qb<|Q2 ⟨m+1,((((arV n r).1.1.1,(arV n r).1.1.2),(arV n r).1.2.1,(arV n r).1.2.2.1,(arV n r).1.2.2.2),(arV n r).2.1,(arV n r).2.2),by omega,rfl,(by rw[E,QG L,bm]; rfl),(N.ar_ (text:=r)),rfl⟩ (by omega) ?_
 exact wp [(9,16),(11,17),(12,18),(13,19)] ⟨rfl,rfl,(Qe (by first | rfl | simp)),(Qe (by first | rfl | simp)),(Qe (by first | rfl | simp)),(Qe (by first | rfl | simp)),(Qe (by first | rfl | simp)),trivial⟩
 have I:=ab H
 refine w7 ?_
 obtain ⟨q,z⟩:=gx ([f,d,a]) k
 have M:=z
 have a3:q.size≤100:=by have o:=ah z; simp only[aD,cJ,or_false] at o; rcases o with rfl | rfl | rfl <;> omega
 refine w8 ?_
 refine QL (fun A B=>∃(i:Nat) (C:List (ByteArray×Int)),i≤q.size∧A=q.size - i∧(C=t++sgN q ((k:Int)+1) i)∧(C.length≤100*k+i)∧B=⟨[(3,lf (dS c)),(8,lP 0 0),(9,lP 1 0),(10,lI (k:Int)),(11,lf (dS q)),(12,lI (i:Int)),(20,lR 2),(21,lI (([f,d,a]).length:Int)),(22,lI (k:Int)),(23,lB true),(24,lI (k:Int)),(25,lf (.ept 2 1 k 0)),(26,lf (dS q))],[bx 0 62 [dI 0, .val (.slice none 0 0), .val (.slice none 0 0), .val (.slice none 0 0),dS ByteArray.empty],bx 1 341 [dI 0, .val (.slice none 0 0), .ref 20, .val (.slice none 0 0),dS ByteArray.empty, .val (.slice none 0 0), .val (.slice none 0 0)],ar 2 9 .str ([f,d,a]),ar 20 44 Qz C]⟩) ⟨0,t,aS _,rfl,(by simp[sgN]),(by omega),rfl⟩ ?_ ?_
 exact wo [(20,4)]
 rintro A B ⟨i,C,O,P,G,W,rfl⟩
 refine w4 ?_
 refine alS 28 fun _=> ?_
 refine lc (ZJ (Qa rfl) rfl Zf) ?_
 refine w2 ?_
 cases u:(decide ((i:Int) < (q.size:Int)))
 have D:=aa u
 refine w6 ?_
 refine Qb<|Q2 ⟨k+1,C,by omega,rfl,(by rw[G,F,show i=q.size by omega]; exact QqQ M),(by omega),rfl⟩ (by omega) ?_
 exact wo [(4,20)]
 have D:=ab u
 refine w4 ?_
 apply dV (i9 33 _ _ _ _ _ _ _ _ _ (io 42 _ :: io 43 (lf (dS (q.extract ((i:Int)).toNat ((i:Int)+1).toNat))) :: i2 44 _ _ (io 46 (ag [dS (q.extract ((i:Int)).toNat ((i:Int)+1).toNat),dI ((k:Int)+1)]) :: ⟨some 47,lR 21,[ar 21 44 Qz ([(q.extract ((i:Int)).toNat ((i:Int)+1).toNat,(k:Int)+1)])]⟩ :: ⟨some 48,lR 22,[ar 22 44 Qz (C++([(q.extract ((i:Int)).toNat ((i:Int)+1).toNat,(k:Int)+1)])),(20,none),(21,none)]⟩ :: i3 49 _ _ _ [⟨none,lf (.val undef),[bx 1 341 [dI 0, .val (.slice none 0 0), .ref 22, .val (.slice none 0 0),dS ByteArray.empty, .val (.slice none 0 0), .val (.slice none 0 0)]]⟩]))) [0,1,1,1,1,1,63,127,255,255,63,2047,2047,63,63,1,0,0,0,0]
 refine z10 ?_
 refine zz (fun _ o=>ac (show Does _ _ _ _ (St.put _ 43 (lf (dS (q.extract ((i:Int)).toNat ((i:Int)+1).toNat)))) from Zj (l:=(some (i:Int))) (h:=(some ((i:Int)+1))) (o.v rfl) (by exact (o.v rfl)) (by exact (o.v rfl)) Zf rfl (by first | omega | (simp only[av,ao]; omega)) (by first | omega | (simp only[av,ao]; omega)) (by first | omega | (simp only[av,ao]; omega))) rfl) ?_
 refine z2 ?_
 refine zz (fun _ o=>ac (Qg Qlc ⟨_,_,rfl,(o.w rfl),⟨_,_,rfl,(o.w rfl),rfl⟩⟩ (au.1 rfl) rfl rfl) rfl) ?_
 refine zz (fun _ o=>ac (dBs 21 (e:=Qz) WA (hab:=by exact ⟨_,_,_,_,rfl,⟨[dS (q.extract ((i:Int)).toNat ((i:Int)+1).toNat)],[dI ((k:Int)+1)],_,_,_,_,rfl,rfl,⟨rfl,rfl⟩,⟨rfl,rfl⟩,rfl⟩,⟨rfl,rfl⟩,rfl⟩)) rfl) ?_
 refine zz (fun _ o=>ac (dA 22 UG (hb:=by first | omega | (simp only[aj,aA]; omega))) rfl) ?_
 refine z3 ?_
 refine zz (fun _ o=>ac (QO (o.v rfl) (o.en 1 rfl) (o.w rfl) (by simp only[QQ,Xz,aY,br]; rw[(o.en 22 rfl)]; rfl) Qxf rfl) rfl) ?_
 exact zN
 refine w5 ?_
 refine Qb<|Q2 ⟨i+1,(C++([(q.extract ((i:Int)).toNat ((i:Int)+1).toNat,(k:Int)+1)])),by omega,rfl,(by rw[G]; exact QqF),(by simp only[ae,aj,aA]; omega),rfl⟩ (by omega) ?_
 exact wp [(20,22)] ⟨rfl,rfl,rfl,(Qe (by first | rfl | simp)),trivial⟩
def tx0:ByteArray:=⟨#[97,98]⟩
def tx1:ByteArray:=⟨#[99]⟩
def tx2:ByteArray:=⟨#[]⟩
def tx3:ByteArray:=⟨#[97,43,62,99,43,32,98,43,62,99,43,32,99,43,62,97,45,32,99,43,62,98,45,32,97,45,62,99,45,32,98,45,62,99,45,32,42,99,45,62,97,43,32,42,99,45,62,98,43]⟩
def tx4:ByteArray:=⟨#[97]⟩
def tx5:ByteArray:=⟨#[98]⟩
def tx6:ByteArray:=⟨#[97,43,62,98,43,32,98,43,62,97,45,32,97,45,62,98,45,32,42,98,45,62,97,43]⟩
def tx7:ByteArray:=⟨#[114]⟩
def tx8:ByteArray:=⟨#[120,121]⟩
def tx9:ByteArray:=⟨#[114,43,62,120,43,32,114,43,62,121,43,32,120,43,62,114,45,32,121,43,62,114,45,32,114,45,62,120,45,32,114,45,62,121,45,32,42,120,45,62,114,43,32,42,121,45,62,114,43]⟩
def Qqi:ByteArray:=⟨#[97,100]⟩
def Qc6:ByteArray:=⟨#[98,99]⟩
def Qqt:ByteArray:=⟨#[97,43,62,98,43,32,98,43,62,100,43,32,100,43,62,99,43,32,99,43,62,97,45,32,97,45,62,98,45,32,98,45,62,100,45,32,100,45,62,99,45,32,42,99,45,62,97,43]⟩
def QpR:ByteArray:=⟨#[120]⟩
def Qpc:ByteArray:=⟨#[97,43,62,120,43,32,120,43,62,98,43,32,98,43,62,97,45,32,97,45,62,120,45,32,120,45,62,98,45,32,42,98,45,62,97,43]⟩
def Qo6:ByteArray:=⟨#[42,95,112,62,97,43,32,95,112,62,98,43,32,97,43,62,99,43,47,49,32,99,43,47,49,62,97,45,32,97,45,62,99,45,47,49,32,99,45,47,49,62,95,112,32,98,43,62,99,43,47,50,32,99,43,47,50,62,98,45,32,98,45,62,99,45,47,50,32,99,45,47,50,62,95,112]⟩
def Qp5:ByteArray:=⟨#[97,43,62,126,32,126,62,98,43,32,98,43,62,97,45,32,97,45,62,98,45,32,42,98,45,62,97,43]⟩
def Qo1:ByteArray:=⟨#[42,121,45,62,114,43,32,114,43,62,120,43,32,120,43,62,120,45,32,120,45,62,121,43,32,121,43,62,114,45,32,114,45,62,121,45]⟩
def QpO:ByteArray:=⟨#[42,97,45,62,97,43,32,97,43,62,95,112,32,95,112,62,98,43,32,95,112,62,99,43,32,98,43,62,98,45,32,99,43,62,99,45,32,98,45,62,95,113,32,99,45,62,95,113,32,95,113,62,97,45]⟩
def Qpm:ByteArray:=⟨#[97,43,47,49,62,98,43,32,98,43,62,97,43,47,50,32,97,43,47,50,62,98,45,32,42,98,45,62,97,43,47,49]⟩
def QyZ:ByteArray:=⟨#[112]⟩
def Qx7:ByteArray:=⟨#[113]⟩
def QyV:ByteArray:=⟨#[112,43,62,113,43,32,113,43,62,112,45,32,112,45,62,113,45,32,42,113,45,62,112,43]⟩
def QpU:ByteArray:=⟨#[42,95,112,62,97,43,32,97,43,62,98,43,32,98,43,62,95,113]⟩
theorem WF (code:List UInt8)(at_:Int)(sd:Int)(n:0≤at_∧at_≤999999000):FC Tryz.prog 273 [(false,[.ptr 0 0])] [bx 0 119 [.dat ZQ code,dI at_, .val (.int .u64 sd)]] 1 (Ex (fun x:Q5×Int×Int=>Ty.tot Qdi x.1≤1000∧(1≤x.1.2.1.length∧1≤x.1.2.2.1.length)∧(at_≤x.2.1∧x.2.1≤at_+10)) (fun x:Q5×Int×Int=>ag [dI x.1.1.1, .ref 1, .ref 2, .ref 3,dS x.1.2.2.2]) (fun x:Q5×Int×Int=>[bx 0 119 [.dat ZQ code,dI x.2.1, .val (.int .u64 x.2.2)],ar 1 245 Zs x.1.1.2,ar 2 44 Qz x.1.2.1,ar 3 86 Qy x.1.2.2.1])):=by
 refine Qt Tryz.func273 rfl rfl Tryz.ntmps273 fun h a f b m d c=> ?_
 refine w_ ?_
 refine lc (xal 1 Qqe H9) ?_
 refine w4 ?_
 have e:=Vu code at_ sd 7
 refine lc (dP 2 [] (Zr code at_ sd 7 (by omega)) Xl) ?_
 refine w6 ?_
 refine cd_ (fun _ _=> ?_) fun _ _=> ?_
 refine w4 ?_
 refine cd_ (fun _ _=> ?_) fun _ _=> ?_
 refine w4 ?_
 refine cd_ (fun _ _=> ?_) fun _ _=> ?_
 refine w4 ?_
 refine cd_ (fun _ _=> ?_) fun _ _=> ?_
 refine w4 ?_
 refine cd_ (fun _ _=> ?_) fun _ _=> ?_
 refine w4 ?_
 refine cd_ (fun _ _=> ?_) fun _ _=> ?_
 refine w3 ?_
 refine lc (dG 3 (QY tx4 tx5 tx2 Qp5 (by decide+kernel) (by decide+kernel)) ZX) ?_
 refine w3 ?_
 subst a
 refine Zu (x:=(((((QJ tx4 tx5 tx2 Qp5).1).1,((QJ tx4 tx5 tx2 Qp5).1).2),((QJ tx4 tx5 tx2 Qp5).2.1,((QJ tx4 tx5 tx2 Qp5).2.2.1,(QJ tx4 tx5 tx2 Qp5).2.2.2))),((pkA 7 at_),(pkS code at_ sd 7)))) [(0,0),(1,3),(2,4),(3,5)] ?_ (Res.one rfl (Rs.cell rfl rfl YK rfl)) rfl ⟨rfl,rfl,rfl,rfl,trivial⟩ rfl rfl
 first | (dsimp only; exact ⟨by decide+kernel,⟨by decide+kernel,by decide+kernel⟩,by omega⟩)
 refine w_ ?_
 refine lc (dG 6 (QY tx0 tx1 tx2 Qo6 (by decide+kernel) (by decide+kernel)) ZX) ?_
 refine w3 ?_
 subst a
 refine Zu (x:=(((((QJ tx0 tx1 tx2 Qo6).1).1,((QJ tx0 tx1 tx2 Qo6).1).2),((QJ tx0 tx1 tx2 Qo6).2.1,((QJ tx0 tx1 tx2 Qo6).2.2.1,(QJ tx0 tx1 tx2 Qo6).2.2.2))),((pkA 7 at_),(pkS code at_ sd 7)))) [(0,0),(1,6),(2,7),(3,8)] ?_ (Res.one rfl (Rs.cell rfl rfl YK rfl)) rfl ⟨rfl,rfl,rfl,rfl,trivial⟩ rfl rfl
 first | (dsimp only; exact ⟨by decide+kernel,⟨by decide+kernel,by decide+kernel⟩,by omega⟩)
 refine w_ ?_
 refine lc (dG 9 (QY tx4 tx5 QpR Qpc (by decide+kernel) (by decide+kernel)) ZX) ?_
 refine w3 ?_
 subst a
 refine Zu (x:=(((((QJ tx4 tx5 QpR Qpc).1).1,((QJ tx4 tx5 QpR Qpc).1).2),((QJ tx4 tx5 QpR Qpc).2.1,((QJ tx4 tx5 QpR Qpc).2.2.1,(QJ tx4 tx5 QpR Qpc).2.2.2))),((pkA 7 at_),(pkS code at_ sd 7)))) [(0,0),(1,9),(2,10),(3,11)] ?_ (Res.one rfl (Rs.cell rfl rfl YK rfl)) rfl ⟨rfl,rfl,rfl,rfl,trivial⟩ rfl rfl
 first | (dsimp only; exact ⟨by decide+kernel,⟨by decide+kernel,by decide+kernel⟩,by omega⟩)
 refine w_ ?_
 refine lc (dG 12 (QY Qqi Qc6 tx2 Qqt (by decide+kernel) (by decide+kernel)) ZX) ?_
 refine w3 ?_
 subst a
 refine Zu (x:=(((((QJ Qqi Qc6 tx2 Qqt).1).1,((QJ Qqi Qc6 tx2 Qqt).1).2),((QJ Qqi Qc6 tx2 Qqt).2.1,((QJ Qqi Qc6 tx2 Qqt).2.2.1,(QJ Qqi Qc6 tx2 Qqt).2.2.2))),((pkA 7 at_),(pkS code at_ sd 7)))) [(0,0),(1,12),(2,13),(3,14)] ?_ (Res.one rfl (Rs.cell rfl rfl YK rfl)) rfl ⟨rfl,rfl,rfl,rfl,trivial⟩ rfl rfl
 first | (dsimp only; exact ⟨by decide+kernel,⟨by decide+kernel,by decide+kernel⟩,by omega⟩)
 refine w_ ?_
 refine lc (dG 15 (QY tx7 tx8 tx2 tx9 (by decide+kernel) (by decide+kernel)) ZX) ?_
 refine w3 ?_
 subst a
 refine Zu (x:=(((((QJ tx7 tx8 tx2 tx9).1).1,((QJ tx7 tx8 tx2 tx9).1).2),((QJ tx7 tx8 tx2 tx9).2.1,((QJ tx7 tx8 tx2 tx9).2.2.1,(QJ tx7 tx8 tx2 tx9).2.2.2))),((pkA 7 at_),(pkS code at_ sd 7)))) [(0,0),(1,15),(2,16),(3,17)] ?_ (Res.one rfl (Rs.cell rfl rfl YK rfl)) rfl ⟨rfl,rfl,rfl,rfl,trivial⟩ rfl rfl
 first | (dsimp only; exact ⟨by decide+kernel,⟨by decide+kernel,by decide+kernel⟩,by omega⟩)
 refine w_ ?_
 refine lc (dG 18 (QY tx4 tx5 tx2 tx6 (by decide+kernel) (by decide+kernel)) ZX) ?_
 refine w3 ?_
 subst a
 refine Zu (x:=(((((QJ tx4 tx5 tx2 tx6).1).1,((QJ tx4 tx5 tx2 tx6).1).2),((QJ tx4 tx5 tx2 tx6).2.1,((QJ tx4 tx5 tx2 tx6).2.2.1,(QJ tx4 tx5 tx2 tx6).2.2.2))),((pkA 7 at_),(pkS code at_ sd 7)))) [(0,0),(1,18),(2,19),(3,20)] ?_ (Res.one rfl (Rs.cell rfl rfl YK rfl)) rfl ⟨rfl,rfl,rfl,rfl,trivial⟩ rfl rfl
 first | (dsimp only; exact ⟨by decide+kernel,⟨by decide+kernel,by decide+kernel⟩,by omega⟩)
 refine w_ ?_
 refine lc (dG 21 (QY tx0 tx1 tx2 tx3 (by decide+kernel) (by decide+kernel)) ZX) ?_
 refine w3 ?_
 subst a
 refine Zu (x:=(((((QJ tx0 tx1 tx2 tx3).1).1,((QJ tx0 tx1 tx2 tx3).1).2),((QJ tx0 tx1 tx2 tx3).2.1,((QJ tx0 tx1 tx2 tx3).2.2.1,(QJ tx0 tx1 tx2 tx3).2.2.2))),((pkA 7 at_),(pkS code at_ sd 7)))) [(0,0),(1,21),(2,22),(3,23)] ?_ (Res.one rfl (Rs.cell rfl rfl YK rfl)) rfl ⟨rfl,rfl,rfl,rfl,trivial⟩ rfl rfl
 first | (dsimp only; exact ⟨by decide+kernel,⟨by decide+kernel,by decide+kernel⟩,by omega⟩)
theorem Qa2 (code:List UInt8)(at_:Int)(sd:Int)[∀s,Decidable (StgOk s)][∀s,Decidable (XR s)](w:0≤at_∧at_≤999998900):FC Tryz.prog 254 [(false,[.ptr 0 0])] [bx 0 119 [.dat ZQ code,dI at_, .val (.int .u64 sd)]] 1 (Ex (fun x:Q5×Int×Int=>Ty.tot Qdi x.1≤1000∧(1≤x.1.2.1.length∧1≤x.1.2.2.1.length)∧(at_≤x.2.1∧x.2.1≤at_+20)) (fun x:Q5×Int×Int=>ag [dI x.1.1.1, .ref 1, .ref 2, .ref 3,dS x.1.2.2.2]) (fun x:Q5×Int×Int=>[bx 0 119 [.dat ZQ code,dI x.2.1, .val (.int .u64 x.2.2)],ar 1 245 Zs x.1.1.2,ar 2 44 Qz x.1.2.1,ar 3 86 Qy x.1.2.2.1])):=by
 refine Qt Tryz.func254 rfl rfl Tryz.ntmps254 fun u b t n v p o=> ?_
 refine w_ ?_
 refine lc (xal 1 Qqe H9) ?_
 refine w4 ?_
 have q:=Vu code at_ sd 9
 refine lc (dP 2 [] (Zr code at_ sd 9 (by omega)) Xl) ?_
 refine w6 ?_
 refine cd_ (fun _ _=> ?_) fun _ _=> ?_
 refine w4 ?_
 refine cd_ (fun _ _=> ?_) fun _ _=> ?_
 refine w4 ?_
 refine cd_ (fun _ _=> ?_) fun _ _=> ?_
 refine w4 ?_
 refine cd_ (fun _ _=> ?_) fun _ _=> ?_
 refine w4 ?_
 refine cd_ (fun _ _=> ?_) fun _ _=> ?_
 refine w4 ?_
 refine Wv 3 [(0,0)] (WF code (pkA 9 at_) (pkS code at_ sd 9) (by omega)) Qfj e1_ ⟨rfl,trivial⟩ rfl (fun _=>rfl) (fun _=>⟨trivial,(Fresh.of rfl),(Fresh.of rfl),(Fresh.of rfl),trivial⟩) (nlr rfl) fun d r=> ?_
 refine w3 ?_
 subst b
 refine Zu (x:=(((d.1.1.1,d.1.1.2),(d.1.2.1,(d.1.2.2.1,d.1.2.2.2))),(d.2.1,d.2.2))) [(0,0),(1,4),(2,5),(3,6)] ?_ (Res.one rfl (Rs.cell rfl rfl YK rfl)) rfl ⟨rfl,rfl,rfl,rfl,trivial⟩ rfl rfl
 (have c:=‹Ty.tot Qdi _≤1000∧_›; dsimp only; exact ⟨c.1,c.2.1,by omega⟩)
 refine w_ ?_
 refine lc (dG 7 (QY tx4 tx5 tx2 QpU (by decide+kernel) (by decide+kernel)) ZX) ?_
 refine w3 ?_
 subst b
 refine Zu (x:=(((((QJ tx4 tx5 tx2 QpU).1).1,((QJ tx4 tx5 tx2 QpU).1).2),((QJ tx4 tx5 tx2 QpU).2.1,((QJ tx4 tx5 tx2 QpU).2.2.1,(QJ tx4 tx5 tx2 QpU).2.2.2))),((pkA 9 at_),(pkS code at_ sd 9)))) [(0,0),(1,7),(2,8),(3,9)] ?_ (Res.one rfl (Rs.cell rfl rfl YK rfl)) rfl ⟨rfl,rfl,rfl,rfl,trivial⟩ rfl rfl
 (dsimp only; exact ⟨by decide+kernel,⟨by decide+kernel,by decide+kernel⟩,by omega⟩)
 refine w_ ?_
 refine lc (dK (QY QyZ Qx7 tx2 QyV (by decide+kernel) (by decide+kernel)).frozenG ZX) ?_
 refine lc (dK (QY tx4 tx5 tx2 tx6 (by decide+kernel) (by decide+kernel)).frozenG ZX) ?_
 refine Wv 10 [] (QaQ (QJ QyZ Qx7 tx2 QyV) (QJ tx4 tx5 tx2 tx6) (by decide+kernel) (by decide+kernel)) Qmh e2_ trivial rfl (fun _=>rfl) (fun _=>⟨(Fresh.of rfl),(Fresh.of rfl),(Fresh.of rfl),trivial⟩) (nlr rfl) fun e h=> ?_
 refine w3 ?_
 refine lc (xal 13 Qqe H9) ?_
 refine w6 ?_
 refine cb_ (fun _=> ?_) fun _=> ?_
 refine w4 ?_
 refine Wv 14 [(0,0)] (WF code (pkA 9 at_) (pkS code at_ sd 9) (by omega)) Qfj e1_ ⟨rfl,trivial⟩ rfl (fun _=>rfl) (fun _=>⟨trivial,(Fresh.of rfl),(Fresh.of rfl),(Fresh.of rfl),trivial⟩) (nlr rfl) fun a m=> ?_
 refine w3 ?_
 subst b
 refine Zu (x:=(((a.1.1.1,a.1.1.2),(a.1.2.1,(a.1.2.2.1,a.1.2.2.2))),(a.2.1,a.2.2))) [(0,0),(1,15),(2,16),(3,17)] ?_ (Res.one rfl (Rs.cell rfl rfl YK rfl)) rfl ⟨rfl,rfl,rfl,rfl,trivial⟩ rfl rfl
 (have c:=‹Ty.tot Qdi _≤1000∧_›; dsimp only; exact ⟨c.1,c.2.1,by omega⟩)
 refine w5 ?_
 subst b
 refine Zu (x:=(((e.1.1.1,e.1.1.2),(e.1.2.1,(e.1.2.2.1,e.1.2.2.2))),((pkA 9 at_),(pkS code at_ sd 9)))) [(0,0),(1,10),(2,11),(3,12)] ?_ (Res.one rfl (Rs.cell rfl rfl YK rfl)) rfl ⟨rfl,rfl,rfl,rfl,trivial⟩ rfl rfl
 (have c:=‹_=true→_=unS _ _›; have f:=c ‹_›; dsimp only; rw[f]; exact ⟨by decide+kernel,⟨by decide+kernel,by decide+kernel⟩,by omega⟩)
 refine w_ ?_
 refine lc (dG 18 (QY tx4 tx5 tx2 Qpm (by decide+kernel) (by decide+kernel)) ZX) ?_
 refine w3 ?_
 subst b
 refine Zu (x:=(((((QJ tx4 tx5 tx2 Qpm).1).1,((QJ tx4 tx5 tx2 Qpm).1).2),((QJ tx4 tx5 tx2 Qpm).2.1,((QJ tx4 tx5 tx2 Qpm).2.2.1,(QJ tx4 tx5 tx2 Qpm).2.2.2))),((pkA 9 at_),(pkS code at_ sd 9)))) [(0,0),(1,18),(2,19),(3,20)] ?_ (Res.one rfl (Rs.cell rfl rfl YK rfl)) rfl ⟨rfl,rfl,rfl,rfl,trivial⟩ rfl rfl
 (dsimp only; exact ⟨by decide+kernel,⟨by decide+kernel,by decide+kernel⟩,by omega⟩)
 refine w_ ?_
 refine lc (dG 21 (QY tx4 Qc6 tx2 QpO (by decide+kernel) (by decide+kernel)) ZX) ?_
 refine w3 ?_
 subst b
 refine Zu (x:=(((((QJ tx4 Qc6 tx2 QpO).1).1,((QJ tx4 Qc6 tx2 QpO).1).2),((QJ tx4 Qc6 tx2 QpO).2.1,((QJ tx4 Qc6 tx2 QpO).2.2.1,(QJ tx4 Qc6 tx2 QpO).2.2.2))),((pkA 9 at_),(pkS code at_ sd 9)))) [(0,0),(1,21),(2,22),(3,23)] ?_ (Res.one rfl (Rs.cell rfl rfl YK rfl)) rfl ⟨rfl,rfl,rfl,rfl,trivial⟩ rfl rfl
 (dsimp only; exact ⟨by decide+kernel,⟨by decide+kernel,by decide+kernel⟩,by omega⟩)
 refine w_ ?_
 refine lc (dG 24 (QY tx7 tx8 tx2 Qo1 (by decide+kernel) (by decide+kernel)) ZX) ?_
 refine w3 ?_
 subst b
 refine Zu (x:=(((((QJ tx7 tx8 tx2 Qo1).1).1,((QJ tx7 tx8 tx2 Qo1).1).2),((QJ tx7 tx8 tx2 Qo1).2.1,((QJ tx7 tx8 tx2 Qo1).2.2.1,(QJ tx7 tx8 tx2 Qo1).2.2.2))),((pkA 9 at_),(pkS code at_ sd 9)))) [(0,0),(1,24),(2,25),(3,26)] ?_ (Res.one rfl (Rs.cell rfl rfl YK rfl)) rfl ⟨rfl,rfl,rfl,rfl,trivial⟩ rfl rfl
 (dsimp only; exact ⟨by decide+kernel,⟨by decide+kernel,by decide+kernel⟩,by omega⟩)
end Go.Proofs.YtgpdhgadmjfokaaGreat
namespace Go.Proofs.YtgpdhgadmjfokaaGreat
open Go.RowKit
set_option maxRecDepth 100000
set_option maxHeartbeats 4000000
section
variable [∀c,Decidable (SgOk c)][∀s,Decidable (Zx s)]{c:DSg}{m:Option Z0}{M:List Z0}{x z:Z0}
def ChG (c:DSg)(m:Option Z0)(M:List Z0):Prop:=match m with
 | none=>M=[]
 | some y=>y∈M∧∀z∈M,¬HE c z < HE c y∧¬(HE c z=HE c y∧QjE c z < QjE c y)
theorem ChG.step (h:ChG c m M):ChG c (QjL c m x) (M++[x]):=by
 cases m with
 | none=>
  have h:M=[]:=h
  subst h
  show x∈[x]∧_
  refine ⟨aB.2 rfl,fun z a=> ?_⟩
  rw[ci,aB] at a
  subst a; omega
 | some y=>
  obtain ⟨d,b⟩:=h
  simp only[QjL]
  split
  ·rename_i e
   show x∈M++[x]∧_
   refine ⟨aN _ (aB.2 rfl),fun z a=> ?_⟩
   rcases aE.1 a with a | a
   ·have:=b z a; omega
   ·rw[aB] at a; subst a; omega
  ·rename_i e
   show y∈M++[x]∧_
   refine ⟨aG _ d,fun z a=> ?_⟩
   rcases aE.1 a with a | a
   ·exact b z a
   ·rw[aB] at a; subst a; omega
end
end Go.Proofs.YtgpdhgadmjfokaaGreat
namespace Go.Proofs.YtgpdhgadmjfokaaGreat
open Go.RowKit
set_option maxRecDepth 100000
set_option maxHeartbeats 4000000
def swp (p:List Int):List Int:=[(p[1]?).getD 0,(p[0]?).getD 0]
def Qz2 (P:List (List Int))(n:Nat):List (List Int):=(List.range n).flatMap fun a:Nat=>((List.range n).filter fun b:Nat=>(P.any fun p=>decide (p=[min (a:Int) (b:Int),max (a:Int) (b:Int)]))&&decide ((a:Int)≠(b:Int))).map fun b:Nat=>[(a:Int),(b:Int)]
section
variable {P:List (List Int)}{n:Nat}{x:List Int}{ms:List ByteArray}{g:Xr}
variable [∀s,Decidable (StgOk s)]{s:Q5}
end
end Go.Proofs.YtgpdhgadmjfokaaGreat
namespace Go.Proofs.YtgpdhgadmjfokaaGreat
open Go.RowKit
set_option maxRecDepth 100000
set_option maxHeartbeats 4000000
section
variable [∀s,Decidable (StgOk s)]{s:Q5}{l:List (List Int)}{p:List Int}{k i m:Nat}{a b:Int}
def QzQ (s:Q5)(l:List (List Int)):List QK:=l.flatMap fun p=>Qws s ((p[0]?).getD 0) ((p[1]?).getD 0) [false,true]
end
end Go.Proofs.YtgpdhgadmjfokaaGreat
