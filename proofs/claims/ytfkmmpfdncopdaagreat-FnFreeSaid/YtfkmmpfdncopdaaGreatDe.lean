/- Walks over abstract states: the cursor of the draws. -/
import Derived.Test.YtfkmmpfdncopdaaGreatBu
import Derived.Test.YtfkmmpfdncopdaaGreatWz
import Derived.Test.YtfkmmpfdncopdaaGreatAv
set_option linter.unusedSimpArgs false
set_option linter.unusedVariables false
set_option linter.unusedSectionVars false
namespace Go.Proofs.YtfkmmpfdncopdaaGreat
open Go.RowKit
set_option maxRecDepth 100000
set_option maxHeartbeats 4000000
def nxB (code:List UInt8)(at_:Int):Int:=if at_ < (code.length:Int) then ((((code[at_.toNat]?).getD 0).toNat:Nat):Int) else 0
def nxS (code:List UInt8)(at_ sd:Int):Int:=IntKind.u64.wrap (IntKind.u64.wrap (IntKind.u64.wrap (sd*6364136223846793005)+nxB code at_)+1442695040888963407)
def nxV (code:List UInt8)(at_ sd:Int):Int:=if at_+1≤(code.length:Int) then nxB code at_ else bits .and .u64 (nxS code at_ sd / 2 ^ 40) 255
def pkV (code:List UInt8)(at_ sd n:Int):Int:=if n≤1 then 0 else if 200 < n then (nxV code at_ sd*256+nxV code (at_+1) (nxS code at_ sd)) % n else nxV code at_ sd % n
def pkA (n at_:Int):Int:=if n≤1 then at_ else if 200 < n then at_+1+1 else at_+1
def pkS (code:List UInt8)(at_ sd n:Int):Int:=if n≤1 then sd else if 200 < n then nxS code (at_+1) (nxS code at_ sd) else nxS code at_ sd
section
variable {code:List UInt8}{at_ sd n:Int}{c:UInt8}
theorem Qnx (code:List UInt8)(at_:Int):0≤nxB code at_∧nxB code at_≤255:=by
  unfold nxB
  split
  · have : ((code[at_.toNat]?).getD 0).toNat < 256 := UInt8.toNat_lt _
    omega
  · omega
theorem QmE (code:List UInt8)(at_ sd:Int):0≤nxS code at_ sd∧nxS code at_ sd < 18446744073709551616:=Vd _
theorem Qad (code:List UInt8)(at_ sd:Int):0≤nxV code at_ sd∧nxV code at_ sd≤255:=by
  unfold nxV
  split
  · exact Qnx ..
  · exact Qa5 (Uk (QmE ..))
theorem Qaa (h:code[at_.toNat]? =some c)(h2:at_ < (code.length:Int)):(((c.toNat:Nat):Int))=nxB code at_:=by unfold nxB; rw[if_pos h2,h]; rfl
theorem Qdf (h:¬at_ < (code.length:Int)):(0:Int)=nxB code at_:=(if_neg h).symm
theorem Qg9 (h:at_+1≤(code.length:Int)):nxB code at_=nxV code at_ sd:=(if_pos h).symm
theorem Qk2 (h:¬at_+1≤(code.length:Int)):bits .and .u64 (nxS code at_ sd / 2 ^ 40) 255=nxV code at_ sd:=(if_neg h).symm
theorem Zj (code:List UInt8)(at_ sd n:Int):(0≤pkV code at_ sd n∧(1≤n→pkV code at_ sd n < n))∧(at_≤pkA n at_∧pkA n at_≤at_+2):=by
  refine ⟨?_, ?_⟩
  · unfold pkV
    have h1:=Qad code at_ sd
    have h2:=Qad code (at_+1) (nxS code at_ sd)
    split
    · omega
    · split
      · exact ⟨Int.emod_nonneg _ (by omega),fun _=>Int.emod_lt_of_pos _ (by omega)⟩
      · exact ⟨Int.emod_nonneg _ (by omega),fun _=>Int.emod_lt_of_pos _ (by omega)⟩
  · unfold pkA
    split
    · omega
    · split <;> omega
theorem Qn0 (h:n≤1):pkV code at_ sd n=0∧pkA n at_=at_∧pkS code at_ sd n=sd:=⟨if_pos h,if_pos h,if_pos h⟩
theorem QoS (h:¬n≤1)(h2:200 < n):pkV code at_ sd n=(nxV code at_ sd*256+nxV code (at_+1) (nxS code at_ sd)) % n∧pkA n at_=at_+1+1∧pkS code at_ sd n=nxS code (at_+1) (nxS code at_ sd):=by
  refine ⟨?_, ?_, ?_⟩
  · unfold pkV; rw[if_neg h,if_pos h2]
  · unfold pkA; rw[if_neg h,if_pos h2]
  · unfold pkS; rw[if_neg h,if_pos h2]
theorem Qot (h:¬n≤1)(h2:¬200 < n):pkV code at_ sd n=nxV code at_ sd % n∧pkA n at_=at_+1∧pkS code at_ sd n=nxS code at_ sd:=by
  refine ⟨?_, ?_, ?_⟩
  · unfold pkV; rw[if_neg h,if_neg h2]
  · unfold pkA; rw[if_neg h,if_neg h2]
  · unfold pkS; rw[if_neg h,if_neg h2]
end
def cuN (code:List UInt8)(c:Int×Int)(n:Int):Int×Int:=(pkA n c.1,pkS code c.1 c.2 n)
def cuV (code:List UInt8)(c:Int×Int)(n:Int):Int:=pkV code c.1 c.2 n
def spT (t w:ByteArray)(i q:Int):ByteArray:=if q=0 then t.extract 0 i.toNat++w++t.extract i.toNat t.size else if q=1 then t.extract 0 i.toNat++w++t.extract (i+1).toNat t.size else t.extract 0 i.toNat++t.extract (i+1).toNat t.size
def spW (code:List UInt8)(wt:ByteArray)(c:Int×Int):ByteArray:=⟨#[(wt[(cuV code c (wt.size:Int)).toNat]?).getD 0]⟩
def spN (code:List UInt8)(wt:ByteArray)(s:ByteArray×Int×Int):ByteArray×Int×Int:=
  let c1:=cuN code s.2 (s.1.size:Int); let c2:=cuN code c1 (wt.size:Int)
  (spT s.1 (spW code wt c1) (cuV code s.2 (s.1.size:Int)) (cuV code c2 3),cuN code c2 3)
def spG (code:List UInt8)(wt:ByteArray):Nat→ByteArray×Int×Int→ByteArray×Int×Int
  | 0,s=>s
  | n+1,s=>if 0 < s.1.size then spG code wt n (spN code wt s) else s
def spV (code:List UInt8)(wt t:ByteArray)(at_ sd:Int):ByteArray×Int×Int:=spG code wt (1+pkV code at_ sd 2).toNat (t,pkA 2 at_,pkS code at_ sd 2)
section
variable {code:List UInt8}{wt t:ByteArray}{at_ sd n q i:Int}{s:ByteArray×Int×Int}{w:ByteArray}
theorem Qkx (h:0≤i∧i < (t.size:Int))(hw:w.size=1):(spT t w i q).size≤t.size+1:=by
  unfold spT
  split
  · simp only[aK,aL,hw]; omega
  · split
    · simp only[aK,aL,hw]; omega
    · simp only[aK,aL]; omega
theorem QmC (h:0 < s.1.size):(spN code wt s).1.size≤s.1.size+1∧s.2.1≤(spN code wt s).2.1∧(spN code wt s).2.1≤s.2.1+6:=by
  have h1:=Zj code s.2.1 s.2.2 (s.1.size:Int)
  have h2:=Zj code (pkA (s.1.size:Int) s.2.1) (pkS code s.2.1 s.2.2 (s.1.size:Int)) (wt.size:Int)
  have h3:=Zj code (pkA (wt.size:Int) (pkA (s.1.size:Int) s.2.1)) (pkS code (pkA (s.1.size:Int) s.2.1) (pkS code s.2.1 s.2.2 (s.1.size:Int)) (wt.size:Int)) 3
  refine ⟨Qkx ⟨h1.1.1,h1.1.2 (by omega)⟩ rfl, ?_, ?_⟩
  · show s.2.1≤pkA 3 (pkA (wt.size:Int) (pkA (s.1.size:Int) s.2.1)); omega
  · show pkA 3 (pkA (wt.size:Int) (pkA (s.1.size:Int) s.2.1))≤s.2.1+6; omega
theorem Qie:∀(k:Nat) (s:ByteArray×Int×Int),(spG code wt k s).1.size≤s.1.size+k∧s.2.1≤(spG code wt k s).2.1∧(spG code wt k s).2.1≤s.2.1+6*k
  | 0,s=>⟨aO _,d8 _,by simp[spG]⟩
  | k+1,s=>by
    rw[spG]
    split
    · rename_i h
      have h1:=QmC (code:=code) (wt:=wt) h
      have h2:=Qie k (spN code wt s)
      refine ⟨by omega,by omega,by omega⟩
    · exact ⟨by omega,d8 _,by omega⟩
theorem Ql1 {k a_ b_:Int}(hn:0 < k)(ht:0 < t.size):spG code wt k.toNat (t,a_,b_)=spG code wt (k - 1).toNat (spN code wt (t,a_,b_)):=by
  rw[show k.toNat=(k - 1).toNat+1 by omega,spG,if_pos ht]
theorem JD {k a_ b_:Int}(h:k≤0∨t.size=0):spG code wt k.toNat (t,a_,b_)=(t,a_,b_):=by
  by_cases hk:k≤0
  · rw[show k.toNat=0 by omega,spG]
  · rw[show k.toNat=(k - 1).toNat+1 by omega,spG,if_neg (by show¬0 < t.size; omega)]
theorem Qpl {a_ s_:Int}{c:UInt8}(hw:wt[(pkV code (pkA (t.size:Int) a_) (pkS code a_ s_ (t.size:Int)) (wt.size:Int)).toNat]? =some c)(hq:pkV code (pkA (wt.size:Int) (pkA (t.size:Int) a_)) (pkS code (pkA (t.size:Int) a_) (pkS code a_ s_ (t.size:Int)) (wt.size:Int)) 3=0):
    spN code wt (t,a_,s_)=(t.extract 0 (pkV code a_ s_ (t.size:Int)).toNat++(⟨#[c]⟩:ByteArray)++t.extract (pkV code a_ s_ (t.size:Int)).toNat t.size,pkA 3 (pkA (wt.size:Int) (pkA (t.size:Int) a_)),pkS code (pkA (wt.size:Int) (pkA (t.size:Int) a_)) (pkS code (pkA (t.size:Int) a_) (pkS code a_ s_ (t.size:Int)) (wt.size:Int)) 3):=by
  unfold spN spT spW cuV cuN
  dsimp only
  rw[if_pos hq,hw]; rfl
theorem QpM {a_ s_:Int}{c:UInt8}(hw:wt[(pkV code (pkA (t.size:Int) a_) (pkS code a_ s_ (t.size:Int)) (wt.size:Int)).toNat]? =some c)(hq0:¬pkV code (pkA (wt.size:Int) (pkA (t.size:Int) a_)) (pkS code (pkA (t.size:Int) a_) (pkS code a_ s_ (t.size:Int)) (wt.size:Int)) 3=0)
    (hq:pkV code (pkA (wt.size:Int) (pkA (t.size:Int) a_)) (pkS code (pkA (t.size:Int) a_) (pkS code a_ s_ (t.size:Int)) (wt.size:Int)) 3=1):
    spN code wt (t,a_,s_)=(t.extract 0 (pkV code a_ s_ (t.size:Int)).toNat++(⟨#[c]⟩:ByteArray)++t.extract (pkV code a_ s_ (t.size:Int)+1).toNat t.size,pkA 3 (pkA (wt.size:Int) (pkA (t.size:Int) a_)),pkS code (pkA (wt.size:Int) (pkA (t.size:Int) a_)) (pkS code (pkA (t.size:Int) a_) (pkS code a_ s_ (t.size:Int)) (wt.size:Int)) 3):=by
  unfold spN spT spW cuV cuN
  dsimp only
  rw[if_neg hq0,if_pos hq,hw]; rfl
theorem QpZ {a_ s_:Int}(hq0:¬pkV code (pkA (wt.size:Int) (pkA (t.size:Int) a_)) (pkS code (pkA (t.size:Int) a_) (pkS code a_ s_ (t.size:Int)) (wt.size:Int)) 3=0)
    (hq:¬pkV code (pkA (wt.size:Int) (pkA (t.size:Int) a_)) (pkS code (pkA (t.size:Int) a_) (pkS code a_ s_ (t.size:Int)) (wt.size:Int)) 3=1):
    spN code wt (t,a_,s_)=(t.extract 0 (pkV code a_ s_ (t.size:Int)).toNat++t.extract (pkV code a_ s_ (t.size:Int)+1).toNat t.size,pkA 3 (pkA (wt.size:Int) (pkA (t.size:Int) a_)),pkS code (pkA (wt.size:Int) (pkA (t.size:Int) a_)) (pkS code (pkA (t.size:Int) a_) (pkS code a_ s_ (t.size:Int)) (wt.size:Int)) 3):=by
  unfold spN spT cuV cuN
  dsimp only
  rw[if_neg hq0,if_neg hq]
theorem QnU (code:List UInt8)(wt t:ByteArray)(at_ sd:Int):(spV code wt t at_ sd).1.size≤t.size+2∧at_≤(spV code wt t at_ sd).2.1∧(spV code wt t at_ sd).2.1≤at_+14:=by
  have h1:=Zj code at_ sd 2
  have h2:=Qie (code:=code) (wt:=wt) (1+pkV code at_ sd 2).toNat (t,pkA 2 at_,pkS code at_ sd 2)
  have h3:(1+pkV code at_ sd 2).toNat≤2:=by have:=h1.1.2 (by decide); omega
  unfold spV
  dsimp only at h2
  refine ⟨by omega,by omega,by omega⟩
end
theorem Ws (code:List UInt8)(at_:Int)(sd:Int)(ha:0≤at_∧at_≤1000000000):FC Tryz.prog 172 [(false,[.ptr 0 0])] [bx 0 93 [.dat (.sl 5 .u8) code,dI at_, .val (.int .u64 sd)]] 1 (Is (lI (nxV code at_ sd)) [bx 0 93 [.dat (.sl 5 .u8) code,dI (at_+1), .val (.int .u64 (nxS code at_ sd))]]):=by
 refine Qj Tryz.func172 rfl rfl Tryz.ntmps172 fun O_ hO w0_ N0_ X_ h0_ f0_=> ?_
 iterate 7 refine w_ ?_
 apply dW (i9 4 _ _ _ _ _ _ _ _ _ [io 13 _]) [0,0,0,0,15,15,15,15,15,0]
 iterate 10 refine z_ ?_
 exact zN
 refine cd_ (fun hb1 hb1'=> ?_) fun hb1 hb1'=> ?_
 ·iterate 6 refine w_ ?_
  refine alI 28 fun hi2=> ?_
  iterate 11 refine w_ ?_
  refine lc (Qct (Qa rfl) Evl.val rfl) ?_
  refine w_ ?_
  refine lc (Vt (Qa rfl) K5 QdX (by omega) rfl)<|lc (UE (Qa rfl) (Qa rfl) rfl)<|lc (UE (Qa rfl) Evl.val rfl) ?_
  iterate 5 refine w_ ?_
  apply dW (i9 44 _ _ _ _ _ _ _ _ _ [io 53 _]) [0,0,0,0,15,15,15,15,15,0]
  iterate 10 refine z_ ?_
  exact zN
  refine cd_ (fun hb3 hb3'=> ?_) fun hb3 hb3'=> ?_
  ·iterate 6 refine w_ ?_
   refine lc (Qcj (Qa rfl) Evl.val rfl (by omega))<|lc (QbS (Qa rfl) Evl.val rfl)<|lc (KG (Qa rfl) QdX K5 (by first | omega | exact ⟨(Qa5 (Uk (Vd _))).1,Int.le_trans (Qa5 (Uk (Vd _))).2 (by decide)⟩) rfl) ?_
   iterate 2 refine w_ ?_
   refine Qb ?_
   have e4:((bits .and .u64 ((IntKind.u64.wrap ((IntKind.u64.wrap ((IntKind.u64.wrap (sd*(6364136223846793005:Int)))+(0:Int)))+(1442695040888963407:Int))) / 2 ^ (40:Int).toNat) (255:Int)):Int)=(nxV code at_ sd):=by
    (rw[← Qk2 (by assumption),nxS,← Qdf (by assumption)]; rfl)
   exact fi_ [] hO ⟨((congrArg (fun z_:Int=>some (Ent.box 93 [.dat (.sl 5 .u8) code,dI (at_+1), .val (.int .u64 z_)])) (show ((IntKind.u64.wrap ((IntKind.u64.wrap ((IntKind.u64.wrap (sd*(6364136223846793005:Int)))+(0:Int)))+(1442695040888963407:Int))):Int)=(nxS code at_ sd) by (unfold nxS; rw[← Qdf (by assumption)])))),trivial⟩ (h0:=(congrArg (fun z_=>lI z_) e4))
  ·iterate 4 refine w_ ?_
   refine Qb ?_
   have e5:(0:Int)=(nxV code at_ sd):=by
    (rw[Qdf (by assumption)]; exact Qg9 (by assumption))
   exact fi_ [] hO ⟨((congrArg (fun z_:Int=>some (Ent.box 93 [.dat (.sl 5 .u8) code,dI (at_+1), .val (.int .u64 z_)])) (show ((IntKind.u64.wrap ((IntKind.u64.wrap ((IntKind.u64.wrap (sd*(6364136223846793005:Int)))+(0:Int)))+(1442695040888963407:Int))):Int)=(nxS code at_ sd) by (unfold nxS; rw[← Qdf (by assumption)])))),trivial⟩ (h0:=(congrArg (fun z_=>lI z_) e5))
 ·obtain ⟨cb,hx7⟩:∃z,code[(at_).toNat]? =some z:=⟨_,aa (by omega)⟩
  have hcb:=hx7
  have hcl:cb.toNat < 256:=UInt8.toNat_lt _
  apply dZ (i9 14 _ _ _ _ _ _ _ _ _ [io 23 _,io 24 (lI (cb.toNat:Int)),io 3 _]) [0,0,0,0,15,15,15,15,0,0,0,0]
  iterate 10 refine z_ ?_
  refine zz (fun _ h_=>ac (Qi0 (h_.v rfl) Qd0 K5 rfl) rfl) ?_
  refine z_ ?_
  exact zN
  iterate 5 refine w_ ?_
  refine alI 28 fun hi8=> ?_
  iterate 11 refine w_ ?_
  refine lc (Qct (Qa rfl) Evl.val rfl) ?_
  refine w_ ?_
  refine lc (Vt (Qa rfl) K5 QdX (by omega) rfl)<|lc (UE (Qa rfl) (Qa rfl) rfl)<|lc (UE (Qa rfl) Evl.val rfl) ?_
  iterate 5 refine w_ ?_
  apply dW (i9 44 _ _ _ _ _ _ _ _ _ [io 53 _]) [0,0,0,0,15,15,15,15,15,0]
  iterate 10 refine z_ ?_
  exact zN
  refine cd_ (fun hb9 hb9'=> ?_) fun hb9 hb9'=> ?_
  ·iterate 6 refine w_ ?_
   refine lc (Qcj (Qa rfl) Evl.val rfl (by omega))<|lc (QbS (Qa rfl) Evl.val rfl)<|lc (KG (Qa rfl) QdX K5 (by first | omega | exact ⟨(Qa5 (Uk (Vd _))).1,Int.le_trans (Qa5 (Uk (Vd _))).2 (by decide)⟩) rfl) ?_
   iterate 2 refine w_ ?_
   refine Qb ?_
   have e10:((bits .and .u64 ((IntKind.u64.wrap ((IntKind.u64.wrap ((IntKind.u64.wrap (sd*(6364136223846793005:Int)))+(cb.toNat:Int)))+(1442695040888963407:Int))) / 2 ^ (40:Int).toNat) (255:Int)):Int)=(nxV code at_ sd):=by
    (rw[← Qk2 (by assumption),nxS,← Qaa hcb (by assumption)]; rfl)
   exact fi_ [] hO ⟨((congrArg (fun z_:Int=>some (Ent.box 93 [.dat (.sl 5 .u8) code,dI (at_+1), .val (.int .u64 z_)])) (show ((IntKind.u64.wrap ((IntKind.u64.wrap ((IntKind.u64.wrap (sd*(6364136223846793005:Int)))+(cb.toNat:Int)))+(1442695040888963407:Int))):Int)=(nxS code at_ sd) by (unfold nxS; rw[← Qaa hcb (by assumption)])))),trivial⟩ (h0:=(congrArg (fun z_=>lI z_) e10))
  ·iterate 4 refine w_ ?_
   refine Qb ?_
   have e11:((cb.toNat:Int):Int)=(nxV code at_ sd):=by
    (rw[Qaa hcb (by assumption)]; exact Qg9 (by assumption))
   exact fi_ [] hO ⟨((congrArg (fun z_:Int=>some (Ent.box 93 [.dat (.sl 5 .u8) code,dI (at_+1), .val (.int .u64 z_)])) (show ((IntKind.u64.wrap ((IntKind.u64.wrap ((IntKind.u64.wrap (sd*(6364136223846793005:Int)))+(cb.toNat:Int)))+(1442695040888963407:Int))):Int)=(nxS code at_ sd) by (unfold nxS; rw[← Qaa hcb (by assumption)])))),trivial⟩ (h0:=(congrArg (fun z_=>lI z_) e11))
theorem Qp (code:List UInt8)(at_:Int)(sd:Int)(n:Int)(ha:0≤at_∧at_≤999999000):FC Tryz.prog 81 [(false,[.ptr 0 0]),(false,[dI n])] [bx 0 93 [.dat (.sl 5 .u8) code,dI at_, .val (.int .u64 sd)]] 1 (Is (lI (pkV code at_ sd n)) [bx 0 93 [.dat (.sl 5 .u8) code,dI (pkA n at_), .val (.int .u64 (pkS code at_ sd n))]]):=by
 refine Qj Tryz.func81 rfl rfl Tryz.ntmps81 fun O_ hO w0_ N0_ X_ h0_ f0_=> ?_
 refine acI 1 fun hi1=> ?_
 iterate 8 refine w_ ?_
 refine cd_ (fun hb2 hb2'=> ?_) fun hb2 hb2'=> ?_
 ·iterate 3 refine w_ ?_
  have hp3:=Qad code at_ sd
  refine lc (dP 1 [] (Ws code at_ sd (by omega)) Qa2) ?_
  iterate 7 refine w_ ?_
  refine cd_ (fun hb4 hb4'=> ?_) fun hb4 hb4'=> ?_
  ·iterate 4 refine w_ ?_
   refine lc (Qe7 (Qa rfl) (Qa rfl) rfl (by omega) (by omega)) ?_
   iterate 2 refine w_ ?_
   refine Qb ?_
   have e5:((nxV code at_ sd) % n:Int)=(pkV code at_ sd n):=by
    exact (Qot (code:=code) (sd:=sd) (at_:=at_) (by assumption) (by assumption)).1.symm
   exact fi_ [] hO ⟨(((congrArg (fun z_=>some (Ent.box 93 [.dat (.sl 5 .u8) code,dI z_, .val (.int .u64 (nxS code at_ sd))])) (show ((at_+1):Int)=(pkA n at_) by exact (Qot (code:=code) (sd:=sd) (at_:=at_) (by assumption) (by assumption)).2.1.symm))).trans (congrArg (fun z_:Int=>some (Ent.box 93 [.dat (.sl 5 .u8) code,dI (pkA n at_), .val (.int .u64 z_)])) (show ((nxS code at_ sd):Int)=(pkS code at_ sd n) by exact (Qot (code:=code) (sd:=sd) (at_:=at_) (by assumption) (by assumption)).2.2.symm))),trivial⟩ (h0:=(congrArg (fun z_=>lI z_) e5))
  ·iterate 2 refine w_ ?_
   refine lc (Qka (Qa rfl) (Ql rfl) rfl (by omega)) ?_
   refine w_ ?_
   have hp6:=Qad code (at_+1) (nxS code at_ sd)
   refine lc (dP 2 [] (Ws code (at_+1) (nxS code at_ sd) (by omega)) Qa2) ?_
   iterate 6 refine w_ ?_
   refine lc (Qe7 (Qa rfl) (Qa rfl) rfl (by omega) (by omega)) ?_
   iterate 2 refine w_ ?_
   refine Qb ?_
   have e7:((((nxV code at_ sd)*256)+(nxV code (at_+1) (nxS code at_ sd))) % n:Int)=(pkV code at_ sd n):=by
    exact (QoS (code:=code) (sd:=sd) (at_:=at_) (by assumption) (by assumption)).1.symm
   exact fi_ [] hO ⟨(((congrArg (fun z_=>some (Ent.box 93 [.dat (.sl 5 .u8) code,dI z_, .val (.int .u64 (nxS code (at_+1) (nxS code at_ sd)))])) (show (((at_+1)+1):Int)=(pkA n at_) by exact (QoS (code:=code) (sd:=sd) (at_:=at_) (by assumption) (by assumption)).2.1.symm))).trans (congrArg (fun z_:Int=>some (Ent.box 93 [.dat (.sl 5 .u8) code,dI (pkA n at_), .val (.int .u64 z_)])) (show ((nxS code (at_+1) (nxS code at_ sd)):Int)=(pkS code at_ sd n) by exact (QoS (code:=code) (sd:=sd) (at_:=at_) (by assumption) (by assumption)).2.2.symm))),trivial⟩ (h0:=(congrArg (fun z_=>lI z_) e7))
 ·iterate 3 refine w_ ?_
  refine Qb ?_
  have e8:(0:Int)=(pkV code at_ sd n):=by
   exact (Qn0 (code:=code) (sd:=sd) (at_:=at_) (by assumption)).1.symm
  exact fi_ [] hO ⟨(((congrArg (fun z_=>some (Ent.box 93 [.dat (.sl 5 .u8) code,dI z_, .val (.int .u64 sd)])) (show (at_:Int)=(pkA n at_) by exact (Qn0 (code:=code) (sd:=sd) (at_:=at_) (by assumption)).2.1.symm))).trans (congrArg (fun z_:Int=>some (Ent.box 93 [.dat (.sl 5 .u8) code,dI (pkA n at_), .val (.int .u64 z_)])) (show (sd:Int)=(pkS code at_ sd n) by exact (Qn0 (code:=code) (sd:=sd) (at_:=at_) (by assumption)).2.2.symm))),trivial⟩ (h0:=(congrArg (fun z_=>lI z_) e8))
theorem Z4 (code:List UInt8)(at_:Int)(sd:Int)(n:Int)(ha:0≤at_∧at_≤999999000):FC Tryz.prog 79 [(false,[.ptr 0 0]),(false,[dI n])] [bx 0 93 [.dat (.sl 5 .u8) code,dI at_, .val (.int .u64 sd)]] 1 (Is (lB (decide (pkV code at_ sd n=0))) [bx 0 93 [.dat (.sl 5 .u8) code,dI (pkA n at_), .val (.int .u64 (pkS code at_ sd n))]]):=by
 refine Qj Tryz.func79 rfl rfl Tryz.ntmps79 fun O_ hO w0_ N0_ X_ h0_ f0_=> ?_
 refine acI 1 fun hi1=> ?_
 iterate 6 refine w_ ?_
 have hp2:=Zj code at_ sd n
 refine lc (dP 1 [] (Qp code at_ sd n (by omega)) Zd) ?_
 iterate 3 refine w_ ?_
 refine Qb ?_
 have e3:(decide ((pkV code at_ sd n)=0):Bool)=(decide (pkV code at_ sd n=0)):=by
  rfl
 exact fi_ [] hO ⟨rfl,trivial⟩ (h0:=(congrArg (fun z_=>lB z_) e3))
theorem Xp (code:List UInt8)(at_:Int)(sd:Int)(list:List ByteArray)(ha:0≤at_∧at_≤999999000)(hl:1≤list.length):FC Tryz.prog 171 [(false,[.ptr 0 0]),(false,[.ref 1])] [bx 0 93 [.dat (.sl 5 .u8) code,dI at_, .val (.int .u64 sd)],ar 1 9 .str list] 1 (Is (lf (dS ((list[(pkV code at_ sd (list.length:Int)).toNat]?).getD ByteArray.empty))) [bx 0 93 [.dat (.sl 5 .u8) code,dI (pkA (list.length:Int) at_), .val (.int .u64 (pkS code at_ sd (list.length:Int)))],ar 1 9 .str list]):=by
 refine Qj Tryz.func171 rfl rfl Tryz.ntmps171 fun O_ hO w0_ N0_ X_ h0_ f0_=> ?_
 iterate 8 refine w_ ?_
 have hp1:=Zj code at_ sd (list.length:Int)
 refine lc (dP 2 [] (Qp code at_ sd (list.length:Int) (by omega)) Zd) ?_
 refine w_ ?_
 obtain ⟨x2,hx3⟩:∃z,list[(pkV code at_ sd (list.length:Int)).toNat]? =some z:=⟨_,aa (by omega)⟩
 have hx2:=hx3
 iterate 3 refine w_ ?_
 refine Qb ?_
 have e4:(x2:ByteArray)=((list[(pkV code at_ sd (list.length:Int)).toNat]?).getD ByteArray.empty):=by
  (simp[*])
 exact fi_ [] hO ⟨rfl,rfl,trivial⟩ (h0:=(congrArg (fun z_=>lf (dS z_)) e4))
theorem Ul (code:List UInt8)(at_:Int)(sd:Int)(t:ByteArray)(wt:ByteArray)(ha:0≤at_∧at_≤900000000)(hs:t.size≤100000∧1≤wt.size):FC Tryz.prog 152 [(false,[.ptr 0 0]),(false,[dS t]),(false,[dS wt])] [bx 0 93 [.dat (.sl 5 .u8) code,dI at_, .val (.int .u64 sd)]] 1 (Is (lf (dS ((spV code wt t at_ sd).1))) [bx 0 93 [.dat (.sl 5 .u8) code,dI ((spV code wt t at_ sd).2.1), .val (.int .u64 ((spV code wt t at_ sd).2.2))]]):=by
 refine Qj Tryz.func152 rfl rfl Tryz.ntmps152 fun O_ hO w0_ N0_ X_ h0_ f0_=> ?_
 iterate 6 refine w_ ?_
 have hp1:=Zj code at_ sd 2
 refine lc (dP 1 [] (Qp code at_ sd 2 (by omega)) Zd) ?_
 iterate 4 refine w_ ?_
 refine QE (fun m_ s_=>∃(n_:Int) (t_:ByteArray) (a_:Int) (sd_:Int),m_=n_.toNat∧((spV code wt t at_ sd)=spG code wt n_.toNat (t_,a_,sd_))∧(0≤n_∧n_≤2)∧((t_.size:Int)+n_≤(t.size:Int)+2)∧(at_≤a_∧a_+6*n_≤at_+14)∧s_=⟨[(0,lP 0 0),(1,lf (dS t_)),(2,lf (dS wt)),(6,lf (dS (⟨#[]⟩:ByteArray))),(7,lI n_)],[bx 0 93 [.dat (.sl 5 .u8) code,dI a_, .val (.int .u64 sd_)]]⟩) ⟨1+(pkV code at_ sd 2),t,(pkA 2 at_),(pkS code at_ sd 2),rfl,rfl,by omega,by omega,by omega,rfl⟩ ?_ ?_
 · exact Wk.of [] rfl ⟨rfl,rfl,rfl,rfl,rfl,trivial⟩ ⟨rfl,trivial⟩ rfl rfl
 rintro m_ s_ ⟨n_,t_,a_,sd_,hm3,hA,hn,ht,hb,rfl⟩
 iterate 5 refine w_ ?_
 cases hb4:(decide (0 < n_))
 ·have hb4':=ab hb4
  iterate 6 refine w_ ?_
  refine Qi ?_
  refine (?_:AC _ _ _ _ _)
  iterate 4 refine w_ ?_
  refine Qb ?_
  have e5:(t_:ByteArray)=((spV code wt t at_ sd).1):=by
   (rw[hA,JD (by omega)])
  exact fi_ [] hO ⟨(((congrArg (fun z_=>some (Ent.box 93 [.dat (.sl 5 .u8) code,dI z_, .val (.int .u64 sd_)])) (show (a_:Int)=((spV code wt t at_ sd).2.1) by (rw[hA,JD (by omega)])))).trans (congrArg (fun z_:Int=>some (Ent.box 93 [.dat (.sl 5 .u8) code,dI ((spV code wt t at_ sd).2.1), .val (.int .u64 z_)])) (show (sd_:Int)=((spV code wt t at_ sd).2.2) by (rw[hA,JD (by omega)])))),trivial⟩ (h0:=(congrArg (fun z_=>lf (dS z_)) e5))
 ·have hb4':=ae hb4
  refine w_ ?_
  refine alS 16 fun hl6=> ?_
  refine lgy rfl rfl (QI (Qa rfl) rfl QR) ?_
  iterate 3 refine w_ ?_
  cases hb7:(decide (0 < (t_.size:Int)))
  ·have hb7':=ab hb7
   refine w_ ?_
   refine Qi ?_
   refine (?_:AC _ _ _ _ _)
   iterate 4 refine w_ ?_
   refine Qb ?_
   have e8:(t_:ByteArray)=((spV code wt t at_ sd).1):=by
    (rw[hA,JD (by omega)])
   exact fi_ [] hO ⟨(((congrArg (fun z_=>some (Ent.box 93 [.dat (.sl 5 .u8) code,dI z_, .val (.int .u64 sd_)])) (show (a_:Int)=((spV code wt t at_ sd).2.1) by (rw[hA,JD (by omega)])))).trans (congrArg (fun z_:Int=>some (Ent.box 93 [.dat (.sl 5 .u8) code,dI ((spV code wt t at_ sd).2.1), .val (.int .u64 z_)])) (show (sd_:Int)=((spV code wt t at_ sd).2.2) by (rw[hA,JD (by omega)])))),trivial⟩ (h0:=(congrArg (fun z_=>lf (dS z_)) e8))
  ·have hb7':=ae hb7
   iterate 7 refine w_ ?_
   refine alS 23 fun hl9=> ?_
   refine lc (QI (Qa rfl) rfl QR) ?_
   have hp10:=Zj code a_ sd_ (t_.size:Int)
   refine lc (dP 2 [] (Qp code a_ sd_ (t_.size:Int) (by omega)) Zd) ?_
   iterate 6 refine w_ ?_
   refine alS 28 fun hl11=> ?_
   refine lc (QI (Qa rfl) rfl QR) ?_
   have hp12:=Zj code (pkA (t_.size:Int) a_) (pkS code a_ sd_ (t_.size:Int)) (wt.size:Int)
   refine lc (dP 3 [] (Qp code (pkA (t_.size:Int) a_) (pkS code a_ sd_ (t_.size:Int)) (wt.size:Int) (by omega)) Zd) ?_
   obtain ⟨c13,hc14⟩:∃z,wt[(pkV code (pkA (t_.size:Int) a_) (pkS code a_ sd_ (t_.size:Int)) (wt.size:Int)).toNat]? =some z:=⟨_,b5 _ _ (by omega)⟩
   have hwc:=hc14
   refine w_ ?_
   refine lc (dBs 4 (e:= .u8) Qqk) ?_
   refine lc (Vk (ys:=[c13]) (Qd7 (Qa rfl) rfl) Ua Qd0 QR rfl) ?_
   iterate 4 refine w_ ?_
   have hp15:=Zj code (pkA (wt.size:Int) (pkA (t_.size:Int) a_)) (pkS code (pkA (t_.size:Int) a_) (pkS code a_ sd_ (t_.size:Int)) (wt.size:Int)) 3
   refine lc (dP 5 [] (Qp code (pkA (wt.size:Int) (pkA (t_.size:Int) a_)) (pkS code (pkA (t_.size:Int) a_) (pkS code a_ sd_ (t_.size:Int)) (wt.size:Int)) 3 (by omega)) Zd) ?_
   iterate 6 refine w_ ?_
   cases hb16:(decide ((pkV code (pkA (wt.size:Int) (pkA (t_.size:Int) a_)) (pkS code (pkA (t_.size:Int) a_) (pkS code a_ sd_ (t_.size:Int)) (wt.size:Int)) 3)=0))
   ·have hb16':=ab hb16
    iterate 5 refine w_ ?_
    cases hb17:(decide ((pkV code (pkA (wt.size:Int) (pkA (t_.size:Int) a_)) (pkS code (pkA (t_.size:Int) a_) (pkS code a_ sd_ (t_.size:Int)) (wt.size:Int)) 3)=1))
    ·have hb17':=ab hb17
     refine w_ ?_
     apply dV (i2 36 _ _ (io 38 (lf (dS (t_.extract 0 (pkV code a_ sd_ (t_.size:Int)).toNat))) :: i3 39 _ _ _ [io 42 (lf (dS (t_.extract ((pkV code a_ sd_ (t_.size:Int))+1).toNat t_.size))),io 43 (lf (dS ((t_.extract 0 (pkV code a_ sd_ (t_.size:Int)).toNat)++(t_.extract ((pkV code a_ sd_ (t_.size:Int))+1).toNat t_.size)))),io 1 _])) [0,1,0,7,15,15,7,0,0]
     iterate 2 refine z_ ?_
     refine zz (fun _ h_=>ac (show Does _ _ _ _ (St.put _ 38 (lf (dS (t_.extract 0 (pkV code a_ sd_ (t_.size:Int)).toNat)))) from Qw (l:=none) (h:=(some (pkV code a_ sd_ (t_.size:Int)))) (h_.v rfl) (by exact trivial) (by exact (h_.v rfl)) QR rfl (by first | omega | (simp only[ai,ah]; omega)) (by first | omega | (simp only[ai,ah]; omega)) (by first | omega | (simp only[ai,ah]; omega))) rfl) ?_
     iterate 3 refine z_ ?_
     refine zz (fun _ h_=>ac (show Does _ _ _ _ (St.put _ 42 (lf (dS (t_.extract ((pkV code a_ sd_ (t_.size:Int))+1).toNat t_.size)))) from Qw (l:=(some ((pkV code a_ sd_ (t_.size:Int))+1))) (h:=none) (h_.v rfl) (by exact (h_.v rfl)) (by exact trivial) QR rfl (by first | omega | (simp only[ai,ah]; omega)) (by first | omega | (simp only[ai,ah]; omega)) (by first | omega | (simp only[ai,ah]; omega))) rfl)<|zz (fun _ h_=>ac (QH (h_.v rfl) (h_.v rfl) rfl (by first | omega | (simp only[aK,aL,ZB]; omega))) rfl) ?_
     refine z_ ?_
     exact zN
     refine (?_:AC _ _ _ _ _)
     iterate 4 refine w_ ?_
     refine Qd<|Q5 ⟨(n_ - 1),((t_.extract 0 (pkV code a_ sd_ (t_.size:Int)).toNat)++(t_.extract ((pkV code a_ sd_ (t_.size:Int))+1).toNat t_.size)),(pkA 3 (pkA (wt.size:Int) (pkA (t_.size:Int) a_))),(pkS code (pkA (wt.size:Int) (pkA (t_.size:Int) a_)) (pkS code (pkA (t_.size:Int) a_) (pkS code a_ sd_ (t_.size:Int)) (wt.size:Int)) 3),rfl,(by exact hA.trans ((Ql1 (by omega) (by omega)).trans (congrArg _ (QpZ (by assumption) (by assumption))))),by omega,(by simp only[aK,aL,ZB]; omega),by omega,rfl⟩ (by omega) ?_
     exact Wk.of [] rfl ⟨rfl,rfl,rfl,rfl,rfl,trivial⟩ ⟨rfl,trivial⟩ rfl rfl
    ·have hb17':=ae hb17
     refine w_ ?_
     apply dV (i2 57 _ _ (io 59 (lf (dS (t_.extract 0 (pkV code a_ sd_ (t_.size:Int)).toNat))) :: io 60 _ :: io 61 (lf (dS ((t_.extract 0 (pkV code a_ sd_ (t_.size:Int)).toNat)++(⟨#[c13]⟩:ByteArray)))) :: i3 62 _ _ _ [io 65 (lf (dS (t_.extract ((pkV code a_ sd_ (t_.size:Int))+1).toNat t_.size))),io 66 (lf (dS (((t_.extract 0 (pkV code a_ sd_ (t_.size:Int)).toNat)++(⟨#[c13]⟩:ByteArray))++(t_.extract ((pkV code a_ sd_ (t_.size:Int))+1).toNat t_.size)))),io 1 _])) [0,1,0,7,0,31,63,63,31,0,0]
     iterate 2 refine z_ ?_
     refine zz (fun _ h_=>ac (show Does _ _ _ _ (St.put _ 59 (lf (dS (t_.extract 0 (pkV code a_ sd_ (t_.size:Int)).toNat)))) from Qw (l:=none) (h:=(some (pkV code a_ sd_ (t_.size:Int)))) (h_.v rfl) (by exact trivial) (by exact (h_.v rfl)) QR rfl (by first | omega | (simp only[ai,ah]; omega)) (by first | omega | (simp only[ai,ah]; omega)) (by first | omega | (simp only[ai,ah]; omega))) rfl) ?_
     refine z_ ?_
     refine zz (fun _ h_=>ac (QH (h_.v rfl) (h_.v rfl) rfl (by first | omega | (simp only[aK,aL,ZB]; omega))) rfl) ?_
     iterate 3 refine z_ ?_
     refine zz (fun _ h_=>ac (show Does _ _ _ _ (St.put _ 65 (lf (dS (t_.extract ((pkV code a_ sd_ (t_.size:Int))+1).toNat t_.size)))) from Qw (l:=(some ((pkV code a_ sd_ (t_.size:Int))+1))) (h:=none) (h_.v rfl) (by exact (h_.v rfl)) (by exact trivial) QR rfl (by first | omega | (simp only[ai,ah]; omega)) (by first | omega | (simp only[ai,ah]; omega)) (by first | omega | (simp only[ai,ah]; omega))) rfl)<|zz (fun _ h_=>ac (QH (h_.v rfl) (h_.v rfl) rfl (by first | omega | (simp only[aK,aL,ZB]; omega))) rfl) ?_
     refine z_ ?_
     exact zN
     refine (?_:AC _ _ _ _ _)
     iterate 4 refine w_ ?_
     refine Qd<|Q5 ⟨(n_ - 1),(((t_.extract 0 (pkV code a_ sd_ (t_.size:Int)).toNat)++(⟨#[c13]⟩:ByteArray))++(t_.extract ((pkV code a_ sd_ (t_.size:Int))+1).toNat t_.size)),(pkA 3 (pkA (wt.size:Int) (pkA (t_.size:Int) a_))),(pkS code (pkA (wt.size:Int) (pkA (t_.size:Int) a_)) (pkS code (pkA (t_.size:Int) a_) (pkS code a_ sd_ (t_.size:Int)) (wt.size:Int)) 3),rfl,(by exact hA.trans ((Ql1 (by omega) (by omega)).trans (congrArg _ (QpM hwc (by assumption) (by assumption))))),by omega,(by simp only[aK,aL,ZB]; omega),by omega,rfl⟩ (by omega) ?_
     exact Wk.of [] rfl ⟨rfl,rfl,rfl,rfl,rfl,trivial⟩ ⟨rfl,trivial⟩ rfl rfl
   ·have hb16':=ae hb16
    refine w_ ?_
    apply dV (i2 46 _ _ (io 48 (lf (dS (t_.extract 0 (pkV code a_ sd_ (t_.size:Int)).toNat))) :: io 49 _ :: io 50 (lf (dS ((t_.extract 0 (pkV code a_ sd_ (t_.size:Int)).toNat)++(⟨#[c13]⟩:ByteArray)))) :: i2 51 _ _ [io 53 (lf (dS (t_.extract (pkV code a_ sd_ (t_.size:Int)).toNat t_.size))),io 54 (lf (dS (((t_.extract 0 (pkV code a_ sd_ (t_.size:Int)).toNat)++(⟨#[c13]⟩:ByteArray))++(t_.extract (pkV code a_ sd_ (t_.size:Int)).toNat t_.size)))),io 1 _])) [0,1,0,7,0,31,63,31,0,0]
    iterate 2 refine z_ ?_
    refine zz (fun _ h_=>ac (show Does _ _ _ _ (St.put _ 48 (lf (dS (t_.extract 0 (pkV code a_ sd_ (t_.size:Int)).toNat)))) from Qw (l:=none) (h:=(some (pkV code a_ sd_ (t_.size:Int)))) (h_.v rfl) (by exact trivial) (by exact (h_.v rfl)) QR rfl (by first | omega | (simp only[ai,ah]; omega)) (by first | omega | (simp only[ai,ah]; omega)) (by first | omega | (simp only[ai,ah]; omega))) rfl) ?_
    refine z_ ?_
    refine zz (fun _ h_=>ac (QH (h_.v rfl) (h_.v rfl) rfl (by first | omega | (simp only[aK,aL,ZB]; omega))) rfl) ?_
    iterate 2 refine z_ ?_
    refine zz (fun _ h_=>ac (show Does _ _ _ _ (St.put _ 53 (lf (dS (t_.extract (pkV code a_ sd_ (t_.size:Int)).toNat t_.size)))) from Qw (l:=(some (pkV code a_ sd_ (t_.size:Int)))) (h:=none) (h_.v rfl) (by exact (h_.v rfl)) (by exact trivial) QR rfl (by first | omega | (simp only[ai,ah]; omega)) (by first | omega | (simp only[ai,ah]; omega)) (by first | omega | (simp only[ai,ah]; omega))) rfl)<|zz (fun _ h_=>ac (QH (h_.v rfl) (h_.v rfl) rfl (by first | omega | (simp only[aK,aL,ZB]; omega))) rfl) ?_
    refine z_ ?_
    exact zN
    refine (?_:AC _ _ _ _ _)
    iterate 4 refine w_ ?_
    refine Qd<|Q5 ⟨(n_ - 1),(((t_.extract 0 (pkV code a_ sd_ (t_.size:Int)).toNat)++(⟨#[c13]⟩:ByteArray))++(t_.extract (pkV code a_ sd_ (t_.size:Int)).toNat t_.size)),(pkA 3 (pkA (wt.size:Int) (pkA (t_.size:Int) a_))),(pkS code (pkA (wt.size:Int) (pkA (t_.size:Int) a_)) (pkS code (pkA (t_.size:Int) a_) (pkS code a_ sd_ (t_.size:Int)) (wt.size:Int)) 3),rfl,(by exact hA.trans ((Ql1 (by omega) (by omega)).trans (congrArg _ (Qpl hwc (by assumption))))),by omega,(by simp only[aK,aL,ZB]; omega),by omega,rfl⟩ (by omega) ?_
    exact Wk.of [] rfl ⟨rfl,rfl,rfl,rfl,rfl,trivial⟩ ⟨rfl,trivial⟩ rfl rfl
end Go.Proofs.YtfkmmpfdncopdaaGreat
namespace Go.Proofs.YtfkmmpfdncopdaaGreat
open Go.RowKit
set_option maxRecDepth 100000
set_option maxHeartbeats 4000000
section
variable {s:ByteArray}{b c:UInt8}{i:Nat}{out:List ByteArray}{fr:Int}
theorem QjP (hA:(out,fr)=spS s b i)(hi:s.size≤i)(hk:i≤s.size):out++[s.extract fr.toNat s.size]=Zt s b:=by
  have e:i=s.size:=by omega
  subst e
  unfold Zt
  rw[← hA]
theorem QjD (hA:(out,fr)=spS s b i)(h:s[((i:Nat):Int).toNat]? =some c)(e:c=b):(out++[s.extract fr.toNat ((i:Nat):Int).toNat],(i:Int)+1)=spS s b (i+1):=by
  rw[Int.toNat_natCast] at h ⊢
  rw[← Qns h e,← hA]
theorem QiK (s:ByteArray)(b:UInt8):1≤(Zt s b).length:=by unfold Zt; rw[ak,aq,aD]; omega
theorem KE {x:ByteArray}(h:x∈Zt s b):x.size≤s.size:=by
  have h1:∀i,∀x∈(spS s b i).1,x.size≤s.size:=fun i=>by
    induction i with
    | zero=>intro x h; cases h
    | succ i ih=>
      intro x h
      rw[spS] at h
      split at h
      · rcases aH.1 h with h | h
        · exact ih x h
        · rw[aE.1 h]; simp only[aL]; omega
      · exact ih x h
  unfold Zt at h
  rcases aH.1 h with h | h
  · exact h1 _ x h
  · rw[aE.1 h]; simp only[aL]; omega
theorem Qj9 (hA:(out,fr)=spS s b i)(h:s[((i:Nat):Int).toNat]? =some c)(e:¬c=b):(out,fr)=spS s b (i+1):=by
  rw[Int.toNat_natCast] at h
  rw[← Qo6 h e,← hA]
end
theorem XQ (s:ByteArray)(b:UInt8)(hs:s.size≤100000):FC Tryz.prog 259 [(false,[dS s]),(false,[.dat .u8 b])] [] 0 (Wv 9 .str (Zt s b)):=by
 refine Qj Tryz.func259 rfl rfl Tryz.ntmps259 fun O_ hO w0_ N0_ X_ h0_ f0_=> ?_
 iterate 14 refine w_ ?_
 refine AC.wk (Wk.nilS 0 5 9 .str rfl (Fresh.of rfl) (nlr rfl)) ?_
 refine QE (fun m_ s_=>∃(i:Nat) (out:List ByteArray) (fr:Int),i≤s.size∧m_=s.size - i∧((out,fr)=spS s b i)∧s_=⟨[(0,lf (dS s)),(1,lf (.dat .u8 b)),(4,lf (.val (.slice none 0 0))),(5,lR 1),(6,lI fr),(7,lI (i:Int))],[ar 1 9 .str out]⟩) ⟨0,([]:((.sl 9 .str):Ty).Den),0,aS _,rfl,rfl,rfl⟩ ?_ ?_
 · exact Wk.of [(1,0)] rfl ⟨rfl,rfl,rfl,rfl,rfl,rfl,trivial⟩ ⟨(Qk (by first | rfl | simp)),trivial⟩ rfl rfl
 rintro m_ s_ ⟨i,out,fr,hk1,hm2,hA,rfl⟩
 have hsr:=Qig (s:=s) (b:=b) (i:=i)
 rw[← hA] at hsr
 dsimp only at hsr
 iterate 4 refine w_ ?_
 refine alS 9 fun hl3=> ?_
 refine lc (QI (Qa rfl) rfl QR) ?_
 iterate 2 refine w_ ?_
 cases hb4:(decide ((i:Int) < (s.size:Int)))
 ·have hb4':=ab hb4
  refine w_ ?_
  refine Qi ?_
  refine (?_:AC _ _ _ _ _)
  iterate 4 refine w_ ?_
  refine lc (show Does _ _ _ _ (St.put _ 31 (lf (dS (s.extract (fr).toNat s.size)))) from Qw (l:=(some fr)) (h:=none) (Qa rfl) (by exact (Qa rfl)) (by exact trivial) QR rfl (by first | omega | (simp only[ai,ah]; omega)) (by first | omega | (simp only[ai,ah]; omega)) (by first | omega | (simp only[ai,ah]; omega))) ?_
  refine lc (dBs 2 (e:= .str) ZZ) ?_
  refine lc (dA 3 YS) ?_
  iterate 2 refine w_ ?_
  refine Qb<|fo_ hO ?_
  exact QjP hA (by omega) hk1
 ·have hb4':=ae hb4
  iterate 7 refine w_ ?_
  obtain ⟨c5,hc6⟩:∃z,s[((i:Int)).toNat]? =some z:=⟨_,b5 _ _ (by omega)⟩
  have hcz:=hc6
  iterate 4 refine w_ ?_
  cases hb7:(decide (c5=b))
  ·have hb7':=ab hb7
   refine w_ ?_
   refine AC.skip ?_
   refine (?_:AC _ _ _ _ _)
   iterate 4 refine w_ ?_
   refine Qd<|Q5 ⟨i+1,out,fr,by omega,rfl,(by exact Qj9 hA hcz (by assumption)),rfl⟩ (by omega) ?_
   exact Wk.of [] rfl ⟨rfl,rfl,rfl,rfl,rfl,rfl,trivial⟩ ⟨rfl,trivial⟩ rfl rfl
  ·have hb7':=ae hb7
   iterate 6 refine w_ ?_
   refine lc (show Does _ _ _ _ (St.put _ 23 (lf (dS (s.extract (fr).toNat ((i:Int)).toNat)))) from Qw (l:=(some fr)) (h:=(some (i:Int))) (Qa rfl) (by exact (Qa rfl)) (by exact (Qa rfl)) QR rfl (by first | omega | (simp only[ai,ah]; omega)) (by first | omega | (simp only[ai,ah]; omega)) (by first | omega | (simp only[ai,ah]; omega))) ?_
   refine lc (dBs 4 (e:= .str) ZZ) ?_
   refine lc (dA 5 YS) ?_
   iterate 6 refine w_ ?_
   refine Qd ?_
   refine (?_:AC _ _ _ _ _)
   iterate 4 refine w_ ?_
   refine Qd<|Q5 ⟨i+1,(out++([s.extract (fr).toNat ((i:Int)).toNat])),((i:Int)+1),by omega,rfl,(by exact QjD hA hcz (by assumption)),rfl⟩ (by omega) ?_
   exact Wk.of [(1,5)] rfl ⟨rfl,rfl,rfl,rfl,rfl,rfl,trivial⟩ ⟨(Qk (by first | rfl | simp)),trivial⟩ rfl rfl
section
variable {word text nm:ByteArray}{G:List Qy}{c0 cz:UInt8}{k:Nat}{x:DTr}{T_:List DTr}{t p:Int}
theorem Qo8 (hn:KO word=nm)(hc:nm[(0:Int).toNat]? =some c0)(h:c0=126):((-1,false):ZA)=Qgk G word:=by
  unfold Qgk b0
  rw[hn,show nm[0]? =some c0 from hc]
  exact (if_pos (show (some c0).getD 0=126 from h)).symm
theorem QoI (hn:KO word=nm)(hc:nm[(0:Int).toNat]? =some c0)(h:¬c0=126)(hz:nm[((nm.size:Int) - 1).toNat]? =some cz):
    ((Zb (fun g=>decide (g.1=nm.extract 0 ((nm.size:Int) - 1).toNat)) G,decide (cz=43)):ZA)=Qgk G word:=by
  unfold Qgk b0 bZ
  have e:((nm.size:Int) - 1).toNat=nm.size - 1:=by omega
  rw[e] at hz ⊢
  rw[hn,show nm[0]? =some c0 from hc]
  refine Eq.trans ?_ (if_neg (show¬(some c0).getD 0=126 from h)).symm
  rw[hz]; rfl
theorem Qji (hx:T_[t.toNat]? =some x):T_.set t.toNat (x.1,Q2 ltI p x.2)=QaM T_ t p:=by
  unfold QaM
  apply bt
  intro i
  rw[br,cv]
  by_cases e:t.toNat=i
  · subst e; rw[hx]; simp[(aj.1 hx).1]
  · simp[e]
theorem Qis (hx:T_[t.toNat]? =some x):T_.set t.toNat (Q2 ltI p x.1,x.2)=QaU T_ t p:=by
  unfold QaU
  apply bt
  intro i
  rw[br,cv]
  by_cases e:t.toNat=i
  · subst e; rw[hx]; simp[(aj.1 hx).1]
  · simp[e]
end
theorem Jk (b:DB)(name:ByteArray)(hp:0≤b.1.1.1∧b.1.1.1≤100000)(hl:b.2.1.length≤100000∧b.1.2.2.2.size≤100000):FC Tryz.prog 317 [(false,[.ptr 0 0]),(false,[dS name])] [bx 0 274 [dI b.1.1.1, .ref 1, .ref 2, .ref 3,dS b.1.2.2.2, .ref 5, .ref 4],ar 1 237 (.pr (.sl 3 .int) (.sl 3 .int)) b.1.1.2,ar 2 203 (.pr .str .int) b.1.2.1,ar 3 120 (.pr .int .bool) b.1.2.2.1,ar 5 9 .str b.2.1,ar 4 9 .str b.2.2] 5 (Is (lI (plI b name)) [bx 0 274 [dI ((plV b name).1.1.1), .ref 1, .ref 2, .ref 3,dS ((plV b name).1.2.2.2), .ref 5, .ref 4],ar 1 237 (.pr (.sl 3 .int) (.sl 3 .int)) ((plV b name).1.1.2),ar 2 203 (.pr .str .int) ((plV b name).1.2.1),ar 3 120 (.pr .int .bool) ((plV b name).1.2.2.1),ar 5 9 .str ((plV b name).2.1),ar 4 9 .str ((plV b name).2.2)]):=by
 refine Qj Tryz.func317 rfl rfl Tryz.ntmps317 fun O_ hO w0_ N0_ X_ h0_ f0_=> ?_
 iterate 13 refine w_ ?_
 refine lpK b.2.1.length (fun k=>NoneTo (fun y=>decide (y=name)) b.2.1 k) (fun k=>⟨[(0,lP 0 0),(1,lf (dS name)),(10,lR 5),(11,lI (b.2.1.length:Int)),(12,lI (k:Int))],[bx 0 274 [dI b.1.1.1, .ref 1, .ref 2, .ref 3,dS b.1.2.2.2, .ref 5, .ref 4],ar 1 237 (.pr (.sl 3 .int) (.sl 3 .int)) b.1.1.2,ar 2 203 (.pr .str .int) b.1.2.1,ar 3 120 (.pr .int .bool) b.1.2.2.1,ar 4 9 .str b.2.2,ar 5 9 .str b.2.1]⟩) (NoneTo.zero) ?_ fun k hk1 hno=> ?_
 · exact Wk.of [] rfl ⟨rfl,rfl,rfl,rfl,rfl,trivial⟩ ⟨rfl,rfl,rfl,rfl,rfl,rfl,trivial⟩ rfl rfl
 iterate 4 refine w_ ?_
 cases hb2:(decide ((k:Int) < (b.2.1.length:Int)))
 ·have hb2':=ab hb2
  refine w_ ?_
  refine Qi ?_
  refine (?_:AC _ _ _ _ _)
  iterate 7 refine w_ ?_
  refine lc (dBs 6 (e:= .str) ZZ) ?_
  refine lc (dA 7 YS) ?_
  iterate 10 refine w_ ?_
  refine lc (QH (Qa rfl) (Evl.str rfl) rfl (by (simp only[ZB]; omega))) ?_
  iterate 12 refine w_ ?_
  refine alI 46 fun hi3=> ?_
  refine lc (Wg (Qa rfl) (Ql rfl) rfl (by first | omega | (simp only[ak,aq,aD]; omega))) ?_
  iterate 12 refine w_ ?_
  refine lc (Wc (Qa rfl) (Ql rfl) rfl (by first | omega | (simp only[ak,aq,aD]; omega))) ?_
  iterate 2 refine w_ ?_
  refine Qb ?_
  have e4:(((b.2.1++([name])).length:Int) - 1:Int)=(plI b name):=by
   (unfold plI; rw[Jd (ZO hno (by omega)),ak]; simp)
  exact fi_ [(5,7)] hO ⟨(((congrArg (fun z_=>some (Ent.box 274 [dI z_, .ref 1, .ref 2, .ref 3,dS (b.1.2.2.2++(⟨#[48]⟩:ByteArray)), .ref 7, .ref 4])) (show (b.1.1.1+1:Int)=(plV b name).1.1.1 by (rw[X1 (ZO hno (by omega))]; done)))).trans (congrArg (fun z_=>some (Ent.box 274 [dI ((plV b name).1.1.1), .ref 1, .ref 2, .ref 3,dS z_, .ref 7, .ref 4])) (show (b.1.2.2.2++(⟨#[48]⟩:ByteArray):ByteArray)=(plV b name).1.2.2.2 by (rw[X1 (ZO hno (by omega))]; done)))),(Qk (by (rw[X1 (ZO hno (by omega))]; done))),(Qk (by (rw[X1 (ZO hno (by omega))]; done))),(Qk (by (rw[X1 (ZO hno (by omega))]; done))),(Qk (by (rw[X1 (ZO hno (by omega))]; done))),(Qk (by (rw[X1 (ZO hno (by omega))]; done))),trivial⟩ (h0:=(congrArg (fun z_=>lI z_) e4))
 ·have hb2':=ae hb2
  iterate 7 refine w_ ?_
  obtain ⟨x,hx6⟩:∃z,b.2.1[k]? =some z:=⟨_,aa (by omega)⟩
  have hxz:=hx6
  iterate 9 refine w_ ?_
  cases hb7:(decide (x=name))
  ·have hb7':=ab hb7
   refine w_ ?_
   refine AC.skip ?_
   refine (?_:AC _ _ _ _ _)
   refine w_ ?_
   refine lc (Wg (Qa rfl) (Ql rfl) rfl (by first | omega | (simp only[ak,aq,aD]; omega))) ?_
   refine w_ ?_
   refine Qd ?_
   refine lK_ (hno.step hx6 (az (by assumption))) ?_
   exact Wk.of [] rfl ⟨rfl,rfl,rfl,rfl,rfl,trivial⟩ ⟨rfl,rfl,rfl,rfl,rfl,rfl,trivial⟩ rfl rfl
  ·have hb7':=ae hb7
   iterate 5 refine w_ ?_
   refine Qb ?_
   have e8:((k:Int):Int)=(plI b name):=by
    exact QkG hno hxz (by assumption)
   exact fi_ [] hO ⟨(((congrArg (fun z_=>some (Ent.box 274 [dI z_, .ref 1, .ref 2, .ref 3,dS b.1.2.2.2, .ref 5, .ref 4])) (show (b.1.1.1:Int)=(plV b name).1.1.1 by (rw[Vv (Yt hxz (by assumption))]; done)))).trans (congrArg (fun z_=>some (Ent.box 274 [dI ((plV b name).1.1.1), .ref 1, .ref 2, .ref 3,dS z_, .ref 5, .ref 4])) (show (b.1.2.2.2:ByteArray)=(plV b name).1.2.2.2 by (rw[Vv (Yt hxz (by assumption))]; done)))),(Qk (by (rw[Vv (Yt hxz (by assumption))]; done))),(Qk (by (rw[Vv (Yt hxz (by assumption))]; done))),(Qk (by (rw[Vv (Yt hxz (by assumption))]; done))),(Qk (by (rw[Vv (Yt hxz (by assumption))]; done))),(Qk (by (rw[Vv (Yt hxz (by assumption))]; done))),trivial⟩ (h0:=(congrArg (fun z_=>lI z_) e8))
theorem WE (b:DB)(word:ByteArray)(hw:word.size≤1000∧1≤(KO word).size)(hl:b.1.1.2.length≤100000∧b.1.2.2.1.length≤100000∧b.2.2.length≤100000):FC Tryz.prog 318 [(false,[.ptr 0 0]),(false,[dS word])] [bx 0 274 [dI b.1.1.1, .ref 3, .ref 1, .ref 4,dS b.1.2.2.2, .ref 2, .ref 5],ar 3 237 (.pr (.sl 3 .int) (.sl 3 .int)) b.1.1.2,ar 1 203 (.pr .str .int) b.1.2.1,ar 4 120 (.pr .int .bool) b.1.2.2.1,ar 2 9 .str b.2.1,ar 5 9 .str b.2.2] 3 (Is (lI (trI b word)) [bx 0 274 [dI ((Zg b word).1.1.1), .ref 3, .ref 1, .ref 4,dS ((Zg b word).1.2.2.2), .ref 2, .ref 5],ar 3 237 (.pr (.sl 3 .int) (.sl 3 .int)) ((Zg b word).1.1.2),ar 1 203 (.pr .str .int) ((Zg b word).1.2.1),ar 4 120 (.pr .int .bool) ((Zg b word).1.2.2.1),ar 2 9 .str ((Zg b word).2.1),ar 5 9 .str ((Zg b word).2.2)]):=by
 have hsp:=QiK word 47
 refine Qj Tryz.func318 rfl rfl Tryz.ntmps318 fun O_ hO w0_ N0_ X_ h0_ f0_=> ?_
 iterate 13 refine w_ ?_
 refine lpK b.2.2.length (fun k=>NoneTo (fun y=>decide (y=word)) b.2.2 k) (fun k=>⟨[(0,lP 0 0),(1,lf (dS word)),(12,lR 5),(13,lI (b.2.2.length:Int)),(14,lI (k:Int))],[bx 0 274 [dI b.1.1.1, .ref 3, .ref 1, .ref 4,dS b.1.2.2.2, .ref 2, .ref 5],ar 1 203 (.pr .str .int) b.1.2.1,ar 2 9 .str b.2.1,ar 3 237 (.pr (.sl 3 .int) (.sl 3 .int)) b.1.1.2,ar 4 120 (.pr .int .bool) b.1.2.2.1,ar 5 9 .str b.2.2]⟩) (NoneTo.zero) ?_ fun k hk1 hno=> ?_
 · exact Wk.of [] rfl ⟨rfl,rfl,rfl,rfl,rfl,trivial⟩ ⟨rfl,rfl,rfl,rfl,rfl,rfl,trivial⟩ rfl rfl
 iterate 4 refine w_ ?_
 cases hb2:(decide ((k:Int) < (b.2.2.length:Int)))
 ·have hb2':=ab hb2
  refine w_ ?_
  refine Qi ?_
  refine (?_:AC _ _ _ _ _)
  iterate 7 refine w_ ?_
  refine lc (dBs 6 (e:= .str) ZZ) ?_
  refine lc (dA 7 YS) ?_
  iterate 6 refine w_ ?_
  refine lc (UD (XQ word 47 (by omega)).frozen KB ⟨_,_,rfl,(Qm rfl),⟨_,_,rfl,(Evl.ev (QK 47 rfl)),rfl⟩⟩ rfl rfl) ?_
  obtain ⟨nm,hx4⟩:∃z,(Zt word 47)[0]? =some z:=⟨_,aa (by omega)⟩
  have hnw:KO word=nm:=by unfold KO; rw[show (Zt word 47)[0]? =some nm from hx4]; rfl
  have hnz:1≤nm.size:=by rw[← hnw]; exact hw.2
  have hnl:=KE (ao hx4)
  iterate 5 refine w_ ?_
  refine lc (Qn Ux ⟨_,_,rfl,(Evl.ev (Ql rfl)),rfl⟩ (aw.1 rfl) rfl rfl)<|lc (xal 8 (.pr .int .bool) Xv) ?_
  iterate 5 refine w_ ?_
  obtain ⟨c0,hc6⟩:∃z,nm[(0:Int).toNat]? =some z:=⟨_,b5 _ _ (by omega)⟩
  have hc0:=hc6
  refine w_ ?_
  refine lc (QF (Qa rfl) (QK 126 rfl) rfl) ?_
  refine w_ ?_
  refine cn_ (fun hb7 hb7'=> ?_) fun hb7 hb7'=> ?_
  ·iterate 9 refine w_ ?_
   refine lc (Qn H4 rfl (aw.1 rfl) rfl rfl) ?_
   refine lc (dBs 9 (e:=(.pr (.sl 3 .int) (.sl 3 .int))) Vp (hab:=by exact ⟨_,_,_,_,rfl,⟨[.val (.slice none 0 0)],[.val (.slice none 0 0)],_,_,_,_,rfl,rfl,(.inr ⟨rfl,rfl,rfl⟩),(.inr ⟨rfl,rfl,rfl⟩),rfl⟩,⟨rfl,rfl⟩,rfl⟩)) ?_
   refine lc (dA 10 H7) ?_
   iterate 6 refine w_ ?_
   apply dW (i7 74 _ _ _ _ _ _ _ (⟨some 81,lR 11,[ar 11 120 (.pr .int .bool) ([((-1),false)])]⟩ :: ⟨some 82,lR 12,[ar 12 120 (.pr .int .bool) (b.1.2.2.1++([((-1),false)])),(4,none),(11,none)]⟩ :: i3 83 _ _ _ [⟨none,lf (.val undef),[bx 0 274 [dI b.1.1.1, .ref 10, .ref 1, .ref 12,dS b.1.2.2.2, .ref 2, .ref 7]]⟩])) [0,1,1,1,1,1,63,63,1,0,0,0,0]
   iterate 7 refine z_ ?_
   refine zz (fun _ h_=>ac (dBs 11 (e:=(.pr .int .bool)) Xv (hab:=by exact ⟨_,_,_,_,rfl,⟨[dI (-1)],[dB false],_,_,_,_,rfl,rfl,⟨rfl,rfl⟩,⟨rfl,rfl⟩,rfl⟩,⟨rfl,rfl⟩,rfl⟩)) rfl) ?_
   refine zz (fun _ h_=>ac (dA 12 KK) rfl) ?_
   iterate 3 refine z_ ?_
   refine zz (fun _ h_=>ac (Zy (h_.v rfl) (h_.en 0 rfl) (h_.w rfl) (by simp only[Q9,VM,bm,bI]; rw[(h_.en 12 rfl)]; rfl) QlT rfl) rfl) ?_
   exact zN
   iterate 6 refine w_ ?_
   refine lc (Wc (Qa rfl) (Ql rfl) rfl (by first | omega | (simp only[ak,aq,aD]; omega))) ?_
   iterate 2 refine w_ ?_
   refine Qb ?_
   have e8:(((b.2.2++([word])).length:Int) - 1:Int)=(trI b word):=by
    (unfold trI; rw[Jd (ZO hno (by omega)),ak]; simp)
   exact fi_ [(3,10),(4,12),(5,7)] hO ⟨(((congrArg (fun z_=>some (Ent.box 274 [dI z_, .ref 10, .ref 1, .ref 12,dS b.1.2.2.2, .ref 2, .ref 7])) (show (b.1.1.1:Int)=(Zg b word).1.1.1 by (rw[ZK (ZO hno (by omega))]; done)))).trans (congrArg (fun z_=>some (Ent.box 274 [dI ((Zg b word).1.1.1), .ref 10, .ref 1, .ref 12,dS z_, .ref 2, .ref 7])) (show (b.1.2.2.2:ByteArray)=(Zg b word).1.2.2.2 by (rw[ZK (ZO hno (by omega))]; done)))),(Qk (by (rw[ZK (ZO hno (by omega))]; done))),(Qk (by (rw[ZK (ZO hno (by omega))]; done))),(Qk (by (rw[ZK (ZO hno (by omega)),← Qo8 hnw hc0 (by assumption)]; done))),(Qk (by (rw[ZK (ZO hno (by omega))]; done))),(Qk (by (rw[ZK (ZO hno (by omega))]; done))),trivial⟩ (h0:=(congrArg (fun z_=>lI z_) e8))
  ·obtain ⟨cz,hc10⟩:∃z,nm[((nm.size:Int) - 1).toNat]? =some z:=⟨_,b5 _ _ (by omega)⟩
   have hcz:=hc10
   apply dZ (i7 42 _ _ _ _ _ _ _ (io 49 (lI (nm.size:Int)) :: io 50 (lI ((nm.size:Int) - 1)) :: io 51 (lf (dS (nm.extract 0 ((nm.size:Int) - 1).toNat))) :: io 52 (lI (Zb (fun x:Qy=>decide (x.1=(nm.extract 0 ((nm.size:Int) - 1).toNat))) b.1.2.1)) :: i2 53 _ _ [io 55 (lI (nm.size:Int)),io 56 (lI ((nm.size:Int) - 1)),io 57 _,io 58 (lB (decide (cz=43))),io 59 (ag [dI (Zb (fun x:Qy=>decide (x.1=(nm.extract 0 ((nm.size:Int) - 1).toNat))) b.1.2.1),dB (decide (cz=43))]),⟨none,lf (.val undef),[bx 8 120 [dI (Zb (fun x:Qy=>decide (x.1=(nm.extract 0 ((nm.size:Int) - 1).toNat))) b.1.2.1),dB (decide (cz=43))]]⟩])) [0,0,0,0,0,31,63,63,63,31,0,2047,4095,4095,4095,2047,2047,0,0]
   iterate 7 refine z_ ?_
   refine zz (fun _ h_=>ac (QI (h_.v rfl) rfl QR) rfl)<|zz (fun _ h_=>ac (Wc (h_.v rfl) (Ql rfl) rfl (by first | omega | (simp only[ak,aq,aD]; omega))) rfl)<|zz (fun _ h_=>ac (show Does _ _ _ _ (St.put _ 51 (lf (dS (nm.extract 0 ((nm.size:Int) - 1).toNat)))) from Qw (l:=none) (h:=(some ((nm.size:Int) - 1))) (h_.v rfl) (by exact trivial) (by exact (h_.v rfl)) QR rfl (by first | omega | (simp only[ai,ah]; omega)) (by first | omega | (simp only[ai,ah]; omega)) (by first | omega | (simp only[ai,ah]; omega))) rfl) ?_
   refine zz (fun _ h_=>ac (dB_ (JR b.1.2.1 (nm.extract 0 ((nm.size:Int) - 1).toNat)) Qfr) rfl) ?_
   iterate 2 refine z_ ?_
   refine zz (fun _ h_=>ac (QI (h_.v rfl) rfl QR) rfl)<|zz (fun _ h_=>ac (Wc (h_.v rfl) (Ql rfl) rfl (by first | omega | (simp only[ak,aq,aD]; omega))) rfl) ?_
   refine z_ ?_
   refine zz (fun _ h_=>ac (Zw (h_.v rfl) (QK 43 rfl) rfl) rfl)<|zz (fun _ h_=>ac (Qn Ux ⟨_,_,rfl,(h_.w rfl),⟨_,_,rfl,(h_.w rfl),rfl⟩⟩ (aw.1 rfl) rfl rfl) rfl) ?_
   refine z_ ?_
   exact zN
   iterate 8 refine w_ ?_
   refine lc (Qn H4 rfl (aw.1 rfl) rfl rfl) ?_
   refine lc (dBs 13 (e:=(.pr (.sl 3 .int) (.sl 3 .int))) Vp (hab:=by exact ⟨_,_,_,_,rfl,⟨[.val (.slice none 0 0)],[.val (.slice none 0 0)],_,_,_,_,rfl,rfl,(.inr ⟨rfl,rfl,rfl⟩),(.inr ⟨rfl,rfl,rfl⟩),rfl⟩,⟨rfl,rfl⟩,rfl⟩)) ?_
   refine lc (dA 14 H7) ?_
   iterate 6 refine w_ ?_
   apply dW (i7 74 _ _ _ _ _ _ _ (⟨some 81,lR 15,[ar 15 120 (.pr .int .bool) ([(Zb (fun x:Qy=>decide (x.1=(nm.extract 0 ((nm.size:Int) - 1).toNat))) b.1.2.1,decide (cz=43))])]⟩ :: ⟨some 82,lR 16,[ar 16 120 (.pr .int .bool) (b.1.2.2.1++([(Zb (fun x:Qy=>decide (x.1=(nm.extract 0 ((nm.size:Int) - 1).toNat))) b.1.2.1,decide (cz=43))])),(4,none),(15,none)]⟩ :: i3 83 _ _ _ [⟨none,lf (.val undef),[bx 0 274 [dI b.1.1.1, .ref 14, .ref 1, .ref 16,dS b.1.2.2.2, .ref 2, .ref 7]]⟩])) [0,1,1,1,1,1,63,63,1,0,0,0,0]
   iterate 7 refine z_ ?_
   refine zz (fun _ h_=>ac (dBs 15 (e:=(.pr .int .bool)) Xv (hab:=by exact ⟨_,_,_,_,rfl,⟨[dI (Zb (fun x:Qy=>decide (x.1=(nm.extract 0 ((nm.size:Int) - 1).toNat))) b.1.2.1)],[dB (decide (cz=43))],_,_,_,_,rfl,rfl,⟨rfl,rfl⟩,⟨rfl,rfl⟩,rfl⟩,⟨rfl,rfl⟩,rfl⟩)) rfl) ?_
   refine zz (fun _ h_=>ac (dA 16 KK) rfl) ?_
   iterate 3 refine z_ ?_
   refine zz (fun _ h_=>ac (Zy (h_.v rfl) (h_.en 0 rfl) (h_.w rfl) (by simp only[Q9,VM,bm,bI]; rw[(h_.en 16 rfl)]; rfl) QlT rfl) rfl) ?_
   exact zN
   iterate 6 refine w_ ?_
   refine lc (Wc (Qa rfl) (Ql rfl) rfl (by first | omega | (simp only[ak,aq,aD]; omega))) ?_
   iterate 2 refine w_ ?_
   refine Qb ?_
   have e11:(((b.2.2++([word])).length:Int) - 1:Int)=(trI b word):=by
    (unfold trI; rw[Jd (ZO hno (by omega)),ak]; simp)
   exact fi_ [(3,14),(4,16),(5,7)] hO ⟨(((congrArg (fun z_=>some (Ent.box 274 [dI z_, .ref 14, .ref 1, .ref 16,dS b.1.2.2.2, .ref 2, .ref 7])) (show (b.1.1.1:Int)=(Zg b word).1.1.1 by (rw[ZK (ZO hno (by omega))]; done)))).trans (congrArg (fun z_=>some (Ent.box 274 [dI ((Zg b word).1.1.1), .ref 14, .ref 1, .ref 16,dS z_, .ref 2, .ref 7])) (show (b.1.2.2.2:ByteArray)=(Zg b word).1.2.2.2 by (rw[ZK (ZO hno (by omega))]; done)))),(Qk (by (rw[ZK (ZO hno (by omega))]; done))),(Qk (by (rw[ZK (ZO hno (by omega))]; done))),(Qk (by (rw[ZK (ZO hno (by omega)),← QoI hnw hc0 (by assumption) hcz]; done))),(Qk (by (rw[ZK (ZO hno (by omega))]; done))),(Qk (by (rw[ZK (ZO hno (by omega))]; done))),trivial⟩ (h0:=(congrArg (fun z_=>lI z_) e11))
 ·have hb2':=ae hb2
  iterate 7 refine w_ ?_
  obtain ⟨x,hx13⟩:∃z,b.2.2[k]? =some z:=⟨_,aa (by omega)⟩
  have hxz:=hx13
  iterate 9 refine w_ ?_
  cases hb14:(decide (x=word))
  ·have hb14':=ab hb14
   refine w_ ?_
   refine AC.skip ?_
   refine (?_:AC _ _ _ _ _)
   refine w_ ?_
   refine lc (Wg (Qa rfl) (Ql rfl) rfl (by first | omega | (simp only[ak,aq,aD]; omega))) ?_
   refine w_ ?_
   refine Qd ?_
   refine lK_ (hno.step hx13 (az (by assumption))) ?_
   exact Wk.of [] rfl ⟨rfl,rfl,rfl,rfl,rfl,trivial⟩ ⟨rfl,rfl,rfl,rfl,rfl,rfl,trivial⟩ rfl rfl
  ·have hb14':=ae hb14
   iterate 5 refine w_ ?_
   refine Qb ?_
   have e15:((k:Int):Int)=(trI b word):=by
    exact QkG hno hxz (by assumption)
   exact fi_ [] hO ⟨(((congrArg (fun z_=>some (Ent.box 274 [dI z_, .ref 3, .ref 1, .ref 4,dS b.1.2.2.2, .ref 2, .ref 5])) (show (b.1.1.1:Int)=(Zg b word).1.1.1 by (rw[X4 (Yt hxz (by assumption))]; done)))).trans (congrArg (fun z_=>some (Ent.box 274 [dI ((Zg b word).1.1.1), .ref 3, .ref 1, .ref 4,dS z_, .ref 2, .ref 5])) (show (b.1.2.2.2:ByteArray)=(Zg b word).1.2.2.2 by (rw[X4 (Yt hxz (by assumption))]; done)))),(Qk (by (rw[X4 (Yt hxz (by assumption))]; done))),(Qk (by (rw[X4 (Yt hxz (by assumption))]; done))),(Qk (by (rw[X4 (Yt hxz (by assumption))]; done))),(Qk (by (rw[X4 (Yt hxz (by assumption))]; done))),(Qk (by (rw[X4 (Yt hxz (by assumption))]; done))),trivial⟩ (h0:=(congrArg (fun z_=>lI z_) e15))
end Go.Proofs.YtfkmmpfdncopdaaGreat
