/- Abstract states: numbers of 64 bits without a sign. No program is named here. -/
import Derived.Test.YtfkmmpfdncopdaaGreatNWj
import Derived.Laws.Bits64b
import Derived.Test.YtfkmmpfdncopdaaGreatNDf
import Derived.Test.YtfkmmpfdncopdaaGreatNVa
set_option linter.unusedSimpArgs false
set_option linter.unusedVariables false
set_option linter.unusedSectionVars false
namespace Go.Proofs.YtfkmmpfdncopdaaGreat
open Go.RowKit
theorem Vf (n:Int):0≤IntKind.u64.wrap n∧IntKind.u64.wrap n < 18446744073709551616:=by
  simp only[IntKind.wrap,IntKind.bits,IntKind.signed]
  simp
  omega
theorem UK {a:Int}(h:0≤a∧a < 18446744073709551616):0≤a / 2 ^ 40∧a / 2 ^ 40 < 18446744073709551616:=by omega
theorem QbU {a:Int}(h:0≤a∧a < 18446744073709551616):0≤bits BinOp.and IntKind.u64 a 255∧bits BinOp.and IntKind.u64 a 255≤255:=by
  have h1:=bits_and_u64_nat a.toNat 255 (by omega) (by decide)
  rw[show ((a.toNat:Nat):Int)=a by omega,show ((255:Nat):Int)=255 from rfl] at h1
  have h2:a.toNat &&& 255≤255:=Nat.and_le_right
  rw[h1]
  omega
section
variable {A:Amb}{P:Program}{s:St}{x y:Operand}{d:Nat}{T T' ty:TypeId}{pos:String}{af:Array Edge}{g:Option (Nat×Bool)}{a b:Int}
theorem QdS (hx:Evl A s x (.val (.int .u64 a)))(hy:Evl A s y (.val (.int .u64 b)))(hn:Nat.blt d A.n=true):Does A P ⟨some d, .binOp .mul T x y T',ty,pos,af,g⟩ s (s.put d (lf (.val (.int .u64 (IntKind.u64.wrap (a*b)))))):=
  Qg rfl hn fun gh a' w r=>by
    have h1:a'.eval x= .int .u64 a:=hx gh a' w r
    have h2:a'.eval y= .int .u64 b:=hy gh a' w r
    refine ⟨_, ?_,_,rfl,rfl⟩
    simp only[execOp,h1,h2,eqGuard_at_int,binOp,Op.intArith]
    simp
theorem Ke (hx:Evl A s x (.val (.int .u64 a)))(hy:Evl A s y (.val (.int .u64 b)))(hn:Nat.blt d A.n=true):Does A P ⟨some d, .binOp .add T x y T',ty,pos,af,g⟩ s (s.put d (lf (.val (.int .u64 (IntKind.u64.wrap (a+b)))))):=
  Qg rfl hn fun gh a' w r=>by
    have h1:a'.eval x= .int .u64 a:=hx gh a' w r
    have h2:a'.eval y= .int .u64 b:=hy gh a' w r
    refine ⟨_, ?_,_,rfl,rfl⟩
    simp only[execOp,h1,h2,eqGuard_at_int,binOp,Op.intArith]
    simp
theorem Qdg (hx:Evl A s x (.val (.int .u64 a)))(hy:Evl A s y (.val (.int .u64 b)))(hn:Nat.blt d A.n=true):Does A P ⟨some d, .binOp .and T x y T',ty,pos,af,g⟩ s (s.put d (lf (.val (.int .u64 (bits .and .u64 a b))))):=
  Qg rfl hn fun gh a' w r=>by
    have h1:a'.eval x= .int .u64 a:=hx gh a' w r
    have h2:a'.eval y= .int .u64 b:=hy gh a' w r
    have h3:Op.intBits .and .u64 a b=pure (.int .u64 (bits .and .u64 a b)):=rfl
    refine ⟨_, ?_,_,rfl,rfl⟩
    simp only[execOp,h1,h2,eqGuard_at_int,binOp,h3]
    simp
theorem QcW {k:IntKind}(hx:Evl A s x (.val (.int .u64 a)))(hy:Evl A s y (.val (.int k b)))(hn:Nat.blt d A.n=true)(h0:0≤b∧b≤62):Does A P ⟨some d, .binOp .shr T x y T',ty,pos,af,g⟩ s (s.put d (lf (.val (.int .u64 (a / 2 ^ b.toNat))))):=
  Qg rfl hn fun gh a' w r=>by
    have h1:a'.eval x= .int .u64 a:=hx gh a' w r
    have h2:a'.eval y= .int k b:=hy gh a' w r
    have h3:Op.shift .shr .u64 a k b=pure (.int .u64 (a / 2 ^ b.toNat)):=by
      rw[shift_shr_any _ _ _ _ h0.1,show IntKind.u64.bits=64 from rfl,cu (by omega)]
    refine ⟨_, ?_,_,rfl,rfl⟩
    simp only[execOp,h1,h2,eqGuard_at_int,binOp,h3]
    simp
theorem QkW {n:UInt8}(hx:Evl A s x (.dat .u8 n))(hs:P.underlying T=some (.int .u8))(hd:P.underlying T'=some (.int .i64))(hn:Nat.blt d A.n=true):
    Does A P ⟨some d, .convert T T' x,ty,pos,af,g⟩ s (s.put d (lf (dI n.toNat))):=
  Qg rfl hn fun gh a w r=>by
    have h2:a.eval x= .int .u8 n.toNat:=by
      have h3:Rd gh.N .u8 w [a.eval x] n:=hx gh a w r
      have h4:[a.eval x]=[.int .u8 n.toNat]:=h3.rep
      simpa using h4
    have hb:n.toNat < 256:=n.toNat_lt
    have e2:IntKind.i64.wrap (n.toNat:Int)=(n.toNat:Int):=IntWalk.i64_in _ (by omega)
    refine ⟨.int .i64 n.toNat, ?_,_,rfl,Ye (by omega)⟩
    simp only[execOp,h2,convert,run_underlying hs,run_underlying hd,aw,aH,Conv.intToInt,e2]
    simp
end
theorem Trd.u8 {P:Program}{T:TypeId}(h:P.underlying T=some (.int .u8))(hc:P.cellsOf T=1):Trd P T .u8:=⟨hc,fun enc w base spare held fuel cs x hx=>by
  obtain ⟨n,rfl,_,hw⟩:=DataW.trod_int h hx
  simp[Lit.wf] at hw
  have hu1:IntKind.u8.min=0:=rfl
  have hu2:IntKind.u8.max=255:=rfl
  rw[hu1,hu2] at hw
  refine ⟨UInt8.ofNat n.toNat, ?_⟩
  have e1:(UInt8.ofNat n.toNat).toNat=n.toNat:=by
    rw[UInt8.toNat_ofNat']
    exact da (by omega)
  show [Value.int .u8 n]=[Value.int .u8 ((UInt8.ofNat n.toNat).toNat:Nat)]
  rw[e1,cZ (by omega)]⟩
def QrK (P:Program)(T:TypeId)(offs:List (Nat×Nat))(zs:List Value):Prop:=
  ∃fs,P.underlying T=some (.struct fs)∧(∀w,(fs.mapM fun (f:Field)=>do pure (f.offset,← sizeOf f.type)).run P w= .ok offs.toArray w)∧zer P T=some (.agg zs.toArray)
theorem QoU {P:Program}{T:TypeId}{fs:List Field}{offs:List (Nat×Nat)}{zs:List Value}(hu:P.underlying T=some (.struct fs.toArray))(hp:plB P fs offs=true)(hz:zer P T=some (.agg zs.toArray)):QrK P T offs zs:=
  ⟨_,hu,fun w=>by
    rw[List.mapM_toArray]
    have:=K2 (P:=P) (w:=w) hp
    simp only[map_eq_pure_bind,aw,this,aH,b5],hz⟩
section
variable {A:Amb}{P:Program}{s:St}{d:Nat}{T ty:TypeId}{pos:String}{af:Array Edge}{g:Option (Nat×Bool)}
theorem Qfb {zs:List Value}(zl:List LV){offs:List (Nat×Nat)}{parts:Array (Nat×Operand)}{css:List (Bool×List LV)}{ls:List LV}(hb:QrK P T offs zs)(hz0:∀al gh w,LVs al gh w zl zs)(hv:EvL A s (parts.toList.map (·.2)) css)(hok:∀c∈css,Q6 s.tab c.2=true)
    (hf:Qd5 offs zl ((parts.toList.map (·.1)).zip (css.map (·.2)))=some ls) (hn:Nat.blt d A.n=true):Does A P ⟨some d, .build T parts,ty,pos,af,g⟩ s (s.put d (ag ls)):=
  Qg rfl hn fun gh a w r=>by
    obtain ⟨fs,h1,h2,h3⟩:=hb
    have hvs:=hv.cms r
    have hlen:=hvs.len
    generalize hV:(parts.toList.map (·.2)).map a.eval=vs at*
    have hpl:parts.toList.length=vs.length:=by rw[← hV]; simp
    have hcells:∀(cs:List (Bool×List LV)) (vs:List Value),CmsR s.tab.al gh w cs vs→(∀c∈cs,Q6 s.tab c.2=true)→∀(i:Nat) (c:Bool×List LV) (v:Value),cs[i]? =some c→vs[i]? =some v→∃us,v.cells=us.toArray∧LVs s.tab.al gh w c.2 us:=by
      intro cs
      induction cs with
      | nil=>intro vs _ _ i c v h; simp at h
      | cons c cs ih=>
        rintro vs ⟨v,vs',rfl,k1,k2⟩ hok i c' v' hc hv'
        cases i with
        | zero=>
          simp at hc hv'
          subst hc; subst hv'
          have hc:=hok c (az ..)
          obtain ⟨b,ls⟩:=c
          exact CmR.cells k1 fun hb=>by
            subst hb
            obtain ⟨l,rfl,q1⟩:=k1
            simp only[Q6,cU] at hc
            obtain ⟨h3,h4⟩:=Wc hc
            exact q1.oneCell h4 h3 fun q ⟨e,he⟩=>(r.cx.en q e he).oneCell
        | succ i=>exact ih vs' k2 (fun c hc=>hok c (ax _ hc)) i c' v' (by simpa using hc) (by simpa using hv')
    have hzl:((parts.toList.map (·.1)).zip (css.map (·.2))).length=vs.length:=by rw[List.length_zip,aP,aP]; omega
    obtain ⟨cur',k1,k2⟩:=JM (al:=s.tab.al) (gh:=gh) (w:=w) (cur:=zs.toArray) hf hzl.symm (fun i p v hp hv'=>by
      have hi:=List.getElem?_zip_eq_some.1 hp
      have h5:=hi.2
      rw[bq] at h5
      obtain ⟨c',h6,h7⟩:=cw.1 h5
      rw[← h7]
      exact hcells css vs hvs hok i c' v h6 hv') (by simpa using hz0 s.tab.al gh w)
    refine ⟨.agg cur', ?_,cur'.toList,by simp,k2⟩
    have hz:(((parts.toList.map (·.1)).zip (css.map (·.2))).map (·.1)).zip vs=(parts.map fun p=>(p.1,a.eval p.2)).toList:=by
      rw[List.map_fst_zip (by rw[aP,aP]; omega),cW,← hV,dn]
      generalize parts.toList=pl
      induction pl with
      | nil=>rfl
      | cons p ps ih=>simp[ih]
    rw[hz] at k1
    simp only[execOp,Instr.build,aw,XT h3,aH,run_underlying h1,h2,Value.cells]
    rw[k1]
    simp
end
end Go.Proofs.YtfkmmpfdncopdaaGreat
namespace Go.Proofs.YtfkmmpfdncopdaaGreat
open Go.RowKit
set_option maxRecDepth 100000
set_option maxHeartbeats 4000000
def nxB (code:List UInt8)(at_:Int):Int:=if at_ < (code.length:Int) then ((((code[at_.toNat]?).getD 0).toNat:Nat):Int) else 0
def nxS (code:List UInt8)(at_ sd:Int):Int:=IntKind.u64.wrap (IntKind.u64.wrap (IntKind.u64.wrap (sd*6364136223846793005)+nxB code at_)+1442695040888963407)
def nxV (code:List UInt8)(at_ sd:Int):Int:=if at_+1≤(code.length:Int) then nxB code at_ else bits .and .u64 (nxS code at_ sd / 2 ^ 40) 255
def pkV (code:List UInt8)(at_ sd n:Int):Int:=if n≤1 then 0 else if 200 < n then (nxV code at_ sd*256+nxV code (at_+1) (nxS code at_ sd)) % n else nxV code at_ sd % n
def pkA (n at_:Int):Int:=if n≤1 then at_ else if 200 < n then at_+1+1 else at_+1
def pkS (code:List UInt8)(at_ sd n:Int):Int:=if n≤1 then sd else if 200 < n then nxS code (at_+1) (nxS code at_ sd) else nxS code at_ sd
section
variable {code:List UInt8}{at_ sd n:Int}{c:UInt8}
theorem QoH (code:List UInt8)(at_:Int):0≤nxB code at_∧nxB code at_≤255:=by
  unfold nxB
  split
  · have : ((code[at_.toNat]?).getD 0).toNat < 256 := UInt8.toNat_lt _
    omega
  · omega
theorem Qov (code:List UInt8)(at_ sd:Int):0≤nxS code at_ sd∧nxS code at_ sd < 18446744073709551616:=Vf _
theorem QaX (code:List UInt8)(at_ sd:Int):0≤nxV code at_ sd∧nxV code at_ sd≤255:=by
  unfold nxV
  split
  · exact QoH ..
  · exact QbU (UK (Qov ..))
theorem QaY (h:code[at_.toNat]? =some c)(h2:at_ < (code.length:Int)):(((c.toNat:Nat):Int))=nxB code at_:=by unfold nxB; rw[if_pos h2,h]; rfl
theorem QeS (h:¬at_ < (code.length:Int)):(0:Int)=nxB code at_:=(if_neg h).symm
theorem Qjw (h:at_+1≤(code.length:Int)):nxB code at_=nxV code at_ sd:=(if_pos h).symm
theorem QmK (h:¬at_+1≤(code.length:Int)):bits .and .u64 (nxS code at_ sd / 2 ^ 40) 255=nxV code at_ sd:=(if_neg h).symm
theorem YN (code:List UInt8)(at_ sd n:Int):(0≤pkV code at_ sd n∧(1≤n→pkV code at_ sd n < n))∧(at_≤pkA n at_∧pkA n at_≤at_+2):=by
  refine ⟨?_, ?_⟩
  · unfold pkV
    have h1:=QaX code at_ sd
    have h2:=QaX code (at_+1) (nxS code at_ sd)
    split
    · omega
    · split
      · exact ⟨Int.emod_nonneg _ (by omega),fun _=>Int.emod_lt_of_pos _ (by omega)⟩
      · exact ⟨Int.emod_nonneg _ (by omega),fun _=>Int.emod_lt_of_pos _ (by omega)⟩
  · unfold pkA
    split
    · omega
    · split <;> omega
theorem QqZ (h:n≤1):pkV code at_ sd n=0∧pkA n at_=at_∧pkS code at_ sd n=sd:=⟨if_pos h,if_pos h,if_pos h⟩
theorem Qqc (h:¬n≤1)(h2:200 < n):pkV code at_ sd n=(nxV code at_ sd*256+nxV code (at_+1) (nxS code at_ sd)) % n∧pkA n at_=at_+1+1∧pkS code at_ sd n=nxS code (at_+1) (nxS code at_ sd):=by
  refine ⟨?_, ?_, ?_⟩
  · unfold pkV; rw[if_neg h,if_pos h2]
  · unfold pkA; rw[if_neg h,if_pos h2]
  · unfold pkS; rw[if_neg h,if_pos h2]
theorem Qq1 (h:¬n≤1)(h2:¬200 < n):pkV code at_ sd n=nxV code at_ sd % n∧pkA n at_=at_+1∧pkS code at_ sd n=nxS code at_ sd:=by
  refine ⟨?_, ?_, ?_⟩
  · unfold pkV; rw[if_neg h,if_neg h2]
  · unfold pkA; rw[if_neg h,if_neg h2]
  · unfold pkS; rw[if_neg h,if_neg h2]
end
def cuN (code:List UInt8)(c:Int×Int)(n:Int):Int×Int:=(pkA n c.1,pkS code c.1 c.2 n)
def cuV (code:List UInt8)(c:Int×Int)(n:Int):Int:=pkV code c.1 c.2 n
def spT (t w:ByteArray)(i q:Int):ByteArray:=if q=0 then t.extract 0 i.toNat++w++t.extract i.toNat t.size else if q=1 then t.extract 0 i.toNat++w++t.extract (i+1).toNat t.size else t.extract 0 i.toNat++t.extract (i+1).toNat t.size
def spW (code:List UInt8)(wt:ByteArray)(c:Int×Int):ByteArray:=⟨#[(wt[(cuV code c (wt.size:Int)).toNat]?).getD 0]⟩
def spN (code:List UInt8)(wt:ByteArray)(s:ByteArray×Int×Int):ByteArray×Int×Int:=
  let c1:=cuN code s.2 (s.1.size:Int); let c2:=cuN code c1 (wt.size:Int)
  (spT s.1 (spW code wt c1) (cuV code s.2 (s.1.size:Int)) (cuV code c2 3),cuN code c2 3)
def spG (code:List UInt8)(wt:ByteArray):Nat→ByteArray×Int×Int→ByteArray×Int×Int
  | 0,s=>s
  | n+1,s=>if 0 < s.1.size then spG code wt n (spN code wt s) else s
def spV (code:List UInt8)(wt t:ByteArray)(at_ sd:Int):ByteArray×Int×Int:=spG code wt (1+pkV code at_ sd 2).toNat (t,pkA 2 at_,pkS code at_ sd 2)
section
variable {code:List UInt8}{wt t:ByteArray}{at_ sd n q i:Int}{s:ByteArray×Int×Int}{w:ByteArray}
theorem QmQ (h:0≤i∧i < (t.size:Int))(hw:w.size=1):(spT t w i q).size≤t.size+1:=by
  unfold spT
  split
  · simp only[aN,aS,hw]; omega
  · split
    · simp only[aN,aS,hw]; omega
    · simp only[aN,aS]; omega
theorem QoZ (h:0 < s.1.size):(spN code wt s).1.size≤s.1.size+1∧s.2.1≤(spN code wt s).2.1∧(spN code wt s).2.1≤s.2.1+6:=by
  have h1:=YN code s.2.1 s.2.2 (s.1.size:Int)
  have h2:=YN code (pkA (s.1.size:Int) s.2.1) (pkS code s.2.1 s.2.2 (s.1.size:Int)) (wt.size:Int)
  have h3:=YN code (pkA (wt.size:Int) (pkA (s.1.size:Int) s.2.1)) (pkS code (pkA (s.1.size:Int) s.2.1) (pkS code s.2.1 s.2.2 (s.1.size:Int)) (wt.size:Int)) 3
  refine ⟨QmQ ⟨h1.1.1,h1.1.2 (by omega)⟩ rfl, ?_, ?_⟩
  · show s.2.1≤pkA 3 (pkA (wt.size:Int) (pkA (s.1.size:Int) s.2.1)); omega
  · show pkA 3 (pkA (wt.size:Int) (pkA (s.1.size:Int) s.2.1))≤s.2.1+6; omega
theorem Qjb:∀(k:Nat) (s:ByteArray×Int×Int),(spG code wt k s).1.size≤s.1.size+k∧s.2.1≤(spG code wt k s).2.1∧(spG code wt k s).2.1≤s.2.1+6*k
  | 0,s=>⟨aO _,dh _,by simp[spG]⟩
  | k+1,s=>by
    rw[spG]
    split
    · rename_i h
      have h1:=QoZ (code:=code) (wt:=wt) h
      have h2:=Qjb k (spN code wt s)
      refine ⟨by omega,by omega,by omega⟩
    · exact ⟨by omega,dh _,by omega⟩
theorem QlQ {k a_ b_:Int}(hn:0 < k)(ht:0 < t.size):spG code wt k.toNat (t,a_,b_)=spG code wt (k - 1).toNat (spN code wt (t,a_,b_)):=by
  rw[show k.toNat=(k - 1).toNat+1 by omega,spG,if_pos ht]
theorem Hw {k a_ b_:Int}(h:k≤0∨t.size=0):spG code wt k.toNat (t,a_,b_)=(t,a_,b_):=by
  by_cases hk:k≤0
  · rw[show k.toNat=0 by omega,spG]
  · rw[show k.toNat=(k - 1).toNat+1 by omega,spG,if_neg (by show¬0 < t.size; omega)]
theorem Qrw {a_ s_:Int}{c:UInt8}(hw:wt[(pkV code (pkA (t.size:Int) a_) (pkS code a_ s_ (t.size:Int)) (wt.size:Int)).toNat]? =some c)(hq:pkV code (pkA (wt.size:Int) (pkA (t.size:Int) a_)) (pkS code (pkA (t.size:Int) a_) (pkS code a_ s_ (t.size:Int)) (wt.size:Int)) 3=0):
    spN code wt (t,a_,s_)=(t.extract 0 (pkV code a_ s_ (t.size:Int)).toNat++(⟨#[c]⟩:ByteArray)++t.extract (pkV code a_ s_ (t.size:Int)).toNat t.size,pkA 3 (pkA (wt.size:Int) (pkA (t.size:Int) a_)),pkS code (pkA (wt.size:Int) (pkA (t.size:Int) a_)) (pkS code (pkA (t.size:Int) a_) (pkS code a_ s_ (t.size:Int)) (wt.size:Int)) 3):=by
  unfold spN spT spW cuV cuN
  dsimp only
  rw[if_pos hq,hw]; rfl
theorem Qrv {a_ s_:Int}{c:UInt8}(hw:wt[(pkV code (pkA (t.size:Int) a_) (pkS code a_ s_ (t.size:Int)) (wt.size:Int)).toNat]? =some c)(hq0:¬pkV code (pkA (wt.size:Int) (pkA (t.size:Int) a_)) (pkS code (pkA (t.size:Int) a_) (pkS code a_ s_ (t.size:Int)) (wt.size:Int)) 3=0)
    (hq:pkV code (pkA (wt.size:Int) (pkA (t.size:Int) a_)) (pkS code (pkA (t.size:Int) a_) (pkS code a_ s_ (t.size:Int)) (wt.size:Int)) 3=1):
    spN code wt (t,a_,s_)=(t.extract 0 (pkV code a_ s_ (t.size:Int)).toNat++(⟨#[c]⟩:ByteArray)++t.extract (pkV code a_ s_ (t.size:Int)+1).toNat t.size,pkA 3 (pkA (wt.size:Int) (pkA (t.size:Int) a_)),pkS code (pkA (wt.size:Int) (pkA (t.size:Int) a_)) (pkS code (pkA (t.size:Int) a_) (pkS code a_ s_ (t.size:Int)) (wt.size:Int)) 3):=by
  unfold spN spT spW cuV cuN
  dsimp only
  rw[if_neg hq0,if_pos hq,hw]; rfl
theorem Qsa {a_ s_:Int}(hq0:¬pkV code (pkA (wt.size:Int) (pkA (t.size:Int) a_)) (pkS code (pkA (t.size:Int) a_) (pkS code a_ s_ (t.size:Int)) (wt.size:Int)) 3=0)
    (hq:¬pkV code (pkA (wt.size:Int) (pkA (t.size:Int) a_)) (pkS code (pkA (t.size:Int) a_) (pkS code a_ s_ (t.size:Int)) (wt.size:Int)) 3=1):
    spN code wt (t,a_,s_)=(t.extract 0 (pkV code a_ s_ (t.size:Int)).toNat++t.extract (pkV code a_ s_ (t.size:Int)+1).toNat t.size,pkA 3 (pkA (wt.size:Int) (pkA (t.size:Int) a_)),pkS code (pkA (wt.size:Int) (pkA (t.size:Int) a_)) (pkS code (pkA (t.size:Int) a_) (pkS code a_ s_ (t.size:Int)) (wt.size:Int)) 3):=by
  unfold spN spT cuV cuN
  dsimp only
  rw[if_neg hq0,if_neg hq]
theorem QqG (code:List UInt8)(wt t:ByteArray)(at_ sd:Int):(spV code wt t at_ sd).1.size≤t.size+2∧at_≤(spV code wt t at_ sd).2.1∧(spV code wt t at_ sd).2.1≤at_+14:=by
  have h1:=YN code at_ sd 2
  have h2:=Qjb (code:=code) (wt:=wt) (1+pkV code at_ sd 2).toNat (t,pkA 2 at_,pkS code at_ sd 2)
  have h3:(1+pkV code at_ sd 2).toNat≤2:=by have:=h1.1.2 (by decide); omega
  unfold spV
  dsimp only at h2
  refine ⟨by omega,by omega,by omega⟩
end
theorem Wj (code:List UInt8)(at_:Int)(sd:Int)(ha:0≤at_∧at_≤1000000000):FC Tryz.prog 172 [(false,[.ptr 0 0])] [bx 0 93 [.dat (.sl 5 .u8) code,dI at_, .val (.int .u64 sd)]] 1 (Is (lI (nxV code at_ sd)) [bx 0 93 [.dat (.sl 5 .u8) code,dI (at_+1), .val (.int .u64 (nxS code at_ sd))]]):=by
 refine Ql Tryz.func172 rfl rfl Tryz.ntmps172 fun O_ hO w0_ N0_ X_ h0_ f0_=> ?_
 iterate 7 refine w_ ?_
 apply dW (i9 4 _ _ _ _ _ _ _ _ _ [io 13 _]) [0,0,0,0,15,15,15,15,15,0]
 iterate 10 refine z_ ?_
 exact zN
 refine cd_ (fun hb1 hb1'=> ?_) fun hb1 hb1'=> ?_
 ·iterate 6 refine w_ ?_
  refine alI 28 fun hi2=> ?_
  iterate 11 refine w_ ?_
  refine lc (QdS (Qa rfl) Evl.val rfl) ?_
  refine w_ ?_
  refine lc (V6 (Qa rfl) Jv QeC (by omega) rfl)<|lc (Ke (Qa rfl) (Qa rfl) rfl)<|lc (Ke (Qa rfl) Evl.val rfl) ?_
  iterate 5 refine w_ ?_
  apply dW (i9 44 _ _ _ _ _ _ _ _ _ [io 53 _]) [0,0,0,0,15,15,15,15,15,0]
  iterate 10 refine z_ ?_
  exact zN
  refine cd_ (fun hb3 hb3'=> ?_) fun hb3 hb3'=> ?_
  ·iterate 6 refine w_ ?_
   refine lc (QcW (Qa rfl) Evl.val rfl (by omega))<|lc (Qdg (Qa rfl) Evl.val rfl)<|lc (Ja (Qa rfl) QeC Jv (by first | omega | exact ⟨(QbU (UK (Vf _))).1,Int.le_trans (QbU (UK (Vf _))).2 (by decide)⟩) rfl) ?_
   iterate 2 refine w_ ?_
   refine Qb ?_
   have e4:((bits .and .u64 ((IntKind.u64.wrap ((IntKind.u64.wrap ((IntKind.u64.wrap (sd*(6364136223846793005:Int)))+(0:Int)))+(1442695040888963407:Int))) / 2 ^ (40:Int).toNat) (255:Int)):Int)=(nxV code at_ sd):=by
    (rw[← QmK (by assumption),nxS,← QeS (by assumption)]; rfl)
   exact fi_ [] hO ⟨((congrArg (fun z_:Int=>some (Ent.box 93 [.dat (.sl 5 .u8) code,dI (at_+1), .val (.int .u64 z_)])) (show ((IntKind.u64.wrap ((IntKind.u64.wrap ((IntKind.u64.wrap (sd*(6364136223846793005:Int)))+(0:Int)))+(1442695040888963407:Int))):Int)=(nxS code at_ sd) by (unfold nxS; rw[← QeS (by assumption)])))),trivial⟩ (h0:=(congrArg (fun z_=>lI z_) e4))
  ·iterate 4 refine w_ ?_
   refine Qb ?_
   have e5:(0:Int)=(nxV code at_ sd):=by
    (rw[QeS (by assumption)]; exact Qjw (by assumption))
   exact fi_ [] hO ⟨((congrArg (fun z_:Int=>some (Ent.box 93 [.dat (.sl 5 .u8) code,dI (at_+1), .val (.int .u64 z_)])) (show ((IntKind.u64.wrap ((IntKind.u64.wrap ((IntKind.u64.wrap (sd*(6364136223846793005:Int)))+(0:Int)))+(1442695040888963407:Int))):Int)=(nxS code at_ sd) by (unfold nxS; rw[← QeS (by assumption)])))),trivial⟩ (h0:=(congrArg (fun z_=>lI z_) e5))
 ·obtain ⟨cb,hx7⟩:∃z,code[(at_).toNat]? =some z:=⟨_,aa (by omega)⟩
  have hcb:=hx7
  have hcl:cb.toNat < 256:=UInt8.toNat_lt _
  apply dZ (i9 14 _ _ _ _ _ _ _ _ _ [io 23 _,io 24 (lI (cb.toNat:Int)),io 3 _]) [0,0,0,0,15,15,15,15,0,0,0,0]
  iterate 10 refine z_ ?_
  refine zz (fun _ h_=>ac (QkW (h_.v rfl) Qgm Jv rfl) rfl) ?_
  refine z_ ?_
  exact zN
  iterate 5 refine w_ ?_
  refine alI 28 fun hi8=> ?_
  iterate 11 refine w_ ?_
  refine lc (QdS (Qa rfl) Evl.val rfl) ?_
  refine w_ ?_
  refine lc (V6 (Qa rfl) Jv QeC (by omega) rfl)<|lc (Ke (Qa rfl) (Qa rfl) rfl)<|lc (Ke (Qa rfl) Evl.val rfl) ?_
  iterate 5 refine w_ ?_
  apply dW (i9 44 _ _ _ _ _ _ _ _ _ [io 53 _]) [0,0,0,0,15,15,15,15,15,0]
  iterate 10 refine z_ ?_
  exact zN
  refine cd_ (fun hb9 hb9'=> ?_) fun hb9 hb9'=> ?_
  ·iterate 6 refine w_ ?_
   refine lc (QcW (Qa rfl) Evl.val rfl (by omega))<|lc (Qdg (Qa rfl) Evl.val rfl)<|lc (Ja (Qa rfl) QeC Jv (by first | omega | exact ⟨(QbU (UK (Vf _))).1,Int.le_trans (QbU (UK (Vf _))).2 (by decide)⟩) rfl) ?_
   iterate 2 refine w_ ?_
   refine Qb ?_
   have e10:((bits .and .u64 ((IntKind.u64.wrap ((IntKind.u64.wrap ((IntKind.u64.wrap (sd*(6364136223846793005:Int)))+(cb.toNat:Int)))+(1442695040888963407:Int))) / 2 ^ (40:Int).toNat) (255:Int)):Int)=(nxV code at_ sd):=by
    (rw[← QmK (by assumption),nxS,← QaY hcb (by assumption)]; rfl)
   exact fi_ [] hO ⟨((congrArg (fun z_:Int=>some (Ent.box 93 [.dat (.sl 5 .u8) code,dI (at_+1), .val (.int .u64 z_)])) (show ((IntKind.u64.wrap ((IntKind.u64.wrap ((IntKind.u64.wrap (sd*(6364136223846793005:Int)))+(cb.toNat:Int)))+(1442695040888963407:Int))):Int)=(nxS code at_ sd) by (unfold nxS; rw[← QaY hcb (by assumption)])))),trivial⟩ (h0:=(congrArg (fun z_=>lI z_) e10))
  ·iterate 4 refine w_ ?_
   refine Qb ?_
   have e11:((cb.toNat:Int):Int)=(nxV code at_ sd):=by
    (rw[QaY hcb (by assumption)]; exact Qjw (by assumption))
   exact fi_ [] hO ⟨((congrArg (fun z_:Int=>some (Ent.box 93 [.dat (.sl 5 .u8) code,dI (at_+1), .val (.int .u64 z_)])) (show ((IntKind.u64.wrap ((IntKind.u64.wrap ((IntKind.u64.wrap (sd*(6364136223846793005:Int)))+(cb.toNat:Int)))+(1442695040888963407:Int))):Int)=(nxS code at_ sd) by (unfold nxS; rw[← QaY hcb (by assumption)])))),trivial⟩ (h0:=(congrArg (fun z_=>lI z_) e11))
theorem QF (code:List UInt8)(at_:Int)(sd:Int)(n:Int)(ha:0≤at_∧at_≤999999000):FC Tryz.prog 81 [(false,[.ptr 0 0]),(false,[dI n])] [bx 0 93 [.dat (.sl 5 .u8) code,dI at_, .val (.int .u64 sd)]] 1 (Is (lI (pkV code at_ sd n)) [bx 0 93 [.dat (.sl 5 .u8) code,dI (pkA n at_), .val (.int .u64 (pkS code at_ sd n))]]):=by
 refine Ql Tryz.func81 rfl rfl Tryz.ntmps81 fun O_ hO w0_ N0_ X_ h0_ f0_=> ?_
 refine acI 1 fun hi1=> ?_
 iterate 8 refine w_ ?_
 refine cd_ (fun hb2 hb2'=> ?_) fun hb2 hb2'=> ?_
 ·iterate 3 refine w_ ?_
  have hp3:=QaX code at_ sd
  refine lc (dP 1 [] (Wj code at_ sd (by omega)) QbO) ?_
  iterate 7 refine w_ ?_
  refine cd_ (fun hb4 hb4'=> ?_) fun hb4 hb4'=> ?_
  ·iterate 4 refine w_ ?_
   refine lc (Qgk (Qa rfl) (Qa rfl) rfl (by omega) (by omega)) ?_
   iterate 2 refine w_ ?_
   refine Qb ?_
   have e5:((nxV code at_ sd) % n:Int)=(pkV code at_ sd n):=by
    exact (Qq1 (code:=code) (sd:=sd) (at_:=at_) (by assumption) (by assumption)).1.symm
   exact fi_ [] hO ⟨(((congrArg (fun z_=>some (Ent.box 93 [.dat (.sl 5 .u8) code,dI z_, .val (.int .u64 (nxS code at_ sd))])) (show ((at_+1):Int)=(pkA n at_) by exact (Qq1 (code:=code) (sd:=sd) (at_:=at_) (by assumption) (by assumption)).2.1.symm))).trans (congrArg (fun z_:Int=>some (Ent.box 93 [.dat (.sl 5 .u8) code,dI (pkA n at_), .val (.int .u64 z_)])) (show ((nxS code at_ sd):Int)=(pkS code at_ sd n) by exact (Qq1 (code:=code) (sd:=sd) (at_:=at_) (by assumption) (by assumption)).2.2.symm))),trivial⟩ (h0:=(congrArg (fun z_=>lI z_) e5))
  ·iterate 2 refine w_ ?_
   refine lc (QmO (Qa rfl) (Qo rfl) rfl (by omega)) ?_
   refine w_ ?_
   have hp6:=QaX code (at_+1) (nxS code at_ sd)
   refine lc (dP 2 [] (Wj code (at_+1) (nxS code at_ sd) (by omega)) QbO) ?_
   iterate 6 refine w_ ?_
   refine lc (Qgk (Qa rfl) (Qa rfl) rfl (by omega) (by omega)) ?_
   iterate 2 refine w_ ?_
   refine Qb ?_
   have e7:((((nxV code at_ sd)*256)+(nxV code (at_+1) (nxS code at_ sd))) % n:Int)=(pkV code at_ sd n):=by
    exact (Qqc (code:=code) (sd:=sd) (at_:=at_) (by assumption) (by assumption)).1.symm
   exact fi_ [] hO ⟨(((congrArg (fun z_=>some (Ent.box 93 [.dat (.sl 5 .u8) code,dI z_, .val (.int .u64 (nxS code (at_+1) (nxS code at_ sd)))])) (show (((at_+1)+1):Int)=(pkA n at_) by exact (Qqc (code:=code) (sd:=sd) (at_:=at_) (by assumption) (by assumption)).2.1.symm))).trans (congrArg (fun z_:Int=>some (Ent.box 93 [.dat (.sl 5 .u8) code,dI (pkA n at_), .val (.int .u64 z_)])) (show ((nxS code (at_+1) (nxS code at_ sd)):Int)=(pkS code at_ sd n) by exact (Qqc (code:=code) (sd:=sd) (at_:=at_) (by assumption) (by assumption)).2.2.symm))),trivial⟩ (h0:=(congrArg (fun z_=>lI z_) e7))
 ·iterate 3 refine w_ ?_
  refine Qb ?_
  have e8:(0:Int)=(pkV code at_ sd n):=by
   exact (QqZ (code:=code) (sd:=sd) (at_:=at_) (by assumption)).1.symm
  exact fi_ [] hO ⟨(((congrArg (fun z_=>some (Ent.box 93 [.dat (.sl 5 .u8) code,dI z_, .val (.int .u64 sd)])) (show (at_:Int)=(pkA n at_) by exact (QqZ (code:=code) (sd:=sd) (at_:=at_) (by assumption)).2.1.symm))).trans (congrArg (fun z_:Int=>some (Ent.box 93 [.dat (.sl 5 .u8) code,dI (pkA n at_), .val (.int .u64 z_)])) (show (sd:Int)=(pkS code at_ sd n) by exact (QqZ (code:=code) (sd:=sd) (at_:=at_) (by assumption)).2.2.symm))),trivial⟩ (h0:=(congrArg (fun z_=>lI z_) e8))
theorem JG (code:List UInt8)(at_:Int)(sd:Int)(n:Int)(ha:0≤at_∧at_≤999999000):FC Tryz.prog 79 [(false,[.ptr 0 0]),(false,[dI n])] [bx 0 93 [.dat (.sl 5 .u8) code,dI at_, .val (.int .u64 sd)]] 1 (Is (lB (decide (pkV code at_ sd n=0))) [bx 0 93 [.dat (.sl 5 .u8) code,dI (pkA n at_), .val (.int .u64 (pkS code at_ sd n))]]):=by
 refine Ql Tryz.func79 rfl rfl Tryz.ntmps79 fun O_ hO w0_ N0_ X_ h0_ f0_=> ?_
 refine acI 1 fun hi1=> ?_
 iterate 6 refine w_ ?_
 have hp2:=YN code at_ sd n
 refine lc (dP 1 [] (QF code at_ sd n (by omega)) Z4) ?_
 iterate 3 refine w_ ?_
 refine Qb ?_
 have e3:(decide ((pkV code at_ sd n)=0):Bool)=(decide (pkV code at_ sd n=0)):=by
  rfl
 exact fi_ [] hO ⟨rfl,trivial⟩ (h0:=(congrArg (fun z_=>lB z_) e3))
theorem UR (code:List UInt8)(at_:Int)(sd:Int)(t:ByteArray)(wt:ByteArray)(ha:0≤at_∧at_≤900000000)(hs:t.size≤100000∧1≤wt.size):FC Tryz.prog 152 [(false,[.ptr 0 0]),(false,[dS t]),(false,[dS wt])] [bx 0 93 [.dat (.sl 5 .u8) code,dI at_, .val (.int .u64 sd)]] 1 (Is (lf (dS ((spV code wt t at_ sd).1))) [bx 0 93 [.dat (.sl 5 .u8) code,dI ((spV code wt t at_ sd).2.1), .val (.int .u64 ((spV code wt t at_ sd).2.2))]]):=by
 refine Ql Tryz.func152 rfl rfl Tryz.ntmps152 fun O_ hO w0_ N0_ X_ h0_ f0_=> ?_
 iterate 6 refine w_ ?_
 have hp1:=YN code at_ sd 2
 refine lc (dP 1 [] (QF code at_ sd 2 (by omega)) Z4) ?_
 iterate 4 refine w_ ?_
 refine Qy (fun m_ s_=>∃(n_:Int) (t_:ByteArray) (a_:Int) (sd_:Int),m_=n_.toNat∧((spV code wt t at_ sd)=spG code wt n_.toNat (t_,a_,sd_))∧(0≤n_∧n_≤2)∧((t_.size:Int)+n_≤(t.size:Int)+2)∧(at_≤a_∧a_+6*n_≤at_+14)∧s_=⟨[(0,lP 0 0),(1,lf (dS t_)),(2,lf (dS wt)),(6,lf (dS (⟨#[]⟩:ByteArray))),(7,lI n_)],[bx 0 93 [.dat (.sl 5 .u8) code,dI a_, .val (.int .u64 sd_)]]⟩) ⟨1+(pkV code at_ sd 2),t,(pkA 2 at_),(pkS code at_ sd 2),rfl,rfl,by omega,by omega,by omega,rfl⟩ ?_ ?_
 · exact Wk.of [] rfl ⟨rfl,rfl,rfl,rfl,rfl,trivial⟩ ⟨rfl,trivial⟩ rfl rfl
 rintro m_ s_ ⟨n_,t_,a_,sd_,hm3,hA,hn,ht,hb,rfl⟩
 iterate 5 refine w_ ?_
 cases hb4:(decide (0 < n_))
 ·have hb4':=ab hb4
  iterate 6 refine w_ ?_
  refine Qj ?_
  refine (?_:AC _ _ _ _ _)
  iterate 4 refine w_ ?_
  refine Qb ?_
  have e5:(t_:ByteArray)=((spV code wt t at_ sd).1):=by
   (rw[hA,Hw (by omega)])
  exact fi_ [] hO ⟨(((congrArg (fun z_=>some (Ent.box 93 [.dat (.sl 5 .u8) code,dI z_, .val (.int .u64 sd_)])) (show (a_:Int)=((spV code wt t at_ sd).2.1) by (rw[hA,Hw (by omega)])))).trans (congrArg (fun z_:Int=>some (Ent.box 93 [.dat (.sl 5 .u8) code,dI ((spV code wt t at_ sd).2.1), .val (.int .u64 z_)])) (show (sd_:Int)=((spV code wt t at_ sd).2.2) by (rw[hA,Hw (by omega)])))),trivial⟩ (h0:=(congrArg (fun z_=>lf (dS z_)) e5))
 ·have hb4':=ae hb4
  refine w_ ?_
  refine alS 16 fun hl6=> ?_
  refine lgy rfl rfl (QZ (Qa rfl) rfl Zc) ?_
  iterate 3 refine w_ ?_
  cases hb7:(decide (0 < (t_.size:Int)))
  ·have hb7':=ab hb7
   refine w_ ?_
   refine Qj ?_
   refine (?_:AC _ _ _ _ _)
   iterate 4 refine w_ ?_
   refine Qb ?_
   have e8:(t_:ByteArray)=((spV code wt t at_ sd).1):=by
    (rw[hA,Hw (by omega)])
   exact fi_ [] hO ⟨(((congrArg (fun z_=>some (Ent.box 93 [.dat (.sl 5 .u8) code,dI z_, .val (.int .u64 sd_)])) (show (a_:Int)=((spV code wt t at_ sd).2.1) by (rw[hA,Hw (by omega)])))).trans (congrArg (fun z_:Int=>some (Ent.box 93 [.dat (.sl 5 .u8) code,dI ((spV code wt t at_ sd).2.1), .val (.int .u64 z_)])) (show (sd_:Int)=((spV code wt t at_ sd).2.2) by (rw[hA,Hw (by omega)])))),trivial⟩ (h0:=(congrArg (fun z_=>lf (dS z_)) e8))
  ·have hb7':=ae hb7
   iterate 7 refine w_ ?_
   refine alS 23 fun hl9=> ?_
   refine lc (QZ (Qa rfl) rfl Zc) ?_
   have hp10:=YN code a_ sd_ (t_.size:Int)
   refine lc (dP 2 [] (QF code a_ sd_ (t_.size:Int) (by omega)) Z4) ?_
   iterate 6 refine w_ ?_
   refine alS 28 fun hl11=> ?_
   refine lc (QZ (Qa rfl) rfl Zc) ?_
   have hp12:=YN code (pkA (t_.size:Int) a_) (pkS code a_ sd_ (t_.size:Int)) (wt.size:Int)
   refine lc (dP 3 [] (QF code (pkA (t_.size:Int) a_) (pkS code a_ sd_ (t_.size:Int)) (wt.size:Int) (by omega)) Z4) ?_
   obtain ⟨c13,hc14⟩:∃z,wt[(pkV code (pkA (t_.size:Int) a_) (pkS code a_ sd_ (t_.size:Int)) (wt.size:Int)).toNat]? =some z:=⟨_,aY _ _ (by omega)⟩
   have hwc:=hc14
   refine w_ ?_
   refine lc (dBs 4 (e:= .u8) Qss) ?_
   refine lc (VU (ys:=[c13]) (Qch (Qa rfl) rfl) UF Qgm Zc rfl) ?_
   iterate 4 refine w_ ?_
   have hp15:=YN code (pkA (wt.size:Int) (pkA (t_.size:Int) a_)) (pkS code (pkA (t_.size:Int) a_) (pkS code a_ sd_ (t_.size:Int)) (wt.size:Int)) 3
   refine lc (dP 5 [] (QF code (pkA (wt.size:Int) (pkA (t_.size:Int) a_)) (pkS code (pkA (t_.size:Int) a_) (pkS code a_ sd_ (t_.size:Int)) (wt.size:Int)) 3 (by omega)) Z4) ?_
   iterate 6 refine w_ ?_
   cases hb16:(decide ((pkV code (pkA (wt.size:Int) (pkA (t_.size:Int) a_)) (pkS code (pkA (t_.size:Int) a_) (pkS code a_ sd_ (t_.size:Int)) (wt.size:Int)) 3)=0))
   ·have hb16':=ab hb16
    iterate 5 refine w_ ?_
    cases hb17:(decide ((pkV code (pkA (wt.size:Int) (pkA (t_.size:Int) a_)) (pkS code (pkA (t_.size:Int) a_) (pkS code a_ sd_ (t_.size:Int)) (wt.size:Int)) 3)=1))
    ·have hb17':=ab hb17
     refine w_ ?_
     apply dV (i2 36 _ _ (io 38 (lf (dS (t_.extract 0 (pkV code a_ sd_ (t_.size:Int)).toNat))) :: i3 39 _ _ _ [io 42 (lf (dS (t_.extract ((pkV code a_ sd_ (t_.size:Int))+1).toNat t_.size))),io 43 (lf (dS ((t_.extract 0 (pkV code a_ sd_ (t_.size:Int)).toNat)++(t_.extract ((pkV code a_ sd_ (t_.size:Int))+1).toNat t_.size)))),io 1 _])) [0,1,0,7,15,15,7,0,0]
     iterate 2 refine z_ ?_
     refine zz (fun _ h_=>ac (show Does _ _ _ _ (St.put _ 38 (lf (dS (t_.extract 0 (pkV code a_ sd_ (t_.size:Int)).toNat)))) from QW (l:=none) (h:=(some (pkV code a_ sd_ (t_.size:Int)))) (h_.v rfl) (by exact trivial) (by exact (h_.v rfl)) Zc rfl (by first | omega | (simp only[ak,aj]; omega)) (by first | omega | (simp only[ak,aj]; omega)) (by first | omega | (simp only[ak,aj]; omega))) rfl) ?_
     iterate 3 refine z_ ?_
     refine zz (fun _ h_=>ac (show Does _ _ _ _ (St.put _ 42 (lf (dS (t_.extract ((pkV code a_ sd_ (t_.size:Int))+1).toNat t_.size)))) from QW (l:=(some ((pkV code a_ sd_ (t_.size:Int))+1))) (h:=none) (h_.v rfl) (by exact (h_.v rfl)) (by exact trivial) Zc rfl (by first | omega | (simp only[ak,aj]; omega)) (by first | omega | (simp only[ak,aj]; omega)) (by first | omega | (simp only[ak,aj]; omega))) rfl)<|zz (fun _ h_=>ac (Q3 (h_.v rfl) (h_.v rfl) rfl (by first | omega | (simp only[aN,aS,Ya]; omega))) rfl) ?_
     refine z_ ?_
     exact zN
     refine (?_:AC _ _ _ _ _)
     iterate 4 refine w_ ?_
     refine Qd<|Q0 ⟨(n_ - 1),((t_.extract 0 (pkV code a_ sd_ (t_.size:Int)).toNat)++(t_.extract ((pkV code a_ sd_ (t_.size:Int))+1).toNat t_.size)),(pkA 3 (pkA (wt.size:Int) (pkA (t_.size:Int) a_))),(pkS code (pkA (wt.size:Int) (pkA (t_.size:Int) a_)) (pkS code (pkA (t_.size:Int) a_) (pkS code a_ sd_ (t_.size:Int)) (wt.size:Int)) 3),rfl,(by exact hA.trans ((QlQ (by omega) (by omega)).trans (congrArg _ (Qsa (by assumption) (by assumption))))),by omega,(by simp only[aN,aS,Ya]; omega),by omega,rfl⟩ (by omega) ?_
     exact Wk.of [] rfl ⟨rfl,rfl,rfl,rfl,rfl,trivial⟩ ⟨rfl,trivial⟩ rfl rfl
    ·have hb17':=ae hb17
     refine w_ ?_
     apply dV (i2 57 _ _ (io 59 (lf (dS (t_.extract 0 (pkV code a_ sd_ (t_.size:Int)).toNat))) :: io 60 _ :: io 61 (lf (dS ((t_.extract 0 (pkV code a_ sd_ (t_.size:Int)).toNat)++(⟨#[c13]⟩:ByteArray)))) :: i3 62 _ _ _ [io 65 (lf (dS (t_.extract ((pkV code a_ sd_ (t_.size:Int))+1).toNat t_.size))),io 66 (lf (dS (((t_.extract 0 (pkV code a_ sd_ (t_.size:Int)).toNat)++(⟨#[c13]⟩:ByteArray))++(t_.extract ((pkV code a_ sd_ (t_.size:Int))+1).toNat t_.size)))),io 1 _])) [0,1,0,7,0,31,63,63,31,0,0]
     iterate 2 refine z_ ?_
     refine zz (fun _ h_=>ac (show Does _ _ _ _ (St.put _ 59 (lf (dS (t_.extract 0 (pkV code a_ sd_ (t_.size:Int)).toNat)))) from QW (l:=none) (h:=(some (pkV code a_ sd_ (t_.size:Int)))) (h_.v rfl) (by exact trivial) (by exact (h_.v rfl)) Zc rfl (by first | omega | (simp only[ak,aj]; omega)) (by first | omega | (simp only[ak,aj]; omega)) (by first | omega | (simp only[ak,aj]; omega))) rfl) ?_
     refine z_ ?_
     refine zz (fun _ h_=>ac (Q3 (h_.v rfl) (h_.v rfl) rfl (by first | omega | (simp only[aN,aS,Ya]; omega))) rfl) ?_
     iterate 3 refine z_ ?_
     refine zz (fun _ h_=>ac (show Does _ _ _ _ (St.put _ 65 (lf (dS (t_.extract ((pkV code a_ sd_ (t_.size:Int))+1).toNat t_.size)))) from QW (l:=(some ((pkV code a_ sd_ (t_.size:Int))+1))) (h:=none) (h_.v rfl) (by exact (h_.v rfl)) (by exact trivial) Zc rfl (by first | omega | (simp only[ak,aj]; omega)) (by first | omega | (simp only[ak,aj]; omega)) (by first | omega | (simp only[ak,aj]; omega))) rfl)<|zz (fun _ h_=>ac (Q3 (h_.v rfl) (h_.v rfl) rfl (by first | omega | (simp only[aN,aS,Ya]; omega))) rfl) ?_
     refine z_ ?_
     exact zN
     refine (?_:AC _ _ _ _ _)
     iterate 4 refine w_ ?_
     refine Qd<|Q0 ⟨(n_ - 1),(((t_.extract 0 (pkV code a_ sd_ (t_.size:Int)).toNat)++(⟨#[c13]⟩:ByteArray))++(t_.extract ((pkV code a_ sd_ (t_.size:Int))+1).toNat t_.size)),(pkA 3 (pkA (wt.size:Int) (pkA (t_.size:Int) a_))),(pkS code (pkA (wt.size:Int) (pkA (t_.size:Int) a_)) (pkS code (pkA (t_.size:Int) a_) (pkS code a_ sd_ (t_.size:Int)) (wt.size:Int)) 3),rfl,(by exact hA.trans ((QlQ (by omega) (by omega)).trans (congrArg _ (Qrv hwc (by assumption) (by assumption))))),by omega,(by simp only[aN,aS,Ya]; omega),by omega,rfl⟩ (by omega) ?_
     exact Wk.of [] rfl ⟨rfl,rfl,rfl,rfl,rfl,trivial⟩ ⟨rfl,trivial⟩ rfl rfl
   ·have hb16':=ae hb16
    refine w_ ?_
    apply dV (i2 46 _ _ (io 48 (lf (dS (t_.extract 0 (pkV code a_ sd_ (t_.size:Int)).toNat))) :: io 49 _ :: io 50 (lf (dS ((t_.extract 0 (pkV code a_ sd_ (t_.size:Int)).toNat)++(⟨#[c13]⟩:ByteArray)))) :: i2 51 _ _ [io 53 (lf (dS (t_.extract (pkV code a_ sd_ (t_.size:Int)).toNat t_.size))),io 54 (lf (dS (((t_.extract 0 (pkV code a_ sd_ (t_.size:Int)).toNat)++(⟨#[c13]⟩:ByteArray))++(t_.extract (pkV code a_ sd_ (t_.size:Int)).toNat t_.size)))),io 1 _])) [0,1,0,7,0,31,63,31,0,0]
    iterate 2 refine z_ ?_
    refine zz (fun _ h_=>ac (show Does _ _ _ _ (St.put _ 48 (lf (dS (t_.extract 0 (pkV code a_ sd_ (t_.size:Int)).toNat)))) from QW (l:=none) (h:=(some (pkV code a_ sd_ (t_.size:Int)))) (h_.v rfl) (by exact trivial) (by exact (h_.v rfl)) Zc rfl (by first | omega | (simp only[ak,aj]; omega)) (by first | omega | (simp only[ak,aj]; omega)) (by first | omega | (simp only[ak,aj]; omega))) rfl) ?_
    refine z_ ?_
    refine zz (fun _ h_=>ac (Q3 (h_.v rfl) (h_.v rfl) rfl (by first | omega | (simp only[aN,aS,Ya]; omega))) rfl) ?_
    iterate 2 refine z_ ?_
    refine zz (fun _ h_=>ac (show Does _ _ _ _ (St.put _ 53 (lf (dS (t_.extract (pkV code a_ sd_ (t_.size:Int)).toNat t_.size)))) from QW (l:=(some (pkV code a_ sd_ (t_.size:Int)))) (h:=none) (h_.v rfl) (by exact (h_.v rfl)) (by exact trivial) Zc rfl (by first | omega | (simp only[ak,aj]; omega)) (by first | omega | (simp only[ak,aj]; omega)) (by first | omega | (simp only[ak,aj]; omega))) rfl)<|zz (fun _ h_=>ac (Q3 (h_.v rfl) (h_.v rfl) rfl (by first | omega | (simp only[aN,aS,Ya]; omega))) rfl) ?_
    refine z_ ?_
    exact zN
    refine (?_:AC _ _ _ _ _)
    iterate 4 refine w_ ?_
    refine Qd<|Q0 ⟨(n_ - 1),(((t_.extract 0 (pkV code a_ sd_ (t_.size:Int)).toNat)++(⟨#[c13]⟩:ByteArray))++(t_.extract (pkV code a_ sd_ (t_.size:Int)).toNat t_.size)),(pkA 3 (pkA (wt.size:Int) (pkA (t_.size:Int) a_))),(pkS code (pkA (wt.size:Int) (pkA (t_.size:Int) a_)) (pkS code (pkA (t_.size:Int) a_) (pkS code a_ sd_ (t_.size:Int)) (wt.size:Int)) 3),rfl,(by exact hA.trans ((QlQ (by omega) (by omega)).trans (congrArg _ (Qrw hwc (by assumption))))),by omega,(by simp only[aN,aS,Ya]; omega),by omega,rfl⟩ (by omega) ?_
    exact Wk.of [] rfl ⟨rfl,rfl,rfl,rfl,rfl,trivial⟩ ⟨rfl,trivial⟩ rfl rfl
end Go.Proofs.YtfkmmpfdncopdaaGreat
