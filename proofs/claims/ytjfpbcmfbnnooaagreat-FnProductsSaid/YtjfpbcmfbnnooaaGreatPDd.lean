import Derived.Test.YtjfpbcmfbnnooaaGreatPBf
import Derived.Test.YtjfpbcmfbnnooaaGreatPDf
set_option linter.all false
namespace Go.Proofs.YtjfpbcmfbnnooaaGreat
open Go.RowKit Tryz
def KX (n:Int):0≤IntKind.u64.wrap n∧IntKind.u64.wrap n<18446744073709551616:=by
 simp only[IntKind.wrap,IntKind.bits,IntKind.signed]
 simp
 omega
def H3 {a:Int}(h:0≤a∧a<18446744073709551616):0≤a / 2 ^ 40∧a / 2 ^ 40<18446744073709551616:=by omega
def Qfm {a:Int}(h:0≤a∧a<18446744073709551616):0≤bits BinOp.and IntKind.u64 a 255∧bits BinOp.and IntKind.u64 a 255≤255:=by
 have c:=bits_and_u64_nat a.toNat 255 (by omega) (by decide)
 rw[show ((a.toNat:Nat):Int)=a by omega,show ((255:Nat):Int)=255 from rfl] at c
 have e:a.toNat &&& 255≤255:=Nat.and_le_right
 rw[c]
 omega
section
variable {A:Amb}{P:Program}{s:St}{x y:Operand}{d:Nat}{T T' ty:TypeId}{pos:String}{af:Array Edge}{g:Option (Nat×Bool)}{a b:Int}
def Qhy (j:Evl A s x (.val (.int .u64 a)))(k:Evl A s y (.val (.int .u64 b)))(i:Nat.blt d A.n=true):Does A P ⟨some d,.binOp .mul T x y T',ty,pos,af,g⟩ s (s.put d (lf (.val (.int .u64 (IntKind.u64.wrap (a*b)))))):=
 Qk rfl i fun e c w r=>by
  have f:c.eval x= .int .u64 a:=j e c w r
  have h:c.eval y= .int .u64 b:=k e c w r
  refine ⟨_,?_,_,rfl,rfl⟩
  simp only[execOp,f,h,eqGuard_at_int,binOp,Op.intArith]
  simp
def H8 (j:Evl A s x (.val (.int .u64 a)))(k:Evl A s y (.val (.int .u64 b)))(i:Nat.blt d A.n=true):Does A P ⟨some d,.binOp .add T x y T',ty,pos,af,g⟩ s (s.put d (lf (.val (.int .u64 (IntKind.u64.wrap (a+b)))))):=
 Qk rfl i fun e c w r=>by
  have f:c.eval x= .int .u64 a:=j e c w r
  have h:c.eval y= .int .u64 b:=k e c w r
  refine ⟨_,?_,_,rfl,rfl⟩
  simp only[execOp,f,h,eqGuard_at_int,binOp,Op.intArith]
  simp
def Qhu (k:Evl A s x (.val (.int .u64 a)))(l:Evl A s y (.val (.int .u64 b)))(j:Nat.blt d A.n=true):Does A P ⟨some d,.binOp .and T x y T',ty,pos,af,g⟩ s (s.put d (lf (.val (.int .u64 (bits .and .u64 a b))))):=
 Qk rfl j fun e c w r=>by
  have f:c.eval x= .int .u64 a:=k e c w r
  have h:c.eval y= .int .u64 b:=l e c w r
  have i:Op.intBits .and .u64 a b=pure (.int .u64 (bits .and .u64 a b)):=rfl
  refine ⟨_,?_,_,rfl,rfl⟩
  simp only[execOp,f,h,eqGuard_at_int,binOp,i]
  simp
def Qhz {k:IntKind}(l:Evl A s x (.val (.int .u64 a)))(m:Evl A s y (.val (.int k b)))(j:Nat.blt d A.n=true)(h0:0≤b∧b≤62):Does A P ⟨some d,.binOp .shr T x y T',ty,pos,af,g⟩ s (s.put d (lf (.val (.int .u64 (a / 2 ^ b.toNat))))):=
 Qk rfl j fun e c w r=>by
  have f:c.eval x= .int .u64 a:=l e c w r
  have h:c.eval y= .int k b:=m e c w r
  have i:Op.shift .shr .u64 a k b=pure (.int .u64 (a / 2 ^ b.toNat)):=by
   rw[shift_shr_any _ _ _ _ h0.1,show IntKind.u64.bits=64 from rfl,dt (by omega)]
  refine ⟨_,?_,_,rfl,rfl⟩
  simp only[execOp,f,h,eqGuard_at_int,binOp,i]
  simp
def Qqz {n:UInt8}(m:Evl A s x (.dat .u8 n))(l:P.underlying T=some (.int .u8))(j:P.underlying T'=some (.int .i64))(k:Nat.blt d A.n=true):
 Does A P ⟨some d,.convert T T' x,ty,pos,af,g⟩ s (s.put d (lf (dI n.toNat))):=
 Qk rfl k fun c a w r=>by
  have f:a.eval x= .int .u8 n.toNat:=by
   have h:Rd c.N .u8 w [a.eval x] n:=m c a w r
   have i:[a.eval x]=[.int .u8 n.toNat]:=h.rep
   simpa using i
  have o:n.toNat<256:=n.toNat_lt
  have e:IntKind.i64.wrap (n.toNat:Int)=(n.toNat:Int):=IntWalk.i64_in _ (by omega)
  refine ⟨.int .i64 n.toNat,?_,_,rfl,YR (by omega)⟩
  simp only[execOp,f,convert,run_underlying l,run_underlying j,aw,aF,Conv.intToInt,e]
  simp
end
def Trd.u8 {P:Program}{T:TypeId}(h:P.underlying T=some (.int .u8))(p:P.cellsOf T=1):Trd P T .u8:=⟨p,fun o w i f k j r x q=>by
 obtain ⟨n,rfl,_,l⟩:=DataW.trod_int h q
 simp[Lit.wf] at l
 have c:IntKind.u8.min=0:=rfl
 have e:IntKind.u8.max=255:=rfl
 rw[c,e] at l
 refine ⟨UInt8.ofNat n.toNat,?_⟩
 have m:(UInt8.ofNat n.toNat).toNat=n.toNat:=by
  rw[UInt8.toNat_ofNat']
  exact cH (by omega)
 show [Value.int .u8 n]=[Value.int .u8 ((UInt8.ofNat n.toNat).toNat:Nat)]
 rw[m,ce (by omega)]⟩
def QCK (P:Program)(T:TypeId)(offs:List (Nat×Nat))(zs:List Value):Prop:=
 ∃fs,P.underlying T=some (.struct fs)∧(∀w,(fs.mapM fun (f:Field)=>do pure (f.offset,← sizeOf f.type)).run P w= .ok offs.toArray w)∧zer P T=some (.agg zs.toArray)
def QwK {P:Program}{T:TypeId}{c:List Field}{offs:List (Nat×Nat)}{zs:List Value}(f:P.underlying T=some (.struct c.toArray))(e:plB P c offs=true)(h:zer P T=some (.agg zs.toArray)):QCK P T offs zs:=
 ⟨_,f,fun w=>by
  rw[List.mapM_toArray]
  have:=QbI (P:=P) (w:=w) e
  simp only[map_eq_pure_bind,aw,this,aF,be],h⟩
section
variable {A:Amb}{P:Program}{s:St}{d:Nat}{T ty:TypeId}{pos:String}{af:Array Edge}{g:Option (Nat×Bool)}
theorem Qkb {zs:List Value}(Q:List LV){offs:List (Nat×Nat)}{f:Array (Nat×Operand)}{j:List (Bool×List LV)}{ls:List LV}(hb:QCK P T offs zs)(G:∀al gh w,LVs al gh w Q zs)(hv:EvL A s (f.toList.map (·.2)) j)(o:∀c∈j,QH s.tab c.2=true)
 (hf:QhW offs Q ((f.toList.map (·.1)).zip (j.map (·.2)))=some ls) (hn:Nat.blt d A.n=true):Does A P ⟨some d,.build T f,ty,pos,af,g⟩ s (s.put d (ag ls)):=
 Qk rfl hn fun gh a w r=>by
  obtain ⟨fs,R,S,F⟩:=hb
  have C:=hv.cms r
  have N:=C.len
  generalize M:(f.toList.map (·.2)).map a.eval=t at*
  have a0:f.toList.length=t.length:=by rw[← M];simp
  have m:∀(B:List (Bool×List LV)) (t:List Value),CmsR s.tab.al gh w B t→(∀c∈B,QH s.tab c.2=true)→∀(i:Nat) (c:Bool×List LV) (v:Value),B[i]? =some c→t[i]? =some v→∃O,v.cells=O.toArray∧LVs s.tab.al gh w c.2 O:=by
   intro B
   induction B with
   | nil=>intro t _ _ i c v h;simp at h
   | cons c B I=>
    rintro t ⟨v,K,rfl,D,J⟩ o i E v' z k
    cases i with
    | zero=>
     simp at z k
     subst z;subst k
     have z:=o c (aA ..)
     obtain ⟨b,ls⟩:=c
     exact CmR.cells D fun hb=>by
      subst hb
      obtain ⟨l,rfl,q1⟩:=D
      simp only[QH,cY] at z
      obtain ⟨F,U⟩:=Vf z
      exact q1.oneCell U F fun q ⟨e,X⟩=>(r.cx.en q e X).oneCell
    | succ i=>exact I K J (fun c z=>o c (az _ z)) i E v' (by simpa using z) (by simpa using k)
  have H:((f.toList.map (·.1)).zip (j.map (·.2))).length=t.length:=by rw[dx,aC,aC];omega
  obtain ⟨u,D,J⟩:=Qcm (al:=s.tab.al) (gh:=gh) (w:=w) (cur:=zs.toArray) hf H.symm (fun i p v Z k=>by
   have Y:=cP.1 Z
   have L:=Y.2
   rw[bl] at L
   obtain ⟨E,V,W⟩:=cq.1 L
   rw[← W]
   exact m j t C o i E v V k) (by simpa using G s.tab.al gh w)
  refine ⟨.agg u,?_,u.toList,by simp,J⟩
  have hz:(((f.toList.map (·.1)).zip (j.map (·.2))).map (·.1)).zip t=(f.map fun p=>(p.1,a.eval p.2)).toList:=by
   rw[List.map_fst_zip (by rw[aC,aC];omega),da,← M,dL]
   generalize f.toList=pl
   induction pl with
   | nil=>rfl
   | cons p ps I=>simp[I]
  rw[hz] at D
  simp only[execOp,Instr.build,aw,Wc F,aF,run_underlying R,S,Value.cells]
  rw[D]
  simp
end
set_option maxRecDepth 100000
set_option maxHeartbeats 4000000
def nxB (code:List UInt8)(at_:Int):Int:=if at_<(code.length:Int) then ((((code[at_.toNat]?).getD 0).toNat:Nat):Int) else 0
def nxS (code:List UInt8)(at_ sd:Int):Int:=IntKind.u64.wrap (IntKind.u64.wrap (IntKind.u64.wrap (sd*6364136223846793005)+nxB code at_)+1442695040888963407)
def nxV (code:List UInt8)(at_ sd:Int):Int:=if at_+1≤(code.length:Int) then nxB code at_ else bits .and .u64 (nxS code at_ sd / 2 ^ 40) 255
def pkV (code:List UInt8)(at_ sd n:Int):Int:=if n≤1 then 0 else if 200<n then (nxV code at_ sd*256+nxV code (at_+1) (nxS code at_ sd)) % n else nxV code at_ sd % n
def pkA (n at_:Int):Int:=if n≤1 then at_ else if 200<n then at_+1+1 else at_+1
def pkS (code:List UInt8)(at_ sd n:Int):Int:=if n≤1 then sd else if 200<n then nxS code (at_+1) (nxS code at_ sd) else nxS code at_ sd
section
variable {code:List UInt8}{at_ sd n:Int}{c:UInt8}
def Qx6 (code:List UInt8)(at_:Int):0≤nxB code at_∧nxB code at_≤255:=by
 unfold nxB
 split
 ·have:((code[at_.toNat]?).getD 0).toNat<256:=UInt8.toNat_lt _
  omega
 ·omega
def Qx7 (code:List UInt8)(at_ sd:Int):0≤nxS code at_ sd∧nxS code at_ sd<18446744073709551616:=KX _
def QeU (code:List UInt8)(at_ sd:Int):0≤nxV code at_ sd∧nxV code at_ sd≤255:=by
 unfold nxV
 split
 ·exact Qx6 ..
 ·exact Qfm (H3 (Qx7 ..))
def QeT (h:code[at_.toNat]? =some c)(a:at_<(code.length:Int)):(((c.toNat:Nat):Int))=nxB code at_:=by unfold nxB;rw[if_pos a,h];rfl
def Qjr (h:¬at_<(code.length:Int)):(0:Int)=nxB code at_:=(if_neg h).symm
def QpC (h:at_+1≤(code.length:Int)):nxB code at_=nxV code at_ sd:=(if_pos h).symm
def Qu7 (h:¬at_+1≤(code.length:Int)):bits .and .u64 (nxS code at_ sd / 2 ^ 40) 255=nxV code at_ sd:=(if_neg h).symm
def ZQ (code:List UInt8)(at_ sd n:Int):(0≤pkV code at_ sd n∧(1≤n→pkV code at_ sd n<n))∧(at_≤pkA n at_∧pkA n at_≤at_+2):=by
 refine ⟨?_,?_⟩
 ·unfold pkV
  have a:=QeU code at_ sd
  have b:=QeU code (at_+1) (nxS code at_ sd)
  split
  ·omega
  ·split
   ·exact ⟨Int.emod_nonneg _ (by omega),fun _=>Int.emod_lt_of_pos _ (by omega)⟩
   ·exact ⟨Int.emod_nonneg _ (by omega),fun _=>Int.emod_lt_of_pos _ (by omega)⟩
 ·unfold pkA
  split
  ·omega
  ·split <;> omega
def QBl (h:n≤1):pkV code at_ sd n=0∧pkA n at_=at_∧pkS code at_ sd n=sd:=⟨if_pos h,if_pos h,if_pos h⟩
def QBn (h:¬n≤1)(a:200<n):pkV code at_ sd n=(nxV code at_ sd*256+nxV code (at_+1) (nxS code at_ sd)) % n∧pkA n at_=at_+1+1∧pkS code at_ sd n=nxS code (at_+1) (nxS code at_ sd):=by
 refine ⟨?_,?_,?_⟩
 ·unfold pkV;rw[if_neg h,if_pos a]
 ·unfold pkA;rw[if_neg h,if_pos a]
 ·unfold pkS;rw[if_neg h,if_pos a]
def QBm (h:¬n≤1)(a:¬200<n):pkV code at_ sd n=nxV code at_ sd % n∧pkA n at_=at_+1∧pkS code at_ sd n=nxS code at_ sd:=by
 refine ⟨?_,?_,?_⟩
 ·unfold pkV;rw[if_neg h,if_neg a]
 ·unfold pkA;rw[if_neg h,if_neg a]
 ·unfold pkS;rw[if_neg h,if_neg a]
end
def cuN (code:List UInt8)(c:Int×Int)(n:Int):Int×Int:=(pkA n c.1,pkS code c.1 c.2 n)
def cuV (code:List UInt8)(c:Int×Int)(n:Int):Int:=pkV code c.1 c.2 n
def spT (t w:BA)(i q:Int):BA:=if q=0 then t.extract 0 i.toNat++w++t.extract i.toNat t.size else if q=1 then t.extract 0 i.toNat++w++t.extract (i+1).toNat t.size else t.extract 0 i.toNat++t.extract (i+1).toNat t.size
def spW (code:List UInt8)(wt:BA)(c:Int×Int):BA:=⟨#[(wt[(cuV code c (wt.size:Int)).toNat]?).getD 0]⟩
def spN (code:List UInt8)(wt:BA)(s:BA×Int×Int):BA×Int×Int:=
 let c1:=cuN code s.2 (s.1.size:Int);let c2:=cuN code c1 (wt.size:Int)
 (spT s.1 (spW code wt c1) (cuV code s.2 (s.1.size:Int)) (cuV code c2 3),cuN code c2 3)
def spG (code:List UInt8)(wt:BA):Nat→BA×Int×Int→BA×Int×Int
 | 0,s=>s
 | n+1,s=>if 0<s.1.size then spG code wt n (spN code wt s) else s
def spV (code:List UInt8)(wt t:BA)(at_ sd:Int):BA×Int×Int:=spG code wt (1+pkV code at_ sd 2).toNat (t,pkA 2 at_,pkS code at_ sd 2)
section
variable {code:List UInt8}{wt t:BA}{at_ sd n q i:Int}{s:BA×Int×Int}{w:BA}
def QvO (h:0≤i∧i<(t.size:Int))(a:w.size=1):(spT t w i q).size≤t.size+1:=by
 unfold spT
 split
 ·simp only[aE,aR,a];omega
 ·split
  ·simp only[aE,aR,a];omega
  ·simp only[aE,aR];omega
def QyE (h:0<s.1.size):(spN code wt s).1.size≤s.1.size+1∧s.2.1≤(spN code wt s).2.1∧(spN code wt s).2.1≤s.2.1+6:=by
 have a:=ZQ code s.2.1 s.2.2 (s.1.size:Int)
 have b:=ZQ code (pkA (s.1.size:Int) s.2.1) (pkS code s.2.1 s.2.2 (s.1.size:Int)) (wt.size:Int)
 have d:=ZQ code (pkA (wt.size:Int) (pkA (s.1.size:Int) s.2.1)) (pkS code (pkA (s.1.size:Int) s.2.1) (pkS code s.2.1 s.2.2 (s.1.size:Int)) (wt.size:Int)) 3
 refine ⟨QvO ⟨a.1.1,a.1.2 (by omega)⟩ rfl,?_,?_⟩
 ·show s.2.1≤pkA 3 (pkA (wt.size:Int) (pkA (s.1.size:Int) s.2.1));omega
 ·show pkA 3 (pkA (wt.size:Int) (pkA (s.1.size:Int) s.2.1))≤s.2.1+6;omega
def Qp8:∀(k:Nat) (s:BA×Int×Int),(spG code wt k s).1.size≤s.1.size+k∧s.2.1≤(spG code wt k s).2.1∧(spG code wt k s).2.1≤s.2.1+6*k
 | 0,s=>⟨aP _,cR _,by simp[spG]⟩
 | k+1,s=>by
  rw[spG]
  split
  ·rename_i h
   have a:=QyE (code:=code) (wt:=wt) h
   have b:=Qp8 k (spN code wt s)
   refine ⟨by omega,by omega,by omega⟩
  ·exact ⟨by omega,cR _,by omega⟩
def QvP {k a b:Int}(e:0<k)(d:0<t.size):spG code wt k.toNat (t,a,b)=spG code wt (k - 1).toNat (spN code wt (t,a,b)):=by
 rw[show k.toNat=(k - 1).toNat+1 by omega,spG,if_pos d]
def Qdz {k a b:Int}(h:k≤0∨t.size=0):spG code wt k.toNat (t,a,b)=(t,a,b):=by
 by_cases d:k≤0
 ·rw[show k.toNat=0 by omega,spG]
 ·rw[show k.toNat=(k - 1).toNat+1 by omega,spG,if_neg (by show¬0<t.size;omega)]
def QEq {a b:Int}{c:UInt8}(e:wt[(pkV code (pkA (t.size:Int) a) (pkS code a b (t.size:Int)) (wt.size:Int)).toNat]? =some c)(d:pkV code (pkA (wt.size:Int) (pkA (t.size:Int) a)) (pkS code (pkA (t.size:Int) a) (pkS code a b (t.size:Int)) (wt.size:Int)) 3=0):
 spN code wt (t,a,b)=(t.extract 0 (pkV code a b (t.size:Int)).toNat++(⟨#[c]⟩:BA)++t.extract (pkV code a b (t.size:Int)).toNat t.size,pkA 3 (pkA (wt.size:Int) (pkA (t.size:Int) a)),pkS code (pkA (wt.size:Int) (pkA (t.size:Int) a)) (pkS code (pkA (t.size:Int) a) (pkS code a b (t.size:Int)) (wt.size:Int)) 3):=by
 unfold spN spT spW cuV cuN
 dsimp only
 rw[if_pos d,e];rfl
def QEr {a b:Int}{c:UInt8}(e:wt[(pkV code (pkA (t.size:Int) a) (pkS code a b (t.size:Int)) (wt.size:Int)).toNat]? =some c)(d:¬pkV code (pkA (wt.size:Int) (pkA (t.size:Int) a)) (pkS code (pkA (t.size:Int) a) (pkS code a b (t.size:Int)) (wt.size:Int)) 3=0)
 (hq:pkV code (pkA (wt.size:Int) (pkA (t.size:Int) a)) (pkS code (pkA (t.size:Int) a) (pkS code a b (t.size:Int)) (wt.size:Int)) 3=1):
 spN code wt (t,a,b)=(t.extract 0 (pkV code a b (t.size:Int)).toNat++(⟨#[c]⟩:BA)++t.extract (pkV code a b (t.size:Int)+1).toNat t.size,pkA 3 (pkA (wt.size:Int) (pkA (t.size:Int) a)),pkS code (pkA (wt.size:Int) (pkA (t.size:Int) a)) (pkS code (pkA (t.size:Int) a) (pkS code a b (t.size:Int)) (wt.size:Int)) 3):=by
 unfold spN spT spW cuV cuN
 dsimp only
 rw[if_neg d,if_pos hq,e];rfl
def QEs {a b:Int}(d:¬pkV code (pkA (wt.size:Int) (pkA (t.size:Int) a)) (pkS code (pkA (t.size:Int) a) (pkS code a b (t.size:Int)) (wt.size:Int)) 3=0)
 (hq:¬pkV code (pkA (wt.size:Int) (pkA (t.size:Int) a)) (pkS code (pkA (t.size:Int) a) (pkS code a b (t.size:Int)) (wt.size:Int)) 3=1):
 spN code wt (t,a,b)=(t.extract 0 (pkV code a b (t.size:Int)).toNat++t.extract (pkV code a b (t.size:Int)+1).toNat t.size,pkA 3 (pkA (wt.size:Int) (pkA (t.size:Int) a)),pkS code (pkA (wt.size:Int) (pkA (t.size:Int) a)) (pkS code (pkA (t.size:Int) a) (pkS code a b (t.size:Int)) (wt.size:Int)) 3):=by
 unfold spN spT cuV cuN
 dsimp only
 rw[if_neg d,if_neg hq]
def QBO (code:List UInt8)(wt t:BA)(at_ sd:Int):(spV code wt t at_ sd).1.size≤t.size+2∧at_≤(spV code wt t at_ sd).2.1∧(spV code wt t at_ sd).2.1≤at_+14:=by
 have a:=ZQ code at_ sd 2
 have b:=Qp8 (code:=code) (wt:=wt) (1+pkV code at_ sd 2).toNat (t,pkA 2 at_,pkS code at_ sd 2)
 have d:(1+pkV code at_ sd 2).toNat≤2:=by have:=a.1.2 (by decide);omega
 unfold spV
 dsimp only at b
 refine ⟨by omega,by omega,by omega⟩
end
def Uo (code:List UInt8)(at_:Int)(sd:Int)(y:0≤at_∧at_≤1000000000):FC prog 176 [(false,[.ptr 0 0])] [bx 0 86 [.dat QP code,dI at_,.val (.int .u64 sd)]] 1 (Is (lI (nxV code at_ sd)) [bx 0 86 [.dat QP code,dI (at_+1),.val (.int .u64 (nxS code at_ sd))]]):=by
 refine Ql func176 rfl rfl ntmps176 fun u d r h x m l=>w7 ?_
 apply dW (i9 4 _ _ _ _ _ _ _ _ _ [io 13 _]) [0,0,0,0,15,15,15,15,15,0]
 exact y10
 refine cd_ (fun _ _=> ?_) fun _ _=> ?_
 refine w16 ?_
 refine w_ ?_
 refine lc (Qhy (Qa rfl) Evl.val rfl)<|w_ ?_
 refine lc (KY (Qa rfl) VB Qj1 (by omega) rfl)<|lc (H8 (Qa rfl) (Qa rfl) rfl)<|lc (H8 (Qa rfl) Evl.val rfl)<|w5 ?_
 apply dW (i9 44 _ _ _ _ _ _ _ _ _ [io 53 _]) [0,0,0,0,15,15,15,15,15,0]
 exact y10
 refine cd_ (fun _ _=> ?_) fun _ _=> ?_
 refine w6 ?_
 refine lc (Qhz (Qa rfl) Evl.val rfl (by omega))<|lc (Qhu (Qa rfl) Evl.val rfl)<|lc (Qa3 (Qa rfl) Qj1 VB (by first|omega|exact ⟨(Qfm (H3 (KX _))).1,Int.le_trans (Qfm (H3 (KX _))).2 (by decide)⟩) rfl)<|w3 ?_
 have j:((bits .and .u64 ((IntKind.u64.wrap ((IntKind.u64.wrap ((IntKind.u64.wrap (sd*(6364136223846793005:Int)))+(0:Int)))+(1442695040888963407:Int))) / 2 ^ (40:Int).toNat) (255:Int)):Int)=(nxV code at_ sd):=by
  (rw[← Qu7 ‹_›,nxS,← Qjr ‹_›];rfl)
 exact fi_ [] d ⟨((congrArg (fun z_:Int=>some (Ent.box 86 [.dat QP code,dI (at_+1),.val (.int .u64 z_)])) (show ((IntKind.u64.wrap ((IntKind.u64.wrap ((IntKind.u64.wrap (sd*(6364136223846793005:Int)))+(0:Int)))+(1442695040888963407:Int))):Int)=(nxS code at_ sd) by (unfold nxS;rw[← Qjr ‹_›])))),trivial⟩ (h0:=by rw[j] <;> rfl)
 refine w5 ?_
 have k:(0:Int)=(nxV code at_ sd):=by
  (rw[Qjr ‹_›];exact QpC ‹_›)
 exact fi_ [] d ⟨((congrArg (fun z_:Int=>some (Ent.box 86 [.dat QP code,dI (at_+1),.val (.int .u64 z_)])) (show ((IntKind.u64.wrap ((IntKind.u64.wrap ((IntKind.u64.wrap (sd*(6364136223846793005:Int)))+(0:Int)))+(1442695040888963407:Int))):Int)=(nxS code at_ sd) by (unfold nxS;rw[← Qjr ‹_›])))),trivial⟩ (h0:=by rw[← k] <;> rfl)
 obtain ⟨b,g⟩:=gx code ((at_).toNat)
 have a:=g
 have p:b.toNat<256:=UInt8.toNat_lt _
 apply dZ (i9 14 _ _ _ _ _ _ _ _ _ [io 23 _,io 24 (lI (b.toNat:Int)),io 3 _]) [0,0,0,0,15,15,15,15,0,0,0,0]
 refine z10 ?_
 exact zz (fun _ o=>ac (Qqz (o.v rfl) JR VB rfl) rfl)<|y1
 refine w16 ?_
 refine lc (Qhy (Qa rfl) Evl.val rfl)<|w_ ?_
 refine lc (KY (Qa rfl) VB Qj1 (by omega) rfl)<|lc (H8 (Qa rfl) (Qa rfl) rfl)<|lc (H8 (Qa rfl) Evl.val rfl)<|w5 ?_
 apply dW (i9 44 _ _ _ _ _ _ _ _ _ [io 53 _]) [0,0,0,0,15,15,15,15,15,0]
 exact y10
 refine cd_ (fun _ _=> ?_) fun _ _=> ?_
 refine w6 ?_
 refine lc (Qhz (Qa rfl) Evl.val rfl (by omega))<|lc (Qhu (Qa rfl) Evl.val rfl)<|lc (Qa3 (Qa rfl) Qj1 VB (by first|omega|exact ⟨(Qfm (H3 (KX _))).1,Int.le_trans (Qfm (H3 (KX _))).2 (by decide)⟩) rfl)<|w3 ?_
 have e:((bits .and .u64 ((IntKind.u64.wrap ((IntKind.u64.wrap ((IntKind.u64.wrap (sd*(6364136223846793005:Int)))+(b.toNat:Int)))+(1442695040888963407:Int))) / 2 ^ (40:Int).toNat) (255:Int)):Int)=(nxV code at_ sd):=by
  (rw[← Qu7 ‹_›,nxS,← QeT a ‹_›];rfl)
 exact fi_ [] d ⟨((congrArg (fun z_:Int=>some (Ent.box 86 [.dat QP code,dI (at_+1),.val (.int .u64 z_)])) (show ((IntKind.u64.wrap ((IntKind.u64.wrap ((IntKind.u64.wrap (sd*(6364136223846793005:Int)))+(b.toNat:Int)))+(1442695040888963407:Int))):Int)=(nxS code at_ sd) by (unfold nxS;rw[← QeT a ‹_›])))),trivial⟩ (h0:=by rw[e] <;> rfl)
 refine w5 ?_
 have f:((b.toNat:Int):Int)=(nxV code at_ sd):=by
  (rw[QeT a ‹_›];exact QpC ‹_›)
 exact fi_ [] d ⟨((congrArg (fun z_:Int=>some (Ent.box 86 [.dat QP code,dI (at_+1),.val (.int .u64 z_)])) (show ((IntKind.u64.wrap ((IntKind.u64.wrap ((IntKind.u64.wrap (sd*(6364136223846793005:Int)))+(b.toNat:Int)))+(1442695040888963407:Int))):Int)=(nxS code at_ sd) by (unfold nxS;rw[← QeT a ‹_›])))),trivial⟩ (h0:=by rw[f] <;> rfl)
def QF (code:List UInt8)(at_:Int)(sd:Int)(n:Int)(p:0≤at_∧at_≤999999000):FC prog 100 [(false,[.ptr 0 0]),(false,[dI n])] [bx 0 86 [.dat QP code,dI at_,.val (.int .u64 sd)]] 1 (Is (lI (pkV code at_ sd n)) [bx 0 86 [.dat QP code,dI (pkA n at_),.val (.int .u64 (pkS code at_ sd n))]]):=by
 refine Ql func100 rfl rfl ntmps100 fun m a l b o h g=>acI 1 fun _=>w8 ?_
 refine cd_ (fun _ _=> ?_) fun _ _=> ?_
 refine w3 ?_
 have j:=QeU code at_ sd
 refine lc (dP 1 [] (Uo code at_ sd (by omega)) QfI)<|w7 ?_
 refine cd_ (fun _ _=> ?_) fun _ _=> ?_
 refine w4 ?_
 refine lc (QbU (Qa rfl) (Qa rfl) rfl (by omega) (by omega))<|w3 ?_
 have d:((nxV code at_ sd) % n:Int)=(pkV code at_ sd n):=by
  exact (QBm (code:=code) (sd:=sd) (at_:=at_) ‹_› ‹_›).1.symm
 exact fi_ [] a ⟨(((congrArg (fun z_=>some (Ent.box 86 [.dat QP code,dI z_,.val (.int .u64 (nxS code at_ sd))])) (show ((at_+1):Int)=(pkA n at_) by exact (QBm (code:=code) (sd:=sd) (at_:=at_) ‹_› ‹_›).2.1.symm))).trans (congrArg (fun z_:Int=>some (Ent.box 86 [.dat QP code,dI (pkA n at_),.val (.int .u64 z_)])) (show ((nxS code at_ sd):Int)=(pkS code at_ sd n) by exact (QBm (code:=code) (sd:=sd) (at_:=at_) ‹_› ‹_›).2.2.symm))),trivial⟩ (h0:=by rw[d] <;> rfl)
 refine w2 ?_
 refine lc (Qkg (Qa rfl) (Qn rfl) rfl (by omega))<|w_ ?_
 have k:=QeU code (at_+1) (nxS code at_ sd)
 refine lc (dP 2 [] (Uo code (at_+1) (nxS code at_ sd) (by omega)) QfI)<|w6 ?_
 refine lc (QbU (Qa rfl) (Qa rfl) rfl (by omega) (by omega))<|w3 ?_
 have e:((((nxV code at_ sd)*256)+(nxV code (at_+1) (nxS code at_ sd))) % n:Int)=(pkV code at_ sd n):=by
  exact (QBn (code:=code) (sd:=sd) (at_:=at_) ‹_› ‹_›).1.symm
 exact fi_ [] a ⟨(((congrArg (fun z_=>some (Ent.box 86 [.dat QP code,dI z_,.val (.int .u64 (nxS code (at_+1) (nxS code at_ sd)))])) (show (((at_+1)+1):Int)=(pkA n at_) by exact (QBn (code:=code) (sd:=sd) (at_:=at_) ‹_› ‹_›).2.1.symm))).trans (congrArg (fun z_:Int=>some (Ent.box 86 [.dat QP code,dI (pkA n at_),.val (.int .u64 z_)])) (show ((nxS code (at_+1) (nxS code at_ sd)):Int)=(pkS code at_ sd n) by exact (QBn (code:=code) (sd:=sd) (at_:=at_) ‹_› ‹_›).2.2.symm))),trivial⟩ (h0:=by rw[e] <;> rfl)
 refine w4 ?_
 have f:(0:Int)=(pkV code at_ sd n):=by
  exact (QBl (code:=code) (sd:=sd) (at_:=at_) ‹_›).1.symm
 exact fi_ [] a ⟨(((congrArg (fun z_=>some (Ent.box 86 [.dat QP code,dI z_,.val (.int .u64 sd)])) (show (at_:Int)=(pkA n at_) by exact (QBl (code:=code) (sd:=sd) (at_:=at_) ‹_›).2.1.symm))).trans (congrArg (fun z_:Int=>some (Ent.box 86 [.dat QP code,dI (pkA n at_),.val (.int .u64 z_)])) (show (sd:Int)=(pkS code at_ sd n) by exact (QBl (code:=code) (sd:=sd) (at_:=at_) ‹_›).2.2.symm))),trivial⟩ (h0:=by rw[← f] <;> rfl)
def WE (code:List UInt8)(at_:Int)(sd:Int)(n:Int)(k:0≤at_∧at_≤999999000):FC prog 92 [(false,[.ptr 0 0]),(false,[dI n])] [bx 0 86 [.dat QP code,dI at_,.val (.int .u64 sd)]] 1 (Is (lB (decide (pkV code at_ sd n=0))) [bx 0 86 [.dat QP code,dI (pkA n at_),.val (.int .u64 (pkS code at_ sd n))]]):=by
 refine Ql func92 rfl rfl ntmps92 fun h f g a j e d=>w6 ?_
 refine lc (dP 1 [] (QF code at_ sd n (by omega)) Zs)<|w4 ?_
 have b:(decide ((pkV code at_ sd n)=0):Bool)=(decide (pkV code at_ sd n=0)):=by
  rfl
 exact fi_ [] f ⟨rfl,trivial⟩ (h0:=by rw[b] <;> rfl)
theorem W5 (code:List UInt8)(at_:Int)(sd:Int)(a:List BA)(r:0≤at_∧at_≤999999000)(u:1≤a.length):FC prog 169 [(false,[.ptr 0 0]),(false,[.ref 1])] [bx 0 86 [.dat QP code,dI at_,.val (.int .u64 sd)],ar 1 9 .str a] 1 (Is (lf (dS ((a[(pkV code at_ sd (a.length:Int)).toNat]?).getD ByteArray.empty))) [bx 0 86 [.dat QP code,dI (pkA (a.length:Int) at_),.val (.int .u64 (pkS code at_ sd (a.length:Int)))],ar 1 9 .str a]):=by
 refine Ql func169 rfl rfl ntmps169 fun o h l d p g f=>w8 ?_
 have j:=ZQ code at_ sd (a.length:Int)
 refine lc (dP 2 [] (QF code at_ sd (a.length:Int) (by omega)) Zs)<|w_ ?_
 obtain ⟨m,b⟩:=gx a ((pkV code at_ sd (a.length:Int)).toNat)
 have k:=b
 refine w4 ?_
 have e:(m:BA)=((a[(pkV code at_ sd (a.length:Int)).toNat]?).getD ByteArray.empty):=by
  (simp[*])
 exact fi_ [] h ⟨rfl,rfl,trivial⟩ (h0:=by rw[← e] <;> rfl)
def HD (code:List UInt8)(at_:Int)(sd:Int)(t:BA)(wt:BA)(S:0≤at_∧at_≤900000000)(V:t.size≤100000∧1≤wt.size):FC prog 193 [(false,[.ptr 0 0]),(false,[dS t]),(false,[dS wt])] [bx 0 86 [.dat QP code,dI at_,.val (.int .u64 sd)]] 1 (Is (lf (dS ((spV code wt t at_ sd).1))) [bx 0 86 [.dat QP code,dI ((spV code wt t at_ sd).2.1),.val (.int .u64 ((spV code wt t at_ sd).2.2))]]):=by
 refine Ql func193 rfl rfl ntmps193 fun Q C P I R M L=>w6 ?_
 have O:=ZQ code at_ sd 2
 refine lc (dP 1 [] (QF code at_ sd 2 (by omega)) Zs)<|w4 ?_
 refine Qy (fun G H=>∃(j:Int) (a:BA) (d:Int) (b:Int),G=j.toNat∧((spV code wt t at_ sd)=spG code wt j.toNat (a,d,b))∧(0≤j∧j≤2)∧((a.size:Int)+j≤(t.size:Int)+2)∧(at_≤d∧d+6*j≤at_+14)∧H=⟨[(0,lP 0 0),(1,lf (dS a)),(2,lf (dS wt)),(6,lf (dS (⟨#[]⟩:BA))),(7,lI j)],[bx 0 86 [.dat QP code,dI d,.val (.int .u64 b)]]⟩) ⟨1+(pkV code at_ sd 2),t,(pkA 2 at_),(pkS code at_ sd 2),rfl,rfl,by omega,by omega,by omega,rfl⟩ ?_ ?_
 exact wo []
 rintro G H ⟨j,a,d,b,N,k,U,W,T,rfl⟩
 refine w5 ?_
 cases u:(decide (0<j))
 have x:=ab u
 refine w13 ?_
 have J:(a:BA)=((spV code wt t at_ sd).1):=by
  (rw[k,Qdz (by omega)])
 exact fi_ [] C ⟨(((congrArg (fun z_=>some (Ent.box 86 [.dat QP code,dI z_,.val (.int .u64 b)])) (show (d:Int)=((spV code wt t at_ sd).2.1) by (rw[k,Qdz (by omega)])))).trans (congrArg (fun z_:Int=>some (Ent.box 86 [.dat QP code,dI ((spV code wt t at_ sd).2.1),.val (.int .u64 z_)])) (show (b:Int)=((spV code wt t at_ sd).2.2) by (rw[k,Qdz (by omega)])))),trivial⟩ (h0:=by rw[← J] <;> rfl)
 have x:=aa u
 refine w_ ?_
 refine alS 16 fun _=> ?_
 refine w4 ?_
 cases y:(decide (0<(a.size:Int)))
 have z:=ab y
 refine w8 ?_
 have K:(a:BA)=((spV code wt t at_ sd).1):=by
  (rw[k,Qdz (by omega)])
 exact fi_ [] C ⟨(((congrArg (fun z_=>some (Ent.box 86 [.dat QP code,dI z_,.val (.int .u64 b)])) (show (d:Int)=((spV code wt t at_ sd).2.1) by (rw[k,Qdz (by omega)])))).trans (congrArg (fun z_:Int=>some (Ent.box 86 [.dat QP code,dI ((spV code wt t at_ sd).2.1),.val (.int .u64 z_)])) (show (b:Int)=((spV code wt t at_ sd).2.2) by (rw[k,Qdz (by omega)])))),trivial⟩ (h0:=by rw[← K] <;> rfl)
 have z:=aa y
 refine w8 ?_
 have D:=ZQ code d b (a.size:Int)
 refine lc (dP 2 [] (QF code d b (a.size:Int) (by omega)) Zs)<|w6 ?_
 refine alS 28 fun _=> ?_
 refine w_ ?_
 have E:=ZQ code (pkA (a.size:Int) d) (pkS code d b (a.size:Int)) (wt.size:Int)
 refine lc (dP 3 [] (QF code (pkA (a.size:Int) d) (pkS code d b (a.size:Int)) (wt.size:Int) (by omega)) Zs) ?_
 obtain ⟨g,A⟩:=gs wt ((pkV code (pkA (a.size:Int) d) (pkS code d b (a.size:Int)) (wt.size:Int)).toNat)
 have B:=A
 refine w_ ?_
 refine lc (dBs 4 (e:= .u8) Qqq)<|lc (Y5 (ys:=[g]) (He (Qa rfl) rfl) Wq JR Yd rfl)<|w4 ?_
 have F:=ZQ code (pkA (wt.size:Int) (pkA (a.size:Int) d)) (pkS code (pkA (a.size:Int) d) (pkS code d b (a.size:Int)) (wt.size:Int)) 3
 refine lc (dP 5 [] (QF code (pkA (wt.size:Int) (pkA (a.size:Int) d)) (pkS code (pkA (a.size:Int) d) (pkS code d b (a.size:Int)) (wt.size:Int)) 3 (by omega)) Zs)<|w6 ?_
 cases m:(decide ((pkV code (pkA (wt.size:Int) (pkA (a.size:Int) d)) (pkS code (pkA (a.size:Int) d) (pkS code d b (a.size:Int)) (wt.size:Int)) 3)=0))
 have p:=ab m
 refine w5 ?_
 cases o:(decide ((pkV code (pkA (wt.size:Int) (pkA (a.size:Int) d)) (pkS code (pkA (a.size:Int) d) (pkS code d b (a.size:Int)) (wt.size:Int)) 3)=1))
 have r:=ab o
 refine w_ ?_
 apply dV (i2 36 _ _ (io 38 (lf (dS (a.extract 0 (pkV code d b (a.size:Int)).toNat)))::i3 39 _ _ _ [io 42 (lf (dS (a.extract ((pkV code d b (a.size:Int))+1).toNat a.size))),io 43 (lf (dS ((a.extract 0 (pkV code d b (a.size:Int)).toNat)++(a.extract ((pkV code d b (a.size:Int))+1).toNat a.size)))),io 1 _])) [0,1,0,7,15,15,7,0,0]
 refine z2 ?_
 refine zz (fun _ f=>ac (show Does _ _ _ _ (St.put _ 38 (lf (dS (a.extract 0 (pkV code d b (a.size:Int)).toNat)))) from QT (l:=none) (h:=(some (pkV code d b (a.size:Int)))) (f.v rfl) (by exact trivial) (by exact (f.v rfl)) Yd rfl (by first|omega|(simp only[aq,ap];omega)) (by first|omega|(simp only[aq,ap];omega)) (by first|omega|(simp only[aq,ap];omega))) rfl)<|z3 ?_
 exact zz (fun _ f=>ac (show Does _ _ _ _ (St.put _ 42 (lf (dS (a.extract ((pkV code d b (a.size:Int))+1).toNat a.size)))) from QT (l:=(some ((pkV code d b (a.size:Int))+1))) (h:=none) (f.v rfl) (by exact (f.v rfl)) (by exact trivial) Yd rfl (by first|omega|(simp only[aq,ap];omega)) (by first|omega|(simp only[aq,ap];omega)) (by first|omega|(simp only[aq,ap];omega))) rfl)<|zz (fun _ f=>ac (QX (f.v rfl) (f.v rfl) rfl (by first|omega|(simp only[aE,aR,ZJ];omega))) rfl)<|y1
 refine w5 ?_
 exact Qc<|Zb ⟨(j - 1),((a.extract 0 (pkV code d b (a.size:Int)).toNat)++(a.extract ((pkV code d b (a.size:Int))+1).toNat a.size)),(pkA 3 (pkA (wt.size:Int) (pkA (a.size:Int) d))),(pkS code (pkA (wt.size:Int) (pkA (a.size:Int) d)) (pkS code (pkA (a.size:Int) d) (pkS code d b (a.size:Int)) (wt.size:Int)) 3),rfl,(by exact k.trans ((QvP (by omega) (by omega)).trans (congrArg _ (QEs ‹_› ‹_›)))),by omega,(by simp only[aE,aR,ZJ];omega),by omega,rfl⟩ (by omega)<|wo []
 have r:=aa o
 refine w_ ?_
 apply dV (i2 57 _ _ (io 59 (lf (dS (a.extract 0 (pkV code d b (a.size:Int)).toNat)))::io 60 _::io 61 (lf (dS ((a.extract 0 (pkV code d b (a.size:Int)).toNat)++(⟨#[g]⟩:BA))))::i3 62 _ _ _ [io 65 (lf (dS (a.extract ((pkV code d b (a.size:Int))+1).toNat a.size))),io 66 (lf (dS (((a.extract 0 (pkV code d b (a.size:Int)).toNat)++(⟨#[g]⟩:BA))++(a.extract ((pkV code d b (a.size:Int))+1).toNat a.size)))),io 1 _])) [0,1,0,7,0,31,63,63,31,0,0]
 refine z2 ?_
 refine zz (fun _ f=>ac (show Does _ _ _ _ (St.put _ 59 (lf (dS (a.extract 0 (pkV code d b (a.size:Int)).toNat)))) from QT (l:=none) (h:=(some (pkV code d b (a.size:Int)))) (f.v rfl) (by exact trivial) (by exact (f.v rfl)) Yd rfl (by first|omega|(simp only[aq,ap];omega)) (by first|omega|(simp only[aq,ap];omega)) (by first|omega|(simp only[aq,ap];omega))) rfl)<|z_ ?_
 refine zz (fun _ f=>ac (QX (f.v rfl) (f.v rfl) rfl (by first|omega|(simp only[aE,aR,ZJ];omega))) rfl)<|z3 ?_
 exact zz (fun _ f=>ac (show Does _ _ _ _ (St.put _ 65 (lf (dS (a.extract ((pkV code d b (a.size:Int))+1).toNat a.size)))) from QT (l:=(some ((pkV code d b (a.size:Int))+1))) (h:=none) (f.v rfl) (by exact (f.v rfl)) (by exact trivial) Yd rfl (by first|omega|(simp only[aq,ap];omega)) (by first|omega|(simp only[aq,ap];omega)) (by first|omega|(simp only[aq,ap];omega))) rfl)<|zz (fun _ f=>ac (QX (f.v rfl) (f.v rfl) rfl (by first|omega|(simp only[aE,aR,ZJ];omega))) rfl)<|y1
 refine w5 ?_
 exact Qc<|Zb ⟨(j - 1),(((a.extract 0 (pkV code d b (a.size:Int)).toNat)++(⟨#[g]⟩:BA))++(a.extract ((pkV code d b (a.size:Int))+1).toNat a.size)),(pkA 3 (pkA (wt.size:Int) (pkA (a.size:Int) d))),(pkS code (pkA (wt.size:Int) (pkA (a.size:Int) d)) (pkS code (pkA (a.size:Int) d) (pkS code d b (a.size:Int)) (wt.size:Int)) 3),rfl,(by exact k.trans ((QvP (by omega) (by omega)).trans (congrArg _ (QEr B ‹_› ‹_›)))),by omega,(by simp only[aE,aR,ZJ];omega),by omega,rfl⟩ (by omega)<|wo []
 have p:=aa m
 refine w_ ?_
 apply dV (i2 46 _ _ (io 48 (lf (dS (a.extract 0 (pkV code d b (a.size:Int)).toNat)))::io 49 _::io 50 (lf (dS ((a.extract 0 (pkV code d b (a.size:Int)).toNat)++(⟨#[g]⟩:BA))))::i2 51 _ _ [io 53 (lf (dS (a.extract (pkV code d b (a.size:Int)).toNat a.size))),io 54 (lf (dS (((a.extract 0 (pkV code d b (a.size:Int)).toNat)++(⟨#[g]⟩:BA))++(a.extract (pkV code d b (a.size:Int)).toNat a.size)))),io 1 _])) [0,1,0,7,0,31,63,31,0,0]
 refine z2 ?_
 refine zz (fun _ f=>ac (show Does _ _ _ _ (St.put _ 48 (lf (dS (a.extract 0 (pkV code d b (a.size:Int)).toNat)))) from QT (l:=none) (h:=(some (pkV code d b (a.size:Int)))) (f.v rfl) (by exact trivial) (by exact (f.v rfl)) Yd rfl (by first|omega|(simp only[aq,ap];omega)) (by first|omega|(simp only[aq,ap];omega)) (by first|omega|(simp only[aq,ap];omega))) rfl)<|z_ ?_
 refine zz (fun _ f=>ac (QX (f.v rfl) (f.v rfl) rfl (by first|omega|(simp only[aE,aR,ZJ];omega))) rfl)<|z2 ?_
 exact zz (fun _ f=>ac (show Does _ _ _ _ (St.put _ 53 (lf (dS (a.extract (pkV code d b (a.size:Int)).toNat a.size)))) from QT (l:=(some (pkV code d b (a.size:Int)))) (h:=none) (f.v rfl) (by exact (f.v rfl)) (by exact trivial) Yd rfl (by first|omega|(simp only[aq,ap];omega)) (by first|omega|(simp only[aq,ap];omega)) (by first|omega|(simp only[aq,ap];omega))) rfl)<|zz (fun _ f=>ac (QX (f.v rfl) (f.v rfl) rfl (by first|omega|(simp only[aE,aR,ZJ];omega))) rfl)<|y1
 refine w5 ?_
 exact Qc<|Zb ⟨(j - 1),(((a.extract 0 (pkV code d b (a.size:Int)).toNat)++(⟨#[g]⟩:BA))++(a.extract (pkV code d b (a.size:Int)).toNat a.size)),(pkA 3 (pkA (wt.size:Int) (pkA (a.size:Int) d))),(pkS code (pkA (wt.size:Int) (pkA (a.size:Int) d)) (pkS code (pkA (a.size:Int) d) (pkS code d b (a.size:Int)) (wt.size:Int)) 3),rfl,(by exact k.trans ((QvP (by omega) (by omega)).trans (congrArg _ (QEq B ‹_›)))),by omega,(by simp only[aE,aR,ZJ];omega),by omega,rfl⟩ (by omega)<|wo []
end Go.Proofs.YtjfpbcmfbnnooaaGreat
