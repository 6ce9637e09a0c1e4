/- Walks over abstract states: masks of labels; pairs of states that violate complete state coding, the program. -/
import Derived.Test.YtgpdhgadmjfokaaGreatBUd
import Derived.Test.YtgpdhgadmjfokaaGreatBAy
set_option linter.unusedSimpArgs false
set_option linter.unusedVariables false
set_option linter.unusedSectionVars false
namespace Go.Proofs.YtgpdhgadmjfokaaGreat
open Go.RowKit
set_option maxRecDepth 100000
set_option maxHeartbeats 4000000
structure SgW (c:DSg):Prop where
  sig8:c.1.length≤8
  some_:1≤c.2.1.length∧c.2.1.length≤300
  few:c.2.2.length≤4000
  arcs:∀a∈c.2.2,InR c.2.1.length a∧Ka (c.1.length:Int) (a.2.1,a.2.2.1)
theorem SgOk.w {c:DSg}(h:SgOk c):SgW c:=⟨h.sigs.2.2,h.some_,h.few,fun a b=>⟨XE (h.arcs a b),(h.arcs a b).2.2.1⟩⟩
def mkV (l:Int×Bool):Int:=(if l.2=true then 2 else 1)*2 ^ (2*l.1).toNat
def orA (s:List Int)(a:DAr):List Int:=if 0≤a.2.1 then s.set a.1.toNat (((((s[a.1.toNat]?).getD 0).toNat ||| (mkV (a.2.1,a.2.2.1)).toNat:Nat)):Int) else s
def X6 (n:Nat)(as_:List DAr):List Int:=as_.foldl orA (List.replicate n 0)
def mAt (l:List Int)(x:Int):Int:=(l[x.toNat]?).getD 0
def Qkc (m:Int)(s:Int):Bool:=decide ((((m / 2 ^ (2*s).toNat).toNat &&& (3:Int).toNat:Nat):Int)=0)
def WO (masks pair:List Int)(s:Int):Bool:= !(Qkc (mAt masks (mAt pair 0)) s==Qkc (mAt masks (mAt pair 1)) s)
def U8 (c:DSg)(k s:Int):Bool:=c.2.2.any fun a=>decide (a.1=k∧a.2.1=s)
def cdA (c:DSg)(j:Nat):ByteArray:=(c.2.1[j]?).getD ByteArray.empty
def X5 (c:DSg)(f:Nat→Nat→Bool)(i k:Nat):List (List Int):=((List.range k).filter fun j=>decide (i < j)&&(decide (cdA c j=cdA c i)&&f i j)).map fun j:Nat=>[(i:Int),(j:Int)]
def XL (c:DSg)(f:Nat→Nat→Bool)(i:Nat):List (List Int):=(List.range i).flatMap fun i=>X5 c f i c.2.1.length
def Qcm (c:DSg)(i j:Nat):Bool:=(Z3 c.1 c.1.length).any fun s=> !(U8 c i s==U8 c j s)
def Zt (c:DSg):List (List Int):=XL c (Qcm c) c.2.1.length
section
variable {c:DSg}{as_:List DAr}{a:DAr}{i j k n:Nat}{f g:Nat→Nat→Bool}{s x y m:Int}{l masks pair:List Int}{u v:ByteArray}
theorem Qtk {m x:Int}(d:0≤m∧m≤2)(h:0≤x∧x≤14): -9223372036854775808≤m*2 ^ x.toNat∧m*2 ^ x.toNat≤9223372036854775807:=by
 have e:(2:Int) ^ x.toNat≤2 ^ 14:=by
  have:(2:Nat) ^ x.toNat≤2 ^ 14:=Nat.pow_le_pow_right (by omega) (by omega)
  exact_mod_cast this
 have b:(0:Int)≤2 ^ x.toNat:=cF (by decide)
 have o:m*2 ^ x.toNat≤2*2 ^ 14:=Int.mul_le_mul d.2 e b (by decide)
 have p:0≤m*2 ^ x.toNat:=Int.mul_nonneg d.1 b
 exact ⟨by omega,Int.le_trans o (by decide)⟩
theorem Qxj (l:Int×Bool):0≤mkV l:=by
 unfold mkV
 exact Int.mul_nonneg (by split <;> decide) (cF (by decide))
theorem QgS:∀(as_:List DAr) (s:List Int),(as_.foldl orA s).length=s.length
 | [],_=>rfl
 | a :: as_,s=>by
  rw[aT,QgS as_]
  unfold orA
  split <;> simp
theorem Qbw:(X6 n as_).length=n:=by unfold X6; rw[QgS]; simp
theorem Qjo:∀(as_:List DAr) (s:List Int),(∀x∈s,0≤x)→∀x∈as_.foldl orA s,0≤x
 | [],_,h=>h
 | a :: as_,s,h=>by
  rw[aT]
  refine Qjo as_ _ ?_
  unfold orA
  split
  ·intro x b
   rcases cu b with b | rfl
   ·exact h x b
   ·exact cp _
  ·exact h
theorem Qbt:∀x∈X6 n as_,0≤x:=Qjo as_ _ (by simp)
theorem Qnb (d:as_[k]? =some a)(h:0≤a.2.1)(b:(X6 n (as_.take k))[a.1.toNat]? =some y):(X6 n (as_.take k)).set a.1.toNat (((y.toNat ||| (mkV (a.2.1,a.2.2.1)).toNat:Nat)):Int)=X6 n (as_.take (k+1)):=by
 unfold X6 at*
 rw[QG d,bm,aT,cv]
 unfold orA
 rw[if_pos h]
 unfold orA at b
 rw[b]; rfl
theorem QrL (b:as_[k]? =some a)(h:¬0≤a.2.1):X6 n (as_.take k)=X6 n (as_.take (k+1)):=by
 unfold X6
 rw[QG b,bm,aT,cv,orA,if_neg h]
theorem Hc (h:l[x.toNat]? =some y):mAt l x=y:=by unfold mAt; rw[h]; rfl
theorem Qe5:X5 c f i (i+1)=[]:=by
 unfold X5
 rw[List.map_eq_nil_iff,List.filter_eq_nil_iff]
 intro j b
 rw[cr] at b
 simp; intro h; omega
theorem Qre (h:i < k)(d:c.2.1[k]? =some u)(hv:c.2.1[i]? =some v)(e:u=v)(b:f i k=true):X5 c f i k++[[(i:Int),(k:Int)]]=X5 c f i (k+1):=by
 unfold X5
 rw[ce,bf,bj]
 simp[h,cdA,d,hv,e,b]
theorem Qot (h:¬(cdA c k=cdA c i∧f i k=true)):X5 c f i k=X5 c f i (k+1):=by
 unfold X5
 rw[ce,bf,bj]
 have:(decide (i < k)&&(decide (cdA c k=cdA c i)&&f i k))=false:=by
  cases b:decide (cdA c k=cdA c i)&&f i k with
  | false=>simp
  | true=>simp only[aL,aU] at b; exact absurd b h
 simp[this]
theorem Qnx (h:c.2.1[k]? =some u):cdA c k=u:=by unfold cdA; rw[h]; rfl
theorem VN:XL c f i++X5 c f i c.2.1.length=XL c f (i+1):=by
 unfold XL
 rw[ce,List.flatMap_append]; simp
theorem QeX:(X5 c f i k).length≤k:=by unfold X5; rw[aC]; exact bl (bX ..) (by simp)
theorem QsM:(XL c f i).length≤i*c.2.1.length:=by
 induction i with
 | zero=>simp[XL]
 | succ i b=>
  rw[← VN,ae,Nat.succ_mul]
  have:=QeX (c:=c) (f:=f) (i:=i) (k:=c.2.1.length)
  omega
theorem Qd3 (b:c.2.1.length≤300)(hi:i≤c.2.1.length):(XL c f i).length≤90000:=by
 have d:=QsM (c:=c) (f:=f) (i:=i)
 have e:i*c.2.1.length≤300*300:=Nat.mul_le_mul (by omega) b
 omega
theorem QqN {p:List Int}(h:p∈X5 c f i k):∃j:Nat,j < k∧i < j∧p=[(i:Int),(j:Int)]:=by
 unfold X5 at h
 obtain ⟨j,b,rfl⟩:=aR.1 h
 rw[bO,cr] at b
 simp only[aL,aU] at b
 exact ⟨j,b.1,b.2.1,rfl⟩
theorem QsY {p:List Int}(h:p∈XL c f n)(q:n≤c.2.1.length):2≤p.length∧∀x∈p,0≤x∧x < (c.2.1.length:Int):=by
 unfold XL at h
 obtain ⟨i,d,h⟩:=List.mem_flatMap.1 h
 rw[cr] at d
 obtain ⟨j,e,o,rfl⟩:=QqN h
 refine ⟨by simp,fun x b=> ?_⟩
 simp only[aD,cJ,or_false] at b
 rcases b with rfl | rfl <;> omega
theorem Qjh (q:List Int→Bool):(X5 c f i k).filter q=X5 c (fun i j=>f i j&&q [(i:Int),(j:Int)]) i k:=by
 unfold X5
 rw[List.filter_map,List.filter_filter]
 congr 1
 apply dq
 intro j _
 simp only[Function.comp]
 cases decide (i < j) <;> cases decide (cdA c j=cdA c i) <;> cases f i j <;> simp
theorem Qjk (q:List Int→Bool):(XL c f n).filter q=XL c (fun i j=>f i j&&q [(i:Int),(j:Int)]) n:=by
 induction n with
 | zero=>rfl
 | succ n b=>rw[← VN,← VN,bf,b,Qjh]
theorem Qm4 (h:∀i j,i < n→j < c.2.1.length→f i j=g i j):XL c f n=XL c g n:=by
 induction n with
 | zero=>rfl
 | succ n d=>
  rw[← VN,← VN,d fun i j e b=>h i j (by omega) b]
  congr 1
  unfold X5
  congr 1
  apply dq
  intro j b
  rw[cr] at b
  rw[h n j (by omega) b]
theorem QjA (b:Nat):Nat.testBit 3 b=decide (b < 2):=by
 match b with
 | 0=>rfl
 | 1=>rfl
 | b+2=>
  rw[show (3:Nat)=2 ^ 2 - 1 from rfl,Nat.testBit_two_pow_sub_one]
theorem Qy4 (m t:Nat):((m / 2 ^ t) &&& 3=0)↔(m.testBit t=false∧m.testBit (t+1)=false):=by
 rw[← Nat.shiftRight_eq_div_pow]
 constructor
 ·intro h
  have d:=congrArg (fun z=>Nat.testBit z 0) h
  have e:=congrArg (fun z=>Nat.testBit z 1) h
  simp only[Nat.testBit_and,Nat.testBit_shiftRight,QjA,Nat.zero_testBit,cP] at d e
  simpa using And.intro d e
 ·rintro ⟨d,e⟩
  apply Nat.eq_of_testBit_eq
  intro b
  rw[Nat.testBit_and,Nat.testBit_shiftRight,QjA,Nat.zero_testBit]
  match b with
  | 0=>simp[d]
  | 1=>simp[e]
  | b+2=>simp
theorem Qpw (b:0≤m):Qkc m s=true↔(m.toNat.testBit (2*s).toNat=false∧m.toNat.testBit ((2*s).toNat+1)=false):=by
 unfold Qkc
 rw[aU,← Qy4]
 have:(m / 2 ^ (2*s).toNat).toNat=m.toNat / 2 ^ (2*s).toNat:=by
  have e:m / 2 ^ (2*s).toNat=((m.toNat / 2 ^ (2*s).toNat:Nat):Int):=by
   rw[Int.natCast_ediv,cE b,Int.natCast_pow]; rfl
  rw[e]; rfl
 rw[this]
 show (((m.toNat / 2 ^ (2*s).toNat) &&& 3:Nat):Int)=0↔_
 omega
theorem QuS {l:Int×Bool}(h:0≤l.1)(b:Nat):(mkV l).toNat.testBit b=decide (b=(2*l.1).toNat+(if l.2=true then 1 else 0)):=by
 have e:(mkV l).toNat=2 ^ ((2*l.1).toNat+(if l.2=true then 1 else 0)):=by
  unfold mkV
  obtain ⟨x,o⟩:=l
  cases o
  ·simp only[bU,if_false,Int.one_mul,cP]
   have:((2:Int) ^ (2*x).toNat)=((2 ^ (2*x).toNat:Nat):Int):=by rw[Int.natCast_pow]; rfl
   rw[this]; rfl
  ·simp only[if_true]
   have:(2:Int)*2 ^ (2*x).toNat=((2 ^ ((2*x).toNat+1):Nat):Int):=by rw[Int.natCast_pow,Int.pow_succ,Int.mul_comm]; rfl
   rw[this]; rfl
 rw[e,Nat.testBit_two_pow]
 by_cases d:b=(2*l.1).toNat+(if l.2=true then 1 else 0)
 ·simp[d]
 ·simp[d,Ne.symm d]
theorem QcB:∀(as_:List DAr) (s0:List Int) (k:Nat) (b:Nat),(∀a∈as_,0≤a.1)→k < s0.length→
 ((((as_.foldl orA s0)[k]?).getD 0).toNat.testBit b=true↔((s0[k]?).getD 0).toNat.testBit b=true∨∃a∈as_,0≤a.2.1∧a.1=(k:Int)∧b=(2*a.2.1).toNat+(if a.2.2.1=true then 1 else 0))
 | [],s0,k,b,_,_=>by simp
 | a :: as_,s0,k,b,hr,hk=>by
  have t:=hr a (ax ..)
  have q:(orA s0 a).length=s0.length:=by unfold orA; split <;> simp
  rw[aT,QcB as_ (orA s0 a) k b (fun x d=>hr x (aw _ d)) (by omega)]
  have r:(((orA s0 a)[k]?).getD 0).toNat.testBit b=true↔((s0[k]?).getD 0).toNat.testBit b=true∨(0≤a.2.1∧a.1=(k:Int)∧b=(2*a.2.1).toNat+(if a.2.2.1=true then 1 else 0)):=by
   unfold orA
   split
   ·rename_i o
    by_cases e:a.1.toNat=k
    ·subst e
     rw[aZ hk,ao]
     show ((((s0[a.1.toNat]?).getD 0).toNat ||| (mkV (a.2.1,a.2.2.1)).toNat)).testBit b=true↔_
     rw[Nat.testBit_or,bP,QuS o,aU]
     have p:a.1=((a.1.toNat:Nat):Int):=by omega
     simp only[o,true_and]
     constructor
     ·rintro (h | h)
      ·exact .inl h
      ·exact .inr ⟨p,h⟩
     ·rintro (h | h)
      ·exact .inl h
      ·exact .inr h.2
    ·rw[bk e]
     have p:¬a.1=(k:Int):=fun h=>e (by omega)
     simp[p]
   ·rename_i o
    simp[o]
  rw[r]
  constructor
  ·rintro ((h | h) | ⟨x,d,h⟩)
   ·exact .inl h
   ·exact .inr ⟨a,ax ..,h⟩
   ·exact .inr ⟨x,aw _ d,h⟩
  ·rintro (h | ⟨x,d,h⟩)
   ·exact .inl (.inl h)
   ·rcases aD.1 d with rfl | d
    ·exact .inl (.inr h)
    ·exact .inr ⟨x,d,h⟩
theorem QaI (E:∀a∈c.2.2,0≤a.1)(w:k < c.2.1.length)(F:0≤s):Qkc (mAt (X6 c.2.1.length c.2.2) (k:Int)) s= !U8 c k s:=by
 have z:0≤mAt (X6 c.2.1.length c.2.2) (k:Int):=by
  unfold mAt
  rw[cM,ak (by rw[Qbw]; exact w)]
  exact Qbt _ (cX _)
 have r:∀b,(mAt (X6 c.2.1.length c.2.2) (k:Int)).toNat.testBit b=true↔∃a∈c.2.2,0≤a.2.1∧a.1=(k:Int)∧b=(2*a.2.1).toNat+(if a.2.2.1=true then 1 else 0):=fun b=>by
  unfold mAt X6
  rw[cM,QcB c.2.2 _ k b E (by simpa using w)]
  simp[cc,w]
 rw[bQ,Qpw z,bL]
 have p:U8 c k s=true↔∃a∈c.2.2,a.1=(k:Int)∧a.2.1=s:=by
  unfold U8
  rw[ck]
  simp
 constructor
 ·rintro ⟨C,D⟩
  cases t:U8 c k s with
  | false=>rfl
  | true=>
   obtain ⟨a,d,e,o⟩:=p.1 t
   cases A:a.2.2.1 with
   | false=>
    have:=(r (2*s).toNat).2 ⟨a,d,by omega,e,by rw[o,A]; simp⟩
    rw[C] at this; cases this
   | true=>
    have:=(r ((2*s).toNat+1)).2 ⟨a,d,by omega,e,by rw[o,A]; simp⟩
    rw[D] at this; cases this
 ·intro t
  have q:∀a∈c.2.2,¬(a.1=(k:Int)∧a.2.1=s):=fun a d h=>by
   rw[p.2 ⟨a,d,h⟩] at t; cases t
  constructor
  ·cases h:(mAt (X6 c.2.1.length c.2.2) (k:Int)).toNat.testBit (2*s).toNat with
   | false=>rfl
   | true=>
    obtain ⟨a,d,B,e,o⟩:=(r _).1 h
    have:a.2.1=s:=by split at o <;> omega
    exact absurd ⟨e,this⟩ (q a d)
  ·cases h:(mAt (X6 c.2.1.length c.2.2) (k:Int)).toNat.testBit ((2*s).toNat+1) with
   | false=>rfl
   | true=>
    obtain ⟨a,d,B,e,o⟩:=(r _).1 h
    have:a.2.1=s:=by split at o <;> omega
    exact absurd ⟨e,this⟩ (q a d)
theorem QtH (o:∀a∈c.2.2,0≤a.1):(XL c (fun _ _=>true) c.2.1.length).filter (fun p=>(Z3 c.1 c.1.length).any fun s=>WO (X6 c.2.1.length c.2.2) p s)=Zt c:=by
 rw[Qjk]
 unfold Zt
 refine Qm4 fun i j q r=> ?_
 rw[Bool.true_and]
 unfold Qcm
 have b:mAt [(i:Int),(j:Int)] 0=i:=rfl
 have d:mAt [(i:Int),(j:Int)] 1=j:=rfl
 rw[bQ,ck,ck]
 constructor
 ·rintro ⟨s,e,h⟩
  obtain ⟨t,rfl,_,_⟩:=U5.1 e
  refine ⟨_,e, ?_⟩
  unfold WO at h
  rw[b,d,QaI o q (by omega),QaI o r (by omega)] at h
  revert h
  cases U8 c i t <;> cases U8 c j t <;> simp
 ·rintro ⟨s,e,h⟩
  obtain ⟨t,rfl,_,_⟩:=U5.1 e
  refine ⟨_,e, ?_⟩
  unfold WO
  rw[b,d,QaI o q (by omega),QaI o r (by omega)]
  revert h
  cases U8 c i t <;> cases U8 c j t <;> simp
theorem QrM {α β:Type}{q:β→Bool}{f:α→β}{l:List α}{xs:List β}(h:l.map f=xs):(l.filter fun v=> !(!q (f v))).map f=xs.filter q:=by
 subst h
 rw[List.filter_map]
 congr 1
 apply dq
 intro v _
 simp
end
section
variable {c:DSg}{f:Nat→Nat→Bool}{i:Nat}{m:Int}{u v:ByteArray}
theorem QvQ (b:m≤(c.2.1.length:Int))(d:¬m < (c.2.1.length:Int)):XL c f i++X5 c f i m.toNat=XL c f (i+1):=by rw[show m.toNat=c.2.1.length by omega,VN]
theorem QoG (h:(i:Int) < m)(d:c.2.1[m.toNat]? =some u)(hv:c.2.1[i]? =some v)(e:v=u)(b:f i m.toNat=true):(XL c f i++X5 c f i m.toNat)++[[(i:Int),m]]=XL c f i++X5 c f i (m+1).toNat:=by
 rw[show (m+1).toNat=m.toNat+1 by omega,← Qre (by omega) d hv e.symm b,aP,show ((m.toNat:Nat):Int)=m by omega]
theorem QnC (h:(i:Int) < m)(b:c.2.1[m.toNat]? =some u)(hv:c.2.1[i]? =some v)(e:¬v=u):XL c f i++X5 c f i m.toNat=XL c f i++X5 c f i (m+1).toNat:=by
 rw[show (m+1).toNat=m.toNat+1 by omega,← Qot fun g=>e (by rw[← Qnx b,← Qnx hv]; exact g.1.symm)]
theorem QrN (h:(i:Int) < m)(b:f i m.toNat=false):XL c f i++X5 c f i m.toNat=XL c f i++X5 c f i (m+1).toNat:=by
 rw[show (m+1).toNat=m.toNat+1 by omega,← Qot fun g=>by rw[b] at g; cases g.2]
end
theorem QvD {c:DSg}{i:Nat}{m:Int}{u v:ByteArray}(h:(i:Int) < m)(b:c.2.1[m.toNat]? =some u)(hv:c.2.1[i]? =some v)(e:v=u):(XL c (fun _ _=>true) i++X5 c (fun _ _=>true) i m.toNat)++[[(i:Int),m]]=XL c (fun _ _=>true) i++X5 c (fun _ _=>true) i (m+1).toNat:=QoG h b hv e rfl
theorem QyF {c:DSg}{i:Nat}{m:Int}{u v:ByteArray}(h:(i:Int) < m)(b:c.2.1[m.toNat]? =some u)(hv:c.2.1[i]? =some v)(e:¬v=u):XL c (fun _ _=>true) i++X5 c (fun _ _=>true) i m.toNat=XL c (fun _ _=>true) i++X5 c (fun _ _=>true) i (m+1).toNat:=QnC h b hv e
theorem Qbm (l:KO)(h:0≤l.1∧l.1≤7):FC Tryz.prog 333 [(true,[dI l.1,dB l.2])] [] 0 (Q7 (lI (mkV l))):=by
 refine Qt Tryz.func333 rfl rfl Tryz.ntmps333 fun r b q d t o e=> ?_
 refine acG 0 0 fun _=> ?_
 refine w_ ?_
 refine xbx 0 ?_
 refine w7 ?_
 cases p:(l.2)
 refine w5 ?_
 refine lc (Vg (Qp rfl) (Qa rfl) rfl (by omega))<|lc (QjK (Qp rfl) (Qa rfl) rfl (by omega) (by exact Qtk (by omega) (by omega))) ?_
 refine w2 ?_
 refine Qd<|fqI b ?_
 (unfold mkV; simp only[*]; rfl)
 refine w4 ?_
 refine lc (Vg (Qp rfl) (Qa rfl) rfl (by omega))<|lc (QjK (Qp rfl) (Qa rfl) rfl (by omega) (by exact Qtk (by omega) (by omega))) ?_
 refine w2 ?_
 refine Qd<|fqI b ?_
 (unfold mkV; simp only[*]; rfl)
theorem V6 (c:ZB)(A:SgW c):FC Tryz.prog 225 [(true,[.dat Ql c.1, .dat Qm c.2.1, .dat Qu c.2.2])] [] 0 (YJ 3 .int (X6 c.2.1.length c.2.2)):=by
 have Q:∀a∈c.2.2,InR c.2.1.length a:=fun a H=>(A.arcs a H).1
 have P:=A.some_
 have M:=A.few
 have R:=A.sig8
 refine Qt Tryz.func225 rfl rfl Tryz.ntmps225 fun U G T D V F E=> ?_
 refine w_ ?_
 refine xbx 0 ?_
 refine w5 ?_
 refine alL 7 fun _=> ?_
 refine w_ ?_
 refine lc (Wm 1 (e:= .int) (n:=c.2.1.length) (Qa rfl) (Qa rfl) Yg Qn8 rfl (by omega) (by omega) rfl (Fresh.of rfl) (nlr rfl)) ?_
 refine w6 ?_
 refine alL 11 fun _=> ?_
 refine w4 ?_
 refine lp0 c.2.2.length (fun k=>⟨[(2,lf (.val (.slice none 0 0))),(3,lR 2),(11,lf (.dat Qu c.2.2)),(12,lI (c.2.2.length:Int)),(13,lI (k:Int))],[(2,some (.arr 3 .int (X6 c.2.1.length (c.2.2.take k))))]⟩) ?_ fun k _=> ?_
 exact wp [(2,1)] ⟨(Qe (by simp only[cU]; rfl)),trivial⟩
 have O:=Qbw (n:=c.2.1.length) (as_:=c.2.2.take k)
 refine w4 ?_
 cases p:(decide ((k:Int) < (c.2.2.length:Int)))
 have q:=aa p
 refine w7 ?_
 refine Qd<|fo_ G ?_
 rw[QH (by omega)]
 have q:=ab p
 refine w5 ?_
 obtain ⟨ar,h⟩:=gx c.2.2 k
 have o:=Q _ (ah h)
 obtain ⟨⟨I,J⟩,K,L⟩:=o
 have z:=(A.arcs _ (ah h)).2
 have B:ar.2.1 < (c.1.length:Int):=Ut z
 have N:=Qxj (ar.2.1,ar.2.2.1)
 refine w2 ?_
 refine lc (xal 3 Qs Zg) ?_
 refine w5 ?_
 refine alI 18 fun _=> ?_
 refine w2 ?_
 cases r:(decide (0≤ar.2.1))
 have t:=aa r
 refine w6 ?_
 refine Qb ?_
 refine l0_ ?_
 exact wp [] ⟨(Qe (by first | exact Qnb h ‹_› C | exact QrL h ‹_›)),trivial⟩
 have t:=ab r
 refine w_ ?_
 obtain ⟨y,d⟩:=gx (X6 c.2.1.length (c.2.2.take k)) ((ar.1).toNat)
 have C:=d
 have S:=Qbt _ (ah d)
 apply dV (i3 20 _ _ _ (io 23 (lf (.ept 2 1 ((ar.1).toNat) 0)) :: io 24 (lI y) :: i4 25 _ _ _ _ [io 29 (ag [dI ar.2.1,dB ar.2.2.1]),io 30 (lI (mkV (ar.2.1,ar.2.2.1))),io 31 (lI ((y.toNat ||| (mkV (ar.2.1,ar.2.2.1)).toNat:Nat):Int)),io 32 (lf (.ept 2 1 ((ar.1).toNat) 0)),⟨none,lf (.val undef),[(2,some (.arr 3 .int ((X6 c.2.1.length (c.2.2.take k)).set ((ar.1).toNat) ((y.toNat ||| (mkV (ar.2.1,ar.2.2.1)).toNat:Nat):Int))))]⟩])) [0,1,1,0,0,31,31,127,127,31,31,0,0,0]
 refine z3 ?_
 refine zz (fun _ b=>ac (QE (e:= .int) (b.v rfl) (b.en 2 rfl) (b.v rfl) Yg Yw rfl (by omega) (by first | omega | (simp only[az]; omega))) rfl)<|zz (fun _ b=>ac (Q3 (e:= .int) (b.v rfl) (b.n 2 rfl) d rfl Yw rfl rfl) rfl) ?_
 refine z4 ?_
 refine zz (fun _ b=>ac (Qg Ws ⟨_,_,rfl,(b.w rfl),⟨_,_,rfl,(b.w rfl),rfl⟩⟩ (au.1 rfl) rfl rfl) rfl) ?_
 refine zz (fun _ b=>ac (dK (Qbm (ar.2.1,ar.2.2.1) (by simp only; omega)) QkW) rfl) ?_
 refine zz (fun _ b=>ac (QtS (b.v rfl) (b.v rfl) rfl (by omega) (by omega)) rfl)<|zz (fun _ b=>ac (QE (e:= .int) (b.v rfl) (b.en 2 rfl) (b.v rfl) Yg Yw rfl (by omega) (by first | omega | (simp only[az]; omega))) rfl)<|zz (fun _ b=>ac (QB (e:= .int) (z':=((y.toNat ||| (mkV (ar.2.1,ar.2.2.1)).toNat:Nat):Int)) (b.v rfl) (b.n 2 rfl) d rfl (b.w rfl) rfl Yw rfl rfl) rfl) ?_
 exact zN
 refine w4 ?_
 refine Qb ?_
 refine l0_ ?_
 exact wp [] ⟨(Qe (by first | exact Qnb h ‹_› C | exact QrL h ‹_›)),trivial⟩
theorem Qac (c:ZB)(N:c.2.1.length≤300):FC Tryz.prog 228 [(true,[.dat Ql c.1, .dat Qm c.2.1, .dat Qu c.2.2])] [] 0 (YJ 32 QA (XL c (fun _ _=>true) c.2.1.length)):=by
 refine Qt Tryz.func228 rfl rfl Tryz.ntmps228 fun Q L P H R K J=> ?_
 refine w_ ?_
 refine xbx 0 ?_
 refine w3 ?_
 refine lc (dBs 1 (e:=QA) Qao) ?_
 refine w6 ?_
 refine alL 9 fun _=> ?_
 refine w4 ?_
 refine lp0 c.2.1.length (fun i=>⟨[(1,lP 0 0),(2,lf (.val (.slice none 0 0))),(3,lR 2),(9,lf (.dat Qm c.2.1)),(10,lI (c.2.1.length:Int)),(11,lI (i:Int))],[bx 0 27 [.dat Ql c.1, .dat Qm c.2.1, .dat Qu c.2.2],ar 2 32 QA (XL c (fun _ _=>true) i)]⟩) ?_ fun i _=> ?_
 exact wp [(2,1)] ⟨rfl,(Qe (rfl)),trivial⟩
 have D:=Qd3 (c:=c) (f:=fun _ _=>true) (i:=i) N
 refine w4 ?_
 cases t:(decide ((i:Int) < (c.2.1.length:Int)))
 have w:=aa t
 refine w7 ?_
 refine Qd<|fo_ L ?_
 (congr 1; omega)
 have w:=ab t
 refine w6 ?_
 obtain ⟨C,E⟩:=gx c.2.1 i
 have o:=E
 refine w11 ?_
 refine QL (fun F G=>∃(m:Int) (b:List (List Int)),F=((c.2.1.length:Int) - m).toNat∧((i:Int)+1≤m∧m≤(c.2.1.length:Int))∧(b=XL c (fun _ _=>true) i++X5 c (fun _ _=>true) i m.toNat)∧G=⟨[(1,lP 0 0),(2,lf (.val (.slice none 0 0))),(3,lR 3),(4,lI (i:Int)),(5,lf (dS C)),(6,lI m),(9,lf (.dat Qm c.2.1)),(10,lI (c.2.1.length:Int)),(11,lI (i:Int)),(12,lB true),(13,lI (i:Int)),(14,lf (.elt .str C 0)),(15,lf (dS C)),(16,lI (i:Int)),(17,lI ((i:Int)+1))],[bx 0 27 [.dat Ql c.1, .dat Qm c.2.1, .dat Qu c.2.2],ar 3 32 QA b]⟩) ⟨(i:Int)+1,XL c (fun _ _=>true) i,rfl,(by omega),(by rw[show ((i:Int)+1).toNat=i+1 by omega,Qe5,bq]),rfl⟩ ?_ ?_
 exact wp [(3,2)] ⟨rfl,(Qe (by first | rfl | simp)),trivial⟩
 rintro F G ⟨m,b,M,S,d,rfl⟩
 have O:b.length≤100000:=by rw[d,ae]; have:=QeX (c:=c) (f:=fun _ _=>true) (i:=i) (k:=m.toNat); have:=D (by omega); omega
 refine w5 ?_
 refine alL 20 fun _=> ?_
 refine w3 ?_
 cases z:(decide (m < (c.2.1.length:Int)))
 have A:=aa z
 refine w6 ?_
 refine Qb ?_
 refine l0_ ?_
 exact wp [(2,3)] ⟨rfl,(Qe ((by rw[d]; exact QvQ (by omega) (by omega)))),trivial⟩
 have A:=ab z
 refine w8 ?_
 obtain ⟨I,B⟩:=gx c.2.1 ((m).toNat)
 have p:=B
 refine w5 ?_
 cases q:(decide (I=C))
 have r:=aa q
 refine w7 ?_
 refine Qb<|Q2 ⟨(m+1),b,rfl,(by omega),(by rw[d]; first | exact QvD (by omega) p o (Eq.symm ‹_›) | exact QyF (by omega) p o (fun h=>absurd h.symm ‹_›)),rfl⟩ (by omega) ?_
 exact wo []
 have r:=ab q
 refine w5 ?_
 refine lc (dBs 4 (e:= .int) Yj) ?_
 refine lc (dBs 5 (e:=QA) Qao (hab:=by exact ⟨_,_,_,_,rfl,(.inl ⟨_,rfl,rfl,rfl⟩),⟨rfl,rfl⟩,rfl⟩)) ?_
 refine lc (dA 6 Qrk) ?_
 refine w_ ?_
 refine Qb ?_
 refine w5 ?_
 refine Qb<|Q2 ⟨(m+1),(b++([[(i:Int),m]])),rfl,(by omega),(by rw[d]; first | exact QvD (by omega) p o (Eq.symm ‹_›) | exact QyF (by omega) p o (fun h=>absurd h.symm ‹_›)),rfl⟩ (by omega) ?_
 exact wp [(3,6)] ⟨rfl,(Qe (by first | rfl | simp)),trivial⟩
theorem nbt {b:Bool}(h:b=false):(!b)=true:=by rw[h]; rfl
theorem nbf {b:Bool}(h:b=true):(!b)=false:=by rw[h]; rfl
theorem QuZ {masks pair:List Int}{p q m0 o sig:Int}(e:pair[0]? =some p)(h:pair[1]? =some q)(b:masks[p.toNat]? =some m0)(d:masks[q.toNat]? =some o):
 (!((decide ((((m0 / 2 ^ (2*sig).toNat).toNat &&& (3:Int).toNat:Nat):Int)=0))==(decide ((((o / 2 ^ (2*sig).toNat).toNat &&& (3:Int).toNat:Nat):Int)=0))))=WO masks pair sig:=by
 unfold WO
 rw[Hc (x:=0) (by simpa using e),Hc (x:=1) (by simpa using h),Hc b,Hc d]
 rfl
theorem Jl (sig:Int)(masks:List Int)(pair:List Int)(A:∀x∈masks,0≤x)(D:2≤pair.length∧∀x∈pair,0≤x∧x < (masks.length:Int))(P:0≤sig∧sig≤7):FC Tryz.prog 230 [(false,[dI sig]),(false,[.ptr 0 0]),(false,[.ptr 1 0])] [bx 0 32 [.dat QA masks],bx 1 32 [.dat QA pair]] 2 (Is (lB (WO masks pair sig)) [bx 0 32 [.dat QA masks],bx 1 32 [.dat QA pair]]):=by
 refine Qt Tryz.func230 rfl rfl Tryz.ntmps230 fun N J M G O I H=> ?_
 refine acI 0 fun _=> ?_
 refine w3 ?_
 obtain ⟨K,d⟩:=gx pair 0
 have w:=d
 have E:=D.2 _ (ah d)
 obtain ⟨m0,e⟩:=gx masks ((K).toNat)
 have r:=e
 have B:=A _ (ah e)
 obtain ⟨L,h⟩:=gx pair 1
 have z:=h
 have F:=D.2 _ (ah h)
 obtain ⟨p,o⟩:=gx masks ((L).toNat)
 have t:=o
 have C:=A _ (ah o)
 apply dW (i7 5 _ _ _ _ _ _ _ (io 12 (lI (2*sig)) :: io 13 (lI (m0 / 2 ^ (2*sig).toNat)) :: io 14 (lI (((m0 / 2 ^ (2*sig).toNat).toNat &&& (3:Int).toNat:Nat):Int)) :: i8 15 _ _ _ _ _ _ _ _ [io 23 (lI (2*sig)),io 24 (lI (p / 2 ^ (2*sig).toNat)),io 25 (lI (((p / 2 ^ (2*sig).toNat).toNat &&& (3:Int).toNat:Nat):Int)),io 26 _,io 27 (lB (!((decide ((((m0 / 2 ^ (2*sig).toNat).toNat &&& (3:Int).toNat:Nat):Int)=0))==(decide ((((p / 2 ^ (2*sig).toNat).toNat &&& (3:Int).toNat:Nat):Int)=0))))),io 4 _])) [0,1,1,1,0,0,63,63,0,0,0,2047,4095,4095,4095,2047,2047,131071,131071,2047,2047,2047,0,0]
 refine z7 ?_
 refine zz (fun _ b=>ac (Vg (Qp rfl) (b.v rfl) rfl (by omega)) rfl)<|zz (fun _ b=>ac (Qek (b.v rfl) (b.v rfl) rfl (by omega) (by first | omega | exact cI (by omega) (cF (by decide)))) rfl)<|zz (fun _ b=>ac (QdU (b.v rfl) (Qp rfl) rfl (by first | omega | exact cI (by omega) (cF (by decide))) (by omega)) rfl) ?_
 refine z8 ?_
 refine zz (fun _ b=>ac (Vg (Qp rfl) (b.v rfl) rfl (by omega)) rfl)<|zz (fun _ b=>ac (Qek (b.v rfl) (b.v rfl) rfl (by omega) (by first | omega | exact cI (by omega) (cF (by decide)))) rfl)<|zz (fun _ b=>ac (QdU (b.v rfl) (Qp rfl) rfl (by first | omega | exact cI (by omega) (cF (by decide))) (by omega)) rfl) ?_
 refine z_ ?_
 refine zz (fun _ b=>ac (UR (b.v rfl) (b.v rfl) rfl Jr) rfl) ?_
 exact y1
 refine w_ ?_
 have q:(!((decide ((((m0 / 2 ^ (2*sig).toNat).toNat &&& (3:Int).toNat:Nat):Int)=0))==(decide ((((p / 2 ^ (2*sig).toNat).toNat &&& (3:Int).toNat:Nat):Int)=0))):Bool)=(WO masks pair sig):=by
  exact QuZ w z r t
 exact fi_ [] J ⟨rfl,rfl,trivial⟩ (h0:=by rw[q] <;> rfl)
theorem JA (l:List Int)(masks:List Int)(pair:List Int)(B:∀x∈masks,0≤x)(D:2≤pair.length∧∀x∈pair,0≤x∧x < (masks.length:Int))(C:∀s∈l,0≤s∧s≤7):FC Tryz.prog 202 [(false,[.dat QA l]),(false,[.clo 230 [0,1]])] [bx 0 32 [.dat QA masks],bx 1 32 [.dat QA pair]] 2 (Is (lI (Zl (fun s=>WO masks pair s) l)) [bx 0 32 [.dat QA masks],bx 1 32 [.dat QA pair]]):=by
 refine Qt Tryz.func202 rfl rfl Tryz.ntmps202 fun F p E q G z w=> ?_
 refine w6 ?_
 refine alL 6 fun _=> ?_
 refine w4 ?_
 refine lpK l.length (fun k=>NoneTo (fun s=>WO masks pair s) l k) (fun k=>⟨[(0,lf (.dat QA l)),(1,lf (.clo 230 [0,1])),(7,lI (l.length:Int)),(8,lI (k:Int))],[bx 0 32 [.dat QA masks],bx 1 32 [.dat QA pair]]⟩) (NoneTo.zero) ?_ fun k _ b=> ?_
 exact wo []
 refine w4 ?_
 cases e:(decide ((k:Int) < (l.length:Int)))
 have h:=aa e
 refine w7 ?_
 have r:((-1):Int)=(Zl (fun s=>WO masks pair s) l):=by
  first | exact (b.no (by omega)).symm
 exact fi_ [] p ⟨rfl,rfl,trivial⟩ (h0:=by rw[← r] <;> rfl)
 have h:=ab e
 refine w12 ?_
 obtain ⟨o,d⟩:=gx l k
 refine w2 ?_
 refine alI 15 fun _=> ?_
 refine lc (Xu (args0:=[(false,[dI o])]) (caps:=[0,1]) 2 [(0,0),(1,1)] (Jl o masks pair B D (C _ (ah d))) Qlb rfl (Qa rfl) rfl rfl ⟨_,_,rfl,(Qo rfl),rfl⟩ ⟨rfl,rfl,trivial⟩ rfl ⟨trivial,trivial,trivial⟩ (nlr rfl)) ?_
 refine w_ ?_
 cases A:(WO masks pair o)
 refine w6 ?_
 refine Qb ?_
 refine lK_ (b.step d ‹_›) ?_
 exact wo []
 refine w6 ?_
 have t:((k:Int):Int)=(Zl (fun s=>WO masks pair s) l):=by
  exact (b.at d ‹_›).symm
 exact fi_ [] p ⟨rfl,rfl,trivial⟩ (h0:=by rw[t] <;> rfl)
theorem U2 (l:List Int)(masks:List Int)(pair:List Int)(p:∀x∈masks,0≤x)(r:2≤pair.length∧∀x∈pair,0≤x∧x < (masks.length:Int))(q:∀s∈l,0≤s∧s≤7):FC Tryz.prog 95 [(false,[.dat QA l]),(false,[.clo 230 [0,1]])] [bx 0 32 [.dat QA masks],bx 1 32 [.dat QA pair]] 2 (Is (lB (l.any (fun s=>WO masks pair s))) [bx 0 32 [.dat QA masks],bx 1 32 [.dat QA pair]]):=by
 refine Qt Tryz.func95 rfl rfl Tryz.ntmps95 fun w o t b z h e=> ?_
 refine w6 ?_
 refine lc (dP 2 [] (JA l masks pair p r q) QlA) ?_
 refine w4 ?_
 have d:(decide (0≤(Zl (fun s=>WO masks pair s) l)):Bool)=(l.any (fun s=>WO masks pair s)):=by
  exact VQ _ _
 exact fi_ [] o ⟨rfl,rfl,trivial⟩ (h0:=by rw[d] <;> rfl)
theorem Vy (pair:List Int)(b:List Int)(masks:List Int)(p:∀x∈masks,0≤x)(r:2≤pair.length∧∀x∈pair,0≤x∧x < (masks.length:Int))(q:∀s∈b,0≤s∧s≤7):FC Tryz.prog 229 [(false,[.dat QA pair]),(false,[.ptr 0 0]),(false,[.ptr 1 0])] [bx 0 32 [.dat QA b],bx 1 32 [.dat QA masks]] 2 (Is (lB (!(b.any (fun s=>WO masks pair s)))) [bx 0 32 [.dat QA b],bx 1 32 [.dat QA masks]]):=by
 refine Qt Tryz.func229 rfl rfl Tryz.ntmps229 fun w o t d z h e=> ?_
 refine w_ ?_
 refine xbx 2 ?_
 refine w4 ?_
 refine lc (Y6 ⟨_,_,rfl,(Qa rfl),rfl,⟨_,_,rfl,(Qa rfl),rfl,rfl⟩⟩ rfl) ?_
 refine lc (dP 3 [(0,1),(1,2)] (U2 b masks pair p r q) QoV) ?_
 refine w4 ?_
 exact fi_ [] o ⟨rfl,rfl,trivial⟩
theorem Qah (l:List Hdr)(e:List Hdr)(d:Hdr→List Int)(b:List Int)(masks:List Int)(G:∀x∈masks,0≤x)(hv:∀v∈e,2≤(d v).length∧∀x∈d v,0≤x∧x < (masks.length:Int))(H:∀s∈b,0≤s∧s≤7)(t:∀v∈l,v∈e)(L:l.length≤1000000):FC Tryz.prog 334 [(false,[.ref 3]),(false,[.clo 229 [0,1]])] [bx 0 32 [.dat QA b],bx 1 32 [.dat QA masks],(2,some (.pl false QA e d)),ar 3 32 .vl l] 4 (Is (lI (Zl (fun v:Hdr=> !(b.any (fun s=>WO masks (d v) s))) l)) [bx 0 32 [.dat QA b],bx 1 32 [.dat QA masks],(2,some (.pl false QA e d)),ar 3 32 .vl l]):=by
 refine Qt Tryz.func334 rfl rfl Tryz.ntmps334 fun J z I A K E D=> ?_
 refine w10 ?_
 refine lpK l.length (fun k=>NoneTo (fun v:Hdr=> !(b.any (fun s=>WO masks (d v) s))) l k) (fun k=>⟨[(0,lR 3),(1,lf (.clo 229 [0,1])),(7,lI (l.length:Int)),(8,lI (k:Int))],[bx 0 32 [.dat QA b],bx 1 32 [.dat QA masks],(2,some (.pl false QA e d)),ar 3 32 .vl l]⟩) (NoneTo.zero) ?_ fun k _ o=> ?_
 exact wo []
 refine w4 ?_
 cases q:(decide ((k:Int) < (l.length:Int)))
 have r:=aa q
 refine w7 ?_
 have B:((-1):Int)=(Zl (fun v:Hdr=> !(b.any (fun s=>WO masks (d v) s))) l):=by
  first | exact (o.no (by omega)).symm
 exact fi_ [] z ⟨rfl,rfl,rfl,rfl,trivial⟩ (h0:=by rw[← B] <;> rfl)
 have r:=ab q
 refine w13 ?_
 obtain ⟨w,h⟩:=gx l k
 refine w_ ?_
 refine lc (Xu (args0:=[(false,[.dat QA (d w)])]) (caps:=[0,1]) 4 [(0,0),(1,1)] (Vy (d w) b masks G (hv _ (t _ (ah h))) H) QfK rfl (Qa rfl) rfl rfl ⟨_,_,rfl,(Evl.ev (Evl.pl (p:=2) (Qa rfl) rfl (t _ (ah h)))),rfl⟩ ⟨rfl,rfl,trivial⟩ rfl ⟨trivial,trivial,trivial⟩ (nlr rfl)) ?_
 refine w_ ?_
 cases F:(b.any (fun s=>WO masks (d w) s))
 refine w6 ?_
 have C:((k:Int):Int)=(Zl (fun v:Hdr=> !(b.any (fun s=>WO masks (d v) s))) l):=by
  exact (o.at h (nbt ‹_›)).symm
 exact fi_ [] z ⟨rfl,rfl,rfl,rfl,trivial⟩ (h0:=by rw[C] <;> rfl)
 refine w6 ?_
 refine Qb ?_
 refine lK_ (o.step h (nbf ‹_›)) ?_
 exact wo []
theorem HD (l:List Hdr)(q:List Hdr)(o:Hdr→List Int)(d:List Int)(masks:List Int)(H:∀x∈masks,0≤x)(hv:∀v∈q,2≤(o v).length∧∀x∈o v,0≤x∧x < (masks.length:Int))(I:∀s∈d,0≤s∧s≤7)(z:∀v∈l,v∈q)(S:l.length≤1000000):FC Tryz.prog 227 [(false,[.ref 3]),(false,[.clo 229 [0,1]])] [bx 0 32 [.dat QA d],bx 1 32 [.dat QA masks],(2,some (.pl false QA q o)),ar 3 32 .vl l] 3 (Is (lR 4) [bx 0 32 [.dat QA d],bx 1 32 [.dat QA masks],(2,some (.pl false QA q o)),ar 4 32 .vl (l.filter (fun v:Hdr=> !(!(d.any (fun s=>WO masks (o v) s)))))]):=by
 have R:=QiN (fun v:Hdr=> !(d.any (fun s=>WO masks (o v) s))) l
 refine Qt Tryz.func227 rfl rfl Tryz.ntmps227 fun V F U L W N M=> ?_
 refine w6 ?_
 refine lc (dP 4 [] (Qah l q o d masks H hv I z S) Qm2) ?_
 refine w7 ?_
 refine cd_ (fun _ _=> ?_) fun _ _=> ?_
 refine w8 ?_
 refine QL (fun J K=>∃(i:Int) (j:Int) (r:List Hdr),J=((r.length:Int) - j).toNat∧(DelI (fun v:Hdr=> !(!(d.any (fun s=>WO masks (o v) s)))) l r i j)∧K=⟨[(0,lR 8),(1,lf (.clo 229 [0,1])),(4,lf (.val (.slice none 0 0))),(5,lI i),(6,lI j)],[bx 0 32 [.dat QA d],bx 1 32 [.dat QA masks],(2,some (.pl false QA q o)),ar 8 32 .vl r]⟩) ⟨Zl (fun v:Hdr=> !(d.any (fun s=>WO masks (o v) s))) l,(Zl (fun v:Hdr=> !(d.any (fun s=>WO masks (o v) s))) l)+1,l,rfl,(DelI.start ‹_›),rfl⟩ ?_ ?_
 exact wo [(8,3)]
 rintro J K ⟨i,j,r,T,w,rfl⟩
 have O:=w.1
 have P:=w.2.1
 refine w7 ?_
 cases B:(decide (j < (r.length:Int)))
 have C:=aa B
 refine w6 ?_
 refine lc (Yp (e:= .vl) (a:=(i).toNat) (b:=r.length - (i).toNat) (l:=(some i)) (h:=none) (Qa rfl) rfl (by exact (Qa rfl)) (by exact trivial) V9 X3 rfl (by first | (simp only[av,ao]; omega) | omega | (simp only[av,ao,ae,ap,aF]; omega)) (by first | (simp only[av,ao]; omega) | omega | (simp only[av,ao,ae,ap,aF]; omega)) (by first | (simp only[av,ao]; omega) | omega | (simp only[av,ao,ae,ap,aF]; omega)) (by first | rfl | simp) (by first | rfl | simp))<|lc (QcV (e:= .vl) (Qa rfl) rfl (by omega) V9 Qao rfl rfl rfl) ?_
 refine w4 ?_
 refine lc (Yp (e:= .vl) (a:=0) (b:=(i).toNat) (l:=none) (h:=(some i)) (Qa rfl) rfl (by exact trivial) (by exact (Qa rfl)) V9 X3 rfl (by first | (simp only[av,ao]; omega) | omega | (simp only[av,ao,ae,ap,aF]; omega)) (by first | (simp only[av,ao]; omega) | omega | (simp only[av,ao,ae,ap,aF]; omega)) (by first | (simp only[av,ao]; omega) | omega | (simp only[av,ao,ae,ap,aF]; omega)) (by first | rfl | simp) (by first | rfl | simp)) ?_
 refine w2 ?_
 refine AC.wk (QfU 9 4 (e:= .vl) (xs:=r.take ((i).toNat)++List.replicate (r.length - (i).toNat) (Ty.zero .vl)) rfl rfl (by first | omega | (simp only[ae,ap,aF]; omega)) rfl (Fresh.of rfl) (nlr rfl))<|Qd ?_
 exact fi_ [(4,9)] F ⟨rfl,rfl,rfl,(Qe (by exact w.end_ ‹_› _ (by omega))),trivial⟩
 have C:=ab B
 refine w8 ?_
 obtain ⟨E,A⟩:=gx r ((j).toNat)
 have t:=A
 refine w6 ?_
 refine lc (Xu (args0:=[(false,[.dat QA (o E)])]) (caps:=[0,1]) 10 [(0,0),(1,1)] (Vy (o E) d masks H (hv _ (z _ (ah (w.at_ A)))) I) QfK rfl (Qa rfl) rfl rfl ⟨_,_,rfl,(Evl.ev (Evl.pl (p:=2) (Qa rfl) rfl (z _ (ah (w.at_ A))))),rfl⟩ ⟨rfl,rfl,trivial⟩ rfl ⟨trivial,trivial,trivial⟩ (nlr rfl)) ?_
 refine w2 ?_
 cases Q:(!(d.any (fun s=>WO masks (o E) s)))
 refine w6 ?_
 obtain ⟨X,D⟩:=gx r ((i).toNat)
 have G:=D
 refine lc (QB (e:= .vl) (z':=E) (Qa rfl) rfl D rfl (Qo rfl) rfl X3 rfl rfl) ?_
 refine w5 ?_
 refine Qb ?_
 refine w5 ?_
 refine Qb<|Q2 ⟨(i+1),(j+1),(r.set ((i).toNat) E),rfl,(by exact w.keep t (nbt ‹_›)),rfl⟩ (by first | omega | (simp only[az]; omega)) ?_
 exact wp [] ⟨rfl,rfl,rfl,(Qe (by first | rfl | simp)),trivial⟩
 refine w7 ?_
 refine Qb<|Q2 ⟨i,(j+1),r,rfl,(by exact w.drop_ t (nbf ‹_›)),rfl⟩ (by first | omega | (simp only[az]; omega)) ?_
 exact wo []
 refine w5 ?_
 exact fi_ [(4,3)] F ⟨rfl,rfl,rfl,(Qe (by exact QcN ‹_›)),trivial⟩
theorem Wr (c:ZB)(o:SgW c):FC Tryz.prog 114 [(true,[.dat Ql c.1, .dat Qm c.2.1, .dat Qu c.2.2])] [] 0 (Q7 (lf (.dat QaU (Zt c)))):=by
 have L:∀a∈c.2.2,InR c.2.1.length a:=fun a A=>(o.arcs a A).1
 have K:=o.some_
 have J:=o.few
 have M:=o.sig8
 have C:=Qbt (n:=c.2.1.length) (as_:=c.2.2)
 have B:=Qbw (n:=c.2.1.length) (as_:=c.2.2)
 have D:∀s∈Z3 c.1 c.1.length,0≤s∧s≤7:=fun s h=>by obtain ⟨t,rfl,S,_⟩:=U5.1 h; omega
 have I:=Qd3 (c:=c) (f:=fun _ _=>true) (i:=c.2.1.length) (by omega) (aO _)
 refine Qt Tryz.func114 rfl rfl Tryz.ntmps114 fun Q H P E R G F=> ?_
 refine w_ ?_
 refine xbx 0 ?_
 refine w2 ?_
 apply dW [io 5 _,io 6 (lf (.dat QA (X6 c.2.1.length c.2.2))),io 7 _,io 8 (lf (.dat QA (Z3 c.1 c.1.length))),⟨some 3,lP 1 0,[bx 1 32 [.val (.slice none 0 0)]]⟩,⟨some 4,lP 2 0,[bx 2 32 [.val (.slice none 0 0)]]⟩,⟨none,lf (.val undef),[bx 1 32 [.dat QA (X6 c.2.1.length c.2.2)]]⟩,⟨none,lf (.val undef),[bx 2 32 [.dat QA (Z3 c.1 c.1.length)]]⟩] [0,0,3,0,15,31,0,0]
 refine z_ ?_
 refine zz (fun _ d=>ac (dK (V6 c o).frozen Qej) rfl) ?_
 refine z_ ?_
 refine zz (fun _ d=>ac (dK (Jb c (by omega)).frozen Qep) rfl) ?_
 refine zz (fun _ d=>ac (Xq 1 QA Qao rfl rfl (d.fr 1 rfl) (nlr rfl)) rfl)<|zz (fun _ d=>ac (Xq 2 QA Qao rfl rfl (d.fr 2 rfl) (nlr rfl)) rfl) ?_
 exact y2
 refine w2 ?_
 refine lc (dO 3 (Qac c (by omega)) QlK) ?_
 refine lc (Y6 ⟨_,_,rfl,(Qa rfl),rfl,⟨_,_,rfl,(Qa rfl),rfl,rfl⟩⟩ rfl)<|AL.pool (q:=3) (e:= .int) 4 rfl (Fresh.of rfl) (nlr rfl) fun r w b=> ?_
 refine lc (dP 5 [(0,2),(2,4)] (HD r r w (Z3 c.1 c.1.length) (X6 c.2.1.length c.2.2) C (fun v N=>by rw[B]; exact QsY (by rw[← b]; exact List.mem_map_of_mem N) (aO _)) D (fun _ h=>h) (by have:=congrArg List.length b; rw[aC] at this; omega)) QkZ) ?_
 refine w2 ?_
 refine AC.wk (QrX (i:=2) (q:=9) (p:=4) rfl rfl rfl (fun z O=>(bO.1 O).1))<|Qd<|fq_ H ?_
 exact (QrM b).trans (QtH fun a A=>(L a A).1.1)
end Go.Proofs.YtgpdhgadmjfokaaGreat
