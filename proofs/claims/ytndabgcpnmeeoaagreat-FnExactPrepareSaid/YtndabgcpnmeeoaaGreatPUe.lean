/- Walks over abstract states: masks of labels; pairs of states that violate complete state coding, the program. -/
import Derived.Test.YtndabgcpnmeeoaaGreatPUd
import Derived.Test.YtndabgcpnmeeoaaGreatPBp
set_option linter.unusedSimpArgs false
set_option linter.unusedVariables false
set_option linter.unusedSectionVars false
namespace Go.Proofs.YtndabgcpnmeeoaaGreat
open Go.RowKit
set_option maxRecDepth 100000
set_option maxHeartbeats 4000000
structure SgW (c:DSg):Prop where
  sig8:c.1.length≤8
  some_:1≤c.2.1.length∧c.2.1.length≤300
  few:c.2.2.length≤4000
  arcs:∀a∈c.2.2,InR c.2.1.length a∧U7 (c.1.length:Int) (a.2.1,a.2.2.1)
theorem SgOk.w {c:DSg}(h:SgOk c):SgW c:=⟨h.sigs.2.2,h.some_,h.few,fun a b=>⟨XC (h.arcs a b),(h.arcs a b).2.2.1⟩⟩
def mkV (l:Int×Bool):Int:=(if l.2=true then 2 else 1)*2 ^ (2*l.1).toNat
def orA (s:List Int)(a:DAr):List Int:=if 0≤a.2.1 then s.set a.1.toNat (((((s[a.1.toNat]?).getD 0).toNat ||| (mkV (a.2.1,a.2.2.1)).toNat:Nat)):Int) else s
def YT (n:Nat)(as_:List DAr):List Int:=as_.foldl orA (List.replicate n 0)
def mAt (l:List Int)(x:Int):Int:=(l[x.toNat]?).getD 0
def Qlj (m:Int)(s:Int):Bool:=decide ((((m / 2 ^ (2*s).toNat).toNat &&& (3:Int).toNat:Nat):Int)=0)
def WT (masks pair:List Int)(s:Int):Bool:= !(Qlj (mAt masks (mAt pair 0)) s==Qlj (mAt masks (mAt pair 1)) s)
def ZT (c:DSg)(k s:Int):Bool:=c.2.2.any fun a=>decide (a.1=k∧a.2.1=s)
def cdA (c:DSg)(j:Nat):ByteArray:=(c.2.1[j]?).getD ByteArray.empty
def XS (c:DSg)(f:Nat→Nat→Bool)(i k:Nat):List (List Int):=((List.range k).filter fun j=>decide (i < j)&&(decide (cdA c j=cdA c i)&&f i j)).map fun j:Nat=>[(i:Int),(j:Int)]
def Z4 (c:DSg)(f:Nat→Nat→Bool)(i:Nat):List (List Int):=(List.range i).flatMap fun i=>XS c f i c.2.1.length
def QaS (c:DSg)(i j:Nat):Bool:=(Q6 c.1 c.1.length).any fun s=> !(ZT c i s==ZT c j s)
def Zt (c:DSg):List (List Int):=Z4 c (QaS c) c.2.1.length
section
variable {c:DSg}{as_:List DAr}{a:DAr}{i j k n:Nat}{f g:Nat→Nat→Bool}{s x y m:Int}{l masks pair:List Int}{u v:ByteArray}
theorem Qto {m x:Int}(d:0≤m∧m≤2)(h:0≤x∧x≤14): -9223372036854775808≤m*2 ^ x.toNat∧m*2 ^ x.toNat≤9223372036854775807:=by
 have e:(2:Int) ^ x.toNat≤2 ^ 14:=by
  have:(2:Nat) ^ x.toNat≤2 ^ 14:=Nat.pow_le_pow_right (by omega) (by omega)
  exact_mod_cast this
 have b:(0:Int)≤2 ^ x.toNat:=bz (by decide)
 have o:m*2 ^ x.toNat≤2*2 ^ 14:=Int.mul_le_mul d.2 e b (by decide)
 have p:0≤m*2 ^ x.toNat:=Int.mul_nonneg d.1 b
 exact ⟨by omega,Int.le_trans o (by decide)⟩
theorem Qwg (l:Int×Bool):0≤mkV l:=by
 unfold mkV
 exact Int.mul_nonneg (by split <;> decide) (bz (by decide))
theorem Qh0:∀(as_:List DAr) (s:List Int),(as_.foldl orA s).length=s.length
 | [],_=>rfl
 | a :: as_,s=>by
  rw[aW,Qh0 as_]
  unfold orA
  split <;> simp
theorem HE:(YT n as_).length=n:=by unfold YT; rw[Qh0]; simp
theorem QkL:∀(as_:List DAr) (s:List Int),(∀x∈s,0≤x)→∀x∈as_.foldl orA s,0≤x
 | [],_,h=>h
 | a :: as_,s,h=>by
  rw[aW]
  refine QkL as_ _ ?_
  unfold orA
  split
  ·intro x b
   rcases cr b with b | rfl
   ·exact h x b
   ·exact bC _
  ·exact h
theorem Qad:∀x∈YT n as_,0≤x:=QkL as_ _ (by simp)
theorem Qpr (d:as_[k]? =some a)(h:0≤a.2.1)(b:(YT n (as_.take k))[a.1.toNat]? =some y):(YT n (as_.take k)).set a.1.toNat (((y.toNat ||| (mkV (a.2.1,a.2.2.1)).toNat:Nat)):Int)=YT n (as_.take (k+1)):=by
 unfold YT at*
 rw[QO d,bm,aW,ck]
 unfold orA
 rw[if_pos h]
 unfold orA at b
 rw[b]; rfl
theorem QsU (b:as_[k]? =some a)(h:¬0≤a.2.1):YT n (as_.take k)=YT n (as_.take (k+1)):=by
 unfold YT
 rw[QO b,bm,aW,ck,orA,if_neg h]
theorem Jx (h:l[x.toNat]? =some y):mAt l x=y:=by unfold mAt; rw[h]; rfl
theorem Qbx:XS c f i (i+1)=[]:=by
 unfold XS
 rw[List.map_eq_nil_iff,List.filter_eq_nil_iff]
 intro j b
 rw[cj] at b
 simp; intro h; omega
theorem Qtf (h:i < k)(d:c.2.1[k]? =some u)(hv:c.2.1[i]? =some v)(e:u=v)(b:f i k=true):XS c f i k++[[(i:Int),(k:Int)]]=XS c f i (k+1):=by
 unfold XS
 rw[bJ,aZ,bl]
 simp[h,cdA,d,hv,e,b]
theorem QpG (h:¬(cdA c k=cdA c i∧f i k=true)):XS c f i k=XS c f i (k+1):=by
 unfold XS
 rw[bJ,aZ,bl]
 have:(decide (i < k)&&(decide (cdA c k=cdA c i)&&f i k))=false:=by
  cases b:decide (cdA c k=cdA c i)&&f i k with
  | false=>simp
  | true=>simp only[aI,aQ] at b; exact absurd b h
 simp[this]
theorem QoO (h:c.2.1[k]? =some u):cdA c k=u:=by unfold cdA; rw[h]; rfl
theorem V3:Z4 c f i++XS c f i c.2.1.length=Z4 c f (i+1):=by
 unfold Z4
 rw[bJ,db]; simp
theorem QcD:(XS c f i k).length≤k:=by unfold XS; rw[aF]; exact aU (bK ..) (by simp)
theorem QrN:(Z4 c f i).length≤i*c.2.1.length:=by
 induction i with
 | zero=>simp[Z4]
 | succ i b=>
  rw[← V3,aj,Nat.succ_mul]
  have:=QcD (c:=c) (f:=f) (i:=i) (k:=c.2.1.length)
  omega
theorem Hg (b:c.2.1.length≤300)(hi:i≤c.2.1.length):(Z4 c f i).length≤90000:=by
 have d:=QrN (c:=c) (f:=f) (i:=i)
 have e:i*c.2.1.length≤300*300:=cY (by omega) b
 omega
theorem Qll {p:List Int}(h:p∈XS c f i k):∃j:Nat,j < k∧i < j∧p=[(i:Int),(j:Int)]:=by
 unfold XS at h
 obtain ⟨j,b,rfl⟩:=bF.1 h
 rw[cn,cj] at b
 simp only[aI,aQ] at b
 exact ⟨j,b.1,b.2.1,rfl⟩
theorem QrO {p:List Int}(h:p∈Z4 c f n)(q:n≤c.2.1.length):2≤p.length∧∀x∈p,0≤x∧x < (c.2.1.length:Int):=by
 unfold Z4 at h
 obtain ⟨i,d,h⟩:=List.mem_flatMap.1 h
 rw[cj] at d
 obtain ⟨j,e,o,rfl⟩:=Qll h
 refine ⟨by simp,fun x b=> ?_⟩
 simp only[aK,cO,or_false] at b
 rcases b with rfl | rfl <;> omega
theorem Qlk (q:List Int→Bool):(XS c f i k).filter q=XS c (fun i j=>f i j&&q [(i:Int),(j:Int)]) i k:=by
 unfold XS
 rw[List.filter_map,List.filter_filter]
 congr 1
 apply dh
 intro j _
 simp only[Function.comp]
 cases decide (i < j) <;> cases decide (cdA c j=cdA c i) <;> cases f i j <;> simp
theorem QdN (q:List Int→Bool):(Z4 c f n).filter q=Z4 c (fun i j=>f i j&&q [(i:Int),(j:Int)]) n:=by
 induction n with
 | zero=>rfl
 | succ n b=>rw[← V3,← V3,aZ,b,Qlk]
theorem Qfm (h:∀i j,i < n→j < c.2.1.length→f i j=g i j):Z4 c f n=Z4 c g n:=by
 induction n with
 | zero=>rfl
 | succ n d=>
  rw[← V3,← V3,d fun i j e b=>h i j (by omega) b]
  congr 1
  unfold XS
  congr 1
  apply dh
  intro j b
  rw[cj] at b
  rw[h n j (by omega) b]
theorem Qly (b:Nat):Nat.testBit 3 b=decide (b < 2):=by
 match b with
 | 0=>rfl
 | 1=>rfl
 | b+2=>
  rw[show (3:Nat)=2 ^ 2 - 1 from rfl,Nat.testBit_two_pow_sub_one]
theorem QwW (m t:Nat):((m / 2 ^ t) &&& 3=0)↔(m.testBit t=false∧m.testBit (t+1)=false):=by
 rw[← Nat.shiftRight_eq_div_pow]
 constructor
 ·intro h
  have d:=congrArg (fun z=>Nat.testBit z 0) h
  have e:=congrArg (fun z=>Nat.testBit z 1) h
  simp only[Nat.testBit_and,Nat.testBit_shiftRight,Qly,Nat.zero_testBit,cz] at d e
  simpa using And.intro d e
 ·rintro ⟨d,e⟩
  apply Nat.eq_of_testBit_eq
  intro b
  rw[Nat.testBit_and,Nat.testBit_shiftRight,Qly,Nat.zero_testBit]
  match b with
  | 0=>simp[d]
  | 1=>simp[e]
  | b+2=>simp
theorem QqT (b:0≤m):Qlj m s=true↔(m.toNat.testBit (2*s).toNat=false∧m.toNat.testBit ((2*s).toNat+1)=false):=by
 unfold Qlj
 rw[aQ,← QwW]
 have:(m / 2 ^ (2*s).toNat).toNat=m.toNat / 2 ^ (2*s).toNat:=by
  have e:m / 2 ^ (2*s).toNat=((m.toNat / 2 ^ (2*s).toNat:Nat):Int):=by
   rw[Int.natCast_ediv,cF b,Int.natCast_pow]; rfl
  rw[e]; rfl
 rw[this]
 show (((m.toNat / 2 ^ (2*s).toNat) &&& 3:Nat):Int)=0↔_
 omega
theorem QuL {l:Int×Bool}(h:0≤l.1)(b:Nat):(mkV l).toNat.testBit b=decide (b=(2*l.1).toNat+(if l.2=true then 1 else 0)):=by
 have e:(mkV l).toNat=2 ^ ((2*l.1).toNat+(if l.2=true then 1 else 0)):=by
  unfold mkV
  obtain ⟨x,o⟩:=l
  cases o
  ·simp only[bt,if_false,Int.one_mul,cz]
   have:((2:Int) ^ (2*x).toNat)=((2 ^ (2*x).toNat:Nat):Int):=by rw[Int.natCast_pow]; rfl
   rw[this]; rfl
  ·simp only[if_true]
   have:(2:Int)*2 ^ (2*x).toNat=((2 ^ ((2*x).toNat+1):Nat):Int):=by rw[Int.natCast_pow,Int.pow_succ,Int.mul_comm]; rfl
   rw[this]; rfl
 rw[e,Nat.testBit_two_pow]
 by_cases d:b=(2*l.1).toNat+(if l.2=true then 1 else 0)
 ·simp[d]
 ·simp[d,Ne.symm d]
theorem Qdl:∀(as_:List DAr) (s0:List Int) (k:Nat) (b:Nat),(∀a∈as_,0≤a.1)→k < s0.length→
 ((((as_.foldl orA s0)[k]?).getD 0).toNat.testBit b=true↔((s0[k]?).getD 0).toNat.testBit b=true∨∃a∈as_,0≤a.2.1∧a.1=(k:Int)∧b=(2*a.2.1).toNat+(if a.2.2.1=true then 1 else 0))
 | [],s0,k,b,_,_=>by simp
 | a :: as_,s0,k,b,hr,hk=>by
  have t:=hr a (az ..)
  have q:(orA s0 a).length=s0.length:=by unfold orA; split <;> simp
  rw[aW,Qdl as_ (orA s0 a) k b (fun x d=>hr x (ay _ d)) (by omega)]
  have r:(((orA s0 a)[k]?).getD 0).toNat.testBit b=true↔((s0[k]?).getD 0).toNat.testBit b=true∨(0≤a.2.1∧a.1=(k:Int)∧b=(2*a.2.1).toNat+(if a.2.2.1=true then 1 else 0)):=by
   unfold orA
   split
   ·rename_i o
    by_cases e:a.1.toNat=k
    ·subst e
     rw[aM hk,aw]
     show ((((s0[a.1.toNat]?).getD 0).toNat ||| (mkV (a.2.1,a.2.2.1)).toNat)).testBit b=true↔_
     rw[Nat.testBit_or,bU,QuL o,aQ]
     have p:a.1=((a.1.toNat:Nat):Int):=by omega
     simp only[o,true_and]
     constructor
     ·rintro (h | h)
      ·exact .inl h
      ·exact .inr ⟨p,h⟩
     ·rintro (h | h)
      ·exact .inl h
      ·exact .inr h.2
    ·rw[aX e]
     have p:¬a.1=(k:Int):=fun h=>e (by omega)
     simp[p]
   ·rename_i o
    simp[o]
  rw[r]
  constructor
  ·rintro ((h | h) | ⟨x,d,h⟩)
   ·exact .inl h
   ·exact .inr ⟨a,az ..,h⟩
   ·exact .inr ⟨x,ay _ d,h⟩
  ·rintro (h | ⟨x,d,h⟩)
   ·exact .inl (.inl h)
   ·rcases aK.1 d with rfl | d
    ·exact .inl (.inr h)
    ·exact .inr ⟨x,d,h⟩
theorem HG (E:∀a∈c.2.2,0≤a.1)(w:k < c.2.1.length)(F:0≤s):Qlj (mAt (YT c.2.1.length c.2.2) (k:Int)) s= !ZT c k s:=by
 have z:0≤mAt (YT c.2.1.length c.2.2) (k:Int):=by
  unfold mAt
  rw[Int.toNat_natCast,ae (by rw[HE]; exact w)]
  exact Qad _ (cP _)
 have r:∀b,(mAt (YT c.2.1.length c.2.2) (k:Int)).toNat.testBit b=true↔∃a∈c.2.2,0≤a.2.1∧a.1=(k:Int)∧b=(2*a.2.1).toNat+(if a.2.2.1=true then 1 else 0):=fun b=>by
  unfold mAt YT
  rw[Int.toNat_natCast,Qdl c.2.2 _ k b E (by simpa using w)]
  simp[bS,w]
 rw[bP,QqT z,bO]
 have p:ZT c k s=true↔∃a∈c.2.2,a.1=(k:Int)∧a.2.1=s:=by
  unfold ZT
  rw[bY]
  simp
 constructor
 ·rintro ⟨C,D⟩
  cases t:ZT c k s with
  | false=>rfl
  | true=>
   obtain ⟨a,d,e,o⟩:=p.1 t
   cases A:a.2.2.1 with
   | false=>
    have:=(r (2*s).toNat).2 ⟨a,d,by omega,e,by rw[o,A]; simp⟩
    rw[C] at this; cases this
   | true=>
    have:=(r ((2*s).toNat+1)).2 ⟨a,d,by omega,e,by rw[o,A]; simp⟩
    rw[D] at this; cases this
 ·intro t
  have q:∀a∈c.2.2,¬(a.1=(k:Int)∧a.2.1=s):=fun a d h=>by
   rw[p.2 ⟨a,d,h⟩] at t; cases t
  constructor
  ·cases h:(mAt (YT c.2.1.length c.2.2) (k:Int)).toNat.testBit (2*s).toNat with
   | false=>rfl
   | true=>
    obtain ⟨a,d,B,e,o⟩:=(r _).1 h
    have:a.2.1=s:=by split at o <;> omega
    exact absurd ⟨e,this⟩ (q a d)
  ·cases h:(mAt (YT c.2.1.length c.2.2) (k:Int)).toNat.testBit ((2*s).toNat+1) with
   | false=>rfl
   | true=>
    obtain ⟨a,d,B,e,o⟩:=(r _).1 h
    have:a.2.1=s:=by split at o <;> omega
    exact absurd ⟨e,this⟩ (q a d)
theorem Qui (o:∀a∈c.2.2,0≤a.1):(Z4 c (fun _ _=>true) c.2.1.length).filter (fun p=>(Q6 c.1 c.1.length).any fun s=>WT (YT c.2.1.length c.2.2) p s)=Zt c:=by
 rw[QdN]
 unfold Zt
 refine Qfm fun i j q r=> ?_
 rw[Bool.true_and]
 unfold QaS
 have b:mAt [(i:Int),(j:Int)] 0=i:=rfl
 have d:mAt [(i:Int),(j:Int)] 1=j:=rfl
 rw[bP,bY,bY]
 constructor
 ·rintro ⟨s,e,h⟩
  obtain ⟨t,rfl,_,_⟩:=KZ.1 e
  refine ⟨_,e, ?_⟩
  unfold WT at h
  rw[b,d,HG o q (by omega),HG o r (by omega)] at h
  revert h
  cases ZT c i t <;> cases ZT c j t <;> simp
 ·rintro ⟨s,e,h⟩
  obtain ⟨t,rfl,_,_⟩:=KZ.1 e
  refine ⟨_,e, ?_⟩
  unfold WT
  rw[b,d,HG o q (by omega),HG o r (by omega)]
  revert h
  cases ZT c i t <;> cases ZT c j t <;> simp
theorem Qsp {α β:Type}{q:β→Bool}{f:α→β}{l:List α}{xs:List β}(h:l.map f=xs):(l.filter fun v=> !(!q (f v))).map f=xs.filter q:=by
 subst h
 rw[List.filter_map]
 congr 1
 apply dh
 intro v _
 simp
end
section
variable {c:DSg}{f:Nat→Nat→Bool}{i:Nat}{m:Int}{u v:ByteArray}
theorem Qsi (b:m≤(c.2.1.length:Int))(d:¬m < (c.2.1.length:Int)):Z4 c f i++XS c f i m.toNat=Z4 c f (i+1):=by rw[show m.toNat=c.2.1.length by omega,V3]
theorem QoR (h:(i:Int) < m)(d:c.2.1[m.toNat]? =some u)(hv:c.2.1[i]? =some v)(e:v=u)(b:f i m.toNat=true):(Z4 c f i++XS c f i m.toNat)++[[(i:Int),m]]=Z4 c f i++XS c f i (m+1).toNat:=by
 rw[show (m+1).toNat=m.toNat+1 by omega,← Qtf (by omega) d hv e.symm b,aO,show ((m.toNat:Nat):Int)=m by omega]
theorem QoQ (h:(i:Int) < m)(b:c.2.1[m.toNat]? =some u)(hv:c.2.1[i]? =some v)(e:¬v=u):Z4 c f i++XS c f i m.toNat=Z4 c f i++XS c f i (m+1).toNat:=by
 rw[show (m+1).toNat=m.toNat+1 by omega,← QpG fun g=>e (by rw[← QoO b,← QoO hv]; exact g.1.symm)]
theorem Qr3 (h:(i:Int) < m)(b:f i m.toNat=false):Z4 c f i++XS c f i m.toNat=Z4 c f i++XS c f i (m+1).toNat:=by
 rw[show (m+1).toNat=m.toNat+1 by omega,← QpG fun g=>by rw[b] at g; cases g.2]
end
theorem QoY {c:DSg}{i:Nat}{m:Int}{u v:ByteArray}(h:(i:Int) < m)(b:c.2.1[m.toNat]? =some u)(hv:c.2.1[i]? =some v)(e:v=u):(Z4 c (fun _ _=>true) i++XS c (fun _ _=>true) i m.toNat)++[[(i:Int),m]]=Z4 c (fun _ _=>true) i++XS c (fun _ _=>true) i (m+1).toNat:=QoR h b hv e rfl
theorem Quq {c:DSg}{i:Nat}{m:Int}{u v:ByteArray}(h:(i:Int) < m)(b:c.2.1[m.toNat]? =some u)(hv:c.2.1[i]? =some v)(e:¬v=u):Z4 c (fun _ _=>true) i++XS c (fun _ _=>true) i m.toNat=Z4 c (fun _ _=>true) i++XS c (fun _ _=>true) i (m+1).toNat:=QoQ h b hv e
theorem Qb2 (l:JY)(h:0≤l.1∧l.1≤7):FC Tryz.prog 503 [(true,[dI l.1,dB l.2])] [] 0 (QY (lI (mkV l))):=by
 refine Qv Tryz.func503 rfl rfl Tryz.ntmps503 fun r b q d t o e=> ?_
 refine acG 0 0 fun _=> ?_
 refine w_ ?_
 refine xbx 0 ?_
 refine w7 ?_
 cases p:(l.2)
 refine w5 ?_
 refine lc (Wu (Qy rfl) (Qa rfl) rfl (by omega))<|lc (Qj6 (Qy rfl) (Qa rfl) rfl (by omega) (by exact Qto (by omega) (by omega))) ?_
 refine w2 ?_
 refine Qd<|fqI b ?_
 (unfold mkV; simp only[*]; rfl)
 refine w4 ?_
 refine lc (Wu (Qy rfl) (Qa rfl) rfl (by omega))<|lc (Qj6 (Qy rfl) (Qa rfl) rfl (by omega) (by exact Qto (by omega) (by omega))) ?_
 refine w2 ?_
 refine Qd<|fqI b ?_
 (unfold mkV; simp only[*]; rfl)
theorem X7 (c:Zi)(A:SgW c):FC Tryz.prog 409 [(true,[.dat Ql c.1, .dat Qo c.2.1, .dat Qw c.2.2])] [] 0 (YB 3 .int (YT c.2.1.length c.2.2)):=by
 have Q:∀a∈c.2.2,InR c.2.1.length a:=fun a H=>(A.arcs a H).1
 have P:=A.some_
 have M:=A.few
 have R:=A.sig8
 refine Qv Tryz.func409 rfl rfl Tryz.ntmps409 fun U G T D V F E=> ?_
 refine w_ ?_
 refine xbx 0 ?_
 refine w5 ?_
 refine alL 7 fun _=> ?_
 refine w_ ?_
 refine lc (XB 1 (e:= .int) (n:=c.2.1.length) (Qa rfl) (Qa rfl) Z6 Qpn rfl (by omega) (by omega) rfl (Fresh.of rfl) (nlr rfl)) ?_
 refine w6 ?_
 refine alL 11 fun _=> ?_
 refine w4 ?_
 refine lp0 c.2.2.length (fun k=>⟨[(2,lf (.val (.slice none 0 0))),(3,lR 2),(11,lf (.dat Qw c.2.2)),(12,lI (c.2.2.length:Int)),(13,lI (k:Int))],[(2,some (.arr 3 .int (YT c.2.1.length (c.2.2.take k))))]⟩) ?_ fun k _=> ?_
 exact wp [(2,1)] ⟨(Qe (by simp only[cH]; rfl)),trivial⟩
 have O:=HE (n:=c.2.1.length) (as_:=c.2.2.take k)
 refine w4 ?_
 cases p:(decide ((k:Int) < (c.2.2.length:Int)))
 have q:=aa p
 refine w7 ?_
 refine Qd<|fo_ G ?_
 rw[QT (by omega)]
 have q:=ab p
 refine w5 ?_
 obtain ⟨ar,h⟩:=gx c.2.2 k
 have o:=Q _ (ah h)
 obtain ⟨⟨I,J⟩,K,L⟩:=o
 have z:=(A.arcs _ (ah h)).2
 have B:ar.2.1 < (c.1.length:Int):=Vf z
 have N:=Qwg (ar.2.1,ar.2.2.1)
 refine w2 ?_
 refine lc (xal 3 QD QU) ?_
 refine w5 ?_
 refine alI 18 fun _=> ?_
 refine w2 ?_
 cases r:(decide (0≤ar.2.1))
 have t:=aa r
 refine w6 ?_
 refine Qb ?_
 refine l0_ ?_
 exact wp [] ⟨(Qe (by first | exact Qpr h ‹_› C | exact QsU h ‹_›)),trivial⟩
 have t:=ab r
 refine w_ ?_
 obtain ⟨y,d⟩:=gx (YT c.2.1.length (c.2.2.take k)) ((ar.1).toNat)
 have C:=d
 have S:=Qad _ (ah d)
 apply dV (i3 20 _ _ _ (io 23 (lf (.ept 2 1 ((ar.1).toNat) 0)) :: io 24 (lI y) :: i4 25 _ _ _ _ [io 29 (ag [dI ar.2.1,dB ar.2.2.1]),io 30 (lI (mkV (ar.2.1,ar.2.2.1))),io 31 (lI ((y.toNat ||| (mkV (ar.2.1,ar.2.2.1)).toNat:Nat):Int)),io 32 (lf (.ept 2 1 ((ar.1).toNat) 0)),⟨none,lf (.val undef),[(2,some (.arr 3 .int ((YT c.2.1.length (c.2.2.take k)).set ((ar.1).toNat) ((y.toNat ||| (mkV (ar.2.1,ar.2.2.1)).toNat:Nat):Int))))]⟩])) [0,1,1,0,0,31,31,127,127,31,31,0,0,0]
 refine z3 ?_
 refine zz (fun _ b=>ac (QI (e:= .int) (b.v rfl) (b.en 2 rfl) (b.v rfl) Z6 Y6 rfl (by omega) (by first | omega | (simp only[ap]; omega))) rfl)<|zz (fun _ b=>ac (Q5 (e:= .int) (b.v rfl) (b.n 2 rfl) d rfl Y6 rfl rfl) rfl) ?_
 refine z4 ?_
 refine zz (fun _ b=>ac (Qi VB ⟨_,_,rfl,(b.w rfl),⟨_,_,rfl,(b.w rfl),rfl⟩⟩ (ak.1 rfl) rfl rfl) rfl) ?_
 refine zz (fun _ b=>ac (dK (Qb2 (ar.2.1,ar.2.2.1) (by simp only; omega)) Qnh) rfl) ?_
 refine zz (fun _ b=>ac (QtP (b.v rfl) (b.v rfl) rfl (by omega) (by omega)) rfl)<|zz (fun _ b=>ac (QI (e:= .int) (b.v rfl) (b.en 2 rfl) (b.v rfl) Z6 Y6 rfl (by omega) (by first | omega | (simp only[ap]; omega))) rfl)<|zz (fun _ b=>ac (QA (e:= .int) (z':=((y.toNat ||| (mkV (ar.2.1,ar.2.2.1)).toNat:Nat):Int)) (b.v rfl) (b.n 2 rfl) d rfl (b.w rfl) rfl Y6 rfl rfl) rfl) ?_
 exact zN
 refine w4 ?_
 refine Qb ?_
 refine l0_ ?_
 exact wp [] ⟨(Qe (by first | exact Qpr h ‹_› C | exact QsU h ‹_›)),trivial⟩
theorem Qbi (c:Zi)(N:c.2.1.length≤300):FC Tryz.prog 413 [(true,[.dat Ql c.1, .dat Qo c.2.1, .dat Qw c.2.2])] [] 0 (YB 123 Qz (Z4 c (fun _ _=>true) c.2.1.length)):=by
 refine Qv Tryz.func413 rfl rfl Tryz.ntmps413 fun Q L P H R K J=> ?_
 refine w_ ?_
 refine xbx 0 ?_
 refine w3 ?_
 refine lc (dBs 1 (e:=Qz) WG) ?_
 refine w6 ?_
 refine alL 9 fun _=> ?_
 refine w4 ?_
 refine lp0 c.2.1.length (fun i=>⟨[(1,lP 0 0),(2,lf (.val (.slice none 0 0))),(3,lR 2),(9,lf (.dat Qo c.2.1)),(10,lI (c.2.1.length:Int)),(11,lI (i:Int))],[bx 0 28 [.dat Ql c.1, .dat Qo c.2.1, .dat Qw c.2.2],ar 2 123 Qz (Z4 c (fun _ _=>true) i)]⟩) ?_ fun i _=> ?_
 exact wp [(2,1)] ⟨rfl,(Qe (rfl)),trivial⟩
 have D:=Hg (c:=c) (f:=fun _ _=>true) (i:=i) N
 refine w4 ?_
 cases t:(decide ((i:Int) < (c.2.1.length:Int)))
 have w:=aa t
 refine w7 ?_
 refine Qd<|fo_ L ?_
 (congr 1; omega)
 have w:=ab t
 refine w6 ?_
 obtain ⟨C,E⟩:=gx c.2.1 i
 have o:=E
 refine w11 ?_
 refine QP (fun F G=>∃(m:Int) (b:List (List Int)),F=((c.2.1.length:Int) - m).toNat∧((i:Int)+1≤m∧m≤(c.2.1.length:Int))∧(b=Z4 c (fun _ _=>true) i++XS c (fun _ _=>true) i m.toNat)∧G=⟨[(1,lP 0 0),(2,lf (.val (.slice none 0 0))),(3,lR 3),(4,lI (i:Int)),(5,lf (dS C)),(6,lI m),(9,lf (.dat Qo c.2.1)),(10,lI (c.2.1.length:Int)),(11,lI (i:Int)),(12,lB true),(13,lI (i:Int)),(14,lf (.elt .str C 0)),(15,lf (dS C)),(16,lI (i:Int)),(17,lI ((i:Int)+1))],[bx 0 28 [.dat Ql c.1, .dat Qo c.2.1, .dat Qw c.2.2],ar 3 123 Qz b]⟩) ⟨(i:Int)+1,Z4 c (fun _ _=>true) i,rfl,(by omega),(by rw[show ((i:Int)+1).toNat=i+1 by omega,Qbx,bs]),rfl⟩ ?_ ?_
 exact wp [(3,2)] ⟨rfl,(Qe (by first | rfl | simp)),trivial⟩
 rintro F G ⟨m,b,M,S,d,rfl⟩
 have O:b.length≤100000:=by rw[d,aj]; have:=QcD (c:=c) (f:=fun _ _=>true) (i:=i) (k:=m.toNat); have:=D (by omega); omega
 refine w5 ?_
 refine alL 20 fun _=> ?_
 refine w3 ?_
 cases z:(decide (m < (c.2.1.length:Int)))
 have A:=aa z
 refine w6 ?_
 refine Qb ?_
 refine l0_ ?_
 exact wp [(2,3)] ⟨rfl,(Qe ((by rw[d]; exact Qsi (by omega) (by omega)))),trivial⟩
 have A:=ab z
 refine w8 ?_
 obtain ⟨I,B⟩:=gx c.2.1 ((m).toNat)
 have p:=B
 refine w5 ?_
 cases q:(decide (I=C))
 have r:=aa q
 refine w7 ?_
 refine Qb<|QW ⟨(m+1),b,rfl,(by omega),(by rw[d]; first | exact QoY (by omega) p o (Eq.symm ‹_›) | exact Quq (by omega) p o (fun h=>absurd h.symm ‹_›)),rfl⟩ (by omega) ?_
 exact wo []
 have r:=ab q
 refine w5 ?_
 refine lc (dBs 4 (e:= .int) Yk) ?_
 refine lc (dBs 5 (e:=Qz) WG (hab:=by exact ⟨_,_,_,_,rfl,(.inl ⟨_,rfl,rfl,rfl⟩),⟨rfl,rfl⟩,rfl⟩)) ?_
 refine lc (dA 6 H5) ?_
 refine w_ ?_
 refine Qb ?_
 refine w5 ?_
 refine Qb<|QW ⟨(m+1),(b++([[(i:Int),m]])),rfl,(by omega),(by rw[d]; first | exact QoY (by omega) p o (Eq.symm ‹_›) | exact Quq (by omega) p o (fun h=>absurd h.symm ‹_›)),rfl⟩ (by omega) ?_
 exact wp [(3,6)] ⟨rfl,(Qe (by first | rfl | simp)),trivial⟩
theorem nbt {b:Bool}(h:b=false):(!b)=true:=by rw[h]; rfl
theorem nbf {b:Bool}(h:b=true):(!b)=false:=by rw[h]; rfl
theorem Quj {masks pair:List Int}{p q m0 o sig:Int}(e:pair[0]? =some p)(h:pair[1]? =some q)(b:masks[p.toNat]? =some m0)(d:masks[q.toNat]? =some o):
 (!((decide ((((m0 / 2 ^ (2*sig).toNat).toNat &&& (3:Int).toNat:Nat):Int)=0))==(decide ((((o / 2 ^ (2*sig).toNat).toNat &&& (3:Int).toNat:Nat):Int)=0))))=WT masks pair sig:=by
 unfold WT
 rw[Jx (x:=0) (by simpa using e),Jx (x:=1) (by simpa using h),Jx b,Jx d]
 rfl
theorem J1 (sig:Int)(masks:List Int)(pair:List Int)(A:∀x∈masks,0≤x)(D:2≤pair.length∧∀x∈pair,0≤x∧x < (masks.length:Int))(P:0≤sig∧sig≤7):FC Tryz.prog 415 [(false,[dI sig]),(false,[.ptr 0 0]),(false,[.ptr 1 0])] [bx 0 123 [.dat Qz masks],bx 1 123 [.dat Qz pair]] 2 (Is (lB (WT masks pair sig)) [bx 0 123 [.dat Qz masks],bx 1 123 [.dat Qz pair]]):=by
 refine Qv Tryz.func415 rfl rfl Tryz.ntmps415 fun N J M G O I H=> ?_
 refine acI 0 fun _=> ?_
 refine w3 ?_
 obtain ⟨K,d⟩:=gx pair 0
 have w:=d
 have E:=D.2 _ (ah d)
 obtain ⟨m0,e⟩:=gx masks ((K).toNat)
 have r:=e
 have B:=A _ (ah e)
 obtain ⟨L,h⟩:=gx pair 1
 have z:=h
 have F:=D.2 _ (ah h)
 obtain ⟨p,o⟩:=gx masks ((L).toNat)
 have t:=o
 have C:=A _ (ah o)
 apply dW (i7 5 _ _ _ _ _ _ _ (io 12 (lI (2*sig)) :: io 13 (lI (m0 / 2 ^ (2*sig).toNat)) :: io 14 (lI (((m0 / 2 ^ (2*sig).toNat).toNat &&& (3:Int).toNat:Nat):Int)) :: i8 15 _ _ _ _ _ _ _ _ [io 23 (lI (2*sig)),io 24 (lI (p / 2 ^ (2*sig).toNat)),io 25 (lI (((p / 2 ^ (2*sig).toNat).toNat &&& (3:Int).toNat:Nat):Int)),io 26 _,io 27 (lB (!((decide ((((m0 / 2 ^ (2*sig).toNat).toNat &&& (3:Int).toNat:Nat):Int)=0))==(decide ((((p / 2 ^ (2*sig).toNat).toNat &&& (3:Int).toNat:Nat):Int)=0))))),io 4 _])) [0,1,1,1,0,0,63,63,0,0,0,2047,4095,4095,4095,2047,2047,131071,131071,2047,2047,2047,0,0]
 refine z7 ?_
 refine zz (fun _ b=>ac (Wu (Qy rfl) (b.v rfl) rfl (by omega)) rfl)<|zz (fun _ b=>ac (Ha (b.v rfl) (b.v rfl) rfl (by omega) (by first | omega | exact bB (by omega) (bz (by decide)))) rfl)<|zz (fun _ b=>ac (J5 (b.v rfl) (Qy rfl) rfl (by first | omega | exact bB (by omega) (bz (by decide))) (by omega)) rfl) ?_
 refine z8 ?_
 refine zz (fun _ b=>ac (Wu (Qy rfl) (b.v rfl) rfl (by omega)) rfl)<|zz (fun _ b=>ac (Ha (b.v rfl) (b.v rfl) rfl (by omega) (by first | omega | exact bB (by omega) (bz (by decide)))) rfl)<|zz (fun _ b=>ac (J5 (b.v rfl) (Qy rfl) rfl (by first | omega | exact bB (by omega) (bz (by decide))) (by omega)) rfl) ?_
 refine z_ ?_
 refine zz (fun _ b=>ac (WQ (b.v rfl) (b.v rfl) rfl JU) rfl) ?_
 exact y1
 refine w_ ?_
 have q:(!((decide ((((m0 / 2 ^ (2*sig).toNat).toNat &&& (3:Int).toNat:Nat):Int)=0))==(decide ((((p / 2 ^ (2*sig).toNat).toNat &&& (3:Int).toNat:Nat):Int)=0))):Bool)=(WT masks pair sig):=by
  exact Quj w z r t
 exact fi_ [] J ⟨rfl,rfl,trivial⟩ (h0:=by rw[q] <;> rfl)
theorem Hq (l:List Int)(masks:List Int)(pair:List Int)(B:∀x∈masks,0≤x)(D:2≤pair.length∧∀x∈pair,0≤x∧x < (masks.length:Int))(C:∀s∈l,0≤s∧s≤7):FC Tryz.prog 462 [(false,[.dat Qz l]),(false,[.clo 415 [0,1]])] [bx 0 123 [.dat Qz masks],bx 1 123 [.dat Qz pair]] 2 (Is (lI (Zq (fun s=>WT masks pair s) l)) [bx 0 123 [.dat Qz masks],bx 1 123 [.dat Qz pair]]):=by
 refine Qv Tryz.func462 rfl rfl Tryz.ntmps462 fun F p E q G z w=> ?_
 refine w6 ?_
 refine alL 6 fun _=> ?_
 refine w4 ?_
 refine lpK l.length (fun k=>NoneTo (fun s=>WT masks pair s) l k) (fun k=>⟨[(0,lf (.dat Qz l)),(1,lf (.clo 415 [0,1])),(7,lI (l.length:Int)),(8,lI (k:Int))],[bx 0 123 [.dat Qz masks],bx 1 123 [.dat Qz pair]]⟩) (NoneTo.zero) ?_ fun k _ b=> ?_
 exact wo []
 refine w4 ?_
 cases e:(decide ((k:Int) < (l.length:Int)))
 have h:=aa e
 refine w7 ?_
 have r:((-1):Int)=(Zq (fun s=>WT masks pair s) l):=by
  first | exact (b.no (by omega)).symm
 exact fi_ [] p ⟨rfl,rfl,trivial⟩ (h0:=by rw[← r] <;> rfl)
 have h:=ab e
 refine w12 ?_
 obtain ⟨o,d⟩:=gx l k
 refine w2 ?_
 refine alI 15 fun _=> ?_
 refine lc (YH (args0:=[(false,[dI o])]) (caps:=[0,1]) 2 [(0,0),(1,1)] (J1 o masks pair B D (C _ (ah d))) Qm6 rfl (Qa rfl) rfl rfl ⟨_,_,rfl,(Qk rfl),rfl⟩ ⟨rfl,rfl,trivial⟩ rfl ⟨trivial,trivial,trivial⟩ (nlr rfl)) ?_
 refine w_ ?_
 cases A:(WT masks pair o)
 refine w6 ?_
 refine Qb ?_
 refine lK_ (b.step d ‹_›) ?_
 exact wo []
 refine w6 ?_
 have t:((k:Int):Int)=(Zq (fun s=>WT masks pair s) l):=by
  exact (b.at d ‹_›).symm
 exact fi_ [] p ⟨rfl,rfl,trivial⟩ (h0:=by rw[t] <;> rfl)
theorem Ku (l:List Int)(masks:List Int)(pair:List Int)(p:∀x∈masks,0≤x)(r:2≤pair.length∧∀x∈pair,0≤x∧x < (masks.length:Int))(q:∀s∈l,0≤s∧s≤7):FC Tryz.prog 362 [(false,[.dat Qz l]),(false,[.clo 415 [0,1]])] [bx 0 123 [.dat Qz masks],bx 1 123 [.dat Qz pair]] 2 (Is (lB (l.any (fun s=>WT masks pair s))) [bx 0 123 [.dat Qz masks],bx 1 123 [.dat Qz pair]]):=by
 refine Qv Tryz.func362 rfl rfl Tryz.ntmps362 fun w o t b z h e=> ?_
 refine w6 ?_
 refine lc (dP 2 [] (Hq l masks pair p r q) QfQ) ?_
 refine w4 ?_
 have d:(decide (0≤(Zq (fun s=>WT masks pair s) l)):Bool)=(l.any (fun s=>WT masks pair s)):=by
  exact Vq _ _
 exact fi_ [] o ⟨rfl,rfl,trivial⟩ (h0:=by rw[d] <;> rfl)
theorem VO (pair:List Int)(b:List Int)(masks:List Int)(p:∀x∈masks,0≤x)(r:2≤pair.length∧∀x∈pair,0≤x∧x < (masks.length:Int))(q:∀s∈b,0≤s∧s≤7):FC Tryz.prog 414 [(false,[.dat Qz pair]),(false,[.ptr 0 0]),(false,[.ptr 1 0])] [bx 0 123 [.dat Qz b],bx 1 123 [.dat Qz masks]] 2 (Is (lB (!(b.any (fun s=>WT masks pair s)))) [bx 0 123 [.dat Qz b],bx 1 123 [.dat Qz masks]]):=by
 refine Qv Tryz.func414 rfl rfl Tryz.ntmps414 fun w o t d z h e=> ?_
 refine w_ ?_
 refine xbx 2 ?_
 refine w4 ?_
 refine lc (YI ⟨_,_,rfl,(Qa rfl),rfl,⟨_,_,rfl,(Qa rfl),rfl,rfl⟩⟩ rfl) ?_
 refine lc (dP 3 [(0,1),(1,2)] (Ku b masks pair p r q) QfK) ?_
 refine w4 ?_
 exact fi_ [] o ⟨rfl,rfl,trivial⟩
theorem Qbd (l:List Hdr)(e:List Hdr)(d:Hdr→List Int)(b:List Int)(masks:List Int)(G:∀x∈masks,0≤x)(hv:∀v∈e,2≤(d v).length∧∀x∈d v,0≤x∧x < (masks.length:Int))(H:∀s∈b,0≤s∧s≤7)(t:∀v∈l,v∈e)(L:l.length≤1000000):FC Tryz.prog 504 [(false,[.ref 3]),(false,[.clo 414 [0,1]])] [bx 0 123 [.dat Qz b],bx 1 123 [.dat Qz masks],(2,some (.pl false Qz e d)),ar 3 123 .vl l] 4 (Is (lI (Zq (fun v:Hdr=> !(b.any (fun s=>WT masks (d v) s))) l)) [bx 0 123 [.dat Qz b],bx 1 123 [.dat Qz masks],(2,some (.pl false Qz e d)),ar 3 123 .vl l]):=by
 refine Qv Tryz.func504 rfl rfl Tryz.ntmps504 fun J z I A K E D=> ?_
 refine w10 ?_
 refine lpK l.length (fun k=>NoneTo (fun v:Hdr=> !(b.any (fun s=>WT masks (d v) s))) l k) (fun k=>⟨[(0,lR 3),(1,lf (.clo 414 [0,1])),(7,lI (l.length:Int)),(8,lI (k:Int))],[bx 0 123 [.dat Qz b],bx 1 123 [.dat Qz masks],(2,some (.pl false Qz e d)),ar 3 123 .vl l]⟩) (NoneTo.zero) ?_ fun k _ o=> ?_
 exact wo []
 refine w4 ?_
 cases q:(decide ((k:Int) < (l.length:Int)))
 have r:=aa q
 refine w7 ?_
 have B:((-1):Int)=(Zq (fun v:Hdr=> !(b.any (fun s=>WT masks (d v) s))) l):=by
  first | exact (o.no (by omega)).symm
 exact fi_ [] z ⟨rfl,rfl,rfl,rfl,trivial⟩ (h0:=by rw[← B] <;> rfl)
 have r:=ab q
 refine w13 ?_
 obtain ⟨w,h⟩:=gx l k
 refine w_ ?_
 refine lc (YH (args0:=[(false,[.dat Qz (d w)])]) (caps:=[0,1]) 4 [(0,0),(1,1)] (VO (d w) b masks G (hv _ (t _ (ah h))) H) QfO rfl (Qa rfl) rfl rfl ⟨_,_,rfl,(Evl.ev (Qrq (p:=2) (Qa rfl) rfl (t _ (ah h)))),rfl⟩ ⟨rfl,rfl,trivial⟩ rfl ⟨trivial,trivial,trivial⟩ (nlr rfl)) ?_
 refine w_ ?_
 cases F:(b.any (fun s=>WT masks (d w) s))
 refine w6 ?_
 have C:((k:Int):Int)=(Zq (fun v:Hdr=> !(b.any (fun s=>WT masks (d v) s))) l):=by
  exact (o.at h (nbt ‹_›)).symm
 exact fi_ [] z ⟨rfl,rfl,rfl,rfl,trivial⟩ (h0:=by rw[C] <;> rfl)
 refine w6 ?_
 refine Qb ?_
 refine lK_ (o.step h (nbf ‹_›)) ?_
 exact wo []
theorem Qao (l:List Hdr)(q:List Hdr)(o:Hdr→List Int)(d:List Int)(masks:List Int)(H:∀x∈masks,0≤x)(hv:∀v∈q,2≤(o v).length∧∀x∈o v,0≤x∧x < (masks.length:Int))(I:∀s∈d,0≤s∧s≤7)(z:∀v∈l,v∈q)(S:l.length≤1000000):FC Tryz.prog 412 [(false,[.ref 3]),(false,[.clo 414 [0,1]])] [bx 0 123 [.dat Qz d],bx 1 123 [.dat Qz masks],(2,some (.pl false Qz q o)),ar 3 123 .vl l] 3 (Is (lR 4) [bx 0 123 [.dat Qz d],bx 1 123 [.dat Qz masks],(2,some (.pl false Qz q o)),ar 4 123 .vl (l.filter (fun v:Hdr=> !(!(d.any (fun s=>WT masks (o v) s)))))]):=by
 have R:=QkT (fun v:Hdr=> !(d.any (fun s=>WT masks (o v) s))) l
 refine Qv Tryz.func412 rfl rfl Tryz.ntmps412 fun V F U L W N M=> ?_
 refine w6 ?_
 refine lc (dP 4 [] (Qbd l q o d masks H hv I z S) Qni) ?_
 refine w7 ?_
 refine cd_ (fun _ _=> ?_) fun _ _=> ?_
 refine w8 ?_
 refine QP (fun J K=>∃(i:Int) (j:Int) (r:List Hdr),J=((r.length:Int) - j).toNat∧(DelI (fun v:Hdr=> !(!(d.any (fun s=>WT masks (o v) s)))) l r i j)∧K=⟨[(0,lR 8),(1,lf (.clo 414 [0,1])),(4,lf (.val (.slice none 0 0))),(5,lI i),(6,lI j)],[bx 0 123 [.dat Qz d],bx 1 123 [.dat Qz masks],(2,some (.pl false Qz q o)),ar 8 123 .vl r]⟩) ⟨Zq (fun v:Hdr=> !(d.any (fun s=>WT masks (o v) s))) l,(Zq (fun v:Hdr=> !(d.any (fun s=>WT masks (o v) s))) l)+1,l,rfl,(DelI.start ‹_›),rfl⟩ ?_ ?_
 exact wo [(8,3)]
 rintro J K ⟨i,j,r,T,w,rfl⟩
 have O:=w.1
 have P:=w.2.1
 refine w7 ?_
 cases B:(decide (j < (r.length:Int)))
 have C:=aa B
 refine w6 ?_
 refine lc (Yh (e:= .vl) (a:=(i).toNat) (b:=r.length - (i).toNat) (l:=(some i)) (h:=none) (Qa rfl) rfl (by exact (Qa rfl)) (by exact trivial) W5 Xh rfl (by first | (simp only[ax,aw]; omega) | omega | (simp only[ax,aw,aj,ao,aA]; omega)) (by first | (simp only[ax,aw]; omega) | omega | (simp only[ax,aw,aj,ao,aA]; omega)) (by first | (simp only[ax,aw]; omega) | omega | (simp only[ax,aw,aj,ao,aA]; omega)) (by first | rfl | simp) (by first | rfl | simp))<|lc (QdJ (e:= .vl) (Qa rfl) rfl (by omega) W5 WG rfl rfl rfl) ?_
 refine w4 ?_
 refine lc (Yh (e:= .vl) (a:=0) (b:=(i).toNat) (l:=none) (h:=(some i)) (Qa rfl) rfl (by exact trivial) (by exact (Qa rfl)) W5 Xh rfl (by first | (simp only[ax,aw]; omega) | omega | (simp only[ax,aw,aj,ao,aA]; omega)) (by first | (simp only[ax,aw]; omega) | omega | (simp only[ax,aw,aj,ao,aA]; omega)) (by first | (simp only[ax,aw]; omega) | omega | (simp only[ax,aw,aj,ao,aA]; omega)) (by first | rfl | simp) (by first | rfl | simp)) ?_
 refine w2 ?_
 refine AC.wk (Qfh 9 4 (e:= .vl) (xs:=r.take ((i).toNat)++List.replicate (r.length - (i).toNat) (Ty.zero .vl)) rfl rfl (by first | omega | (simp only[aj,ao,aA]; omega)) rfl (Fresh.of rfl) (nlr rfl))<|Qd ?_
 exact fi_ [(4,9)] F ⟨rfl,rfl,rfl,(Qe (by exact w.end_ ‹_› _ (by omega))),trivial⟩
 have C:=ab B
 refine w8 ?_
 obtain ⟨E,A⟩:=gx r ((j).toNat)
 have t:=A
 refine w6 ?_
 refine lc (YH (args0:=[(false,[.dat Qz (o E)])]) (caps:=[0,1]) 10 [(0,0),(1,1)] (VO (o E) d masks H (hv _ (z _ (ah (w.at_ A)))) I) QfO rfl (Qa rfl) rfl rfl ⟨_,_,rfl,(Evl.ev (Qrq (p:=2) (Qa rfl) rfl (z _ (ah (w.at_ A))))),rfl⟩ ⟨rfl,rfl,trivial⟩ rfl ⟨trivial,trivial,trivial⟩ (nlr rfl)) ?_
 refine w2 ?_
 cases Q:(!(d.any (fun s=>WT masks (o E) s)))
 refine w6 ?_
 obtain ⟨X,D⟩:=gx r ((i).toNat)
 have G:=D
 refine lc (QA (e:= .vl) (z':=E) (Qa rfl) rfl D rfl (Qk rfl) rfl Xh rfl rfl) ?_
 refine w5 ?_
 refine Qb ?_
 refine w5 ?_
 refine Qb<|QW ⟨(i+1),(j+1),(r.set ((i).toNat) E),rfl,(by exact w.keep t (nbt ‹_›)),rfl⟩ (by first | omega | (simp only[ap]; omega)) ?_
 exact wp [] ⟨rfl,rfl,rfl,(Qe (by first | rfl | simp)),trivial⟩
 refine w7 ?_
 refine Qb<|QW ⟨i,(j+1),r,rfl,(by exact w.drop_ t (nbf ‹_›)),rfl⟩ (by first | omega | (simp only[ap]; omega)) ?_
 exact wo []
 refine w5 ?_
 exact fi_ [(4,3)] F ⟨rfl,rfl,rfl,(Qe (by exact QdR ‹_›)),trivial⟩
theorem Wy (c:Zi)(o:SgW c):FC Tryz.prog 293 [(true,[.dat Ql c.1, .dat Qo c.2.1, .dat Qw c.2.2])] [] 0 (QY (lf (.dat Vz (Zt c)))):=by
 have L:∀a∈c.2.2,InR c.2.1.length a:=fun a A=>(o.arcs a A).1
 have K:=o.some_
 have J:=o.few
 have M:=o.sig8
 have C:=Qad (n:=c.2.1.length) (as_:=c.2.2)
 have B:=HE (n:=c.2.1.length) (as_:=c.2.2)
 have D:∀s∈Q6 c.1 c.1.length,0≤s∧s≤7:=fun s h=>by obtain ⟨t,rfl,S,_⟩:=KZ.1 h; omega
 have I:=Hg (c:=c) (f:=fun _ _=>true) (i:=c.2.1.length) (by omega) (aJ _)
 refine Qv Tryz.func293 rfl rfl Tryz.ntmps293 fun Q H P E R G F=> ?_
 refine w_ ?_
 refine xbx 0 ?_
 refine w2 ?_
 apply dW [io 5 _,io 6 (lf (.dat Qz (YT c.2.1.length c.2.2))),io 7 _,io 8 (lf (.dat Qz (Q6 c.1 c.1.length))),⟨some 3,lP 1 0,[bx 1 123 [.val (.slice none 0 0)]]⟩,⟨some 4,lP 2 0,[bx 2 123 [.val (.slice none 0 0)]]⟩,⟨none,lf (.val undef),[bx 1 123 [.dat Qz (YT c.2.1.length c.2.2)]]⟩,⟨none,lf (.val undef),[bx 2 123 [.dat Qz (Q6 c.1 c.1.length)]]⟩] [0,0,3,0,15,31,0,0]
 refine z_ ?_
 refine zz (fun _ d=>ac (dK (X7 c o).frozen Qa2) rfl) ?_
 refine z_ ?_
 refine zz (fun _ d=>ac (dK (JP c (by omega)).frozen QfC) rfl) ?_
 refine zz (fun _ d=>ac (Yl 1 Qz WG rfl rfl (d.fr 1 rfl) (nlr rfl)) rfl)<|zz (fun _ d=>ac (Yl 2 Qz WG rfl rfl (d.fr 2 rfl) (nlr rfl)) rfl) ?_
 exact y2
 refine w2 ?_
 refine lc (dO 3 (Qbi c (by omega)) Qm5) ?_
 refine lc (YI ⟨_,_,rfl,(Qa rfl),rfl,⟨_,_,rfl,(Qa rfl),rfl,rfl⟩⟩ rfl)<|AL.pool (q:=3) (e:= .int) 4 rfl (Fresh.of rfl) (nlr rfl) fun r w b=> ?_
 refine lc (dP 5 [(0,2),(2,4)] (Qao r r w (Q6 c.1 c.1.length) (YT c.2.1.length c.2.2) C (fun v N=>by rw[B]; exact QrO (by rw[← b]; exact List.mem_map_of_mem N) (aJ _)) D (fun _ h=>h) (by have:=congrArg List.length b; rw[aF] at this; omega)) Qm4) ?_
 refine w2 ?_
 refine AC.wk (QrI (i:=2) (q:=9) (p:=4) rfl rfl rfl (fun z O=>(cn.1 O).1))<|Qd<|fq_ H ?_
 exact (Qsp b).trans (Qui fun a A=>(L a A).1.1)
end Go.Proofs.YtndabgcpnmeeoaaGreat
