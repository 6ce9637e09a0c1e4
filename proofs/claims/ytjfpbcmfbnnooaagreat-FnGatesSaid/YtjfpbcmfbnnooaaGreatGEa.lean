/- Walks over abstract states: masks of labels; pairs of states that violate complete state coding, the program. -/
import Derived.Test.YtjfpbcmfbnnooaaGreatGUd
import Derived.Test.YtjfpbcmfbnnooaaGreatGBc
import Derived.Test.YtjfpbcmfbnnooaaGreatGStr
import Derived.Test.YtjfpbcmfbnnooaaGreatProg
import Derived.KernelRfl
import Derived.Test.YtjfpbcmfbnnooaaGreatGWz
import Derived.Test.YtjfpbcmfbnnooaaGreatGWk
set_option linter.unusedSimpArgs false
set_option linter.unusedVariables false
set_option linter.unusedSectionVars false
namespace Go.Proofs.YtjfpbcmfbnnooaaGreat
open Go.RowKit
set_option maxRecDepth 100000
set_option maxHeartbeats 4000000
structure SgW (c:DSg):Prop where
  sig8:c.1.length≤8
  some_:1≤c.2.1.length∧c.2.1.length≤300
  few:c.2.2.length≤4000
  arcs:∀a∈c.2.2,InR c.2.1.length a∧KD (c.1.length:Int) (a.2.1,a.2.2.1)
theorem SgOk.w {c:DSg}(h:SgOk c):SgW c:=⟨h.sigs.2.2,h.some_,h.few,fun a b=>⟨Qa9 (h.arcs a b),(h.arcs a b).2.2.1⟩⟩
def mkV (l:Int×Bool):Int:=(if l.2=true then 2 else 1)*2 ^ (2*l.1).toNat
def orA (s:List Int)(a:DAr):List Int:=if 0≤a.2.1 then s.set a.1.toNat (((((s[a.1.toNat]?).getD 0).toNat ||| (mkV (a.2.1,a.2.2.1)).toNat:Nat)):Int) else s
def Xz (n:Nat)(as_:List DAr):List Int:=as_.foldl orA (List.replicate n 0)
def mAt (l:List Int)(x:Int):Int:=(l[x.toNat]?).getD 0
def Qkl (m:Int)(s:Int):Bool:=decide ((((m / 2 ^ (2*s).toNat).toNat &&& (3:Int).toNat:Nat):Int)=0)
def Wy (masks pair:List Int)(s:Int):Bool:= !(Qkl (mAt masks (mAt pair 0)) s==Qkl (mAt masks (mAt pair 1)) s)
def QW (c:DSg)(k s:Int):Bool:=c.2.2.any fun a=>decide (a.1=k∧a.2.1=s)
def cdA (c:DSg)(j:Nat):ByteArray:=(c.2.1[j]?).getD ByteArray.empty
def Wi (c:DSg)(f:Nat→Nat→Bool)(i k:Nat):List (List Int):=((List.range k).filter fun j=>decide (i<j)&&(decide (cdA c j=cdA c i)&&f i j)).map fun j:Nat=>[(i:Int),(j:Int)]
def Yv (c:DSg)(f:Nat→Nat→Bool)(i:Nat):List (List Int):=(List.range i).flatMap fun i=>Wi c f i c.2.1.length
def QuE (c:DSg)(i j:Nat):Bool:=(QD c.1 c.1.length).any fun s=> !(QW c i s==QW c j s)
def QcS (c:DSg):List (List Int):=Yv c (QuE c) c.2.1.length
section
variable {c:DSg}{as_:List DAr}{a:DAr}{i j k n:Nat}{f g:Nat→Nat→Bool}{s x y m:Int}{l masks pair:List Int}{u v:ByteArray}
theorem Qth {m x:Int}(d:0≤m∧m≤2)(h:0≤x∧x≤14): -9223372036854775808≤m*2 ^ x.toNat∧m*2 ^ x.toNat≤9223372036854775807:=by
 have e:(2:Int) ^ x.toNat≤2 ^ 14:=by
  have:(2:Nat) ^ x.toNat≤2 ^ 14:=Nat.pow_le_pow_right (by omega) (by omega)
  exact_mod_cast this
 have b:(0:Int)≤2 ^ x.toNat:=bY (by decide)
 have o:m*2 ^ x.toNat≤2*2 ^ 14:=Int.mul_le_mul d.2 e b (by decide)
 have p:0≤m*2 ^ x.toNat:=Int.mul_nonneg d.1 b
 exact ⟨by omega,Int.le_trans o (by decide)⟩
theorem Qxx (l:Int×Bool):0≤mkV l:=by
 unfold mkV
 exact Int.mul_nonneg (by split <;> decide) (bY (by decide))
theorem Qhl:∀(as_:List DAr) (s:List Int),(as_.foldl orA s).length=s.length
 | [],_=>rfl
 | a::as_,s=>by
  rw[bC,Qhl as_]
  unfold orA
  split <;> simp
theorem QbC:(Xz n as_).length=n:=by unfold Xz;rw[Qhl];simp
theorem QjQ:∀(as_:List DAr) (s:List Int),(∀x∈s,0≤x)→∀x∈as_.foldl orA s,0≤x
 | [],_,h=>h
 | a::as_,s,h=>by
  rw[bC]
  refine QjQ as_ _ ?_
  unfold orA
  split
  ·intro x b
   rcases ck b with b|rfl
   ·exact h x b
   ·exact bV _
  ·exact h
theorem QdY:∀x∈Xz n as_,0≤x:=QjQ as_ _ (by simp)
theorem Qn4 (d:as_[k]? =some a)(h:0≤a.2.1)(b:(Xz n (as_.take k))[a.1.toNat]? =some y):(Xz n (as_.take k)).set a.1.toNat (((y.toNat ||| (mkV (a.2.1,a.2.2.1)).toNat:Nat)):Int)=Xz n (as_.take (k+1)):=by
 unfold Xz at*
 rw[QE d,cP,bC,List.foldl_nil]
 unfold orA
 rw[if_pos h]
 unfold orA at b
 rw[b];rfl
theorem QsD (b:as_[k]? =some a)(h:¬0≤a.2.1):Xz n (as_.take k)=Xz n (as_.take (k+1)):=by
 unfold Xz
 rw[QE b,cP,bC,List.foldl_nil,orA,if_neg h]
theorem QbB (h:l[x.toNat]? =some y):mAt l x=y:=by unfold mAt;rw[h];rfl
theorem Qf7:Wi c f i (i+1)=[]:=by
 unfold Wi
 rw[List.map_eq_nil_iff,List.filter_eq_nil_iff]
 intro j b
 rw[bH] at b
 simp;intro h;omega
theorem Qs0 (h:i<k)(d:c.2.1[k]? =some u)(hv:c.2.1[i]? =some v)(e:u=v)(b:f i k=true):Wi c f i k++[[(i:Int),(k:Int)]]=Wi c f i (k+1):=by
 unfold Wi
 rw[bO,bE,bB]
 simp[h,cdA,d,hv,e,b]
theorem Qvt (h:¬(cdA c k=cdA c i∧f i k=true)):Wi c f i k=Wi c f i (k+1):=by
 unfold Wi
 rw[bO,bE,bB]
 have:(decide (i<k)&&(decide (cdA c k=cdA c i)&&f i k))=false:=by
  cases b:decide (cdA c k=cdA c i)&&f i k with
  | false=>simp
  | true=>simp only[aM,aU] at b;exact absurd b h
 simp[this]
theorem Qnn (h:c.2.1[k]? =some u):cdA c k=u:=by unfold cdA;rw[h];rfl
theorem Vz:Yv c f i++Wi c f i c.2.1.length=Yv c f (i+1):=by
 unfold Yv
 rw[bO,cB];simp
theorem Qf6:(Wi c f i k).length≤k:=by unfold Wi;rw[aH];exact bh (cq ..) (by simp)
theorem QqW:(Yv c f i).length≤i*c.2.1.length:=by
 induction i with
 | zero=>simp[Yv]
 | succ i b=>
  rw[← Vz,ah,Nat.succ_mul]
  have:=Qf6 (c:=c) (f:=f) (i:=i) (k:=c.2.1.length)
  omega
theorem Qa8 (b:c.2.1.length≤300)(hi:i≤c.2.1.length):(Yv c f i).length≤90000:=by
 have d:=QqW (c:=c) (f:=f) (i:=i)
 have e:i*c.2.1.length≤300*300:=cE (by omega) b
 omega
theorem Qkn {p:List Int}(h:p∈Wi c f i k):∃j:Nat,j<k∧i<j∧p=[(i:Int),(j:Int)]:=by
 unfold Wi at h
 obtain ⟨j,b,rfl⟩:=bd.1 h
 rw[bP,bH] at b
 simp only[aM,aU] at b
 exact ⟨j,b.1,b.2.1,rfl⟩
theorem QqX {p:List Int}(h:p∈Yv c f n)(q:n≤c.2.1.length):2≤p.length∧∀x∈p,0≤x∧x<(c.2.1.length:Int):=by
 unfold Yv at h
 obtain ⟨i,d,h⟩:=cp.1 h
 rw[bH] at d
 obtain ⟨j,e,o,rfl⟩:=Qkn h
 refine ⟨by simp,fun x b=> ?_⟩
 simp only[aJ,bN,or_false] at b
 rcases b with rfl|rfl <;> omega
theorem Qkm (q:List Int→Bool):(Wi c f i k).filter q=Wi c (fun i j=>f i j&&q [(i:Int),(j:Int)]) i k:=by
 unfold Wi
 rw[List.filter_map,List.filter_filter]
 congr 1
 apply List.filter_congr
 intro j _
 simp only[Function.comp]
 cases decide (i<j) <;> cases decide (cdA c j=cdA c i) <;> cases f i j <;> simp
theorem QcQ (q:List Int→Bool):(Yv c f n).filter q=Yv c (fun i j=>f i j&&q [(i:Int),(j:Int)]) n:=by
 induction n with
 | zero=>rfl
 | succ n b=>rw[← Vz,← Vz,bE,b,Qkm]
theorem Qeq (h:∀i j,i<n→j<c.2.1.length→f i j=g i j):Yv c f n=Yv c g n:=by
 induction n with
 | zero=>rfl
 | succ n d=>
  rw[← Vz,← Vz,d fun i j e b=>h i j (by omega) b]
  congr 1
  unfold Wi
  congr 1
  apply List.filter_congr
  intro j b
  rw[bH] at b
  rw[h n j (by omega) b]
theorem Qkv (b:Nat):Nat.testBit 3 b=decide (b<2):=by
 match b with
 | 0=>rfl
 | 1=>rfl
 | b+2=>
  rw[show (3:Nat)=2 ^ 2 - 1 from rfl,Nat.testBit_two_pow_sub_one]
theorem QAP (m t:Nat):((m / 2 ^ t) &&& 3=0)↔(m.testBit t=false∧m.testBit (t+1)=false):=by
 rw[← Nat.shiftRight_eq_div_pow]
 constructor
 ·intro h
  have d:=congrArg (fun z=>Nat.testBit z 0) h
  have e:=congrArg (fun z=>Nat.testBit z 1) h
  simp only[Nat.testBit_and,Nat.testBit_shiftRight,Qkv,Nat.zero_testBit,dn] at d e
  simpa using And.intro d e
 ·rintro ⟨d,e⟩
  apply Nat.eq_of_testBit_eq
  intro b
  rw[Nat.testBit_and,Nat.testBit_shiftRight,Qkv,Nat.zero_testBit]
  match b with
  | 0=>simp[d]
  | 1=>simp[e]
  | b+2=>simp
theorem Qp1 (b:0≤m):Qkl m s=true↔(m.toNat.testBit (2*s).toNat=false∧m.toNat.testBit ((2*s).toNat+1)=false):=by
 unfold Qkl
 rw[aU,← QAP]
 have:(m / 2 ^ (2*s).toNat).toNat=m.toNat / 2 ^ (2*s).toNat:=by
  have e:m / 2 ^ (2*s).toNat=((m.toNat / 2 ^ (2*s).toNat:Nat):Int):=by
   rw[Int.natCast_ediv,cV b,Int.natCast_pow];rfl
  rw[e];rfl
 rw[this]
 show (((m.toNat / 2 ^ (2*s).toNat) &&& 3:Nat):Int)=0↔_
 omega
theorem Qvd {l:Int×Bool}(h:0≤l.1)(b:Nat):(mkV l).toNat.testBit b=decide (b=(2*l.1).toNat+(if l.2=true then 1 else 0)):=by
 have e:(mkV l).toNat=2 ^ ((2*l.1).toNat+(if l.2=true then 1 else 0)):=by
  unfold mkV
  obtain ⟨x,o⟩:=l
  cases o
  ·simp only[cd,if_false,Int.one_mul,dn]
   have:((2:Int) ^ (2*x).toNat)=((2 ^ (2*x).toNat:Nat):Int):=by rw[Int.natCast_pow];rfl
   rw[this];rfl
  ·simp only[if_true]
   have:(2:Int)*2 ^ (2*x).toNat=((2 ^ ((2*x).toNat+1):Nat):Int):=by rw[Int.natCast_pow,Int.pow_succ,Int.mul_comm];rfl
   rw[this];rfl
 rw[e,Nat.testBit_two_pow]
 by_cases d:b=(2*l.1).toNat+(if l.2=true then 1 else 0)
 ·simp[d]
 ·simp[d,Ne.symm d]
theorem Qhk:∀(as_:List DAr) (s0:List Int) (k:Nat) (b:Nat),(∀a∈as_,0≤a.1)→k<s0.length→
 ((((as_.foldl orA s0)[k]?).getD 0).toNat.testBit b=true↔((s0[k]?).getD 0).toNat.testBit b=true∨∃a∈as_,0≤a.2.1∧a.1=(k:Int)∧b=(2*a.2.1).toNat+(if a.2.2.1=true then 1 else 0))
 | [],s0,k,b,_,_=>by simp
 | a::as_,s0,k,b,hr,hk=>by
  have t:=hr a (aB ..)
  have q:(orA s0 a).length=s0.length:=by unfold orA;split <;> simp
  rw[bC,Qhk as_ (orA s0 a) k b (fun x d=>hr x (aA _ d)) (by omega)]
  have r:(((orA s0 a)[k]?).getD 0).toNat.testBit b=true↔((s0[k]?).getD 0).toNat.testBit b=true∨(0≤a.2.1∧a.1=(k:Int)∧b=(2*a.2.1).toNat+(if a.2.2.1=true then 1 else 0)):=by
   unfold orA
   split
   ·rename_i o
    by_cases e:a.1.toNat=k
    ·subst e
     rw[bk hk,aj]
     show ((((s0[a.1.toNat]?).getD 0).toNat ||| (mkV (a.2.1,a.2.2.1)).toNat)).testBit b=true↔_
     rw[Nat.testBit_or,ci,Qvd o,aU]
     have p:a.1=((a.1.toNat:Nat):Int):=by omega
     simp only[o,true_and]
     constructor
     ·rintro (h|h)
      ·exact .inl h
      ·exact .inr ⟨p,h⟩
     ·rintro (h|h)
      ·exact .inl h
      ·exact .inr h.2
    ·rw[be e]
     have p:¬a.1=(k:Int):=fun h=>e (by omega)
     simp[p]
   ·rename_i o
    simp[o]
  rw[r]
  constructor
  ·rintro ((h|h)|⟨x,d,h⟩)
   ·exact .inl h
   ·exact .inr ⟨a,aB ..,h⟩
   ·exact .inr ⟨x,aA _ d,h⟩
  ·rintro (h|⟨x,d,h⟩)
   ·exact .inl (.inl h)
   ·rcases aJ.1 d with rfl|d
    ·exact .inl (.inr h)
    ·exact .inr ⟨x,d,h⟩
theorem J1 (E:∀a∈c.2.2,0≤a.1)(w:k<c.2.1.length)(F:0≤s):Qkl (mAt (Xz c.2.1.length c.2.2) (k:Int)) s= !QW c k s:=by
 have z:0≤mAt (Xz c.2.1.length c.2.2) (k:Int):=by
  unfold mAt
  rw[dp,ao (by rw[QbC];exact w)]
  exact QdY _ (cH _)
 have r:∀b,(mAt (Xz c.2.1.length c.2.2) (k:Int)).toNat.testBit b=true↔∃a∈c.2.2,0≤a.2.1∧a.1=(k:Int)∧b=(2*a.2.1).toNat+(if a.2.2.1=true then 1 else 0):=fun b=>by
  unfold mAt Xz
  rw[dp,Qhk c.2.2 _ k b E (by simpa using w)]
  simp[cv,w]
 rw[cj,Qp1 z,bT]
 have p:QW c k s=true↔∃a∈c.2.2,a.1=(k:Int)∧a.2.1=s:=by
  unfold QW
  rw[bu]
  simp
 constructor
 ·rintro ⟨C,D⟩
  cases t:QW c k s with
  | false=>rfl
  | true=>
   obtain ⟨a,d,e,o⟩:=p.1 t
   cases A:a.2.2.1 with
   | false=>
    have:=(r (2*s).toNat).2 ⟨a,d,by omega,e,by rw[o,A];simp⟩
    rw[C] at this;cases this
   | true=>
    have:=(r ((2*s).toNat+1)).2 ⟨a,d,by omega,e,by rw[o,A];simp⟩
    rw[D] at this;cases this
 ·intro t
  have q:∀a∈c.2.2,¬(a.1=(k:Int)∧a.2.1=s):=fun a d h=>by
   rw[p.2 ⟨a,d,h⟩] at t;cases t
  constructor
  ·cases h:(mAt (Xz c.2.1.length c.2.2) (k:Int)).toNat.testBit (2*s).toNat with
   | false=>rfl
   | true=>
    obtain ⟨a,d,B,e,o⟩:=(r _).1 h
    have:a.2.1=s:=by split at o <;> omega
    exact absurd ⟨e,this⟩ (q a d)
  ·cases h:(mAt (Xz c.2.1.length c.2.2) (k:Int)).toNat.testBit ((2*s).toNat+1) with
   | false=>rfl
   | true=>
    obtain ⟨a,d,B,e,o⟩:=(r _).1 h
    have:a.2.1=s:=by split at o <;> omega
    exact absurd ⟨e,this⟩ (q a d)
theorem Qup (o:∀a∈c.2.2,0≤a.1):(Yv c (fun _ _=>true) c.2.1.length).filter (fun p=>(QD c.1 c.1.length).any fun s=>Wy (Xz c.2.1.length c.2.2) p s)=QcS c:=by
 rw[QcQ]
 unfold QcS
 refine Qeq fun i j q r=> ?_
 rw[Bool.true_and]
 unfold QuE
 have b:mAt [(i:Int),(j:Int)] 0=i:=rfl
 have d:mAt [(i:Int),(j:Int)] 1=j:=rfl
 rw[cj,bu,bu]
 constructor
 ·rintro ⟨s,e,h⟩
  obtain ⟨t,rfl,_,_⟩:=Qcz.1 e
  refine ⟨_,e,?_⟩
  unfold Wy at h
  rw[b,d,J1 o q (by omega),J1 o r (by omega)] at h
  revert h
  cases QW c i t <;> cases QW c j t <;> simp
 ·rintro ⟨s,e,h⟩
  obtain ⟨t,rfl,_,_⟩:=Qcz.1 e
  refine ⟨_,e,?_⟩
  unfold Wy
  rw[b,d,J1 o q (by omega),J1 o r (by omega)]
  revert h
  cases QW c i t <;> cases QW c j t <;> simp
theorem QrP {α β:Type}{q:β→Bool}{f:α→β}{l:List α}{xs:List β}(h:l.map f=xs):(l.filter fun v=> !(!q (f v))).map f=xs.filter q:=by
 subst h
 rw[List.filter_map]
 congr 1
 apply List.filter_congr
 intro v _
 simp
end
section
variable {c:DSg}{f:Nat→Nat→Bool}{i:Nat}{m:Int}{u v:ByteArray}
theorem Qwb (b:m≤(c.2.1.length:Int))(d:¬m<(c.2.1.length:Int)):Yv c f i++Wi c f i m.toNat=Yv c f (i+1):=by rw[show m.toNat=c.2.1.length by omega,Vz]
theorem QyI (h:(i:Int)<m)(d:c.2.1[m.toNat]? =some u)(hv:c.2.1[i]? =some v)(e:v=u)(b:f i m.toNat=true):(Yv c f i++Wi c f i m.toNat)++[[(i:Int),m]]=Yv c f i++Wi c f i (m+1).toNat:=by
 rw[show (m+1).toNat=m.toNat+1 by omega,← Qs0 (by omega) d hv e.symm b,aR,show ((m.toNat:Nat):Int)=m by omega]
theorem QyH (h:(i:Int)<m)(b:c.2.1[m.toNat]? =some u)(hv:c.2.1[i]? =some v)(e:¬v=u):Yv c f i++Wi c f i m.toNat=Yv c f i++Wi c f i (m+1).toNat:=by
 rw[show (m+1).toNat=m.toNat+1 by omega,← Qvt fun g=>e (by rw[← Qnn b,← Qnn hv];exact g.1.symm)]
end
theorem QnD {c:DSg}{i:Nat}{m:Int}{u v:ByteArray}(h:(i:Int)<m)(b:c.2.1[m.toNat]? =some u)(hv:c.2.1[i]? =some v)(e:v=u):(Yv c (fun _ _=>true) i++Wi c (fun _ _=>true) i m.toNat)++[[(i:Int),m]]=Yv c (fun _ _=>true) i++Wi c (fun _ _=>true) i (m+1).toNat:=QyI h b hv e rfl
theorem QuK {c:DSg}{i:Nat}{m:Int}{u v:ByteArray}(h:(i:Int)<m)(b:c.2.1[m.toNat]? =some u)(hv:c.2.1[i]? =some v)(e:¬v=u):Yv c (fun _ _=>true) i++Wi c (fun _ _=>true) i m.toNat=Yv c (fun _ _=>true) i++Wi c (fun _ _=>true) i (m+1).toNat:=QyH h b hv e
theorem Qbq (l:Int×Bool)(h:0≤l.1∧l.1≤7):FC Tryz.prog 326 [(true,[dI l.1,dB l.2])] [] 0 (QK (lI (mkV l))):=by
 refine Qj Tryz.func326 rfl rfl Tryz.ntmps326 fun r b q d t o e=> ?_
 refine acG 0 0 fun _=> ?_
 refine w_ ?_
 refine xbx 0 ?_
 refine w7 ?_
 cases p:(l.2)
 refine w5 ?_
 refine lc (VF (Qq rfl) (Qa rfl) rfl (by omega))<|lc (Qjk (Qq rfl) (Qa rfl) rfl (by omega) (by exact Qth (by omega) (by omega))) ?_
 refine w2 ?_
 refine Qe<|fqI b ?_
 (unfold mkV;simp only[*];rfl)
 refine w4 ?_
 refine lc (VF (Qq rfl) (Qa rfl) rfl (by omega))<|lc (Qjk (Qq rfl) (Qa rfl) rfl (by omega) (by exact Qth (by omega) (by omega))) ?_
 refine w2 ?_
 refine Qe<|fqI b ?_
 (unfold mkV;simp only[*];rfl)
theorem V1 (c:ZM)(A:SgW c):FC Tryz.prog 273 [(true,[.dat Ql c.1,.dat Qb c.2.1,.dat QA c.2.2])] [] 0 (Xv 3 .int (Xz c.2.1.length c.2.2)):=by
 have Q:∀a∈c.2.2,InR c.2.1.length a:=fun a H=>(A.arcs a H).1
 have P:=A.some_
 have M:=A.few
 have R:=A.sig8
 refine Qj Tryz.func273 rfl rfl Tryz.ntmps273 fun U G T D V F E=> ?_
 refine w_ ?_
 refine xbx 0 ?_
 refine w5 ?_
 refine alL 7 fun _=> ?_
 refine w_ ?_
 refine lc (Vy 1 (e:= .int) (n:=c.2.1.length) (Qa rfl) (Qa rfl) YV Qn1 rfl (by omega) (by omega) rfl (Fresh.of rfl) (nlr rfl)) ?_
 refine w6 ?_
 refine alL 11 fun _=> ?_
 refine w4 ?_
 refine lp0 c.2.2.length (fun k=>⟨[(2,lf (.val (.slice none 0 0))),(3,lR 2),(11,lf (.dat QA c.2.2)),(12,lI (c.2.2.length:Int)),(13,lI (k:Int))],[(2,some (.arr 3 .int (Xz c.2.1.length (c.2.2.take k))))]⟩) ?_ fun k _=> ?_
 exact wp [(2,1)] ⟨(Qm (by simp only[List.take_zero];rfl)),trivial⟩
 have O:=QbC (n:=c.2.1.length) (as_:=c.2.2.take k)
 refine w4 ?_
 cases p:(decide ((k:Int)<(c.2.2.length:Int)))
 have q:=aa p
 refine w7 ?_
 refine Qe<|fo_ G ?_
 rw[ZD (by omega)]
 have q:=ab p
 refine w5 ?_
 obtain ⟨ar,h⟩:=gx c.2.2 k
 have o:=Q _ (ae h)
 obtain ⟨⟨I,J⟩,K,L⟩:=o
 have z:=(A.arcs _ (ae h)).2
 have B:ar.2.1<(c.1.length:Int):=Qix z
 have N:=Qxx (ar.2.1,ar.2.2.1)
 refine w2 ?_
 refine lc (xal 3 Yq YJ) ?_
 refine w5 ?_
 refine alI 18 fun _=> ?_
 refine w2 ?_
 cases r:(decide (0≤ar.2.1))
 have t:=aa r
 refine w6 ?_
 refine Qd ?_
 refine l0_ ?_
 exact wp [] ⟨(Qm (by first|exact Qn4 h ‹_› C|exact QsD h ‹_›)),trivial⟩
 have t:=ab r
 refine w_ ?_
 obtain ⟨y,d⟩:=gx (Xz c.2.1.length (c.2.2.take k)) ((ar.1).toNat)
 have C:=d
 have S:=QdY _ (ae d)
 apply dV (i3 20 _ _ _ (io 23 (lf (.ept 2 1 ((ar.1).toNat) 0))::io 24 (lI y)::i4 25 _ _ _ _ [io 29 (ag [dI ar.2.1,dB ar.2.2.1]),io 30 (lI (mkV (ar.2.1,ar.2.2.1))),io 31 (lI ((y.toNat ||| (mkV (ar.2.1,ar.2.2.1)).toNat:Nat):Int)),io 32 (lf (.ept 2 1 ((ar.1).toNat) 0)),⟨none,lf (.val undef),[(2,some (.arr 3 .int ((Xz c.2.1.length (c.2.2.take k)).set ((ar.1).toNat) ((y.toNat ||| (mkV (ar.2.1,ar.2.2.1)).toNat:Nat):Int))))]⟩])) [0,1,1,0,0,31,31,127,127,31,31,0,0,0]
 refine z3 ?_
 refine zz (fun _ b=>ac (ZH (e:= .int) (b.v rfl) (b.en 2 rfl) (b.v rfl) YV Wl rfl (by omega) (by first|omega|(simp only[aD];omega))) rfl)<|zz (fun _ b=>ac (Yt (e:= .int) (b.v rfl) (b.n 2 rfl) d rfl Wl rfl rfl) rfl) ?_
 refine z4 ?_
 refine zz (fun _ b=>ac (Qk KG ⟨_,_,rfl,(b.w rfl),⟨_,_,rfl,(b.w rfl),rfl⟩⟩ (au.1 rfl) rfl rfl) rfl) ?_
 refine zz (fun _ b=>ac (dK (Qbq (ar.2.1,ar.2.2.1) (by simp only;omega)) Qme) rfl) ?_
 refine zz (fun _ b=>ac (QtM (b.v rfl) (b.v rfl) rfl (by omega) (by omega)) rfl)<|zz (fun _ b=>ac (ZH (e:= .int) (b.v rfl) (b.en 2 rfl) (b.v rfl) YV Wl rfl (by omega) (by first|omega|(simp only[aD];omega))) rfl)<|zz (fun _ b=>ac (QB (e:= .int) (z':=((y.toNat ||| (mkV (ar.2.1,ar.2.2.1)).toNat:Nat):Int)) (b.v rfl) (b.n 2 rfl) d rfl (b.w rfl) rfl Wl rfl rfl) rfl) ?_
 exact zN
 refine w4 ?_
 refine Qd ?_
 refine l0_ ?_
 exact wp [] ⟨(Qm (by first|exact Qn4 h ‹_› C|exact QsD h ‹_›)),trivial⟩
theorem QaB (c:ZM)(N:c.2.1.length≤300):FC Tryz.prog 277 [(true,[.dat Ql c.1,.dat Qb c.2.1,.dat QA c.2.2])] [] 0 (Xv 62 Qs (Yv c (fun _ _=>true) c.2.1.length)):=by
 refine Qj Tryz.func277 rfl rfl Tryz.ntmps277 fun Q L P H R K J=> ?_
 refine w_ ?_
 refine xbx 0 ?_
 refine w3 ?_
 refine lc (dBs 1 (e:=Qs) UU) ?_
 refine w6 ?_
 refine alL 9 fun _=> ?_
 refine w4 ?_
 refine lp0 c.2.1.length (fun i=>⟨[(1,lP 0 0),(2,lf (.val (.slice none 0 0))),(3,lR 2),(9,lf (.dat Qb c.2.1)),(10,lI (c.2.1.length:Int)),(11,lI (i:Int))],[bx 0 28 [.dat Ql c.1,.dat Qb c.2.1,.dat QA c.2.2],ar 2 62 Qs (Yv c (fun _ _=>true) i)]⟩) ?_ fun i _=> ?_
 exact wp [(2,1)] ⟨rfl,(Qm (rfl)),trivial⟩
 have D:=Qa8 (c:=c) (f:=fun _ _=>true) (i:=i) N
 refine w4 ?_
 cases t:(decide ((i:Int)<(c.2.1.length:Int)))
 have w:=aa t
 refine w7 ?_
 refine Qe<|fo_ L ?_
 (congr 1;omega)
 have w:=ab t
 refine w6 ?_
 obtain ⟨C,E⟩:=gx c.2.1 i
 have o:=E
 refine w11 ?_
 refine Qu (fun F G=>∃(m:Int) (b:List (List Int)),F=((c.2.1.length:Int) - m).toNat∧((i:Int)+1≤m∧m≤(c.2.1.length:Int))∧(b=Yv c (fun _ _=>true) i++Wi c (fun _ _=>true) i m.toNat)∧G=⟨[(1,lP 0 0),(2,lf (.val (.slice none 0 0))),(3,lR 3),(4,lI (i:Int)),(5,lf (dS C)),(6,lI m),(9,lf (.dat Qb c.2.1)),(10,lI (c.2.1.length:Int)),(11,lI (i:Int)),(12,lB true),(13,lI (i:Int)),(14,lf (.elt .str C 0)),(15,lf (dS C)),(16,lI (i:Int)),(17,lI ((i:Int)+1))],[bx 0 28 [.dat Ql c.1,.dat Qb c.2.1,.dat QA c.2.2],ar 3 62 Qs b]⟩) ⟨(i:Int)+1,Yv c (fun _ _=>true) i,rfl,(by omega),(by rw[show ((i:Int)+1).toNat=i+1 by omega,Qf7,br]),rfl⟩ ?_ ?_
 exact wp [(3,2)] ⟨rfl,(Qm (by first|rfl|simp)),trivial⟩
 rintro F G ⟨m,b,M,S,d,rfl⟩
 have O:b.length≤100000:=by rw[d,ah];have:=Qf6 (c:=c) (f:=fun _ _=>true) (i:=i) (k:=m.toNat);have:=D (by omega);omega
 refine w5 ?_
 refine alL 20 fun _=> ?_
 refine w3 ?_
 cases z:(decide (m<(c.2.1.length:Int)))
 have A:=aa z
 refine w6 ?_
 refine Qd ?_
 refine l0_ ?_
 exact wp [(2,3)] ⟨rfl,(Qm ((by rw[d];exact Qwb (by omega) (by omega)))),trivial⟩
 have A:=ab z
 refine w8 ?_
 obtain ⟨I,B⟩:=gx c.2.1 ((m).toNat)
 have p:=B
 refine w5 ?_
 cases q:(decide (I=C))
 have r:=aa q
 refine w7 ?_
 refine Qd<|QV ⟨(m+1),b,rfl,(by omega),(by rw[d];first|exact QnD (by omega) p o (Eq.symm ‹_›)|exact QuK (by omega) p o (fun h=>absurd h.symm ‹_›)),rfl⟩ (by omega) ?_
 exact wo []
 have r:=ab q
 refine w5 ?_
 refine lc (dBs 4 (e:= .int) Xt) ?_
 refine lc (dBs 5 (e:=Qs) UU (hab:=by exact ⟨_,_,_,_,rfl,(.inl ⟨_,rfl,rfl,rfl⟩),⟨rfl,rfl⟩,rfl⟩)) ?_
 refine lc (dA 6 QeF) ?_
 refine w_ ?_
 refine Qd ?_
 refine w5 ?_
 refine Qd<|QV ⟨(m+1),(b++([[(i:Int),m]])),rfl,(by omega),(by rw[d];first|exact QnD (by omega) p o (Eq.symm ‹_›)|exact QuK (by omega) p o (fun h=>absurd h.symm ‹_›)),rfl⟩ (by omega) ?_
 exact wp [(3,6)] ⟨rfl,(Qm (by first|rfl|simp)),trivial⟩
theorem nbt {b:Bool}(h:b=false):(!b)=true:=by rw[h];rfl
theorem nbf {b:Bool}(h:b=true):(!b)=false:=by rw[h];rfl
theorem QuD {masks pair:List Int}{p q m0 o sig:Int}(e:pair[0]? =some p)(h:pair[1]? =some q)(b:masks[p.toNat]? =some m0)(d:masks[q.toNat]? =some o):
 (!((decide ((((m0 / 2 ^ (2*sig).toNat).toNat &&& (3:Int).toNat:Nat):Int)=0))==(decide ((((o / 2 ^ (2*sig).toNat).toNat &&& (3:Int).toNat:Nat):Int)=0))))=Wy masks pair sig:=by
 unfold Wy
 rw[QbB (x:=0) (by simpa using e),QbB (x:=1) (by simpa using h),QbB b,QbB d]
 rfl
theorem Jn (sig:Int)(masks:List Int)(pair:List Int)(A:∀x∈masks,0≤x)(D:2≤pair.length∧∀x∈pair,0≤x∧x<(masks.length:Int))(P:0≤sig∧sig≤7):FC Tryz.prog 280 [(false,[dI sig]),(false,[.ptr 0 0]),(false,[.ptr 1 0])] [bx 0 62 [.dat Qs masks],bx 1 62 [.dat Qs pair]] 2 (Is (lB (Wy masks pair sig)) [bx 0 62 [.dat Qs masks],bx 1 62 [.dat Qs pair]]):=by
 refine Qj Tryz.func280 rfl rfl Tryz.ntmps280 fun N J M G O I H=> ?_
 refine acI 0 fun _=> ?_
 refine w3 ?_
 obtain ⟨K,d⟩:=gx pair 0
 have w:=d
 have E:=D.2 _ (ae d)
 obtain ⟨m0,e⟩:=gx masks ((K).toNat)
 have r:=e
 have B:=A _ (ae e)
 obtain ⟨L,h⟩:=gx pair 1
 have z:=h
 have F:=D.2 _ (ae h)
 obtain ⟨p,o⟩:=gx masks ((L).toNat)
 have t:=o
 have C:=A _ (ae o)
 apply dW (i7 5 _ _ _ _ _ _ _ (io 12 (lI (2*sig))::io 13 (lI (m0 / 2 ^ (2*sig).toNat))::io 14 (lI (((m0 / 2 ^ (2*sig).toNat).toNat &&& (3:Int).toNat:Nat):Int))::i8 15 _ _ _ _ _ _ _ _ [io 23 (lI (2*sig)),io 24 (lI (p / 2 ^ (2*sig).toNat)),io 25 (lI (((p / 2 ^ (2*sig).toNat).toNat &&& (3:Int).toNat:Nat):Int)),io 26 _,io 27 (lB (!((decide ((((m0 / 2 ^ (2*sig).toNat).toNat &&& (3:Int).toNat:Nat):Int)=0))==(decide ((((p / 2 ^ (2*sig).toNat).toNat &&& (3:Int).toNat:Nat):Int)=0))))),io 4 _])) [0,1,1,1,0,0,63,63,0,0,0,2047,4095,4095,4095,2047,2047,131071,131071,2047,2047,2047,0,0]
 refine z7 ?_
 refine zz (fun _ b=>ac (VF (Qq rfl) (b.v rfl) rfl (by omega)) rfl)<|zz (fun _ b=>ac (Qa1 (b.v rfl) (b.v rfl) rfl (by omega) (by first|omega|exact ce (by omega) (bY (by decide)))) rfl)<|zz (fun _ b=>ac (QaY (b.v rfl) (Qq rfl) rfl (by first|omega|exact ce (by omega) (bY (by decide))) (by omega)) rfl) ?_
 refine z8 ?_
 refine zz (fun _ b=>ac (VF (Qq rfl) (b.v rfl) rfl (by omega)) rfl)<|zz (fun _ b=>ac (Qa1 (b.v rfl) (b.v rfl) rfl (by omega) (by first|omega|exact ce (by omega) (bY (by decide)))) rfl)<|zz (fun _ b=>ac (QaY (b.v rfl) (Qq rfl) rfl (by first|omega|exact ce (by omega) (bY (by decide))) (by omega)) rfl) ?_
 refine z_ ?_
 refine zz (fun _ b=>ac (Z0 (b.v rfl) (b.v rfl) rfl Y7) rfl) ?_
 exact y1
 refine w_ ?_
 have q:(!((decide ((((m0 / 2 ^ (2*sig).toNat).toNat &&& (3:Int).toNat:Nat):Int)=0))==(decide ((((p / 2 ^ (2*sig).toNat).toNat &&& (3:Int).toNat:Nat):Int)=0))):Bool)=(Wy masks pair sig):=by
  exact QuD w z r t
 exact fi_ [] J ⟨rfl,rfl,trivial⟩ (h0:=by rw[q] <;> rfl)
theorem JL (l:List Int)(masks:List Int)(pair:List Int)(B:∀x∈masks,0≤x)(D:2≤pair.length∧∀x∈pair,0≤x∧x<(masks.length:Int))(C:∀s∈l,0≤s∧s≤7):FC Tryz.prog 328 [(false,[.dat Qs l]),(false,[.clo 280 [0,1]])] [bx 0 62 [.dat Qs masks],bx 1 62 [.dat Qs pair]] 2 (Is (lI (Zf (fun s=>Wy masks pair s) l)) [bx 0 62 [.dat Qs masks],bx 1 62 [.dat Qs pair]]):=by
 refine Qj Tryz.func328 rfl rfl Tryz.ntmps328 fun F p E q G z w=> ?_
 refine w6 ?_
 refine alL 6 fun _=> ?_
 refine w4 ?_
 refine lpK l.length (fun k=>NoneTo (fun s=>Wy masks pair s) l k) (fun k=>⟨[(0,lf (.dat Qs l)),(1,lf (.clo 280 [0,1])),(7,lI (l.length:Int)),(8,lI (k:Int))],[bx 0 62 [.dat Qs masks],bx 1 62 [.dat Qs pair]]⟩) (NoneTo.zero) ?_ fun k _ b=> ?_
 exact wo []
 refine w4 ?_
 cases e:(decide ((k:Int)<(l.length:Int)))
 have h:=aa e
 refine w7 ?_
 have r:((-1):Int)=(Zf (fun s=>Wy masks pair s) l):=by
  first|exact (b.no (by omega)).symm
 exact fi_ [] p ⟨rfl,rfl,trivial⟩ (h0:=by rw[← r] <;> rfl)
 have h:=ab e
 refine w12 ?_
 obtain ⟨o,d⟩:=gx l k
 refine w2 ?_
 refine alI 15 fun _=> ?_
 refine lc (Q3 (args0:=[(false,[dI o])]) (caps:=[0,1]) 2 [(0,0),(1,1)] (Jn o masks pair B D (C _ (ae d))) Ql1 rfl (Qa rfl) rfl rfl ⟨_,_,rfl,(Qn rfl),rfl⟩ ⟨rfl,rfl,trivial⟩ rfl ⟨trivial,trivial,trivial⟩ (nlr rfl)) ?_
 refine w_ ?_
 cases A:(Wy masks pair o)
 refine w6 ?_
 refine Qd ?_
 refine lK_ (b.step d ‹_›) ?_
 exact wo []
 refine w6 ?_
 have t:((k:Int):Int)=(Zf (fun s=>Wy masks pair s) l):=by
  exact (b.at d ‹_›).symm
 exact fi_ [] p ⟨rfl,rfl,trivial⟩ (h0:=by rw[t] <;> rfl)
theorem U0 (l:List Int)(masks:List Int)(pair:List Int)(p:∀x∈masks,0≤x)(r:2≤pair.length∧∀x∈pair,0≤x∧x<(masks.length:Int))(q:∀s∈l,0≤s∧s≤7):FC Tryz.prog 279 [(false,[.dat Qs l]),(false,[.clo 280 [0,1]])] [bx 0 62 [.dat Qs masks],bx 1 62 [.dat Qs pair]] 2 (Is (lB (l.any (fun s=>Wy masks pair s))) [bx 0 62 [.dat Qs masks],bx 1 62 [.dat Qs pair]]):=by
 refine Qj Tryz.func279 rfl rfl Tryz.ntmps279 fun w o t b z h e=> ?_
 refine w6 ?_
 refine lc (dP 2 [] (JL l masks pair p r q) Qmg) ?_
 refine w4 ?_
 have d:(decide (0≤(Zf (fun s=>Wy masks pair s) l)):Bool)=(l.any (fun s=>Wy masks pair s)):=by
  exact Xm _ _
 exact fi_ [] o ⟨rfl,rfl,trivial⟩ (h0:=by rw[d] <;> rfl)
theorem Vj (pair:List Int)(b:List Int)(masks:List Int)(p:∀x∈masks,0≤x)(r:2≤pair.length∧∀x∈pair,0≤x∧x<(masks.length:Int))(q:∀s∈b,0≤s∧s≤7):FC Tryz.prog 278 [(false,[.dat Qs pair]),(false,[.ptr 0 0]),(false,[.ptr 1 0])] [bx 0 62 [.dat Qs b],bx 1 62 [.dat Qs masks]] 2 (Is (lB (!(b.any (fun s=>Wy masks pair s)))) [bx 0 62 [.dat Qs b],bx 1 62 [.dat Qs masks]]):=by
 refine Qj Tryz.func278 rfl rfl Tryz.ntmps278 fun w o t d z h e=> ?_
 refine w_ ?_
 refine xbx 2 ?_
 refine w4 ?_
 refine lc (Q1 ⟨_,_,rfl,(Qa rfl),rfl,⟨_,_,rfl,(Qa rfl),rfl,rfl⟩⟩ rfl) ?_
 refine lc (dP 3 [(0,1),(1,2)] (U0 b masks pair p r q) Ql0) ?_
 refine w4 ?_
 exact fi_ [] o ⟨rfl,rfl,trivial⟩
theorem QaA (l:List Hdr)(e:List Hdr)(d:Hdr→List Int)(b:List Int)(masks:List Int)(G:∀x∈masks,0≤x)(hv:∀v∈e,2≤(d v).length∧∀x∈d v,0≤x∧x<(masks.length:Int))(H:∀s∈b,0≤s∧s≤7)(t:∀v∈l,v∈e)(L:l.length≤1000000):FC Tryz.prog 327 [(false,[.ref 3]),(false,[.clo 278 [0,1]])] [bx 0 62 [.dat Qs b],bx 1 62 [.dat Qs masks],(2,some (.pl false Qs e d)),ar 3 62 .vl l] 4 (Is (lI (Zf (fun v:Hdr=> !(b.any (fun s=>Wy masks (d v) s))) l)) [bx 0 62 [.dat Qs b],bx 1 62 [.dat Qs masks],(2,some (.pl false Qs e d)),ar 3 62 .vl l]):=by
 refine Qj Tryz.func327 rfl rfl Tryz.ntmps327 fun J z I A K E D=> ?_
 refine w10 ?_
 refine lpK l.length (fun k=>NoneTo (fun v:Hdr=> !(b.any (fun s=>Wy masks (d v) s))) l k) (fun k=>⟨[(0,lR 3),(1,lf (.clo 278 [0,1])),(7,lI (l.length:Int)),(8,lI (k:Int))],[bx 0 62 [.dat Qs b],bx 1 62 [.dat Qs masks],(2,some (.pl false Qs e d)),ar 3 62 .vl l]⟩) (NoneTo.zero) ?_ fun k _ o=> ?_
 exact wo []
 refine w4 ?_
 cases q:(decide ((k:Int)<(l.length:Int)))
 have r:=aa q
 refine w7 ?_
 have B:((-1):Int)=(Zf (fun v:Hdr=> !(b.any (fun s=>Wy masks (d v) s))) l):=by
  first|exact (o.no (by omega)).symm
 exact fi_ [] z ⟨rfl,rfl,rfl,rfl,trivial⟩ (h0:=by rw[← B] <;> rfl)
 have r:=ab q
 refine w13 ?_
 obtain ⟨w,h⟩:=gx l k
 refine w_ ?_
 refine lc (Q3 (args0:=[(false,[.dat Qs (d w)])]) (caps:=[0,1]) 4 [(0,0),(1,1)] (Vj (d w) b masks G (hv _ (t _ (ae h))) H) Qfd rfl (Qa rfl) rfl rfl ⟨_,_,rfl,(Evl.ev (Evl.pl (p:=2) (Qa rfl) rfl (t _ (ae h)))),rfl⟩ ⟨rfl,rfl,trivial⟩ rfl ⟨trivial,trivial,trivial⟩ (nlr rfl)) ?_
 refine w_ ?_
 cases F:(b.any (fun s=>Wy masks (d w) s))
 refine w6 ?_
 have C:((k:Int):Int)=(Zf (fun v:Hdr=> !(b.any (fun s=>Wy masks (d v) s))) l):=by
  exact (o.at h (nbt ‹_›)).symm
 exact fi_ [] z ⟨rfl,rfl,rfl,rfl,trivial⟩ (h0:=by rw[C] <;> rfl)
 refine w6 ?_
 refine Qd ?_
 refine lK_ (o.step h (nbf ‹_›)) ?_
 exact wo []
theorem HL (l:List Hdr)(q:List Hdr)(o:Hdr→List Int)(d:List Int)(masks:List Int)(H:∀x∈masks,0≤x)(hv:∀v∈q,2≤(o v).length∧∀x∈o v,0≤x∧x<(masks.length:Int))(I:∀s∈d,0≤s∧s≤7)(z:∀v∈l,v∈q)(S:l.length≤1000000):FC Tryz.prog 276 [(false,[.ref 3]),(false,[.clo 278 [0,1]])] [bx 0 62 [.dat Qs d],bx 1 62 [.dat Qs masks],(2,some (.pl false Qs q o)),ar 3 62 .vl l] 3 (Is (lR 4) [bx 0 62 [.dat Qs d],bx 1 62 [.dat Qs masks],(2,some (.pl false Qs q o)),ar 4 62 .vl (l.filter (fun v:Hdr=> !(!(d.any (fun s=>Wy masks (o v) s)))))]):=by
 have R:=QfC (fun v:Hdr=> !(d.any (fun s=>Wy masks (o v) s))) l
 refine Qj Tryz.func276 rfl rfl Tryz.ntmps276 fun V F U L W N M=> ?_
 refine w6 ?_
 refine lc (dP 4 [] (QaA l q o d masks H hv I z S) Qmf) ?_
 refine w7 ?_
 refine cd_ (fun _ _=> ?_) fun _ _=> ?_
 refine w8 ?_
 refine Qu (fun J K=>∃(i:Int) (j:Int) (r:List Hdr),J=((r.length:Int) - j).toNat∧(DelI (fun v:Hdr=> !(!(d.any (fun s=>Wy masks (o v) s)))) l r i j)∧K=⟨[(0,lR 8),(1,lf (.clo 278 [0,1])),(4,lf (.val (.slice none 0 0))),(5,lI i),(6,lI j)],[bx 0 62 [.dat Qs d],bx 1 62 [.dat Qs masks],(2,some (.pl false Qs q o)),ar 8 62 .vl r]⟩) ⟨Zf (fun v:Hdr=> !(d.any (fun s=>Wy masks (o v) s))) l,(Zf (fun v:Hdr=> !(d.any (fun s=>Wy masks (o v) s))) l)+1,l,rfl,(DelI.start ‹_›),rfl⟩ ?_ ?_
 exact wo [(8,3)]
 rintro J K ⟨i,j,r,T,w,rfl⟩
 have O:=w.1
 have P:=w.2.1
 refine w7 ?_
 cases B:(decide (j<(r.length:Int)))
 have C:=aa B
 refine w6 ?_
 refine lc (Zq (e:= .vl) (a:=(i).toNat) (b:=r.length - (i).toNat) (l:=(some i)) (h:=none) (Qa rfl) rfl (by exact (Qa rfl)) (by exact trivial) Wm XK rfl (by first|(simp only[ak,aj];omega)|omega|(simp only[ak,aj,ah,ap,az];omega)) (by first|(simp only[ak,aj];omega)|omega|(simp only[ak,aj,ah,ap,az];omega)) (by first|(simp only[ak,aj];omega)|omega|(simp only[ak,aj,ah,ap,az];omega)) (by first|rfl|simp) (by first|rfl|simp))<|lc (Ur (e:= .vl) (Qa rfl) rfl (by omega) Wm UU rfl rfl rfl) ?_
 refine w4 ?_
 refine lc (Zq (e:= .vl) (a:=0) (b:=(i).toNat) (l:=none) (h:=(some i)) (Qa rfl) rfl (by exact trivial) (by exact (Qa rfl)) Wm XK rfl (by first|(simp only[ak,aj];omega)|omega|(simp only[ak,aj,ah,ap,az];omega)) (by first|(simp only[ak,aj];omega)|omega|(simp only[ak,aj,ah,ap,az];omega)) (by first|(simp only[ak,aj];omega)|omega|(simp only[ak,aj,ah,ap,az];omega)) (by first|rfl|simp) (by first|rfl|simp)) ?_
 refine w2 ?_
 refine AC.wk (KE 9 4 (e:= .vl) (xs:=r.take ((i).toNat)++List.replicate (r.length - (i).toNat) (Ty.zero .vl)) rfl rfl (by first|omega|(simp only[ah,ap,az];omega)) rfl (Fresh.of rfl) (nlr rfl))<|Qe ?_
 exact fi_ [(4,9)] F ⟨rfl,rfl,rfl,(Qm (by exact w.end_ ‹_› _ (by omega))),trivial⟩
 have C:=ab B
 refine w8 ?_
 obtain ⟨E,A⟩:=gx r ((j).toNat)
 have t:=A
 refine w6 ?_
 refine lc (Q3 (args0:=[(false,[.dat Qs (o E)])]) (caps:=[0,1]) 10 [(0,0),(1,1)] (Vj (o E) d masks H (hv _ (z _ (ae (w.at_ A)))) I) Qfd rfl (Qa rfl) rfl rfl ⟨_,_,rfl,(Evl.ev (Evl.pl (p:=2) (Qa rfl) rfl (z _ (ae (w.at_ A))))),rfl⟩ ⟨rfl,rfl,trivial⟩ rfl ⟨trivial,trivial,trivial⟩ (nlr rfl)) ?_
 refine w2 ?_
 cases Q:(!(d.any (fun s=>Wy masks (o E) s)))
 refine w6 ?_
 obtain ⟨X,D⟩:=gx r ((i).toNat)
 have G:=D
 refine lc (QB (e:= .vl) (z':=E) (Qa rfl) rfl D rfl (Qn rfl) rfl XK rfl rfl) ?_
 refine w5 ?_
 refine Qd ?_
 refine w5 ?_
 refine Qd<|QV ⟨(i+1),(j+1),(r.set ((i).toNat) E),rfl,(by exact w.keep t (nbt ‹_›)),rfl⟩ (by first|omega|(simp only[aD];omega)) ?_
 exact wp [] ⟨rfl,rfl,rfl,(Qm (by first|rfl|simp)),trivial⟩
 refine w7 ?_
 refine Qd<|QV ⟨i,(j+1),r,rfl,(by exact w.drop_ t (nbf ‹_›)),rfl⟩ (by first|omega|(simp only[aD];omega)) ?_
 exact wo []
 refine w5 ?_
 exact fi_ [(4,3)] F ⟨rfl,rfl,rfl,(Qm (by exact JX ‹_›)),trivial⟩
theorem Qbl (c:ZM)(o:SgW c):FC Tryz.prog 228 [(true,[.dat Ql c.1,.dat Qb c.2.1,.dat QA c.2.2])] [] 0 (QK (lf (.dat Ji (QcS c)))):=by
 have L:∀a∈c.2.2,InR c.2.1.length a:=fun a A=>(o.arcs a A).1
 have K:=o.some_
 have J:=o.few
 have M:=o.sig8
 have C:=QdY (n:=c.2.1.length) (as_:=c.2.2)
 have B:=QbC (n:=c.2.1.length) (as_:=c.2.2)
 have D:∀s∈QD c.1 c.1.length,0≤s∧s≤7:=fun s h=>by obtain ⟨t,rfl,S,_⟩:=Qcz.1 h;omega
 have I:=Qa8 (c:=c) (f:=fun _ _=>true) (i:=c.2.1.length) (by omega) (aO _)
 refine Qj Tryz.func228 rfl rfl Tryz.ntmps228 fun Q H P E R G F=> ?_
 refine w_ ?_
 refine xbx 0 ?_
 refine w2 ?_
 apply dW [io 5 _,io 6 (lf (.dat Qs (Xz c.2.1.length c.2.2))),io 7 _,io 8 (lf (.dat Qs (QD c.1 c.1.length))),⟨some 3,lP 1 0,[bx 1 62 [.val (.slice none 0 0)]]⟩,⟨some 4,lP 2 0,[bx 2 62 [.val (.slice none 0 0)]]⟩,⟨none,lf (.val undef),[bx 1 62 [.dat Qs (Xz c.2.1.length c.2.2)]]⟩,⟨none,lf (.val undef),[bx 2 62 [.dat Qs (QD c.1 c.1.length)]]⟩] [0,0,3,0,15,31,0,0]
 refine z_ ?_
 refine zz (fun _ d=>ac (dK (V1 c o).frozen Qfb) rfl) ?_
 refine z_ ?_
 refine zz (fun _ d=>ac (dK (XS c (by omega)).frozen Hr) rfl) ?_
 refine zz (fun _ d=>ac (XW 1 Qs UU rfl rfl (d.fr 1 rfl) (nlr rfl)) rfl)<|zz (fun _ d=>ac (XW 2 Qs UU rfl rfl (d.fr 2 rfl) (nlr rfl)) rfl) ?_
 exact y2
 refine w2 ?_
 refine lc (dO 3 (QaB c (by omega)) QlZ) ?_
 refine lc (Q1 ⟨_,_,rfl,(Qa rfl),rfl,⟨_,_,rfl,(Qa rfl),rfl,rfl⟩⟩ rfl)<|AL.pool (q:=3) (e:= .int) 4 rfl (Fresh.of rfl) (nlr rfl) fun r w b=> ?_
 refine lc (dP 5 [(0,2),(2,4)] (HL r r w (QD c.1 c.1.length) (Xz c.2.1.length c.2.2) C (fun v N=>by rw[B];exact QqX (by rw[← b];exact List.mem_map_of_mem N) (aO _)) D (fun _ h=>h) (by have:=congrArg List.length b;rw[aH] at this;omega)) QlY) ?_
 refine w2 ?_
 refine AC.wk (QqP (i:=2) (q:=9) (p:=4) rfl rfl rfl (fun z O=>(bP.1 O).1))<|Qe<|fq_ H ?_
 exact (QrP b).trans (Qup fun a A=>(L a A).1.1)
def QBW (c:DSg)(s:ByteArray):Bool:=c.2.2.any fun a=>QA0 s a&&XN c a.2.1
def QzF (f:DAr→Bool)(as_:List DAr)(k:Nat):List Int:=((List.range k).filter fun i=>match as_[i]? with|some a=>f a|none=>false).map fun i=>((i:Nat):Int)
def exL (c:DSg)(q sig:Int)(up:Bool):Bool:=c.2.2.any fun a=>decide (a.1=q∧a.2.1=sig∧a.2.2.1=up)
def QwT (c:DSg)(sig:Int)(up:Bool)(a:DAr):Bool:= !decide (a.2.1=sig)&&(exL c a.1 sig up&& !exL c a.2.2.2 sig up)
def QA1 (c:DSg)(sig:Int)(a:DAr):Bool:=QwT c sig false a||QwT c sig true a
abbrev QyR (c:DSg)(sig:Int)(k:Nat):List Int:=QzF (QA1 c sig) c.2.2 k
def QA2 (c:DSg)(k:Nat):Int:=((QD c.1 k).map fun s=>((QyR c s c.2.2.length).length:Int)).sum
def QBX (c:DSg):Int:=QA2 c c.1.length
def QBp (sig:Int)(up:Bool)(l:List Int)(a:DAr):List Int:=if a.2.1=sig∧a.2.2.1=up then Zg ltI a.1 l else l
def exS (sig:Int)(up:Bool)(as_:List DAr):List Int:=as_.foldl (QBp sig up) []
def QwS (c:DSg)(sig:Int)(up:Bool)(l:List Int)(k:Nat):List Int:=(QzF (QwT c sig up) c.2.2 k).foldl (fun l i=>Zg ltI i l) l
def QBY (c:DSg)(sig:Int):Nat→List Int
 | 0=>[]
 | 1=>QwS c sig false [] c.2.2.length
 | _=>QwS c sig true (QwS c sig false [] c.2.2.length) c.2.2.length
section
variable {c:DSg}{as_:List DAr}{a:DAr}{i j k n:Nat}{s:ByteArray}{sig q x y:Int}{up:Bool}{l:List Int}{f g:DAr→Bool}
def QBZ (c:DSg)(l:List Int):Int:=(l.map fun s=>((QyR c s c.2.2.length).length:Int)).sum
end
section
variable {c:DSg}{as_:List DAr}{a:DAr}{i j k n:Nat}{s q:Int}{z:Qy}
theorem QuN (e:c.2.2[k]? =some a)(b:a.1=q)(d:a.2.1=s):true=QW c q s:=(bu.2 ⟨a,ae e,aN ⟨b,d⟩⟩).symm
theorem QwX (e:∀j,j<k→∀a,c.2.2[j]? =some a→¬(a.1=q∧a.2.1=s))(f:c.2.2.length≤k):false=QW c q s:=(cr.2 fun a d=>by
 obtain ⟨j,b⟩:=aK.1 d
 have:=(ai.1 b).1
 simpa using e j (by omega) a b).symm
end
theorem Z7 (c:ZM)(k:Int)(sig:Int):FC Tryz.prog 77 [(true,[.dat Ql c.1,.dat Qb c.2.1,.dat QA c.2.2]),(false,[dI k]),(false,[dI sig])] [] 0 (QK (lB (QW c k sig))):=by
 refine Qj Tryz.func77 rfl rfl Tryz.ntmps77 fun y p x t A v u=> ?_
 refine acI 1 fun _=> ?_
 refine acI 2 fun _=> ?_
 refine w_ ?_
 refine xbx 0 ?_
 refine w6 ?_
 refine alL 10 fun _=> ?_
 refine w4 ?_
 refine lpK c.2.2.length (fun i=>∀j,j<i→∀a,c.2.2[j]? =some a→¬(a.1=k∧a.2.1=sig)) (fun i=>⟨[(1,lI k),(2,lI sig),(10,lf (.dat QA c.2.2)),(11,lI (c.2.2.length:Int)),(12,lI (i:Int))],[]⟩) ((fun j w=>absurd w (aV j))) ?_ fun i _ e=> ?_
 exact wo []
 refine w4 ?_
 cases h:(decide ((i:Int)<(c.2.2.length:Int)))
 have l:=aa h
 refine w6 ?_
 refine Qe<|fqB p ?_
 first|exact QwX e (by omega)
 have l:=ab h
 refine w5 ?_
 obtain ⟨r,f⟩:=gx c.2.2 i
 refine w2 ?_
 refine lc (xal 1 Yq YJ) ?_
 refine w5 ?_
 refine alI 17 fun _=> ?_
 refine w3 ?_
 cases m:(decide (r.1=k))
 have o:=aa m
 refine w12 ?_
 refine Qd ?_
 refine lK_ ((YM e f (by first|(exact fun g=>absurd g.1 ‹_›)|(exact fun g=>absurd g.2 ‹_›)))) ?_
 exact wo []
 have o:=ab m
 refine w6 ?_
 cases b:(decide (r.2.1=sig))
 have d:=aa b
 refine w6 ?_
 refine Qd ?_
 refine lK_ ((YM e f (by first|(exact fun g=>absurd g.1 ‹_›)|(exact fun g=>absurd g.2 ‹_›)))) ?_
 exact wo []
 have d:=ab b
 refine w4 ?_
 refine Qe<|fqB p ?_
 exact QuN f ‹_› ‹_›
end Go.Proofs.YtjfpbcmfbnnooaaGreat
namespace Go.Proofs.YtjfpbcmfbnnooaaGreat
open Go.RowKit
attribute [local irreducible] TF
abbrev Qwt:Type:=ZZ×ZZ
end Go.Proofs.YtjfpbcmfbnnooaaGreat
namespace Go.Proofs.YtjfpbcmfbnnooaaGreat
open Go.RowKit
set_option maxRecDepth 100000
set_option maxHeartbeats 4000000
def inv (h:Int)(a:DAr):Bool:=decide (a.2.1= -1)||decide (a.2.1=h)
inductive Ch (rs:List DAr) (h:Int) (S:Int→Prop):Int→Prop
  | base {u:Int}:S u→Ch rs h S u
  | step {a:DAr}:Ch rs h S a.1→a∈rs→inv h a=true→Ch rs h S a.2.2.2
def stS (h:Int)(S:List Int)(a:DAr):List Int:=if inv h a=true∧a.1∈S then Zg ltI a.2.2.2 S else S
def stP (h:Int)(rs:List DAr)(S:List Int):List Int:=rs.foldl (stS h) S
def stN (h:Int)(rs:List DAr):Nat→List Int→List Int
 | 0,S=>S
 | k+1,S=>stP h rs (stN h rs k S)
def stl (c:DSg)(h:Int)(S:List Int):List Int:=stN h c.2.2 c.2.1.length S
@[reducible] def Srt (S:List Int):Prop:=S.Pairwise fun x y=>ltI x y=true
section
variable {rs as_:List DAr}{a:DAr}{h:Int}{S T_:List Int}{P Q:Int→Prop}{u v:Int}{n k:Nat}
theorem Ch.mono (e:∀u,P u→Ch rs h Q u)(k:Ch rs h P u):Ch rs h Q u:=by
 induction k with
 | base b=>exact e _ b
 | step _ c d f=>exact .step f c d
theorem Ch.congr (b:∀u,P u↔Q u):Ch rs h P u↔Ch rs h Q u:=⟨Ch.mono fun _ k=> .base ((b _).1 k),Ch.mono fun _ k=> .base ((b _).2 k)⟩
theorem QoC (b:u∈S):u∈stS h S a:=by
 unfold stS;split
 ·exact Yg.2 (.inr b)
 ·exact b
theorem QiQ (b:u∈S):u∈stP h as_ S:=by
 induction as_ generalizing S with
 | nil=>exact b
 | cons a l c=>exact c (QoC b)
theorem QvF (b:u∈S):u∈stN h rs k S:=by
 induction k with
 | zero=>exact b
 | succ k c=>exact QiQ c
theorem QvH (b:Srt S):Srt (stS h S a):=by
 unfold stS;split
 ·exact J5 Uc b
 ·exact b
theorem QoB (b:Srt S):Srt (stP h as_ S):=by
 induction as_ generalizing S with
 | nil=>exact b
 | cons a l c=>exact c (QvH b)
theorem QbQ (b:Srt S):Srt (stN h rs k S):=by
 induction k with
 | zero=>exact b
 | succ k c=>exact QoB c
theorem QxV (c:∀a∈as_,a∈rs)(d:∀u∈S,Ch rs h P u):∀u∈stP h as_ S,Ch rs h P u:=by
 induction as_ generalizing S with
 | nil=>exact d
 | cons a l i=>
  refine i (fun b g=>c b (aA _ g)) fun u e=> ?_
  unfold stS at e
  split at e
  ·rename_i f
   rcases Yg.1 e with rfl|h2
   ·exact .step (d _ f.2) (c a (aB ..)) f.1
   ·exact d _ h2
  ·exact d _ e
theorem Qtl (b:∀u∈S,Ch rs h P u):∀u∈stN h rs k S,Ch rs h P u:=by
 induction k with
 | zero=>exact b
 | succ k c=>exact QxV (fun _ h=>h) c
theorem QvG (c:a∈as_)(hi:inv h a=true)(d:a.1∈S):a.2.2.2∈stP h as_ S:=by
 induction as_ generalizing S with
 | nil=>cases c
 | cons b l e=>
  rcases aJ.1 c with rfl|c
  ·refine QiQ (as_:=l) ?_
   unfold stS;rw[if_pos ⟨hi,d⟩]
   exact Yg.2 (.inl rfl)
  ·exact e c (QoC d)
theorem QhL (b:Srt S):S.Nodup:=b.imp fun h e=>by subst e;simp[ltI] at h
theorem Qcx {α:Type}[DecidableEq α]:∀{l m:List α},l.Nodup→(∀x∈l,x∈m)→l.length≤m.length
 | [],_,_,_=>aL _
 | a::l,m,hn,hs=>by
  obtain ⟨d,f⟩:=bq.1 hn
  have b:=hs a (aB ..)
  have g:=Qcx (m:=m.erase a) f fun x c=>(List.mem_erase_of_ne (fun e=>d (by rw[← e];exact c))).2 (hs x (aA _ c))
  rw[List.length_erase_of_mem b] at g
  have:=List.length_pos_of_mem b
  rw[av];omega
theorem QvD (i:Srt S)(b:∀u∈S,0≤u∧u<(n:Int)):S.length≤n:=by
 have c:(S.map Int.toNat).Nodup:=by
  unfold List.Nodup
  rw[List.pairwise_map]
  exact (QhL i).imp_of_mem fun f g h e=>h (by have:=b _ f;have:=b _ g;omega)
 have d:(S.map Int.toNat) ⊆ List.range n:=fun x l=>by
  obtain ⟨u,j,rfl⟩:=bd.1 l
  have:=b u j
  exact bH.2 (by omega)
 have:=Qcx c d
 rwa [aH,List.length_range] at this
theorem QvE (f:∀a∈rs,0≤a.2.2.2∧a.2.2.2<(n:Int))(e:∀u∈S,0≤u∧u<(n:Int)):∀u∈stN h rs k S,0≤u∧u<(n:Int):=by
 have d:∀u,Ch rs h (fun v=>v∈S) u→0≤u∧u<(n:Int):=fun u c=>by
  induction c with
  | base b=>exact e _ b
  | step _ b _ _=>exact f _ b
 exact fun u c=>d u (Qtl (P:=fun v=>v∈S) (fun v g=> .base g) u c)
theorem Qxo (e:Srt S)(i:Srt T_)(b:∀u∈S,u∈T_):T_=S∨S.length<T_.length:=by
 by_cases d:∀x∈T_,x∈S
 ·exact .inl (Uc.ext i e fun x=>⟨d x,b x⟩)
 ·obtain ⟨x,j⟩:=Classical.not_forall.1 d
  obtain ⟨f,g⟩:=Classical.not_imp.1 j
  have:=Qcx (l:=x::S) (m:=T_) (bq.2 ⟨g,QhL e⟩) fun y c=>by
   rcases aJ.1 c with rfl|c
   ·exact f
   ·exact b y c
  rw[av] at this
  exact .inr this
theorem QoA (c:Srt S)(b:stP h rs (stN h rs k S)=stN h rs k S):∀j,stN h rs (k+j) S=stN h rs k S
 | 0=>rfl
 | j+1=>by rw[← bS,stN,QoA c b j,b]
theorem Qtm (c:Srt S):(∃j,j<k∧stP h rs (stN h rs j S)=stN h rs j S)∨S.length+k≤(stN h rs k S).length:=by
 induction k with
 | zero=>exact .inr (aO _)
 | succ k f=>
  rcases f with ⟨j,d,b⟩|d
  ·exact .inl ⟨j,by omega,b⟩
  ·rcases Qxo (QbQ (h:=h) (rs:=rs) (k:=k) c) (QoB (QbQ c)) (fun u e=>QiQ (h:=h) (as_:=rs) e) with b|b
   ·exact .inl ⟨k,by omega,b⟩
   ·right;rw[stN];omega
theorem QmZ (f:Srt S)(p:∀a∈rs,0≤a.2.2.2∧a.2.2.2<(n:Int))(o:∀u∈S,0≤u∧u<(n:Int)):∀u,u∈stN h rs n S↔Ch rs h (fun v=>v∈S) u:=by
 have m:stP h rs (stN h rs n S)=stN h rs n S:=by
  rcases Qtm (rs:=rs) (h:=h) (k:=n) f with ⟨j,e,c⟩|e
  ·have b:=QoA f c (n - j)
   rw[show j+(n - j)=n by omega] at b
   rw[b,c]
  ·have c:=QvD (QbQ (h:=h) (rs:=rs) (k:=n) f) (QvE p o)
   have b:S=[]:=bi (by omega)
   subst b
   have g:∀(l:List DAr),stP h l []=[]:=fun l=>by
    induction l with
    | nil=>rfl
    | cons a l d=>show stP h l (stS h [] a)=[];rw[show stS h [] a=[] from if_neg (by simp)];exact d
   have i:∀k,stN h rs k []=[]:=fun k=>by
    induction k with
    | zero=>rfl
    | succ k d=>rw[stN,d,g]
   rw[i,g]
 refine fun u=>⟨Qtl (fun v r=> .base r) u,fun q=> ?_⟩
 induction q with
 | base e=>exact QvF e
 | step _ c b d=>rw[← m];exact QvG c b d
def clA (rs:List DAr)(h u:Int)(out:List Int):List Int:=rs.foldl (fun out a=>if a.1=u∧inv h a=true∧¬a.2.2.2∈out then out++[a.2.2.2] else out) out
def clL (rs:List DAr)(h:Int):Nat→Nat→List Int→List Int
 | 0,_,out=>out
 | f+1,k,out=>match out[k]? with
  | none=>out
  | some u=>clL rs h f (k+1) (clA rs h u out)
theorem Qia:∃r,clA as_ h u S=S++r:=by
 unfold clA
 induction as_ generalizing S with
 | nil=>exact ⟨[],(br _).symm⟩
 | cons a l b=>
  rw[bC]
  split
  ·obtain ⟨r,c⟩:=b (S:=S++[a.2.2.2])
   exact ⟨a.2.2.2::r,by rw[c,aR];rfl⟩
  ·exact b
theorem QoX (b:S.Nodup):(clA as_ h u S).Nodup:=by
 unfold clA
 induction as_ generalizing S with
 | nil=>exact b
 | cons a l d=>
  rw[bC]
  split
  ·rename_i f
   exact d (bj.2 ⟨b,by simp,fun x g y c e=>by rw[aF] at c;subst c;subst e;exact f.2.2 g⟩)
  ·exact d b
theorem QwL (c:∀a∈as_,a∈rs)(i:Ch rs h P u)(e:∀v∈S,Ch rs h P v):∀v∈clA as_ h u S,Ch rs h P v:=by
 unfold clA
 induction as_ generalizing S with
 | nil=>exact e
 | cons a l j=>
  rw[bC]
  refine j (fun b g=>c b (aA _ g)) ?_
  split
  ·rename_i f
   intro v d
   rcases aQ.1 d with d|d
   ·exact e v d
   ·rw[aF] at d;subst d
    exact .step (by rw[f.1];exact i) (c a (aB ..)) f.2.1
  ·exact e
theorem Que (d:a∈as_)(hi:inv h a=true)(i:a.1=u):a.2.2.2∈clA as_ h u S:=by
 induction as_ generalizing S with
 | nil=>cases d
 | cons b l e=>
  rcases aJ.1 d with rfl|d
  ·unfold clA
   rw[bC]
   split
   ·obtain ⟨r,c⟩:=Qia (as_:=l) (h:=h) (u:=u) (S:=S++[a.2.2.2])
    unfold clA at c
    rw[c];simp
   ·rename_i f
    obtain ⟨r,c⟩:=Qia (as_:=l) (h:=h) (u:=u) (S:=S)
    unfold clA at c
    rw[c]
    exact aS _ (Classical.byContradiction fun g=>f ⟨i,hi,g⟩)
  ·unfold clA at e ⊢
   rw[bC];exact e d
structure ClI (rs:List DAr) (h:Int) (P:Int→Prop) (k:Nat) (out:List Int):Prop where
  nod:out.Nodup
  ch:∀v∈out,Ch rs h P v
  bas:∀v,P v→v∈out
  don:∀(j:Nat) w,j<k→out[j]? =some w→∀a∈rs,a.1=w→inv h a=true→a.2.2.2∈out
  le:k≤out.length
theorem ClI.zero (e:S.Nodup)(c:∀v,P v↔v∈S):ClI rs h P 0 S:=⟨e,fun v b=> .base ((c v).2 b),fun v b=>(c v).1 b,fun j w d=>absurd d (aV _),aL _⟩
theorem ClI.step {out:List Int}(g:ClI rs h P k out)(f:out[k]? =some u):ClI rs h P (k+1) (clA rs h u out):=by
 obtain ⟨r,c⟩:=Qia (as_:=rs) (h:=h) (u:=u) (S:=out)
 have o:=(ai.1 f).1
 refine ⟨QoX g.nod,QwL (fun _ h=>h) (g.ch u (ae f)) g.ch,fun v p=>by rw[c];exact aS _ (g.bas v p),fun j w q b a i e l=> ?_,by rw[c,ah];omega⟩
 by_cases m:j=k
 ·subst m
  have b:out[j]? =some w:=by rw[c,bo o] at b;exact b
  rw[f] at b;cases b
  exact Que i l e
 ·have d:j<out.length:=by omega
  rw[c,bo d] at b
  rw[c];exact aS _ (g.don j w (by omega) b a i e l)
theorem ClI.end_ {out:List Int}(g:ClI rs h P k out)(l:out.length≤k):∀v,v∈out↔Ch rs h P v:=by
 refine fun v=>⟨g.ch v,fun f=> ?_⟩
 induction f with
 | base c=>exact g.bas _ c
 | step _ d e i=>
  obtain ⟨j,b⟩:=aK.1 i
  exact g.don j _ (by have:=(ai.1 b).1;omega) b _ d rfl e
end
def QpG (b:UInt8):Bool:=b==43||b==45
def sgB (up:Bool):ByteArray:=if up=true then ⟨#[43]⟩ else ⟨#[45]⟩
def wdA (c:DSg)(a:DAr):ByteArray:=((c.1[a.2.1.toNat]?).getD (ByteArray.empty,0)).1++sgB a.2.2.1
def tl (t:ByteArray):List UInt8:=t.data.toList
def QAD (l:List UInt8):Prop:=l=[]∨∃l0 s,l=l0++[s]∧QpG s=true
theorem Qtt (s t:ByteArray):tl (s++t)=tl s++tl t:=by simp[tl]
end Go.Proofs.YtjfpbcmfbnnooaaGreat
