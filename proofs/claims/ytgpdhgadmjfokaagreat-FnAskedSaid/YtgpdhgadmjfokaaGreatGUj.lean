/- Walks over abstract states: masks of labels; pairs of states that violate complete state coding, the program. -/
import Derived.Test.YtgpdhgadmjfokaaGreatGUd
import Derived.Test.YtgpdhgadmjfokaaGreatGFz
import Derived.Test.YtgpdhgadmjfokaaGreatGVi
import Derived.Test.YtgpdhgadmjfokaaGreatGSs
import Derived.Test.YtgpdhgadmjfokaaGreatGStr
import Derived.Test.YtgpdhgadmjfokaaGreatProg
import Derived.KernelRfl
set_option linter.unusedSimpArgs false
set_option linter.unusedVariables false
set_option linter.unusedSectionVars false
namespace Go.Proofs.YtgpdhgadmjfokaaGreat
open Go.RowKit
set_option maxRecDepth 100000
set_option maxHeartbeats 4000000
structure SgW (c:DSg):Prop where
  sig8:c.1.length≤8
  some_:1≤c.2.1.length∧c.2.1.length≤300
  few:c.2.2.length≤4000
  arcs:∀a∈c.2.2,InR c.2.1.length a∧Vt (c.1.length:Int) (a.2.1,a.2.2.1)
theorem SgOk.w {c:DSg}(h:SgOk c):SgW c:=⟨h.sigs.2.2,h.some_,h.few,fun a ha=>⟨Yn (h.arcs a ha),(h.arcs a ha).2.2.1⟩⟩
def mkV (l:Int×Bool):Int:=(if l.2=true then 2 else 1)*2 ^ (2*l.1).toNat
def orA (s:List Int)(a:DAr):List Int:=if 0≤a.2.1 then s.set a.1.toNat (((((s[a.1.toNat]?).getD 0).toNat ||| (mkV (a.2.1,a.2.2.1)).toNat:Nat)):Int) else s
def Yz (n:Nat)(as_:List DAr):List Int:=as_.foldl orA (List.replicate n 0)
def mAt (l:List Int)(x:Int):Int:=(l[x.toNat]?).getD 0
def Qe6 (m:Int)(s:Int):Bool:=decide ((((m / 2 ^ (2*s).toNat).toNat &&& (3:Int).toNat:Nat):Int)=0)
def Xq (masks pair:List Int)(s:Int):Bool:= !(Qe6 (mAt masks (mAt pair 0)) s==Qe6 (mAt masks (mAt pair 1)) s)
def QH (c:DSg)(k s:Int):Bool:=c.2.2.any fun a=>decide (a.1=k∧a.2.1=s)
def cdA (c:DSg)(j:Nat):ByteArray:=(c.2.1[j]?).getD ByteArray.empty
def Y9 (c:DSg)(f:Nat→Nat→Bool)(i k:Nat):List (List Int):=((List.range k).filter fun j=>decide (i < j)&&(decide (cdA c j=cdA c i)&&f i j)).map fun j:Nat=>[(i:Int),(j:Int)]
def ZI (c:DSg)(f:Nat→Nat→Bool)(i:Nat):List (List Int):=(List.range i).flatMap fun i=>Y9 c f i c.2.1.length
def Qna (c:DSg)(i j:Nat):Bool:=(QQ c.1 c.1.length).any fun s=> !(QH c i s==QH c j s)
def Wy (c:DSg):List (List Int):=ZI c (Qna c) c.2.1.length
section
variable {c:DSg}{as_:List DAr}{a:DAr}{i j k n:Nat}{f g:Nat→Nat→Bool}{s x y m:Int}{l masks pair:List Int}{u v:ByteArray}
theorem Qmt {m x:Int}(hm:0≤m∧m≤2)(h:0≤x∧x≤14): -9223372036854775808≤m*2 ^ x.toNat∧m*2 ^ x.toNat≤9223372036854775807:=by
  have h1:(2:Int) ^ x.toNat≤2 ^ 14:=by
    have:(2:Nat) ^ x.toNat≤2 ^ 14:=Nat.pow_le_pow_right (by omega) (by omega)
    exact_mod_cast this
  have h2:(0:Int)≤2 ^ x.toNat:=bU (by decide)
  have h3:m*2 ^ x.toNat≤2*2 ^ 14:=Int.mul_le_mul hm.2 h1 h2 (by decide)
  have h4:0≤m*2 ^ x.toNat:=Int.mul_nonneg hm.1 h2
  exact ⟨by omega,Int.le_trans h3 (by decide)⟩
theorem Qp0 (l:Int×Bool):0≤mkV l:=by
  unfold mkV
  exact Int.mul_nonneg (by split <;> decide) (bU (by decide))
theorem Qcq:∀(as_:List DAr) (s:List Int),(as_.foldl orA s).length=s.length
  | [],_=>rfl
  | a :: as_,s=>by
    rw[aL,Qcq as_]
    unfold orA
    split <;> simp
theorem Jx:(Yz n as_).length=n:=by unfold Yz; rw[Qcq]; simp
theorem Qfp:∀(as_:List DAr) (s:List Int),(∀x∈s,0≤x)→∀x∈as_.foldl orA s,0≤x
  | [],_,h=>h
  | a :: as_,s,h=>by
    rw[aL]
    refine Qfp as_ _ ?_
    unfold orA
    split
    · intro x hx
      rcases ce hx with hx | rfl
      · exact h x hx
      · exact cu _
    · exact h
theorem Qas:∀x∈Yz n as_,0≤x:=Qfp as_ _ (by simp)
theorem QiL (hx:as_[k]? =some a)(h:0≤a.2.1)(hy:(Yz n (as_.take k))[a.1.toNat]? =some y):(Yz n (as_.take k)).set a.1.toNat (((y.toNat ||| (mkV (a.2.1,a.2.2.1)).toNat:Nat)):Int)=Yz n (as_.take (k+1)):=by
  unfold Yz at*
  rw[Qs hx,bl,aL,bT]
  unfold orA
  rw[if_pos h]
  unfold orA at hy
  rw[hy]; rfl
theorem Qla (hx:as_[k]? =some a)(h:¬0≤a.2.1):Yz n (as_.take k)=Yz n (as_.take (k+1)):=by
  unfold Yz
  rw[Qs hx,bl,aL,bT,orA,if_neg h]
theorem XS (h:l[x.toNat]? =some y):mAt l x=y:=by unfold mAt; rw[h]; rfl
theorem Qa6:Y9 c f i (i+1)=[]:=by
  unfold Y9
  rw[List.map_eq_nil_iff,List.filter_eq_nil_iff]
  intro j hj
  rw[cd] at hj
  simp; intro h; omega
theorem Qli (h:i < k)(hu:c.2.1[k]? =some u)(hv:c.2.1[i]? =some v)(e:u=v)(hf:f i k=true):Y9 c f i k++[[(i:Int),(k:Int)]]=Y9 c f i (k+1):=by
  unfold Y9
  rw[cp,bO,cC]
  simp[h,cdA,hu,hv,e,hf]
theorem Qom (h:¬(cdA c k=cdA c i∧f i k=true)):Y9 c f i k=Y9 c f i (k+1):=by
  unfold Y9
  rw[cp,bO,cC]
  have:(decide (i < k)&&(decide (cdA c k=cdA c i)&&f i k))=false:=by
    cases hd:decide (cdA c k=cdA c i)&&f i k with
    | false=>simp
    | true=>simp only[aM,aS] at hd; exact absurd hd h
  simp[this]
theorem Qi2 (h:c.2.1[k]? =some u):cdA c k=u:=by unfold cdA; rw[h]; rfl
theorem X1:ZI c f i++Y9 c f i c.2.1.length=ZI c f (i+1):=by
  unfold ZI
  rw[cp,List.flatMap_append]; simp
theorem Qb5:(Y9 c f i k).length≤k:=by unfold Y9; rw[aN]; exact bA (bX ..) (by simp)
theorem QmH:(ZI c f i).length≤i*c.2.1.length:=by
  induction i with
  | zero=>simp[ZI]
  | succ i ih=>
    rw[← X1,ao,Nat.succ_mul]
    have:=Qb5 (c:=c) (f:=f) (i:=i) (k:=c.2.1.length)
    omega
theorem KM (hn:c.2.1.length≤300)(hi:i≤c.2.1.length):(ZI c f i).length≤90000:=by
  have h1:=QmH (c:=c) (f:=f) (i:=i)
  have h2:i*c.2.1.length≤300*300:=d9 (by omega) hn
  omega
theorem QfF {p:List Int}(h:p∈Y9 c f i k):∃j:Nat,j < k∧i < j∧p=[(i:Int),(j:Int)]:=by
  unfold Y9 at h
  obtain ⟨j,hj,rfl⟩:=bB.1 h
  rw[be,cd] at hj
  simp only[aM,aS] at hj
  exact ⟨j,hj.1,hj.2.1,rfl⟩
theorem Qmr {p:List Int}(h:p∈ZI c f n)(hn:n≤c.2.1.length):2≤p.length∧∀x∈p,0≤x∧x < (c.2.1.length:Int):=by
  unfold ZI at h
  obtain ⟨i,hi,h⟩:=List.mem_flatMap.1 h
  rw[cd] at hi
  obtain ⟨j,h1,h2,rfl⟩:=QfF h
  refine ⟨by simp,fun x hx=> ?_⟩
  simp only[aJ,cH,or_false] at hx
  rcases hx with rfl | rfl <;> omega
theorem QeV (q:List Int→Bool):(Y9 c f i k).filter q=Y9 c (fun i j=>f i j&&q [(i:Int),(j:Int)]) i k:=by
  unfold Y9
  rw[List.filter_map,List.filter_filter]
  congr 1
  apply d6
  intro j _
  simp only[Function.comp]
  cases decide (i < j) <;> cases decide (cdA c j=cdA c i) <;> cases f i j <;> simp
theorem Hj (q:List Int→Bool):(ZI c f n).filter q=ZI c (fun i j=>f i j&&q [(i:Int),(j:Int)]) n:=by
  induction n with
  | zero=>rfl
  | succ n ih=>rw[← X1,← X1,bO,ih,QeV]
theorem QbH (h:∀i j,i < n→j < c.2.1.length→f i j=g i j):ZI c f n=ZI c g n:=by
  induction n with
  | zero=>rfl
  | succ n ih=>
    rw[← X1,← X1,ih fun i j hi hj=>h i j (by omega) hj]
    congr 1
    unfold Y9
    congr 1
    apply d6
    intro j hj
    rw[cd] at hj
    rw[h n j (by omega) hj]
theorem Qev (b:Nat):Nat.testBit 3 b=decide (b < 2):=by
  match b with
  | 0=>rfl
  | 1=>rfl
  | b+2=>
    rw[show (3:Nat)=2 ^ 2 - 1 from rfl,Nat.testBit_two_pow_sub_one]
theorem QsS (m t:Nat):((m / 2 ^ t) &&& 3=0)↔(m.testBit t=false∧m.testBit (t+1)=false):=by
  rw[← Nat.shiftRight_eq_div_pow]
  constructor
  · intro h
    have h0:=congrArg (fun z=>Nat.testBit z 0) h
    have h1:=congrArg (fun z=>Nat.testBit z 1) h
    simp only[Nat.testBit_and,Nat.testBit_shiftRight,Qev,Nat.zero_testBit,db] at h0 h1
    simpa using And.intro h0 h1
  · rintro ⟨h0, h1⟩
    apply Nat.eq_of_testBit_eq
    intro b
    rw[Nat.testBit_and,Nat.testBit_shiftRight,Qev,Nat.zero_testBit]
    match b with
    | 0=>simp[h0]
    | 1=>simp[h1]
    | b+2=>simp
theorem Qjn (hm:0≤m):Qe6 m s=true↔(m.toNat.testBit (2*s).toNat=false∧m.toNat.testBit ((2*s).toNat+1)=false):=by
  unfold Qe6
  rw[aS,← QsS]
  have:(m / 2 ^ (2*s).toNat).toNat=m.toNat / 2 ^ (2*s).toNat:=by
    have e:m / 2 ^ (2*s).toNat=((m.toNat / 2 ^ (2*s).toNat:Nat):Int):=by
      rw[Int.natCast_ediv,cV hm,Int.natCast_pow]; rfl
    rw[e]; rfl
  rw[this]
  show (((m.toNat / 2 ^ (2*s).toNat) &&& 3:Nat):Int)=0↔_
  omega
theorem Qm8 {l:Int×Bool}(h:0≤l.1)(b:Nat):(mkV l).toNat.testBit b=decide (b=(2*l.1).toNat+(if l.2=true then 1 else 0)):=by
  have e:(mkV l).toNat=2 ^ ((2*l.1).toNat+(if l.2=true then 1 else 0)):=by
    unfold mkV
    obtain ⟨x,up⟩:=l
    cases up
    · simp only [bG, if_false, Int.one_mul, db]
      have:((2:Int) ^ (2*x).toNat)=((2 ^ (2*x).toNat:Nat):Int):=by rw[Int.natCast_pow]; rfl
      rw[this]; rfl
    · simp only [if_true]
      have:(2:Int)*2 ^ (2*x).toNat=((2 ^ ((2*x).toNat+1):Nat):Int):=by rw[Int.natCast_pow,Int.pow_succ,Int.mul_comm]; rfl
      rw[this]; rfl
  rw[e,Nat.testBit_two_pow]
  by_cases hb:b=(2*l.1).toNat+(if l.2=true then 1 else 0)
  · simp[hb]
  · simp[hb,Ne.symm hb]
theorem Qc6:∀(as_:List DAr) (s0:List Int) (k:Nat) (b:Nat),(∀a∈as_,0≤a.1)→k < s0.length→
    ((((as_.foldl orA s0)[k]?).getD 0).toNat.testBit b=true↔((s0[k]?).getD 0).toNat.testBit b=true∨∃a∈as_,0≤a.2.1∧a.1=(k:Int)∧b=(2*a.2.1).toNat+(if a.2.2.1=true then 1 else 0))
  | [],s0,k,b,_,_=>by simp
  | a :: as_,s0,k,b,hr,hk=>by
    have ha:=hr a (aB ..)
    have hlen:(orA s0 a).length=s0.length:=by unfold orA; split <;> simp
    rw[aL,Qc6 as_ (orA s0 a) k b (fun x hx=>hr x (aC _ hx)) (by omega)]
    have h1:(((orA s0 a)[k]?).getD 0).toNat.testBit b=true↔((s0[k]?).getD 0).toNat.testBit b=true∨(0≤a.2.1∧a.1=(k:Int)∧b=(2*a.2.1).toNat+(if a.2.2.1=true then 1 else 0)):=by
      unfold orA
      split
      · rename_i h0
        by_cases e:a.1.toNat=k
        · subst e
          rw[aY hk,ap]
          show ((((s0[a.1.toNat]?).getD 0).toNat ||| (mkV (a.2.1,a.2.2.1)).toNat)).testBit b=true↔_
          rw[Nat.testBit_or,bY,Qm8 h0,aS]
          have e2:a.1=((a.1.toNat:Nat):Int):=by omega
          simp only[h0,true_and]
          constructor
          · rintro (h | h)
            · exact .inl h
            · exact .inr ⟨e2,h⟩
          · rintro (h | h)
            · exact .inl h
            · exact .inr h.2
        · rw [b7 e]
          have e2:¬a.1=(k:Int):=fun h=>e (by omega)
          simp[e2]
      · rename_i h0
        simp[h0]
    rw[h1]
    constructor
    · rintro ((h | h) | ⟨x, hx, h⟩)
      · exact .inl h
      · exact .inr ⟨a,aB ..,h⟩
      · exact .inr ⟨x,aC _ hx,h⟩
    · rintro (h | ⟨x, hx, h⟩)
      · exact .inl (.inl h)
      · rcases aJ.1 hx with rfl | hx
        · exact .inl (.inr h)
        · exact .inr ⟨x,hx,h⟩
theorem VU (hr:∀a∈c.2.2,0≤a.1)(hk:k < c.2.1.length)(hs:0≤s):Qe6 (mAt (Yz c.2.1.length c.2.2) (k:Int)) s= !QH c k s:=by
  have hnn:0≤mAt (Yz c.2.1.length c.2.2) (k:Int):=by
    unfold mAt
    rw[cO,aa (by rw[Jx]; exact hk)]
    exact Qas _ (cW _)
  have hb:∀b,(mAt (Yz c.2.1.length c.2.2) (k:Int)).toNat.testBit b=true↔∃a∈c.2.2,0≤a.2.1∧a.1=(k:Int)∧b=(2*a.2.1).toNat+(if a.2.2.1=true then 1 else 0):=fun b=>by
    unfold mAt Yz
    rw[cO,Qc6 c.2.2 _ k b hr (by simpa using hk)]
    simp[c7,hk]
  rw[cj,Qjn hnn,c9]
  have hex:QH c k s=true↔∃a∈c.2.2,a.1=(k:Int)∧a.2.1=s:=by
    unfold QH
    rw[bC]
    simp
  constructor
  · rintro ⟨h1, h2⟩
    cases he:QH c k s with
    | false=>rfl
    | true=>
      obtain ⟨a,ha,e1,e2⟩:=hex.1 he
      cases hu:a.2.2.1 with
      | false=>
        have:=(hb (2*s).toNat).2 ⟨a,ha,by omega,e1,by rw[e2,hu]; simp⟩
        rw[h1] at this; cases this
      | true=>
        have:=(hb ((2*s).toNat+1)).2 ⟨a,ha,by omega,e1,by rw[e2,hu]; simp⟩
        rw[h2] at this; cases this
  · intro he
    have hno:∀a∈c.2.2,¬(a.1=(k:Int)∧a.2.1=s):=fun a ha h=>by
      rw[hex.2 ⟨a,ha,h⟩] at he; cases he
    constructor
    · cases h : (mAt (Yz c.2.1.length c.2.2) (k : Int)).toNat.testBit (2 * s).toNat with
      | false=>rfl
      | true=>
        obtain ⟨a,ha,h0,e1,e2⟩:=(hb _).1 h
        have:a.2.1=s:=by split at e2 <;> omega
        exact absurd ⟨e1,this⟩ (hno a ha)
    · cases h : (mAt (Yz c.2.1.length c.2.2) (k : Int)).toNat.testBit ((2 * s).toNat + 1) with
      | false=>rfl
      | true=>
        obtain ⟨a,ha,h0,e1,e2⟩:=(hb _).1 h
        have:a.2.1=s:=by split at e2 <;> omega
        exact absurd ⟨e1,this⟩ (hno a ha)
theorem QnR (hr:∀a∈c.2.2,0≤a.1):(ZI c (fun _ _=>true) c.2.1.length).filter (fun p=>(QQ c.1 c.1.length).any fun s=>Xq (Yz c.2.1.length c.2.2) p s)=Wy c:=by
  rw[Hj]
  unfold Wy
  refine QbH fun i j hi hj=> ?_
  rw[Bool.true_and]
  unfold Qna
  have hp0:mAt [(i:Int),(j:Int)] 0=i:=rfl
  have hp1:mAt [(i:Int),(j:Int)] 1=j:=rfl
  rw[cj,bC,bC]
  constructor
  · rintro ⟨s, hs, h⟩
    obtain ⟨t,rfl,_,_⟩:=JD.1 hs
    refine ⟨_,hs, ?_⟩
    unfold Xq at h
    rw[hp0,hp1,VU hr hi (by omega),VU hr hj (by omega)] at h
    revert h
    cases QH c i t <;> cases QH c j t <;> simp
  · rintro ⟨s, hs, h⟩
    obtain ⟨t,rfl,_,_⟩:=JD.1 hs
    refine ⟨_,hs, ?_⟩
    unfold Xq
    rw[hp0,hp1,VU hr hi (by omega),VU hr hj (by omega)]
    revert h
    cases QH c i t <;> cases QH c j t <;> simp
theorem Qmn {α β:Type}{q:β→Bool}{f:α→β}{l:List α}{xs:List β}(h:l.map f=xs):(l.filter fun v=> !(!q (f v))).map f=xs.filter q:=by
  subst h
  rw[List.filter_map]
  congr 1
  apply d6
  intro v _
  simp
end
section
variable {c:DSg}{f:Nat→Nat→Bool}{i:Nat}{m:Int}{u v:ByteArray}
theorem QoI (h1:m≤(c.2.1.length:Int))(h2:¬m < (c.2.1.length:Int)):ZI c f i++Y9 c f i m.toNat=ZI c f (i+1):=by rw[show m.toNat=c.2.1.length by omega,X1]
theorem Qry (h:(i:Int) < m)(hu:c.2.1[m.toNat]? =some u)(hv:c.2.1[i]? =some v)(e:v=u)(hf:f i m.toNat=true):(ZI c f i++Y9 c f i m.toNat)++[[(i:Int),m]]=ZI c f i++Y9 c f i (m+1).toNat:=by
  rw[show (m+1).toNat=m.toNat+1 by omega,← Qli (by omega) hu hv e.symm hf,aP,show ((m.toNat:Nat):Int)=m by omega]
theorem Qq7 (h:(i:Int) < m)(hu:c.2.1[m.toNat]? =some u)(hv:c.2.1[i]? =some v)(e:¬v=u):ZI c f i++Y9 c f i m.toNat=ZI c f i++Y9 c f i (m+1).toNat:=by
  rw[show (m+1).toNat=m.toNat+1 by omega,← Qom fun g=>e (by rw[← Qi2 hu,← Qi2 hv]; exact g.1.symm)]
end
theorem QiF {c:DSg}{i:Nat}{m:Int}{u v:ByteArray}(h:(i:Int) < m)(hu:c.2.1[m.toNat]? =some u)(hv:c.2.1[i]? =some v)(e:v=u):(ZI c (fun _ _=>true) i++Y9 c (fun _ _=>true) i m.toNat)++[[(i:Int),m]]=ZI c (fun _ _=>true) i++Y9 c (fun _ _=>true) i (m+1).toNat:=Qry h hu hv e rfl
theorem Qnw {c:DSg}{i:Nat}{m:Int}{u v:ByteArray}(h:(i:Int) < m)(hu:c.2.1[m.toNat]? =some u)(hv:c.2.1[i]? =some v)(e:¬v=u):ZI c (fun _ _=>true) i++Y9 c (fun _ _=>true) i m.toNat=ZI c (fun _ _=>true) i++Y9 c (fun _ _=>true) i (m+1).toNat:=Qq7 h hu hv e
theorem K3 (l:Int×Bool)(h:0≤l.1∧l.1≤7):FC Tryz.prog 333 [(true,[dI l.1,dB l.2])] [] 0 (QY (lI (mkV l))):=by
 refine Qn Tryz.func333 rfl rfl Tryz.ntmps333 fun O_ hO w0_ N0_ X_ h0_ f0_=> ?_
 refine acG 0 0 fun hi1=> ?_
 refine w_ ?_
 refine xbx 0 ?_
 iterate 7 refine w_ ?_
 cases hb2:(l.2)
 ·iterate 5 refine w_ ?_
  refine lc (X9 (Qk rfl) (Qa rfl) rfl (by omega))<|lc (Qfz (Qk rfl) (Qa rfl) rfl (by omega) (by exact Qmt (by omega) (by omega))) ?_
  iterate 2 refine w_ ?_
  refine Qb<|fqI hO ?_
  (unfold mkV; simp only[*]; rfl)
 ·iterate 4 refine w_ ?_
  refine lc (X9 (Qk rfl) (Qa rfl) rfl (by omega))<|lc (Qfz (Qk rfl) (Qa rfl) rfl (by omega) (by exact Qmt (by omega) (by omega))) ?_
  iterate 2 refine w_ ?_
  refine Qb<|fqI hO ?_
  (unfold mkV; simp only[*]; rfl)
theorem Wa (c:(List (ByteArray×Int))×List ByteArray×(List (Int×Int×Bool×Int)))(hs:SgW c):FC Tryz.prog 225 [(true,[.dat (.sl 44 (.pr .str .int)) c.1, .dat (.sl 9 .str) c.2.1, .dat (.sl 46 (.pr .int (.pr .int (.pr .bool .int)))) c.2.2])] [] 0 (Yo 3 .int (Yz c.2.1.length c.2.2)):=by
 have hr:∀a∈c.2.2,InR c.2.1.length a:=fun a ha=>(hs.arcs a ha).1
 have hn3:=hs.some_
 have hfw:=hs.few
 have hs8:=hs.sig8
 refine Qn Tryz.func225 rfl rfl Tryz.ntmps225 fun O_ hO w0_ N0_ X_ h0_ f0_=> ?_
 refine w_ ?_
 refine xbx 0 ?_
 iterate 5 refine w_ ?_
 refine alL 7 fun hl1=> ?_
 refine w_ ?_
 refine lc (YD 1 (e:= .int) (n:=c.2.1.length) (Qa rfl) (Qa rfl) Q9 Qe3 rfl (by omega) (by omega) rfl (Fresh.of rfl) (nlr rfl)) ?_
 iterate 6 refine w_ ?_
 refine alL 11 fun hl2=> ?_
 iterate 4 refine w_ ?_
 refine lp0 c.2.2.length (fun k=>⟨[(2,lf (.val (.slice none 0 0))),(3,lR 2),(11,lf (.dat (.sl 46 (.pr .int (.pr .int (.pr .bool .int)))) c.2.2)),(12,lI (c.2.2.length:Int)),(13,lI (k:Int))],[(2,some (.arr 3 .int (Yz c.2.1.length (c.2.2.take k))))]⟩) ?_ fun k hk3=> ?_
 · exact Wk.of [(2,1)] rfl ⟨rfl,rfl,rfl,rfl,rfl,trivial⟩ ⟨(Qj (by simp only[dh]; rfl)),trivial⟩ rfl rfl
 have hml:=Jx (n:=c.2.1.length) (as_:=c.2.2.take k)
 iterate 4 refine w_ ?_
 cases hb4:(decide ((k:Int) < (c.2.2.length:Int)))
 ·have hb4':=ae hb4
  refine w_ ?_
  refine Qh ?_
  refine (?_:AC _ _ _ _ _)
  iterate 4 refine w_ ?_
  refine Qb<|fo_ hO ?_
  rw[QO (by omega)]
 ·have hb4':=ab hb4
  iterate 5 refine w_ ?_
  obtain ⟨ar,hx6⟩:∃z,c.2.2[k]? =some z:=⟨_,aa (by omega)⟩
  have hain:=hr _ (aj hx6)
  obtain ⟨⟨ha1,ha2⟩,ha3,ha4⟩:=hain
  have hlab:=(hs.arcs _ (aj hx6)).2
  have hslt:ar.2.1 < (c.1.length:Int):=Qdv hlab
  have hmk:=Qp0 (ar.2.1,ar.2.2.1)
  iterate 2 refine w_ ?_
  refine lc (xal 3 (.pr .int (.pr .int (.pr .bool .int))) ZJ) ?_
  iterate 5 refine w_ ?_
  refine alI 18 fun hi7=> ?_
  iterate 2 refine w_ ?_
  cases hb8:(decide (0≤ar.2.1))
  ·have hb8':=ae hb8
   refine w_ ?_
   refine AC.skip ?_
   refine (?_:AC _ _ _ _ _)
   iterate 3 refine w_ ?_
   refine Qc ?_
   refine l0_ ?_
   exact Wk.of [] rfl ⟨rfl,rfl,rfl,rfl,rfl,trivial⟩ ⟨(Qj (by first | exact QiL hx6 (by assumption) hy | exact Qla hx6 (by assumption))),trivial⟩ rfl rfl
  ·have hb8':=ab hb8
   refine w_ ?_
   obtain ⟨y,hx10⟩:∃z,(Yz c.2.1.length (c.2.2.take k))[(ar.1).toNat]? =some z:=⟨_,aa (by omega)⟩
   have hy:=hx10
   have hyn:=Qas _ (aj hx10)
   apply dV (i3 20 _ _ _ (io 23 (lf (.ept 2 1 ((ar.1).toNat) 0)) :: io 24 (lI y) :: i4 25 _ _ _ _ [io 29 (ag [dI ar.2.1,dB ar.2.2.1]),io 30 (lI (mkV (ar.2.1,ar.2.2.1))),io 31 (lI ((y.toNat ||| (mkV (ar.2.1,ar.2.2.1)).toNat:Nat):Int)),io 32 (lf (.ept 2 1 ((ar.1).toNat) 0)),⟨none,lf (.val undef),[(2,some (.arr 3 .int ((Yz c.2.1.length (c.2.2.take k)).set ((ar.1).toNat) ((y.toNat ||| (mkV (ar.2.1,ar.2.2.1)).toNat:Nat):Int))))]⟩])) [0,1,1,0,0,31,31,127,127,31,31,0,0,0]
   iterate 3 refine z_ ?_
   refine zz (fun _ h_=>ac (QF (e:= .int) (h_.v rfl) (h_.en 2 rfl) (h_.v rfl) Q9 Zn rfl (by omega) (by first | omega | (simp only[ay]; omega))) rfl)<|zz (fun _ h_=>ac (Q4 (e:= .int) (h_.v rfl) (h_.n 2 rfl) hx10 rfl Zn rfl rfl) rfl) ?_
   iterate 4 refine z_ ?_
   refine zz (fun _ h_=>ac (Qm WR ⟨_,_,rfl,(h_.w rfl),⟨_,_,rfl,(h_.w rfl),rfl⟩⟩ (aA.1 rfl) rfl rfl) rfl) ?_
   refine zz (fun _ h_=>ac (dK (K3 (ar.2.1,ar.2.2.1) (by simp only; omega)) Qg5) rfl) ?_
   refine zz (fun _ h_=>ac (Qn7 (h_.v rfl) (h_.v rfl) rfl (by omega) (by omega)) rfl)<|zz (fun _ h_=>ac (QF (e:= .int) (h_.v rfl) (h_.en 2 rfl) (h_.v rfl) Q9 Zn rfl (by omega) (by first | omega | (simp only[ay]; omega))) rfl)<|zz (fun _ h_=>ac (Qp (e:= .int) (z':=((y.toNat ||| (mkV (ar.2.1,ar.2.2.1)).toNat:Nat):Int)) (h_.v rfl) (h_.n 2 rfl) hx10 rfl (h_.w rfl) rfl Zn rfl rfl) rfl) ?_
   exact zN
   refine (?_:AC _ _ _ _ _)
   iterate 3 refine w_ ?_
   refine Qc ?_
   refine l0_ ?_
   exact Wk.of [] rfl ⟨rfl,rfl,rfl,rfl,rfl,trivial⟩ ⟨(Qj (by first | exact QiL hx6 (by assumption) hy | exact Qla hx6 (by assumption))),trivial⟩ rfl rfl
theorem Ka (c:(List (ByteArray×Int))×List ByteArray×(List (Int×Int×Bool×Int)))(hn:c.2.1.length≤300):FC Tryz.prog 228 [(true,[.dat (.sl 44 (.pr .str .int)) c.1, .dat (.sl 9 .str) c.2.1, .dat (.sl 46 (.pr .int (.pr .int (.pr .bool .int)))) c.2.2])] [] 0 (Yo 32 (.sl 3 .int) (ZI c (fun _ _=>true) c.2.1.length)):=by
 refine Qn Tryz.func228 rfl rfl Tryz.ntmps228 fun O_ hO w0_ N0_ X_ h0_ f0_=> ?_
 refine w_ ?_
 refine xbx 0 ?_
 iterate 3 refine w_ ?_
 refine lc (dBs 1 (e:=(.sl 3 .int)) YW) ?_
 iterate 6 refine w_ ?_
 refine alL 9 fun hl1=> ?_
 iterate 4 refine w_ ?_
 refine lp0 c.2.1.length (fun i=>⟨[(1,lP 0 0),(2,lf (.val (.slice none 0 0))),(3,lR 2),(9,lf (.dat (.sl 9 .str) c.2.1)),(10,lI (c.2.1.length:Int)),(11,lI (i:Int))],[bx 0 27 [.dat (.sl 44 (.pr .str .int)) c.1, .dat (.sl 9 .str) c.2.1, .dat (.sl 46 (.pr .int (.pr .int (.pr .bool .int)))) c.2.2],ar 2 32 (.sl 3 .int) (ZI c (fun _ _=>true) i)]⟩) ?_ fun i hk2=> ?_
 · exact Wk.of [(2,1)] rfl ⟨rfl,rfl,rfl,rfl,rfl,rfl,trivial⟩ ⟨rfl,(Qj (rfl)),trivial⟩ rfl rfl
 have hal:=KM (c:=c) (f:=fun _ _=>true) (i:=i) hn
 iterate 4 refine w_ ?_
 cases hb3:(decide ((i:Int) < (c.2.1.length:Int)))
 ·have hb3':=ae hb3
  refine w_ ?_
  refine Qh ?_
  refine (?_:AC _ _ _ _ _)
  iterate 4 refine w_ ?_
  refine Qb<|fo_ hO ?_
  (congr 1; omega)
 ·have hb3':=ab hb3
  iterate 6 refine w_ ?_
  obtain ⟨ci,hx5⟩:∃z,c.2.1[i]? =some z:=⟨_,aa (by omega)⟩
  have hci:=hx5
  iterate 11 refine w_ ?_
  refine QK (fun m_ s_=>∃(m:Int) (out:List (List Int)),m_=((c.2.1.length:Int) - m).toNat∧((i:Int)+1≤m∧m≤(c.2.1.length:Int))∧(out=ZI c (fun _ _=>true) i++Y9 c (fun _ _=>true) i m.toNat)∧s_=⟨[(1,lP 0 0),(2,lf (.val (.slice none 0 0))),(3,lR 3),(4,lI (i:Int)),(5,lf (dS ci)),(6,lI m),(9,lf (.dat (.sl 9 .str) c.2.1)),(10,lI (c.2.1.length:Int)),(11,lI (i:Int)),(12,lB true),(13,lI (i:Int)),(14,lf (.elt .str ci 0)),(15,lf (dS ci)),(16,lI (i:Int)),(17,lI ((i:Int)+1))],[bx 0 27 [.dat (.sl 44 (.pr .str .int)) c.1, .dat (.sl 9 .str) c.2.1, .dat (.sl 46 (.pr .int (.pr .int (.pr .bool .int)))) c.2.2],ar 3 32 (.sl 3 .int) out]⟩) ⟨(i:Int)+1,ZI c (fun _ _=>true) i,rfl,(by omega),(by rw[show ((i:Int)+1).toNat=i+1 by omega,Qa6,bn]),rfl⟩ ?_ ?_
  · exact Wk.of [(3,2)] rfl ⟨rfl,rfl,rfl,rfl,rfl,rfl,rfl,rfl,rfl,rfl,rfl,rfl,rfl,rfl,rfl,trivial⟩ ⟨rfl,(Qj (by first | rfl | simp)),trivial⟩ rfl rfl
  rintro m_ s_ ⟨m,out,hm7,hm,hO1,rfl⟩
  have hol:out.length≤100000:=by rw[hO1,ao]; have:=Qb5 (c:=c) (f:=fun _ _=>true) (i:=i) (k:=m.toNat); have:=hal (by omega); omega
  iterate 5 refine w_ ?_
  refine alL 20 fun hl8=> ?_
  iterate 3 refine w_ ?_
  cases hb9:(decide (m < (c.2.1.length:Int)))
  ·have hb9':=ae hb9
   refine w_ ?_
   refine Qh ?_
   refine (?_:AC _ _ _ _ _)
   iterate 3 refine w_ ?_
   refine Qc ?_
   refine l0_ ?_
   exact Wk.of [(2,3)] rfl ⟨rfl,rfl,rfl,rfl,rfl,rfl,trivial⟩ ⟨rfl,(Qj ((by rw[hO1]; exact QoI (by omega) (by omega)))),trivial⟩ rfl rfl
  ·have hb9':=ab hb9
   iterate 8 refine w_ ?_
   obtain ⟨cm,hx11⟩:∃z,c.2.1[(m).toNat]? =some z:=⟨_,aa (by omega)⟩
   have hcm:=hx11
   iterate 5 refine w_ ?_
   cases hb12:(decide (cm=ci))
   ·have hb12':=ae hb12
    refine w_ ?_
    refine AC.skip ?_
    refine (?_:AC _ _ _ _ _)
    iterate 4 refine w_ ?_
    refine Qc<|Zq ⟨(m+1),out,rfl,(by omega),(by rw[hO1]; first | exact QiF (by omega) hcm hci (Eq.symm (by assumption)) | exact Qnw (by omega) hcm hci (fun h=>absurd h.symm (by assumption))),rfl⟩ (by omega) ?_
    exact Wk.of [] rfl ⟨rfl,rfl,rfl,rfl,rfl,rfl,rfl,rfl,rfl,rfl,rfl,rfl,rfl,rfl,rfl,trivial⟩ ⟨rfl,rfl,trivial⟩ rfl rfl
   ·have hb12':=ab hb12
    iterate 5 refine w_ ?_
    refine lc (dBs 4 (e:= .int) ZL) ?_
    refine lc (dBs 5 (e:=(.sl 3 .int)) YW (hab:=by exact ⟨_,_,_,_,rfl,(.inl ⟨_,rfl,rfl,rfl⟩),⟨rfl,rfl⟩,rfl⟩)) ?_
    refine lc (dA 6 Kg) ?_
    refine w_ ?_
    refine Qc ?_
    refine (?_:AC _ _ _ _ _)
    iterate 4 refine w_ ?_
    refine Qc<|Zq ⟨(m+1),(out++([[(i:Int),m]])),rfl,(by omega),(by rw[hO1]; first | exact QiF (by omega) hcm hci (Eq.symm (by assumption)) | exact Qnw (by omega) hcm hci (fun h=>absurd h.symm (by assumption))),rfl⟩ (by omega) ?_
    exact Wk.of [(3,6)] rfl ⟨rfl,rfl,rfl,rfl,rfl,rfl,rfl,rfl,rfl,rfl,rfl,rfl,rfl,rfl,rfl,trivial⟩ ⟨rfl,(Qj (by first | rfl | simp)),trivial⟩ rfl rfl
theorem nbt {b:Bool}(h:b=false):(!b)=true:=by rw[h]; rfl
theorem nbf {b:Bool}(h:b=true):(!b)=false:=by rw[h]; rfl
theorem QnB {masks pair:List Int}{p0 p1 m0 m1 sig:Int}(hp0:pair[0]? =some p0)(hp1:pair[1]? =some p1)(hm0:masks[p0.toNat]? =some m0)(hm1:masks[p1.toNat]? =some m1):
    (!((decide ((((m0 / 2 ^ (2*sig).toNat).toNat &&& (3:Int).toNat:Nat):Int)=0))==(decide ((((m1 / 2 ^ (2*sig).toNat).toNat &&& (3:Int).toNat:Nat):Int)=0))))=Xq masks pair sig:=by
  unfold Xq
  rw[XS (x:=0) (by simpa using hp0),XS (x:=1) (by simpa using hp1),XS hm0,XS hm1]
  rfl
theorem VM (sig:Int)(masks:List Int)(pair:List Int)(hm:∀x∈masks,0≤x)(hp:2≤pair.length∧∀x∈pair,0≤x∧x < (masks.length:Int))(hs:0≤sig∧sig≤7):FC Tryz.prog 230 [(false,[dI sig]),(false,[.ptr 0 0]),(false,[.ptr 1 0])] [bx 0 32 [.dat (.sl 3 .int) masks],bx 1 32 [.dat (.sl 3 .int) pair]] 2 (Is (lB (Xq masks pair sig)) [bx 0 32 [.dat (.sl 3 .int) masks],bx 1 32 [.dat (.sl 3 .int) pair]]):=by
 refine Qn Tryz.func230 rfl rfl Tryz.ntmps230 fun O_ hO w0_ N0_ X_ h0_ f0_=> ?_
 refine acI 0 fun hi1=> ?_
 iterate 3 refine w_ ?_
 obtain ⟨p0,hx3⟩:∃z,pair[0]? =some z:=⟨_,aa (by omega)⟩
 have hp0:=hx3
 have hrp0:=hp.2 _ (aj hx3)
 obtain ⟨m0,hx5⟩:∃z,masks[(p0).toNat]? =some z:=⟨_,aa (by omega)⟩
 have hm0:=hx5
 have hnm0:=hm _ (aj hx5)
 obtain ⟨p1,hx7⟩:∃z,pair[1]? =some z:=⟨_,aa (by omega)⟩
 have hp1:=hx7
 have hrp1:=hp.2 _ (aj hx7)
 obtain ⟨m1,hx9⟩:∃z,masks[(p1).toNat]? =some z:=⟨_,aa (by omega)⟩
 have hm1:=hx9
 have hnm1:=hm _ (aj hx9)
 apply dW (i7 5 _ _ _ _ _ _ _ (io 12 (lI (2*sig)) :: io 13 (lI (m0 / 2 ^ (2*sig).toNat)) :: io 14 (lI (((m0 / 2 ^ (2*sig).toNat).toNat &&& (3:Int).toNat:Nat):Int)) :: i8 15 _ _ _ _ _ _ _ _ [io 23 (lI (2*sig)),io 24 (lI (m1 / 2 ^ (2*sig).toNat)),io 25 (lI (((m1 / 2 ^ (2*sig).toNat).toNat &&& (3:Int).toNat:Nat):Int)),io 26 _,io 27 (lB (!((decide ((((m0 / 2 ^ (2*sig).toNat).toNat &&& (3:Int).toNat:Nat):Int)=0))==(decide ((((m1 / 2 ^ (2*sig).toNat).toNat &&& (3:Int).toNat:Nat):Int)=0))))),io 4 _])) [0,1,1,1,0,0,63,63,0,0,0,2047,4095,4095,4095,2047,2047,131071,131071,2047,2047,2047,0,0]
 iterate 7 refine z_ ?_
 refine zz (fun _ h_=>ac (X9 (Qk rfl) (h_.v rfl) rfl (by omega)) rfl)<|zz (fun _ h_=>ac (Jg (h_.v rfl) (h_.v rfl) rfl (by omega) (by first | omega | exact bS (by omega) (bU (by decide)))) rfl)<|zz (fun _ h_=>ac (Jo (h_.v rfl) (Qk rfl) rfl (by first | omega | exact bS (by omega) (bU (by decide))) (by omega)) rfl) ?_
 iterate 8 refine z_ ?_
 refine zz (fun _ h_=>ac (X9 (Qk rfl) (h_.v rfl) rfl (by omega)) rfl)<|zz (fun _ h_=>ac (Jg (h_.v rfl) (h_.v rfl) rfl (by omega) (by first | omega | exact bS (by omega) (bU (by decide)))) rfl)<|zz (fun _ h_=>ac (Jo (h_.v rfl) (Qk rfl) rfl (by first | omega | exact bS (by omega) (bU (by decide))) (by omega)) rfl) ?_
 refine z_ ?_
 refine zz (fun _ h_=>ac (Y5 (h_.v rfl) (h_.v rfl) rfl WY) rfl) ?_
 refine z_ ?_
 exact zN
 refine Qb ?_
 have e10:(!((decide ((((m0 / 2 ^ (2*sig).toNat).toNat &&& (3:Int).toNat:Nat):Int)=0))==(decide ((((m1 / 2 ^ (2*sig).toNat).toNat &&& (3:Int).toNat:Nat):Int)=0))):Bool)=(Xq masks pair sig):=by
  exact QnB hp0 hp1 hm0 hm1
 exact fi_ [] hO ⟨rfl,rfl,trivial⟩ (h0:=(congrArg (fun z_=>lB z_) e10))
theorem V7 (l:List Int)(masks:List Int)(pair:List Int)(hm:∀x∈masks,0≤x)(hp:2≤pair.length∧∀x∈pair,0≤x∧x < (masks.length:Int))(ho:∀s∈l,0≤s∧s≤7):FC Tryz.prog 202 [(false,[.dat (.sl 3 .int) l]),(false,[.clo 230 [0,1]])] [bx 0 32 [.dat (.sl 3 .int) masks],bx 1 32 [.dat (.sl 3 .int) pair]] 2 (Is (lI (Zp (fun s=>Xq masks pair s) l)) [bx 0 32 [.dat (.sl 3 .int) masks],bx 1 32 [.dat (.sl 3 .int) pair]]):=by
 refine Qn Tryz.func202 rfl rfl Tryz.ntmps202 fun O_ hO w0_ N0_ X_ h0_ f0_=> ?_
 iterate 6 refine w_ ?_
 refine alL 6 fun hl1=> ?_
 iterate 4 refine w_ ?_
 refine lpK l.length (fun k=>NoneTo (fun s=>Xq masks pair s) l k) (fun k=>⟨[(0,lf (.dat (.sl 3 .int) l)),(1,lf (.clo 230 [0,1])),(7,lI (l.length:Int)),(8,lI (k:Int))],[bx 0 32 [.dat (.sl 3 .int) masks],bx 1 32 [.dat (.sl 3 .int) pair]]⟩) (NoneTo.zero) ?_ fun k hk2 hno=> ?_
 · exact Wk.of [] rfl ⟨rfl,rfl,rfl,rfl,trivial⟩ ⟨rfl,rfl,trivial⟩ rfl rfl
 iterate 4 refine w_ ?_
 cases hb3:(decide ((k:Int) < (l.length:Int)))
 ·have hb3':=ae hb3
  refine w_ ?_
  refine Qh ?_
  refine (?_:AC _ _ _ _ _)
  iterate 3 refine w_ ?_
  refine Qb ?_
  have e4:((-1):Int)=(Zp (fun s=>Xq masks pair s) l):=by
   first | exact (hno.no (by omega)).symm
  exact fi_ [] hO ⟨rfl,rfl,trivial⟩ (h0:=(congrArg (fun z_=>lI z_) e4))
 ·have hb3':=ab hb3
  iterate 12 refine w_ ?_
  obtain ⟨x5,hx6⟩:∃z,l[k]? =some z:=⟨_,aa (by omega)⟩
  iterate 2 refine w_ ?_
  refine alI 15 fun hi7=> ?_
  refine lc (Yd (args0:=[(false,[dI x5])]) (caps:=[0,1]) 2 [(0,0),(1,1)] (VM x5 masks pair hm hp (ho _ (aj hx6))) Qgu rfl (Qa rfl) rfl rfl ⟨_,_,rfl,(Ql rfl),rfl⟩ ⟨rfl,rfl,trivial⟩ rfl ⟨trivial,trivial,trivial⟩ (nlr rfl)) ?_
  refine w_ ?_
  cases hb8:(Xq masks pair x5)
  ·refine w_ ?_
   refine AC.skip ?_
   refine (?_:AC _ _ _ _ _)
   iterate 3 refine w_ ?_
   refine Qc ?_
   refine lK_ (hno.step hx6 (by assumption)) ?_
   exact Wk.of [] rfl ⟨rfl,rfl,rfl,rfl,trivial⟩ ⟨rfl,rfl,trivial⟩ rfl rfl
  ·iterate 5 refine w_ ?_
   refine Qb ?_
   have e9:((k:Int):Int)=(Zp (fun s=>Xq masks pair s) l):=by
    exact (hno.at hx6 (by assumption)).symm
   exact fi_ [] hO ⟨rfl,rfl,trivial⟩ (h0:=(congrArg (fun z_=>lI z_) e9))
theorem WV (l:List Int)(masks:List Int)(pair:List Int)(hm:∀x∈masks,0≤x)(hp:2≤pair.length∧∀x∈pair,0≤x∧x < (masks.length:Int))(ho:∀s∈l,0≤s∧s≤7):FC Tryz.prog 95 [(false,[.dat (.sl 3 .int) l]),(false,[.clo 230 [0,1]])] [bx 0 32 [.dat (.sl 3 .int) masks],bx 1 32 [.dat (.sl 3 .int) pair]] 2 (Is (lB (l.any (fun s=>Xq masks pair s))) [bx 0 32 [.dat (.sl 3 .int) masks],bx 1 32 [.dat (.sl 3 .int) pair]]):=by
 refine Qn Tryz.func95 rfl rfl Tryz.ntmps95 fun O_ hO w0_ N0_ X_ h0_ f0_=> ?_
 iterate 6 refine w_ ?_
 refine lc (dP 2 [] (V7 l masks pair hm hp ho) QaZ) ?_
 iterate 3 refine w_ ?_
 refine Qb ?_
 have e1:(decide (0≤(Zp (fun s=>Xq masks pair s) l)):Bool)=(l.any (fun s=>Xq masks pair s)):=by
  exact Um _ _
 exact fi_ [] hO ⟨rfl,rfl,trivial⟩ (h0:=(congrArg (fun z_=>lB z_) e1))
theorem XQ (pair:List Int)(own_:List Int)(masks:List Int)(hm:∀x∈masks,0≤x)(hp:2≤pair.length∧∀x∈pair,0≤x∧x < (masks.length:Int))(ho:∀s∈own_,0≤s∧s≤7):FC Tryz.prog 229 [(false,[.dat (.sl 3 .int) pair]),(false,[.ptr 0 0]),(false,[.ptr 1 0])] [bx 0 32 [.dat (.sl 3 .int) own_],bx 1 32 [.dat (.sl 3 .int) masks]] 2 (Is (lB (!(own_.any (fun s=>Xq masks pair s)))) [bx 0 32 [.dat (.sl 3 .int) own_],bx 1 32 [.dat (.sl 3 .int) masks]]):=by
 refine Qn Tryz.func229 rfl rfl Tryz.ntmps229 fun O_ hO w0_ N0_ X_ h0_ f0_=> ?_
 refine w_ ?_
 refine xbx 2 ?_
 iterate 4 refine w_ ?_
 refine lc (YP ⟨_,_,rfl,(Qa rfl),rfl,⟨_,_,rfl,(Qa rfl),rfl,rfl⟩⟩ rfl) ?_
 refine lc (dP 3 [(0,1),(1,2)] (WV own_ masks pair hm hp ho) Qjl) ?_
 iterate 3 refine w_ ?_
 refine Qb ?_
 exact fi_ [] hO ⟨rfl,rfl,trivial⟩
theorem Kr (l:List Hdr)(vs_:List Hdr)(gF:Hdr→List Int)(own_:List Int)(masks:List Int)(hm:∀x∈masks,0≤x)(hv:∀v∈vs_,2≤(gF v).length∧∀x∈gF v,0≤x∧x < (masks.length:Int))(ho:∀s∈own_,0≤s∧s≤7)(hvs:∀v∈l,v∈vs_)(hl:l.length≤1000000):FC Tryz.prog 334 [(false,[.ref 3]),(false,[.clo 229 [0,1]])] [bx 0 32 [.dat (.sl 3 .int) own_],bx 1 32 [.dat (.sl 3 .int) masks],(2,some (.pl false (.sl 3 .int) vs_ gF)),ar 3 32 .vl l] 4 (Is (lI (Zp (fun v:Hdr=> !(own_.any (fun s=>Xq masks (gF v) s))) l)) [bx 0 32 [.dat (.sl 3 .int) own_],bx 1 32 [.dat (.sl 3 .int) masks],(2,some (.pl false (.sl 3 .int) vs_ gF)),ar 3 32 .vl l]):=by
 refine Qn Tryz.func334 rfl rfl Tryz.ntmps334 fun O_ hO w0_ N0_ X_ h0_ f0_=> ?_
 iterate 10 refine w_ ?_
 refine lpK l.length (fun k=>NoneTo (fun v:Hdr=> !(own_.any (fun s=>Xq masks (gF v) s))) l k) (fun k=>⟨[(0,lR 3),(1,lf (.clo 229 [0,1])),(7,lI (l.length:Int)),(8,lI (k:Int))],[bx 0 32 [.dat (.sl 3 .int) own_],bx 1 32 [.dat (.sl 3 .int) masks],(2,some (.pl false (.sl 3 .int) vs_ gF)),ar 3 32 .vl l]⟩) (NoneTo.zero) ?_ fun k hk1 hno=> ?_
 · exact Wk.of [] rfl ⟨rfl,rfl,rfl,rfl,trivial⟩ ⟨rfl,rfl,rfl,rfl,trivial⟩ rfl rfl
 iterate 4 refine w_ ?_
 cases hb2:(decide ((k:Int) < (l.length:Int)))
 ·have hb2':=ae hb2
  refine w_ ?_
  refine Qh ?_
  refine (?_:AC _ _ _ _ _)
  iterate 3 refine w_ ?_
  refine Qb ?_
  have e3:((-1):Int)=(Zp (fun v:Hdr=> !(own_.any (fun s=>Xq masks (gF v) s))) l):=by
   first | exact (hno.no (by omega)).symm
  exact fi_ [] hO ⟨rfl,rfl,rfl,rfl,trivial⟩ (h0:=(congrArg (fun z_=>lI z_) e3))
 ·have hb2':=ab hb2
  iterate 13 refine w_ ?_
  obtain ⟨x4,hx5⟩:∃z,l[k]? =some z:=⟨_,aa (by omega)⟩
  refine w_ ?_
  refine lc (Yd (args0:=[(false,[.dat (.sl 3 .int) (gF x4)])]) (caps:=[0,1]) 4 [(0,0),(1,1)] (XQ (gF x4) own_ masks hm (hv _ (hvs _ (aj hx5))) ho) QbQ rfl (Qa rfl) rfl rfl ⟨_,_,rfl,(Evl.ev (Evl.pl (p:=2) (Qa rfl) rfl (hvs _ (aj hx5)))),rfl⟩ ⟨rfl,rfl,trivial⟩ rfl ⟨trivial,trivial,trivial⟩ (nlr rfl)) ?_
  refine w_ ?_
  cases hb6:(own_.any (fun s=>Xq masks (gF x4) s))
  ·iterate 5 refine w_ ?_
   refine Qb ?_
   have e7:((k:Int):Int)=(Zp (fun v:Hdr=> !(own_.any (fun s=>Xq masks (gF v) s))) l):=by
    exact (hno.at hx5 (nbt (by assumption))).symm
   exact fi_ [] hO ⟨rfl,rfl,rfl,rfl,trivial⟩ (h0:=(congrArg (fun z_=>lI z_) e7))
  ·refine w_ ?_
   refine AC.skip ?_
   refine (?_:AC _ _ _ _ _)
   iterate 3 refine w_ ?_
   refine Qc ?_
   refine lK_ (hno.step hx5 (nbf (by assumption))) ?_
   exact Wk.of [] rfl ⟨rfl,rfl,rfl,rfl,trivial⟩ ⟨rfl,rfl,rfl,rfl,trivial⟩ rfl rfl
theorem UM (l:List Hdr)(vs_:List Hdr)(gF:Hdr→List Int)(own_:List Int)(masks:List Int)(hm:∀x∈masks,0≤x)(hv:∀v∈vs_,2≤(gF v).length∧∀x∈gF v,0≤x∧x < (masks.length:Int))(ho:∀s∈own_,0≤s∧s≤7)(hvs:∀v∈l,v∈vs_)(hl:l.length≤1000000):FC Tryz.prog 227 [(false,[.ref 3]),(false,[.clo 229 [0,1]])] [bx 0 32 [.dat (.sl 3 .int) own_],bx 1 32 [.dat (.sl 3 .int) masks],(2,some (.pl false (.sl 3 .int) vs_ gF)),ar 3 32 .vl l] 3 (Is (lR 4) [bx 0 32 [.dat (.sl 3 .int) own_],bx 1 32 [.dat (.sl 3 .int) masks],(2,some (.pl false (.sl 3 .int) vs_ gF)),ar 4 32 .vl (l.filter (fun v:Hdr=> !(!(own_.any (fun s=>Xq masks (gF v) s)))))]):=by
 have hix:=QeC (fun v:Hdr=> !(own_.any (fun s=>Xq masks (gF v) s))) l
 refine Qn Tryz.func227 rfl rfl Tryz.ntmps227 fun O_ hO w0_ N0_ X_ h0_ f0_=> ?_
 iterate 6 refine w_ ?_
 refine lc (dP 4 [] (Kr l vs_ gF own_ masks hm hv ho hvs hl) QhX) ?_
 iterate 7 refine w_ ?_
 refine cd_ (fun hb1 hb1'=> ?_) fun hb1 hb1'=> ?_
 ·iterate 8 refine w_ ?_
  refine QK (fun m_ s_=>∃(i:Int) (j:Int) (l2:List Hdr),m_=((l2.length:Int) - j).toNat∧(DelI (fun v:Hdr=> !(!(own_.any (fun s=>Xq masks (gF v) s)))) l l2 i j)∧s_=⟨[(0,lR 8),(1,lf (.clo 229 [0,1])),(4,lf (.val (.slice none 0 0))),(5,lI i),(6,lI j)],[bx 0 32 [.dat (.sl 3 .int) own_],bx 1 32 [.dat (.sl 3 .int) masks],(2,some (.pl false (.sl 3 .int) vs_ gF)),ar 8 32 .vl l2]⟩) ⟨Zp (fun v:Hdr=> !(own_.any (fun s=>Xq masks (gF v) s))) l,(Zp (fun v:Hdr=> !(own_.any (fun s=>Xq masks (gF v) s))) l)+1,l,rfl,(DelI.start (by assumption)),rfl⟩ ?_ ?_
  · exact Wk.of [(8,3)] rfl ⟨rfl,rfl,rfl,rfl,rfl,trivial⟩ ⟨rfl,rfl,rfl,rfl,trivial⟩ rfl rfl
  rintro m_ s_ ⟨i,j,l2,hm3,hD,rfl⟩
  have hDb:=hD.1
  have hDl:=hD.2.1
  iterate 7 refine w_ ?_
  cases hb4:(decide (j < (l2.length:Int)))
  ·have hb4':=ae hb4
   refine w_ ?_
   refine Qh ?_
   refine (?_:AC _ _ _ _ _)
   iterate 3 refine w_ ?_
   refine lc (ZD (e:= .vl) (a:=(i).toNat) (b:=l2.length - (i).toNat) (l:=(some i)) (h:=none) (Qa rfl) rfl (by exact (Qa rfl)) (by exact trivial) Xp Yt rfl (by first | (simp only[au,ap]; omega) | omega | (simp only[au,ap,ao,aw,aD]; omega)) (by first | (simp only[au,ap]; omega) | omega | (simp only[au,ap,ao,aw,aD]; omega)) (by first | (simp only[au,ap]; omega) | omega | (simp only[au,ap,ao,aw,aD]; omega)) (by first | rfl | simp) (by first | rfl | simp))<|lc (Hg (e:= .vl) (Qa rfl) rfl (by omega) Xp YW rfl rfl rfl) ?_
   iterate 4 refine w_ ?_
   refine lc (ZD (e:= .vl) (a:=0) (b:=(i).toNat) (l:=none) (h:=(some i)) (Qa rfl) rfl (by exact trivial) (by exact (Qa rfl)) Xp Yt rfl (by first | (simp only[au,ap]; omega) | omega | (simp only[au,ap,ao,aw,aD]; omega)) (by first | (simp only[au,ap]; omega) | omega | (simp only[au,ap,ao,aw,aD]; omega)) (by first | (simp only[au,ap]; omega) | omega | (simp only[au,ap,ao,aw,aD]; omega)) (by first | rfl | simp) (by first | rfl | simp)) ?_
   iterate 2 refine w_ ?_
   refine AC.wk (Qa0 9 4 (e:= .vl) (xs:=l2.take ((i).toNat)++List.replicate (l2.length - (i).toNat) (Ty.zero .vl)) rfl rfl (by first | omega | (simp only[ao,aw,aD]; omega)) rfl (Fresh.of rfl) (nlr rfl))<|Qb ?_
   exact fi_ [(4,9)] hO ⟨rfl,rfl,rfl,(Qj (by exact hD.end_ (by assumption) _ (by omega))),trivial⟩
  ·have hb4':=ab hb4
   iterate 8 refine w_ ?_
   obtain ⟨xj,hx6⟩:∃z,l2[(j).toNat]? =some z:=⟨_,aa (by omega)⟩
   have h_xj:=hx6
   iterate 6 refine w_ ?_
   refine lc (Yd (args0:=[(false,[.dat (.sl 3 .int) (gF xj)])]) (caps:=[0,1]) 10 [(0,0),(1,1)] (XQ (gF xj) own_ masks hm (hv _ (hvs _ (aj (hD.at_ hx6)))) ho) QbQ rfl (Qa rfl) rfl rfl ⟨_,_,rfl,(Evl.ev (Evl.pl (p:=2) (Qa rfl) rfl (hvs _ (aj (hD.at_ hx6))))),rfl⟩ ⟨rfl,rfl,trivial⟩ rfl ⟨trivial,trivial,trivial⟩ (nlr rfl)) ?_
   iterate 2 refine w_ ?_
   cases hb7:(!(own_.any (fun s=>Xq masks (gF xj) s)))
   ·iterate 6 refine w_ ?_
    obtain ⟨x8,hx9⟩:∃z,l2[(i).toNat]? =some z:=⟨_,aa (by omega)⟩
    have h_x8:=hx9
    refine lc (Qp (e:= .vl) (z':=xj) (Qa rfl) rfl hx9 rfl (Ql rfl) rfl Yt rfl rfl) ?_
    iterate 5 refine w_ ?_
    refine Qc ?_
    refine (?_:AC _ _ _ _ _)
    iterate 4 refine w_ ?_
    refine Qc<|Zq ⟨(i+1),(j+1),(l2.set ((i).toNat) xj),rfl,(by exact hD.keep h_xj (nbt (by assumption))),rfl⟩ (by first | omega | (simp only[ay]; omega)) ?_
    exact Wk.of [] rfl ⟨rfl,rfl,rfl,rfl,rfl,trivial⟩ ⟨rfl,rfl,rfl,(Qj (by first | rfl | simp)),trivial⟩ rfl rfl
   ·refine w_ ?_
    refine AC.skip ?_
    refine (?_:AC _ _ _ _ _)
    iterate 4 refine w_ ?_
    refine Qc<|Zq ⟨i,(j+1),l2,rfl,(by exact hD.drop_ h_xj (nbf (by assumption))),rfl⟩ (by first | omega | (simp only[ay]; omega)) ?_
    exact Wk.of [] rfl ⟨rfl,rfl,rfl,rfl,rfl,trivial⟩ ⟨rfl,rfl,rfl,rfl,trivial⟩ rfl rfl
 ·iterate 4 refine w_ ?_
  refine Qb ?_
  exact fi_ [(4,3)] hO ⟨rfl,rfl,rfl,(Qj (by exact Hm (by assumption))),trivial⟩
theorem KE (c:(List (ByteArray×Int))×List ByteArray×(List (Int×Int×Bool×Int)))(hs:SgW c):FC Tryz.prog 114 [(true,[.dat (.sl 44 (.pr .str .int)) c.1, .dat (.sl 9 .str) c.2.1, .dat (.sl 46 (.pr .int (.pr .int (.pr .bool .int)))) c.2.2])] [] 0 (QY (lf (.dat (.sl 32 (.sl 3 .int)) (Wy c)))):=by
 have hr:∀a∈c.2.2,InR c.2.1.length a:=fun a ha=>(hs.arcs a ha).1
 have hn3:=hs.some_
 have hfw:=hs.few
 have hs8:=hs.sig8
 have hmn:=Qas (n:=c.2.1.length) (as_:=c.2.2)
 have hml:=Jx (n:=c.2.1.length) (as_:=c.2.2)
 have hou:∀s∈QQ c.1 c.1.length,0≤s∧s≤7:=fun s h=>by obtain ⟨t,rfl,h1,_⟩:=JD.1 h; omega
 have hal:=KM (c:=c) (f:=fun _ _=>true) (i:=c.2.1.length) (by omega) (aQ _)
 refine Qn Tryz.func114 rfl rfl Tryz.ntmps114 fun O_ hO w0_ N0_ X_ h0_ f0_=> ?_
 refine w_ ?_
 refine xbx 0 ?_
 iterate 2 refine w_ ?_
 apply dW [io 5 _,io 6 (lf (.dat (.sl 3 .int) (Yz c.2.1.length c.2.2))),io 7 _,io 8 (lf (.dat (.sl 3 .int) (QQ c.1 c.1.length))),⟨some 3,lP 1 0,[bx 1 32 [.val (.slice none 0 0)]]⟩,⟨some 4,lP 2 0,[bx 2 32 [.val (.slice none 0 0)]]⟩,⟨none,lf (.val undef),[bx 1 32 [.dat (.sl 3 .int) (Yz c.2.1.length c.2.2)]]⟩,⟨none,lf (.val undef),[bx 2 32 [.dat (.sl 3 .int) (QQ c.1 c.1.length)]]⟩] [0,0,3,0,15,31,0,0]
 refine z_ ?_
 refine zz (fun _ h_=>ac (dK (Wa c hs).frozen Qb1) rfl) ?_
 refine z_ ?_
 refine zz (fun _ h_=>ac (dK (Hu c (by omega)).frozen Qgf) rfl) ?_
 refine zz (fun _ h_=>ac (Wg 1 (.sl 3 .int) YW rfl rfl (h_.fr 1 rfl) (nlr rfl)) rfl)<|zz (fun _ h_=>ac (Wg 2 (.sl 3 .int) YW rfl rfl (h_.fr 2 rfl) (nlr rfl)) rfl) ?_
 iterate 2 refine z_ ?_
 exact zN
 iterate 2 refine w_ ?_
 refine lc (dO 3 (Ka c (by omega)) QgP) ?_
 refine lc (YP ⟨_,_,rfl,(Qa rfl),rfl,⟨_,_,rfl,(Qa rfl),rfl,rfl⟩⟩ rfl)<|AL.pool (q:=3) (e:= .int) 4 rfl (Fresh.of rfl) (nlr rfl) fun vs1 gf2 hvf3=> ?_
 refine lc (dP 5 [(0,2),(2,4)] (UM vs1 vs1 gf2 (QQ c.1 c.1.length) (Yz c.2.1.length c.2.2) hmn (fun v hv=>by rw[hml]; exact Qmr (by rw[← hvf3]; exact List.mem_map_of_mem hv) (aQ _)) hou (fun _ h=>h) (by have:=congrArg List.length hvf3; rw[aN] at this; omega)) Qhx) ?_
 iterate 2 refine w_ ?_
 refine AC.wk (QkJ (i:=2) (q:=9) (p:=4) rfl rfl rfl (fun z hz=>(be.1 hz).1))<|Qb<|fq_ hO ?_
 exact (Qmn hvf3).trans (QnR fun a ha=>(hr a ha).1.1)
end Go.Proofs.YtgpdhgadmjfokaaGreat
namespace Go.Proofs.YtgpdhgadmjfokaaGreat
open Go.RowKit
set_option maxRecDepth 100000
set_option maxHeartbeats 4000000
def Qsc (c:DSg)(s:ByteArray):Bool:=c.2.2.any fun a=>QqM s a&&QE c a.2.1
def Qro (f:DAr→Bool)(as_:List DAr)(k:Nat):List Int:=((List.range k).filter fun i=>match as_[i]? with | some a=>f a | none=>false).map fun i=>((i:Nat):Int)
def exL (c:DSg)(q sig:Int)(up:Bool):Bool:=c.2.2.any fun a=>decide (a.1=q∧a.2.1=sig∧a.2.2.1=up)
def Qps (c:DSg)(sig:Int)(up:Bool)(a:DAr):Bool:= !decide (a.2.1=sig)&&(exL c a.1 sig up&& !exL c a.2.2.2 sig up)
def QsL (c:DSg)(sig:Int)(a:DAr):Bool:=Qps c sig false a||Qps c sig true a
abbrev Qrk (c:DSg)(sig:Int)(k:Nat):List Int:=Qro (QsL c sig) c.2.2 k
def QsA (c:DSg)(k:Nat):Int:=((QQ c.1 k).map fun s=>((Qrk c s c.2.2.length).length:Int)).sum
def QrN (c:DSg):Int:=QsA c c.1.length
def QsJ (sig:Int)(up:Bool)(l:List Int)(a:DAr):List Int:=if a.2.1=sig∧a.2.2.1=up then Z7 ltI a.1 l else l
def exS (sig:Int)(up:Bool)(as_:List DAr):List Int:=as_.foldl (QsJ sig up) []
def Qp4 (c:DSg)(sig:Int)(up:Bool)(l:List Int)(k:Nat):List Int:=(Qro (Qps c sig up) c.2.2 k).foldl (fun l i=>Z7 ltI i l) l
def Qtg (c:DSg)(sig:Int):Nat→List Int
  | 0=>[]
  | 1=>Qp4 c sig false [] c.2.2.length
  | _=>Qp4 c sig true (Qp4 c sig false [] c.2.2.length) c.2.2.length
section
variable {c:DSg}{as_:List DAr}{a:DAr}{i j k n:Nat}{s:ByteArray}{sig q x y:Int}{up:Bool}{l:List Int}{f g:DAr→Bool}
def Qtm (c:DSg)(l:List Int):Int:=(l.map fun s=>((Qrk c s c.2.2.length).length:Int)).sum
end
end Go.Proofs.YtgpdhgadmjfokaaGreat
namespace Go.Proofs.YtgpdhgadmjfokaaGreat
open Go.RowKit
set_option maxRecDepth 100000
set_option maxHeartbeats 4000000
def Qsq (s:Int):ByteArray:=(⟨#[UInt8.ofNat (48+s).toNat]⟩:ByteArray)++(⟨#[44]⟩:ByteArray)
def Qtb (c:DSg)(q:Int)(i:Nat):ByteArray:=((QQ c.1 i).filter fun s=>QH c q s).foldl (fun b s=>b++Qsq s) (⟨#[]⟩:ByteArray)
section
variable {c:DSg}{as_:List DAr}{a:DAr}{i j k n:Nat}{s q:Int}{z:QB}
theorem QnP (hx:c.2.2[k]? =some a)(h1:a.1=q)(h2:a.2.1=s):true=QH c q s:=(bC.2 ⟨a,aj hx,aI ⟨h1,h2⟩⟩).symm
theorem Qpd (hn:∀j,j < k→∀a,c.2.2[j]? =some a→¬(a.1=q∧a.2.1=s))(hk:c.2.2.length≤k):false=QH c q s:=(cn.2 fun a ha=>by
  obtain ⟨j,hj⟩:=aT.1 ha
  have:=(ah.1 hj).1
  simpa using hn j (by omega) a hj).symm
end
section
variable [∀c,Decidable (SgOk c)][∀s,Decidable (XJ s)]{c:DSg}{x:(Int×Bool)×Int×Bool}
abbrev Qqy (c:DSg)(x:(Int×Bool)×Int×Bool):ByteArray:=Qp6 c (Ud c x.1 x.2)
abbrev QpD (c:DSg)(x:(Int×Bool)×Int×Bool):(DSg×List Int)×Bool:=Qse c (Qsl c) (Qqy c x)
def QrV (c:DSg)(x:(Int×Bool)×Int×Bool):Bool:=okB c x.1 x.2&& !Qsc c (Qqy c x)
def QeG (c:DSg)(x:(Int×Bool)×Int×Bool):DSg×Bool:=
  if QrV c x=true then ((QpD c x).1.1,(QpD c x).2&&decide (QrN (QpD c x).1.1≤QrN c)) else (Vq,false)
def QrW (c:DSg)(x:(Int×Bool)×Int×Bool):Prop:=((SgOk c∧(0≤x.1.1∧x.1.1≤(c.1.length:Int) - 1))∧(0≤x.2.1∧x.2.1≤(c.1.length:Int) - 1))∧¬x.1=x.2
instance:Decidable (QrW c x):=inferInstanceAs (Decidable (_∧_))
def Qoq (c:DSg)(x:(Int×Bool)×Int×Bool):Bool:=decide (QrW c x)&&(QeG c x).2
def Qs5 (c:DSg)(x:(Int×Bool)×Int×Bool):Int:=if Qoq c x=true then ((Wy (QeG c x).1).length:Int) else 0
def QsY (c:DSg)(x:(Int×Bool)×Int×Bool):Int:=if Qoq c x=true then ((QeG c x).1.2.1.length:Int) else 0
end
theorem Zd (c:(List (ByteArray×Int))×List ByteArray×(List (Int×Int×Bool×Int)))(k:Int)(sig:Int):FC Tryz.prog 286 [(true,[.dat (.sl 44 (.pr .str .int)) c.1, .dat (.sl 9 .str) c.2.1, .dat (.sl 46 (.pr .int (.pr .int (.pr .bool .int)))) c.2.2]),(false,[dI k]),(false,[dI sig])] [] 0 (QY (lB (QH c k sig))):=by
 refine Qn Tryz.func286 rfl rfl Tryz.ntmps286 fun O_ hO w0_ N0_ X_ h0_ f0_=> ?_
 refine acI 1 fun hi1=> ?_
 refine acI 2 fun hi2=> ?_
 refine w_ ?_
 refine xbx 0 ?_
 iterate 6 refine w_ ?_
 refine alL 10 fun hl3=> ?_
 iterate 4 refine w_ ?_
 refine lpK c.2.2.length (fun i=>∀j,j < i→∀a,c.2.2[j]? =some a→¬(a.1=k∧a.2.1=sig)) (fun i=>⟨[(1,lI k),(2,lI sig),(10,lf (.dat (.sl 46 (.pr .int (.pr .int (.pr .bool .int)))) c.2.2)),(11,lI (c.2.2.length:Int)),(12,lI (i:Int))],[]⟩) ((fun j hj=>absurd hj (br j))) ?_ fun i hk4 hno=> ?_
 · exact Wk.of [] rfl ⟨rfl,rfl,rfl,rfl,rfl,trivial⟩ trivial rfl rfl
 iterate 4 refine w_ ?_
 cases hb5:(decide ((i:Int) < (c.2.2.length:Int)))
 ·have hb5':=ae hb5
  refine w_ ?_
  refine Qh ?_
  refine (?_:AC _ _ _ _ _)
  iterate 3 refine w_ ?_
  refine Qb<|fqB hO ?_
  first | exact Qpd hno (by omega)
 ·have hb5':=ab hb5
  iterate 5 refine w_ ?_
  obtain ⟨x6,hx7⟩:∃z,c.2.2[i]? =some z:=⟨_,aa (by omega)⟩
  iterate 2 refine w_ ?_
  refine lc (xal 1 (.pr .int (.pr .int (.pr .bool .int))) ZJ) ?_
  iterate 5 refine w_ ?_
  refine alI 17 fun hi8=> ?_
  iterate 3 refine w_ ?_
  cases hb9:(decide (x6.1=k))
  ·have hb9':=ae hb9
   iterate 7 refine w_ ?_
   refine AC.skip ?_
   refine (?_:AC _ _ _ _ _)
   iterate 3 refine w_ ?_
   refine Qc ?_
   refine lK_ ((Y2 hno hx7 (by first | (exact fun g=>absurd g.1 (by assumption)) | (exact fun g=>absurd g.2 (by assumption))))) ?_
   exact Wk.of [] rfl ⟨rfl,rfl,rfl,rfl,rfl,trivial⟩ trivial rfl rfl
  ·have hb9':=ab hb9
   iterate 6 refine w_ ?_
   cases hb10:(decide (x6.2.1=sig))
   ·have hb10':=ae hb10
    refine w_ ?_
    refine AC.skip ?_
    refine (?_:AC _ _ _ _ _)
    iterate 3 refine w_ ?_
    refine Qc ?_
    refine lK_ ((Y2 hno hx7 (by first | (exact fun g=>absurd g.1 (by assumption)) | (exact fun g=>absurd g.2 (by assumption))))) ?_
    exact Wk.of [] rfl ⟨rfl,rfl,rfl,rfl,rfl,trivial⟩ trivial rfl rfl
   ·have hb10':=ab hb10
    iterate 4 refine w_ ?_
    refine Qb<|fqB hO ?_
    exact QnP hx7 (by assumption) (by assumption)
end Go.Proofs.YtgpdhgadmjfokaaGreat
namespace Go.Proofs.YtgpdhgadmjfokaaGreat
open Go.RowKit
set_option maxRecDepth 100000
set_option maxHeartbeats 4000000
abbrev Yf:=(Int×Bool)×Int×Bool
def Qor (k:Nat):List (Int×Bool):=(List.range k).flatMap fun i=>[(((i:Nat):Int),false),(((i:Nat):Int),true)]
section
variable {k:Nat}
end
section
variable [∀c,Decidable (SgOk c)][∀s,Decidable (XJ s)]{c:DSg}{a b:Int×Bool}{i j k n:Nat}{x:Yf}{L:List (Int×Bool)}
def isX (c:DSg)(a b:Int×Bool):Bool:= !decide (a=b)&&(QeG c (a,b)).2
def QsB (c:DSg)(a:Int×Bool)(l:List (Int×Bool)):List Yf:=(l.filter fun b=>isX c a b).map fun b=>(a,b)
def Qsp (c:DSg)(L l:List (Int×Bool)):List Yf:=l.flatMap fun a=>QsB c a L
abbrev Qkl (c:DSg):List Yf:=Qsp c (Qor c.1.length) (Qor c.1.length)
abbrev QsW (c:DSg)(l:List Yf):List (Yf×DSg):=l.map fun x=>(x,(QeG c x).1)
def Qd8 (c:DSg)(x:Yf):Int:=((Wy (QeG c x).1).length:Int)
def Qlr (c:DSg)(x:Yf):Int:=((QeG c x).1.2.1.length:Int)
def Qpq (c:DSg)(m:Option Yf)(x:Yf):Option Yf:=match m with
  | none=>some x
  | some y=>if Qd8 c x < Qd8 c y∨(Qd8 c x=Qd8 c y∧Qlr c x < Qlr c y) then some x else some y
def oC (c:DSg):Option Yf→Yf×DSg
  | some x=>(x,(QeG c x).1)
  | none=>(((0,false),0,false),([],[],[]))
def oF (c:DSg)(d:Int):Option Yf→Int
  | some x=>Qd8 c x
  | none=>d
def oS (c:DSg):Option Yf→Int
  | some x=>Qlr c x
  | none=>0
def Qa3 (c:DSg)(l:List Yf):Option Yf:=l.foldl (Qpq c) none
def Qoz (c:DSg)(l:List Yf):Yf:=(Qa3 c l).getD ((0,false),0,false)
def Qq1 (c:DSg)(l:List Yf):Yf×DSg:=oC c (Qa3 c l)
def QqI (c:DSg)(l:List Yf):Int:=oF c 0 (Qa3 c l)
def QsU (c:DSg)(l:List Yf):Int:=oF c (-1) (Qa3 c l)
def QsX (c:DSg)(l:List Yf):Int:=oS c (Qa3 c l)
def Qte (c:DSg):Yf:=if SgOk c then Qoz c (Qkl c) else ((0,false),0,false)
def Qtj (c:DSg):Bool:=decide (SgOk c)&&(Qa3 c (Qkl c)).isSome
section
variable {l:List Yf}{y cand:Yf×DSg}{few st:Int}{fnd:Bool}{bx:Yf}
end
end
end Go.Proofs.YtgpdhgadmjfokaaGreat
namespace Go.Proofs.YtgpdhgadmjfokaaGreat
open Go.RowKit
attribute [local irreducible] TF
abbrev QbX:Type:=Zk×Zk
abbrev Qpx:Ty:= .pr Ha Ha
end Go.Proofs.YtgpdhgadmjfokaaGreat
namespace Go.Proofs.YtgpdhgadmjfokaaGreat
open Go.RowKit
set_option maxRecDepth 100000
set_option maxHeartbeats 4000000
@[reducible] def QoN:(QbX)→Int→(QbX)×Int:=fun _ k=>(((k,decide ((k+1) % 3=0)),(k+1+1,decide ((k+1+1+1) % 3=0))),k+1+1+1+1)
end Go.Proofs.YtgpdhgadmjfokaaGreat
