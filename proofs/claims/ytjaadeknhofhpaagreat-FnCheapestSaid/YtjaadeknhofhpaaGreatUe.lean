/- Walks over abstract states: masks of labels; pairs of states that violate complete state coding, the program. -/
import Derived.Test.YtjaadeknhofhpaaGreatUd
import Derived.Test.YtjaadeknhofhpaaGreatFz
set_option linter.unusedSimpArgs false
set_option linter.unusedVariables false
set_option linter.unusedSectionVars false
namespace Go.Proofs.YtjaadeknhofhpaaGreat
open Go.RowKit
set_option maxRecDepth 100000
set_option maxHeartbeats 4000000
structure SgW (c:DSg):Prop where
  sig8:c.1.length≤8
  some_:1≤c.2.1.length∧c.2.1.length≤300
  few:c.2.2.length≤4000
  arcs:∀a∈c.2.2,InR c.2.1.length a∧Vs (c.1.length:Int) (a.2.1,a.2.2.1)
theorem SgOk.w {c:DSg}(h:SgOk c):SgW c:=⟨h.sigs.2.2,h.some_,h.few,fun a ha=>⟨Xi (h.arcs a ha),(h.arcs a ha).2.2.1⟩⟩
def mkV (l:Int×Bool):Int:=(if l.2=true then 2 else 1)*2 ^ (2*l.1).toNat
def orA (s:List Int)(a:DAr):List Int:=if 0≤a.2.1 then s.set a.1.toNat (((((s[a.1.toNat]?).getD 0).toNat ||| (mkV (a.2.1,a.2.2.1)).toNat:Nat)):Int) else s
def XL (n:Nat)(as_:List DAr):List Int:=as_.foldl orA (List.replicate n 0)
def mAt (l:List Int)(x:Int):Int:=(l[x.toNat]?).getD 0
def Qiq (m:Int)(s:Int):Bool:=decide ((((m / 2 ^ (2*s).toNat).toNat &&& (3:Int).toNat:Nat):Int)=0)
def Wt (masks pair:List Int)(s:Int):Bool:= !(Qiq (mAt masks (mAt pair 0)) s==Qiq (mAt masks (mAt pair 1)) s)
def V8 (c:DSg)(k s:Int):Bool:=c.2.2.any fun a=>decide (a.1=k∧a.2.1=s)
def cdA (c:DSg)(j:Nat):ByteArray:=(c.2.1[j]?).getD ByteArray.empty
def X2 (c:DSg)(f:Nat→Nat→Bool)(i k:Nat):List (List Int):=((List.range k).filter fun j=>decide (i < j)&&(decide (cdA c j=cdA c i)&&f i j)).map fun j:Nat=>[(i:Int),(j:Int)]
def Xu (c:DSg)(f:Nat→Nat→Bool)(i:Nat):List (List Int):=(List.range i).flatMap fun i=>X2 c f i c.2.1.length
def QaH (c:DSg)(i j:Nat):Bool:=(ZI c.1 c.1.length).any fun s=> !(V8 c i s==V8 c j s)
def YT (c:DSg):List (List Int):=Xu c (QaH c) c.2.1.length
section
variable {c:DSg}{as_:List DAr}{a:DAr}{i j k n:Nat}{f g:Nat→Nat→Bool}{s x y m:Int}{l masks pair:List Int}{u v:ByteArray}
theorem QqT {m x:Int}(hm:0≤m∧m≤2)(h:0≤x∧x≤14): -9223372036854775808≤m*2 ^ x.toNat∧m*2 ^ x.toNat≤9223372036854775807:=by
  have h1:(2:Int) ^ x.toNat≤2 ^ 14:=by
    have:(2:Nat) ^ x.toNat≤2 ^ 14:=Nat.pow_le_pow_right (by omega) (by omega)
    exact_mod_cast this
  have h2:(0:Int)≤2 ^ x.toNat:=ck (by decide)
  have h3:m*2 ^ x.toNat≤2*2 ^ 14:=Int.mul_le_mul hm.2 h1 h2 (by decide)
  have h4:0≤m*2 ^ x.toNat:=Int.mul_nonneg hm.1 h2
  exact ⟨by omega,Int.le_trans h3 (by decide)⟩
theorem QsN (l:Int×Bool):0≤mkV l:=by
  unfold mkV
  exact Int.mul_nonneg (by split <;> decide) (ck (by decide))
theorem Qf5:∀(as_:List DAr) (s:List Int),(as_.foldl orA s).length=s.length
  | [],_=>rfl
  | a :: as_,s=>by
    rw[aS,Qf5 as_]
    unfold orA
    split <;> simp
theorem QaJ:(XL n as_).length=n:=by unfold XL; rw[Qf5]; simp
theorem Qh3:∀(as_:List DAr) (s:List Int),(∀x∈s,0≤x)→∀x∈as_.foldl orA s,0≤x
  | [],_,h=>h
  | a :: as_,s,h=>by
    rw[aS]
    refine Qh3 as_ _ ?_
    unfold orA
    split
    · intro x hx
      rcases bV hx with hx | rfl
      · exact h x hx
      · exact bN _
    · exact h
theorem QaT:∀x∈XL n as_,0≤x:=Qh3 as_ _ (by simp)
theorem Qmn (hx:as_[k]? =some a)(h:0≤a.2.1)(hy:(XL n (as_.take k))[a.1.toNat]? =some y):(XL n (as_.take k)).set a.1.toNat (((y.toNat ||| (mkV (a.2.1,a.2.2.1)).toNat:Nat)):Int)=XL n (as_.take (k+1)):=by
  unfold XL at*
  rw[QO hx,b9,aS,bX]
  unfold orA
  rw[if_pos h]
  unfold orA at hy
  rw[hy]; rfl
theorem Qpa (hx:as_[k]? =some a)(h:¬0≤a.2.1):XL n (as_.take k)=XL n (as_.take (k+1)):=by
  unfold XL
  rw[QO hx,b9,aS,bX,orA,if_neg h]
theorem JW (h:l[x.toNat]? =some y):mAt l x=y:=by unfold mAt; rw[h]; rfl
theorem Qff:X2 c f i (i+1)=[]:=by
  unfold X2
  rw[List.map_eq_nil_iff,List.filter_eq_nil_iff]
  intro j hj
  rw[cj] at hj
  simp; intro h; omega
theorem QqR (h:i < k)(hu:c.2.1[k]? =some u)(hv:c.2.1[i]? =some v)(e:u=v)(hf:f i k=true):X2 c f i k++[[(i:Int),(k:Int)]]=X2 c f i (k+1):=by
  unfold X2
  rw[bK,b5,bh]
  simp[h,cdA,hu,hv,e,hf]
theorem QmO (h:¬(cdA c k=cdA c i∧f i k=true)):X2 c f i k=X2 c f i (k+1):=by
  unfold X2
  rw[bK,b5,bh]
  have:(decide (i < k)&&(decide (cdA c k=cdA c i)&&f i k))=false:=by
    cases hd:decide (cdA c k=cdA c i)&&f i k with
    | false=>simp
    | true=>simp only[aG,aN] at hd; exact absurd hd h
  simp[this]
theorem Qm5 (h:c.2.1[k]? =some u):cdA c k=u:=by unfold cdA; rw[h]; rfl
theorem VF:Xu c f i++X2 c f i c.2.1.length=Xu c f (i+1):=by
  unfold Xu
  rw[bK,List.flatMap_append]; simp
theorem QdK:(X2 c f i k).length≤k:=by unfold X2; rw[aF]; exact b4 (bG ..) (by simp)
theorem QoW:(Xu c f i).length≤i*c.2.1.length:=by
  induction i with
  | zero=>simp[Xu]
  | succ i ih=>
    rw[← VF,aa,Nat.succ_mul]
    have:=QdK (c:=c) (f:=f) (i:=i) (k:=c.2.1.length)
    omega
theorem Qea (hn:c.2.1.length≤300)(hi:i≤c.2.1.length):(Xu c f i).length≤90000:=by
  have h1:=QoW (c:=c) (f:=f) (i:=i)
  have h2:i*c.2.1.length≤300*300:=Nat.mul_le_mul (by omega) hn
  omega
theorem Qp5 {p:List Int}(h:p∈X2 c f i k):∃j:Nat,j < k∧i < j∧p=[(i:Int),(j:Int)]:=by
  unfold X2 at h
  obtain ⟨j,hj,rfl⟩:=bQ.1 h
  rw[bY,cj] at hj
  simp only[aG,aN] at hj
  exact ⟨j,hj.1,hj.2.1,rfl⟩
theorem QqQ {p:List Int}(h:p∈Xu c f n)(hn:n≤c.2.1.length):2≤p.length∧∀x∈p,0≤x∧x < (c.2.1.length:Int):=by
  unfold Xu at h
  obtain ⟨i,hi,h⟩:=List.mem_flatMap.1 h
  rw[cj] at hi
  obtain ⟨j,h1,h2,rfl⟩:=Qp5 h
  refine ⟨by simp,fun x hx=> ?_⟩
  simp only[aH,cp,or_false] at hx
  rcases hx with rfl | rfl <;> omega
theorem QhI (q:List Int→Bool):(X2 c f i k).filter q=X2 c (fun i j=>f i j&&q [(i:Int),(j:Int)]) i k:=by
  unfold X2
  rw[List.filter_map,List.filter_filter]
  congr 1
  apply cW
  intro j _
  simp only[Function.comp]
  cases decide (i < j) <;> cases decide (cdA c j=cdA c i) <;> cases f i j <;> simp
theorem Qh9 (q:List Int→Bool):(Xu c f n).filter q=Xu c (fun i j=>f i j&&q [(i:Int),(j:Int)]) n:=by
  induction n with
  | zero=>rfl
  | succ n ih=>rw[← VF,← VF,b5,ih,QhI]
theorem Qlt (h:∀i j,i < n→j < c.2.1.length→f i j=g i j):Xu c f n=Xu c g n:=by
  induction n with
  | zero=>rfl
  | succ n ih=>
    rw[← VF,← VF,ih fun i j hi hj=>h i j (by omega) hj]
    congr 1
    unfold X2
    congr 1
    apply cW
    intro j hj
    rw[cj] at hj
    rw[h n j (by omega) hj]
theorem QhH (b:Nat):Nat.testBit 3 b=decide (b < 2):=by
  match b with
  | 0=>rfl
  | 1=>rfl
  | b+2=>
    rw[show (3:Nat)=2 ^ 2 - 1 from rfl,Nat.testBit_two_pow_sub_one]
theorem Qt8 (m t:Nat):((m / 2 ^ t) &&& 3=0)↔(m.testBit t=false∧m.testBit (t+1)=false):=by
  rw[← Nat.shiftRight_eq_div_pow]
  constructor
  · intro h
    have h0:=congrArg (fun z=>Nat.testBit z 0) h
    have h1:=congrArg (fun z=>Nat.testBit z 1) h
    simp only[Nat.testBit_and,Nat.testBit_shiftRight,QhH,Nat.zero_testBit,cA] at h0 h1
    simpa using And.intro h0 h1
  · rintro ⟨h0, h1⟩
    apply Nat.eq_of_testBit_eq
    intro b
    rw[Nat.testBit_and,Nat.testBit_shiftRight,QhH,Nat.zero_testBit]
    match b with
    | 0=>simp[h0]
    | 1=>simp[h1]
    | b+2=>simp
theorem QnN (hm:0≤m):Qiq m s=true↔(m.toNat.testBit (2*s).toNat=false∧m.toNat.testBit ((2*s).toNat+1)=false):=by
  unfold Qiq
  rw[aN,← Qt8]
  have:(m / 2 ^ (2*s).toNat).toNat=m.toNat / 2 ^ (2*s).toNat:=by
    have e:m / 2 ^ (2*s).toNat=((m.toNat / 2 ^ (2*s).toNat:Nat):Int):=by
      rw[Int.natCast_ediv,ce hm,Int.natCast_pow]; rfl
    rw[e]; rfl
  rw[this]
  show (((m.toNat / 2 ^ (2*s).toNat) &&& 3:Nat):Int)=0↔_
  omega
theorem Qq9 {l:Int×Bool}(h:0≤l.1)(b:Nat):(mkV l).toNat.testBit b=decide (b=(2*l.1).toNat+(if l.2=true then 1 else 0)):=by
  have e:(mkV l).toNat=2 ^ ((2*l.1).toNat+(if l.2=true then 1 else 0)):=by
    unfold mkV
    obtain ⟨x,up⟩:=l
    cases up
    · simp only [bF, if_false, Int.one_mul, cA]
      have:((2:Int) ^ (2*x).toNat)=((2 ^ (2*x).toNat:Nat):Int):=by rw[Int.natCast_pow]; rfl
      rw[this]; rfl
    · simp only [if_true]
      have:(2:Int)*2 ^ (2*x).toNat=((2 ^ ((2*x).toNat+1):Nat):Int):=by rw[Int.natCast_pow,Int.pow_succ,Int.mul_comm]; rfl
      rw[this]; rfl
  rw[e,Nat.testBit_two_pow]
  by_cases hb:b=(2*l.1).toNat+(if l.2=true then 1 else 0)
  · simp[hb]
  · simp[hb,Ne.symm hb]
theorem QbJ:∀(as_:List DAr) (s0:List Int) (k:Nat) (b:Nat),(∀a∈as_,0≤a.1)→k < s0.length→
    ((((as_.foldl orA s0)[k]?).getD 0).toNat.testBit b=true↔((s0[k]?).getD 0).toNat.testBit b=true∨∃a∈as_,0≤a.2.1∧a.1=(k:Int)∧b=(2*a.2.1).toNat+(if a.2.2.1=true then 1 else 0))
  | [],s0,k,b,_,_=>by simp
  | a :: as_,s0,k,b,hr,hk=>by
    have ha:=hr a (aA ..)
    have hlen:(orA s0 a).length=s0.length:=by unfold orA; split <;> simp
    rw[aS,QbJ as_ (orA s0 a) k b (fun x hx=>hr x (ax _ hx)) (by omega)]
    have h1:(((orA s0 a)[k]?).getD 0).toNat.testBit b=true↔((s0[k]?).getD 0).toNat.testBit b=true∨(0≤a.2.1∧a.1=(k:Int)∧b=(2*a.2.1).toNat+(if a.2.2.1=true then 1 else 0)):=by
      unfold orA
      split
      · rename_i h0
        by_cases e:a.1.toNat=k
        · subst e
          rw[aR hk,ae]
          show ((((s0[a.1.toNat]?).getD 0).toNat ||| (mkV (a.2.1,a.2.2.1)).toNat)).testBit b=true↔_
          rw[Nat.testBit_or,bA,Qq9 h0,aN]
          have e2:a.1=((a.1.toNat:Nat):Int):=by omega
          simp only[h0,true_and]
          constructor
          · rintro (h | h)
            · exact .inl h
            · exact .inr ⟨e2,h⟩
          · rintro (h | h)
            · exact .inl h
            · exact .inr h.2
        · rw [aZ e]
          have e2:¬a.1=(k:Int):=fun h=>e (by omega)
          simp[e2]
      · rename_i h0
        simp[h0]
    rw[h1]
    constructor
    · rintro ((h | h) | ⟨x, hx, h⟩)
      · exact .inl h
      · exact .inr ⟨a,aA ..,h⟩
      · exact .inr ⟨x,ax _ hx,h⟩
    · rintro (h | ⟨x, hx, h⟩)
      · exact .inl (.inl h)
      · rcases aH.1 hx with rfl | hx
        · exact .inl (.inr h)
        · exact .inr ⟨x,hx,h⟩
theorem Qbh (hr:∀a∈c.2.2,0≤a.1)(hk:k < c.2.1.length)(hs:0≤s):Qiq (mAt (XL c.2.1.length c.2.2) (k:Int)) s= !V8 c k s:=by
  have hnn:0≤mAt (XL c.2.1.length c.2.2) (k:Int):=by
    unfold mAt
    rw[cM,ai (by rw[QaJ]; exact hk)]
    exact QaT _ (cI _)
  have hb:∀b,(mAt (XL c.2.1.length c.2.2) (k:Int)).toNat.testBit b=true↔∃a∈c.2.2,0≤a.2.1∧a.1=(k:Int)∧b=(2*a.2.1).toNat+(if a.2.2.1=true then 1 else 0):=fun b=>by
    unfold mAt XL
    rw[cM,QbJ c.2.2 _ k b hr (by simpa using hk)]
    simp[bI,hk]
  rw[bC,QnN hnn,bB]
  have hex:V8 c k s=true↔∃a∈c.2.2,a.1=(k:Int)∧a.2.1=s:=by
    unfold V8
    rw[bS]
    simp
  constructor
  · rintro ⟨h1, h2⟩
    cases he:V8 c k s with
    | false=>rfl
    | true=>
      obtain ⟨a,ha,e1,e2⟩:=hex.1 he
      cases hu:a.2.2.1 with
      | false=>
        have:=(hb (2*s).toNat).2 ⟨a,ha,by omega,e1,by rw[e2,hu]; simp⟩
        rw[h1] at this; cases this
      | true=>
        have:=(hb ((2*s).toNat+1)).2 ⟨a,ha,by omega,e1,by rw[e2,hu]; simp⟩
        rw[h2] at this; cases this
  · intro he
    have hno:∀a∈c.2.2,¬(a.1=(k:Int)∧a.2.1=s):=fun a ha h=>by
      rw[hex.2 ⟨a,ha,h⟩] at he; cases he
    constructor
    · cases h : (mAt (XL c.2.1.length c.2.2) (k : Int)).toNat.testBit (2 * s).toNat with
      | false=>rfl
      | true=>
        obtain ⟨a,ha,h0,e1,e2⟩:=(hb _).1 h
        have:a.2.1=s:=by split at e2 <;> omega
        exact absurd ⟨e1,this⟩ (hno a ha)
    · cases h : (mAt (XL c.2.1.length c.2.2) (k : Int)).toNat.testBit ((2 * s).toNat + 1) with
      | false=>rfl
      | true=>
        obtain ⟨a,ha,h0,e1,e2⟩:=(hb _).1 h
        have:a.2.1=s:=by split at e2 <;> omega
        exact absurd ⟨e1,this⟩ (hno a ha)
theorem QrL (hr:∀a∈c.2.2,0≤a.1):(Xu c (fun _ _=>true) c.2.1.length).filter (fun p=>(ZI c.1 c.1.length).any fun s=>Wt (XL c.2.1.length c.2.2) p s)=YT c:=by
  rw[Qh9]
  unfold YT
  refine Qlt fun i j hi hj=> ?_
  rw[Bool.true_and]
  unfold QaH
  have hp0:mAt [(i:Int),(j:Int)] 0=i:=rfl
  have hp1:mAt [(i:Int),(j:Int)] 1=j:=rfl
  rw[bC,bS,bS]
  constructor
  · rintro ⟨s, hs, h⟩
    obtain ⟨t,rfl,_,_⟩:=UX.1 hs
    refine ⟨_,hs, ?_⟩
    unfold Wt at h
    rw[hp0,hp1,Qbh hr hi (by omega),Qbh hr hj (by omega)] at h
    revert h
    cases V8 c i t <;> cases V8 c j t <;> simp
  · rintro ⟨s, hs, h⟩
    obtain ⟨t,rfl,_,_⟩:=UX.1 hs
    refine ⟨_,hs, ?_⟩
    unfold Wt
    rw[hp0,hp1,Qbh hr hi (by omega),Qbh hr hj (by omega)]
    revert h
    cases V8 c i t <;> cases V8 c j t <;> simp
theorem QqL {α β:Type}{q:β→Bool}{f:α→β}{l:List α}{xs:List β}(h:l.map f=xs):(l.filter fun v=> !(!q (f v))).map f=xs.filter q:=by
  subst h
  rw[List.filter_map]
  congr 1
  apply cW
  intro v _
  simp
end
section
variable {c:DSg}{f:Nat→Nat→Bool}{i:Nat}{m:Int}{u v:ByteArray}
theorem QsC (h1:m≤(c.2.1.length:Int))(h2:¬m < (c.2.1.length:Int)):Xu c f i++X2 c f i m.toNat=Xu c f (i+1):=by rw[show m.toNat=c.2.1.length by omega,VF]
theorem QlM (h:(i:Int) < m)(hu:c.2.1[m.toNat]? =some u)(hv:c.2.1[i]? =some v)(e:v=u)(hf:f i m.toNat=true):(Xu c f i++X2 c f i m.toNat)++[[(i:Int),m]]=Xu c f i++X2 c f i (m+1).toNat:=by
  rw[show (m+1).toNat=m.toNat+1 by omega,← QqR (by omega) hu hv e.symm hf,aM,show ((m.toNat:Nat):Int)=m by omega]
theorem QlJ (h:(i:Int) < m)(hu:c.2.1[m.toNat]? =some u)(hv:c.2.1[i]? =some v)(e:¬v=u):Xu c f i++X2 c f i m.toNat=Xu c f i++X2 c f i (m+1).toNat:=by
  rw[show (m+1).toNat=m.toNat+1 by omega,← QmO fun g=>e (by rw[← Qm5 hu,← Qm5 hv]; exact g.1.symm)]
theorem Qo2 (h:(i:Int) < m)(hf:f i m.toNat=false):Xu c f i++X2 c f i m.toNat=Xu c f i++X2 c f i (m+1).toNat:=by
  rw[show (m+1).toNat=m.toNat+1 by omega,← QmO fun g=>by rw[hf] at g; cases g.2]
end
theorem Qsw {c:DSg}{i:Nat}{m:Int}{u v:ByteArray}(h:(i:Int) < m)(hu:c.2.1[m.toNat]? =some u)(hv:c.2.1[i]? =some v)(e:v=u):(Xu c (fun _ _=>true) i++X2 c (fun _ _=>true) i m.toNat)++[[(i:Int),m]]=Xu c (fun _ _=>true) i++X2 c (fun _ _=>true) i (m+1).toNat:=QlM h hu hv e rfl
theorem Qu5 {c:DSg}{i:Nat}{m:Int}{u v:ByteArray}(h:(i:Int) < m)(hu:c.2.1[m.toNat]? =some u)(hv:c.2.1[i]? =some v)(e:¬v=u):Xu c (fun _ _=>true) i++X2 c (fun _ _=>true) i m.toNat=Xu c (fun _ _=>true) i++X2 c (fun _ _=>true) i (m+1).toNat:=QlJ h hu hv e
theorem QaM (l:Int×Bool)(h:0≤l.1∧l.1≤7):FC Tryz.prog 278 [(true,[dI l.1,dB l.2])] [] 0 (Zk (lI (mkV l))):=by
 refine Qy Tryz.func278 rfl rfl Tryz.ntmps278 fun O_ hO w0_ N0_ X_ h0_ f0_=> ?_
 refine AC.fact (QH (x:= .tmp 0) (i:=0) (Qf rfl) rfl) fun hi1=> ?_
 refine w_ ?_
 refine xbx 0 ?_
 iterate 7 refine w_ ?_
 cases hb2:(l.2)
 iterate 5 refine w_ ?_
 refine lc (W6 (Qu rfl) (Qa rfl) rfl (by omega))<|lc (QhZ (Qu rfl) (Qa rfl) rfl (by omega) (by exact QqT (by omega) (by omega))) ?_
 iterate 3 refine w_ ?_
 subst hO
 have e3:((1:Int)*2 ^ (2*l.1).toNat:Int)=(mkV l):=by
  (unfold mkV; simp only[*]; rfl)
 exact Qe (Res.one rfl (Qb rfl)) (by rw[e3] <;> rfl) rfl
 iterate 4 refine w_ ?_
 refine lc (W6 (Qu rfl) (Qa rfl) rfl (by omega))<|lc (QhZ (Qu rfl) (Qa rfl) rfl (by omega) (by exact QqT (by omega) (by omega))) ?_
 iterate 3 refine w_ ?_
 subst hO
 have e4:((2:Int)*2 ^ (2*l.1).toNat:Int)=(mkV l):=by
  (unfold mkV; simp only[*]; rfl)
 exact Qe (Res.one rfl (Qb rfl)) (by rw[e4] <;> rfl) rfl
theorem VS (c:(List (ByteArray×Int))×List ByteArray×(List (Int×Int×Bool×Int)))(hs:SgW c):FC Tryz.prog 194 [(true,[.dat Qo c.1, .dat Qr c.2.1, .dat QD c.2.2])] [] 0 (Xe 3 .int (XL c.2.1.length c.2.2)):=by
 have hr:∀a∈c.2.2,InR c.2.1.length a:=fun a ha=>(hs.arcs a ha).1
 have hn3:=hs.some_
 have hfw:=hs.few
 have hs8:=hs.sig8
 refine Qy Tryz.func194 rfl rfl Tryz.ntmps194 fun O_ hO w0_ N0_ X_ h0_ f0_=> ?_
 refine w_ ?_
 refine xbx 0 ?_
 iterate 5 refine w_ ?_
 refine AL.fact (Qp (x:= .tmp 7) (Qa rfl)) fun hl1=> ?_
 refine w_ ?_
 refine lc (Wd 1 (e:= .int) (n:=c.2.1.length) (Qa rfl) (Qa rfl) YZ Ql3 rfl (by omega) (by omega) rfl (Fresh.of rfl) (nlr rfl)) ?_
 iterate 6 refine w_ ?_
 refine AL.fact (Qp (x:= .tmp 11) (Qa rfl)) fun hl2=> ?_
 iterate 4 refine w_ ?_
 refine Qm (fun m_ s_=>∃(k:Nat),k≤c.2.2.length∧m_=c.2.2.length - k∧s_=⟨[(2,lf (.val (.slice none 0 0))),(3,lR 2),(11,lf (.dat QD c.2.2)),(12,lI (c.2.2.length:Int)),(13,lI (k:Int))],[(2,some (.arr 3 .int (XL c.2.1.length (c.2.2.take k))))]⟩) ⟨0,ap _,rfl,rfl⟩ ?_ ?_
 exact wp [(2,1)] ⟨(Qh (by simp only[cD]; rfl)),trivial⟩
 rintro m_ s_ ⟨k,hk3,hm4,rfl⟩
 have hml:=QaJ (n:=c.2.1.length) (as_:=c.2.2.take k)
 iterate 4 refine w_ ?_
 cases hb5:(decide ((k:Int) < (c.2.2.length:Int)))
 have hb5':=a6 hb5
 iterate 8 refine w_ ?_
 subst hO
 refine Zc (e:= .int) (xs:=(XL c.2.1.length (c.2.2.take k))) (Res.one rfl (Qb rfl)) rfl ?_
 rw[QN (by omega)]
 have hb5':=a7 hb5
 iterate 5 refine w_ ?_
 obtain ⟨ar,hx7⟩:=gx c.2.2 k
 have hain:=hr _ (a8 hx7)
 obtain ⟨⟨ha1,ha2⟩,ha3,ha4⟩:=hain
 have hlab:=(hs.arcs _ (a8 hx7)).2
 have hslt:ar.2.1 < (c.1.length:Int):=Ud hlab
 have hmk:=QsN (ar.2.1,ar.2.2.1)
 iterate 2 refine w_ ?_
 refine lc (xal 3 QA Za) ?_
 iterate 5 refine w_ ?_
 refine AL.fact (Ql (x:= .tmp 18) (Qa rfl)) fun hi8=> ?_
 iterate 2 refine w_ ?_
 cases hb9:(decide (0≤ar.2.1))
 have hb9':=a6 hb9
 iterate 6 refine w_ ?_
 refine Qc<|QE ⟨k+1,by omega,rfl,rfl⟩ (by omega) ?_
 exact wp [] ⟨(Qh (by first | exact Qmn hx7 ‹_› hy | exact Qpa hx7 ‹_›)),trivial⟩
 have hb9':=a7 hb9
 refine w_ ?_
 obtain ⟨y,hx11⟩:=gx (XL c.2.1.length (c.2.2.take k)) ((ar.1).toNat)
 have hy:=hx11
 have hyn:=QaT _ (a8 hx11)
 apply dV [io 20 _,io 21 _,io 22 _,io 23 (lf (.ept 2 1 ((ar.1).toNat) 0)),io 24 (lI y),io 25 _,io 26 _,io 27 _,io 28 _,io 29 (ag [dI ar.2.1,dB ar.2.2.1]),io 30 (lI (mkV (ar.2.1,ar.2.2.1))),io 31 (lI ((y.toNat ||| (mkV (ar.2.1,ar.2.2.1)).toNat:Nat):Int)),io 32 (lf (.ept 2 1 ((ar.1).toNat) 0)),⟨none,lf (.val undef),[(2,some (.arr 3 .int ((XL c.2.1.length (c.2.2.take k)).set ((ar.1).toNat) ((y.toNat ||| (mkV (ar.2.1,ar.2.2.1)).toNat:Nat):Int))))]⟩] [0,1,1,0,0,31,31,127,127,31,31,0,0,0]
 iterate 3 refine z_ ?_
 refine zz (fun _ h_=>ac (QS (e:= .int) (h_.v rfl) (h_.en 2 rfl) (h_.v rfl) YZ WK rfl (by omega) (by first | omega | (simp only[au]; omega))) rfl)<|zz (fun _ h_=>ac (Zp (e:= .int) (h_.v rfl) (h_.n 2 rfl) hx11 rfl WK rfl rfl) rfl) ?_
 iterate 4 refine z_ ?_
 refine zz (fun _ h_=>ac (Qi XM ⟨_,_,rfl,(h_.w rfl),⟨_,_,rfl,(h_.w rfl),rfl⟩⟩ (ah.1 rfl) rfl rfl) rfl) ?_
 refine zz (fun _ h_=>ac (dK (QaM (ar.2.1,ar.2.2.1) (by simp only; omega)) QkH) rfl) ?_
 refine zz (fun _ h_=>ac (Qr5 (h_.v rfl) (h_.v rfl) rfl (by omega) (by omega)) rfl)<|zz (fun _ h_=>ac (QS (e:= .int) (h_.v rfl) (h_.en 2 rfl) (h_.v rfl) YZ WK rfl (by omega) (by first | omega | (simp only[au]; omega))) rfl)<|zz (fun _ h_=>ac (QG (e:= .int) (z':=((y.toNat ||| (mkV (ar.2.1,ar.2.2.1)).toNat:Nat):Int)) (h_.v rfl) (h_.n 2 rfl) hx11 rfl (h_.w rfl) rfl WK rfl rfl) rfl) ?_
 exact zN
 iterate 4 refine w_ ?_
 refine Qc<|QE ⟨k+1,by omega,rfl,rfl⟩ (by omega) ?_
 exact wp [] ⟨(Qh (by first | exact Qmn hx7 ‹_› hy | exact Qpa hx7 ‹_›)),trivial⟩
theorem HO (c:(List (ByteArray×Int))×List ByteArray×(List (Int×Int×Bool×Int)))(hn:c.2.1.length≤300):FC Tryz.prog 197 [(true,[.dat Qo c.1, .dat Qr c.2.1, .dat QD c.2.2])] [] 0 (Xe 95 QI (Xu c (fun _ _=>true) c.2.1.length)):=by
 refine Qy Tryz.func197 rfl rfl Tryz.ntmps197 fun O_ hO w0_ N0_ X_ h0_ f0_=> ?_
 refine w_ ?_
 refine xbx 0 ?_
 iterate 3 refine w_ ?_
 refine lc (dBs 1 (e:=QI) Qbx) ?_
 iterate 6 refine w_ ?_
 refine AL.fact (Qp (x:= .tmp 9) (Qa rfl)) fun hl1=> ?_
 iterate 4 refine w_ ?_
 refine Qm (fun m_ s_=>∃(i:Nat),i≤c.2.1.length∧m_=c.2.1.length - i∧s_=⟨[(1,lP 0 0),(2,lf (.val (.slice none 0 0))),(3,lR 2),(9,lf (.dat Qr c.2.1)),(10,lI (c.2.1.length:Int)),(11,lI (i:Int))],[(0,some (.box 52 [.dat Qo c.1, .dat Qr c.2.1, .dat QD c.2.2])),(2,some (.arr 95 QI (Xu c (fun _ _=>true) i)))]⟩) ⟨0,ap _,rfl,rfl⟩ ?_ ?_
 exact wp [(2,1)] ⟨rfl,(Qh (rfl)),trivial⟩
 rintro m_ s_ ⟨i,hk2,hm3,rfl⟩
 have hal:=Qea (c:=c) (f:=fun _ _=>true) (i:=i) hn
 iterate 4 refine w_ ?_
 cases hb4:(decide ((i:Int) < (c.2.1.length:Int)))
 have hb4':=a6 hb4
 iterate 8 refine w_ ?_
 subst hO
 refine Zc (e:=QI) (xs:=(Xu c (fun _ _=>true) i)) (Res.one rfl (Qb rfl)) rfl ?_
 (congr 1; omega)
 have hb4':=a7 hb4
 iterate 6 refine w_ ?_
 obtain ⟨ci,hx6⟩:=gx c.2.1 i
 have hci:=hx6
 iterate 11 refine w_ ?_
 refine Qm (fun m_ s_=>∃(m:Int) (out:List (List Int)),m_=((c.2.1.length:Int) - m).toNat∧((i:Int)+1≤m∧m≤(c.2.1.length:Int))∧(out=Xu c (fun _ _=>true) i++X2 c (fun _ _=>true) i m.toNat)∧s_=⟨[(1,lP 0 0),(2,lf (.val (.slice none 0 0))),(3,lR 3),(4,lI (i:Int)),(5,lf (dS ci)),(6,lI m),(9,lf (.dat Qr c.2.1)),(10,lI (c.2.1.length:Int)),(11,lI (i:Int)),(12,lB true),(13,lI (i:Int)),(14,lf (.elt .str ci 0)),(15,lf (dS ci)),(16,lI (i:Int)),(17,lI ((i:Int)+1))],[(0,some (.box 52 [.dat Qo c.1, .dat Qr c.2.1, .dat QD c.2.2])),(3,some (.arr 95 QI out))]⟩) ⟨(i:Int)+1,Xu c (fun _ _=>true) i,rfl,(by omega),(by rw[show ((i:Int)+1).toNat=i+1 by omega,Qff,bo]),rfl⟩ ?_ ?_
 exact wp [(3,2)] ⟨rfl,(Qh (by first | rfl | simp)),trivial⟩
 rintro m_ s_ ⟨m,out,hm8,hm,hO1,rfl⟩
 have hol:out.length≤100000:=by rw[hO1,aa]; have:=QdK (c:=c) (f:=fun _ _=>true) (i:=i) (k:=m.toNat); have:=hal (by omega); omega
 iterate 5 refine w_ ?_
 refine AL.fact (Qp (x:= .tmp 20) (Qa rfl)) fun hl9=> ?_
 iterate 3 refine w_ ?_
 cases hb10:(decide (m < (c.2.1.length:Int)))
 have hb10':=a6 hb10
 iterate 6 refine w_ ?_
 refine Qc<|QE ⟨i+1,by omega,rfl,rfl⟩ (by omega) ?_
 exact wp [(2,3)] ⟨rfl,(Qh ((by rw[hO1]; exact QsC (by omega) (by omega)))),trivial⟩
 have hb10':=a7 hb10
 iterate 8 refine w_ ?_
 obtain ⟨cm,hx12⟩:=gx c.2.1 ((m).toNat)
 have hcm:=hx12
 iterate 5 refine w_ ?_
 cases hb13:(decide (cm=ci))
 have hb13':=a6 hb13
 iterate 7 refine w_ ?_
 refine Qc<|QE ⟨(m+1),out,rfl,(by omega),(by rw[hO1]; first | exact Qsw (by omega) hcm hci (Eq.symm ‹_›) | exact Qu5 (by omega) hcm hci (fun h=>absurd h.symm ‹_›)),rfl⟩ (by omega) ?_
 exact wo []
 have hb13':=a7 hb13
 iterate 5 refine w_ ?_
 refine lc (dBs 4 (e:= .int) YD) ?_
 refine lc (dBs 5 (e:=QI) Qbx (hab:=by exact ⟨_,_,_,_,rfl,(.inl ⟨_,rfl,rfl,rfl⟩),⟨rfl,rfl⟩,rfl⟩)) ?_
 refine lc (dA 6 Qpw) ?_
 refine w_ ?_
 refine Qc ?_
 iterate 5 refine w_ ?_
 refine Qc<|QE ⟨(m+1),(out++([[(i:Int),m]])),rfl,(by omega),(by rw[hO1]; first | exact Qsw (by omega) hcm hci (Eq.symm ‹_›) | exact Qu5 (by omega) hcm hci (fun h=>absurd h.symm ‹_›)),rfl⟩ (by omega) ?_
 exact wp [(3,6)] ⟨rfl,(Qh (by first | rfl | simp)),trivial⟩
theorem nbt {b:Bool}(h:b=false):(!b)=true:=by rw[h]; rfl
theorem nbf {b:Bool}(h:b=true):(!b)=false:=by rw[h]; rfl
theorem Qrk {masks pair:List Int}{p0 p1 m0 m1 sig:Int}(hp0:pair[0]? =some p0)(hp1:pair[1]? =some p1)(hm0:masks[p0.toNat]? =some m0)(hm1:masks[p1.toNat]? =some m1):
    (!((decide ((((m0 / 2 ^ (2*sig).toNat).toNat &&& (3:Int).toNat:Nat):Int)=0))==(decide ((((m1 / 2 ^ (2*sig).toNat).toNat &&& (3:Int).toNat:Nat):Int)=0))))=Wt masks pair sig:=by
  unfold Wt
  rw[JW (x:=0) (by simpa using hp0),JW (x:=1) (by simpa using hp1),JW hm0,JW hm1]
  rfl
theorem KX (sig:Int)(masks:List Int)(pair:List Int)(hm:∀x∈masks,0≤x)(hp:2≤pair.length∧∀x∈pair,0≤x∧x < (masks.length:Int))(hs:0≤sig∧sig≤7):FC Tryz.prog 199 [(false,[dI sig]),(false,[.ptr 0 0]),(false,[.ptr 1 0])] [(0,some (.box 95 [.dat QI masks])),(1,some (.box 95 [.dat QI pair]))] 2 (Is (lB (Wt masks pair sig)) [(0,some (.box 95 [.dat QI masks])),(1,some (.box 95 [.dat QI pair]))]):=by
 refine Qy Tryz.func199 rfl rfl Tryz.ntmps199 fun O_ hO w0_ N0_ X_ h0_ f0_=> ?_
 refine AC.fact (Ql (x:= .tmp 0) (Qa rfl)) fun hi1=> ?_
 iterate 3 refine w_ ?_
 obtain ⟨p0,hx3⟩:=gx pair 0
 have hp0:=hx3
 have hrp0:=hp.2 _ (a8 hx3)
 obtain ⟨m0,hx5⟩:=gx masks ((p0).toNat)
 have hm0:=hx5
 have hnm0:=hm _ (a8 hx5)
 obtain ⟨p1,hx7⟩:=gx pair 1
 have hp1:=hx7
 have hrp1:=hp.2 _ (a8 hx7)
 obtain ⟨m1,hx9⟩:=gx masks ((p1).toNat)
 have hm1:=hx9
 have hnm1:=hm _ (a8 hx9)
 apply dW [io 5 _,io 6 _,io 7 _,io 8 _,io 9 _,io 10 _,io 11 _,io 12 (lI (2*sig)),io 13 (lI (m0 / 2 ^ (2*sig).toNat)),io 14 (lI (((m0 / 2 ^ (2*sig).toNat).toNat &&& (3:Int).toNat:Nat):Int)),io 15 _,io 16 _,io 17 _,io 18 _,io 19 _,io 20 _,io 21 _,io 22 _,io 23 (lI (2*sig)),io 24 (lI (m1 / 2 ^ (2*sig).toNat)),io 25 (lI (((m1 / 2 ^ (2*sig).toNat).toNat &&& (3:Int).toNat:Nat):Int)),io 26 _,io 27 (lB (!((decide ((((m0 / 2 ^ (2*sig).toNat).toNat &&& (3:Int).toNat:Nat):Int)=0))==(decide ((((m1 / 2 ^ (2*sig).toNat).toNat &&& (3:Int).toNat:Nat):Int)=0))))),io 4 _] [0,1,1,1,0,0,63,63,0,0,0,2047,4095,4095,4095,2047,2047,131071,131071,2047,2047,2047,0,0]
 iterate 7 refine z_ ?_
 refine zz (fun _ h_=>ac (W6 (Qu rfl) (h_.v rfl) rfl (by omega)) rfl)<|zz (fun _ h_=>ac (Qe5 (h_.v rfl) (h_.v rfl) rfl (by omega) (by first | omega | exact co (by omega) (ck (by decide)))) rfl)<|zz (fun _ h_=>ac (QdS (h_.v rfl) (Qu rfl) rfl (by first | omega | exact co (by omega) (ck (by decide))) (by omega)) rfl) ?_
 iterate 8 refine z_ ?_
 refine zz (fun _ h_=>ac (W6 (Qu rfl) (h_.v rfl) rfl (by omega)) rfl)<|zz (fun _ h_=>ac (Qe5 (h_.v rfl) (h_.v rfl) rfl (by omega) (by first | omega | exact co (by omega) (ck (by decide)))) rfl)<|zz (fun _ h_=>ac (QdS (h_.v rfl) (Qu rfl) rfl (by first | omega | exact co (by omega) (ck (by decide))) (by omega)) rfl) ?_
 refine z_ ?_
 refine zz (fun _ h_=>ac (VD (h_.v rfl) (h_.v rfl) rfl JJ) rfl) ?_
 refine z_ ?_
 exact zN
 refine w_ ?_
 subst hO
 have e10:(!((decide ((((m0 / 2 ^ (2*sig).toNat).toNat &&& (3:Int).toNat:Nat):Int)=0))==(decide ((((m1 / 2 ^ (2*sig).toNat).toNat &&& (3:Int).toNat:Nat):Int)=0))):Bool)=(Wt masks pair sig):=by
  exact Qrk hp0 hp1 hm0 hm1
 exact QF _ _ [] (Res.one rfl (Qb rfl)) (by rw[e10] <;> rfl) ⟨rfl,rfl,trivial⟩ rfl rfl
theorem Jh (l:List Int)(masks:List Int)(pair:List Int)(hm:∀x∈masks,0≤x)(hp:2≤pair.length∧∀x∈pair,0≤x∧x < (masks.length:Int))(ho:∀s∈l,0≤s∧s≤7):FC Tryz.prog 248 [(false,[.dat QI l]),(false,[.clo 199 [0,1]])] [(0,some (.box 95 [.dat QI masks])),(1,some (.box 95 [.dat QI pair]))] 2 (Is (lI (Ze (fun s=>Wt masks pair s) l)) [(0,some (.box 95 [.dat QI masks])),(1,some (.box 95 [.dat QI pair]))]):=by
 refine Qy Tryz.func248 rfl rfl Tryz.ntmps248 fun O_ hO w0_ N0_ X_ h0_ f0_=> ?_
 iterate 6 refine w_ ?_
 refine AL.fact (Qp (x:= .tmp 6) (Qa rfl)) fun hl1=> ?_
 iterate 4 refine w_ ?_
 refine Qm (fun m_ s_=>∃(k:Nat),k≤l.length∧m_=l.length - k∧(NoneTo (fun s=>Wt masks pair s) l k)∧s_=⟨[(0,lf (.dat QI l)),(1,lf (.clo 199 [0,1])),(7,lI (l.length:Int)),(8,lI (k:Int))],[(0,some (.box 95 [.dat QI masks])),(1,some (.box 95 [.dat QI pair]))]⟩) ⟨0,ap _,rfl,NoneTo.zero,rfl⟩ ?_ ?_
 exact wo []
 rintro m_ s_ ⟨k,hk2,hm3,hno,rfl⟩
 iterate 4 refine w_ ?_
 cases hb4:(decide ((k:Int) < (l.length:Int)))
 have hb4':=a6 hb4
 iterate 7 refine w_ ?_
 subst hO
 have e5:((-1):Int)=(Ze (fun s=>Wt masks pair s) l):=by
  first | exact (hno.no (by omega)).symm
 exact QF _ _ [] (Res.one rfl (Qb rfl)) (by rw[← e5] <;> rfl) ⟨rfl,rfl,trivial⟩ rfl rfl
 have hb4':=a7 hb4
 iterate 12 refine w_ ?_
 obtain ⟨x6,hx7⟩:=gx l k
 iterate 2 refine w_ ?_
 refine AL.fact (Ql (x:= .tmp 15) (Qa rfl)) fun hi8=>lc (Xn (args0:=[(false,[dI x6])]) (caps:=[0,1]) 2 [(0,0),(1,1)] (KX x6 masks pair hm hp (ho _ (a8 hx7))) Qkq rfl (Qa rfl) rfl rfl ⟨_,_,rfl,(Qf rfl),rfl⟩ ⟨rfl,rfl,trivial⟩ rfl ⟨trivial,trivial,trivial⟩ (nlr rfl)) ?_
 refine w_ ?_
 cases hb9:(Wt masks pair x6)
 iterate 6 refine w_ ?_
 refine Qc<|QE ⟨k+1,by omega,rfl,hno.step hx7 ‹_›,rfl⟩ (by omega) ?_
 exact wo []
 iterate 6 refine w_ ?_
 subst hO
 have e10:((k:Int):Int)=(Ze (fun s=>Wt masks pair s) l):=by
  exact (hno.at hx7 ‹_›).symm
 exact QF _ _ [] (Res.one rfl (Qb rfl)) (by rw[e10] <;> rfl) ⟨rfl,rfl,trivial⟩ rfl rfl
theorem UI (l:List Int)(masks:List Int)(pair:List Int)(hm:∀x∈masks,0≤x)(hp:2≤pair.length∧∀x∈pair,0≤x∧x < (masks.length:Int))(ho:∀s∈l,0≤s∧s≤7):FC Tryz.prog 142 [(false,[.dat QI l]),(false,[.clo 199 [0,1]])] [(0,some (.box 95 [.dat QI masks])),(1,some (.box 95 [.dat QI pair]))] 2 (Is (lB (l.any (fun s=>Wt masks pair s))) [(0,some (.box 95 [.dat QI masks])),(1,some (.box 95 [.dat QI pair]))]):=by
 refine Qy Tryz.func142 rfl rfl Tryz.ntmps142 fun O_ hO w0_ N0_ X_ h0_ f0_=> ?_
 iterate 6 refine w_ ?_
 refine lc (dP 2 [] (Jh l masks pair hm hp ho) QkB) ?_
 iterate 4 refine w_ ?_
 subst hO
 have e1:(decide (0≤(Ze (fun s=>Wt masks pair s) l)):Bool)=(l.any (fun s=>Wt masks pair s)):=by
  exact VN _ _
 exact QF _ _ [] (Res.one rfl (Qb rfl)) (by rw[e1] <;> rfl) ⟨rfl,rfl,trivial⟩ rfl rfl
theorem Vv (pair:List Int)(own_:List Int)(masks:List Int)(hm:∀x∈masks,0≤x)(hp:2≤pair.length∧∀x∈pair,0≤x∧x < (masks.length:Int))(ho:∀s∈own_,0≤s∧s≤7):FC Tryz.prog 198 [(false,[.dat QI pair]),(false,[.ptr 0 0]),(false,[.ptr 1 0])] [(0,some (.box 95 [.dat QI own_])),(1,some (.box 95 [.dat QI masks]))] 2 (Is (lB (!(own_.any (fun s=>Wt masks pair s)))) [(0,some (.box 95 [.dat QI own_])),(1,some (.box 95 [.dat QI masks]))]):=by
 refine Qy Tryz.func198 rfl rfl Tryz.ntmps198 fun O_ hO w0_ N0_ X_ h0_ f0_=> ?_
 refine w_ ?_
 refine xbx 2 ?_
 iterate 4 refine w_ ?_
 refine lc (Xb ⟨_,_,rfl,(Qa rfl),rfl,⟨_,_,rfl,(Qa rfl),rfl,rfl⟩⟩ rfl) ?_
 refine lc (dP 3 [(0,1),(1,2)] (UI own_ masks pair hm hp ho) Qkj) ?_
 iterate 4 refine w_ ?_
 subst hO
 exact QF _ _ [] (Res.one rfl (Qb rfl)) (rfl) ⟨rfl,rfl,trivial⟩ rfl rfl
theorem HQ (l:List Hdr)(vs_:List Hdr)(gF:Hdr→List Int)(own_:List Int)(masks:List Int)(hm:∀x∈masks,0≤x)(hv:∀v∈vs_,2≤(gF v).length∧∀x∈gF v,0≤x∧x < (masks.length:Int))(ho:∀s∈own_,0≤s∧s≤7)(hvs:∀v∈l,v∈vs_)(hl:l.length≤1000000):FC Tryz.prog 279 [(false,[.ref 3]),(false,[.clo 198 [0,1]])] [(0,some (.box 95 [.dat QI own_])),(1,some (.box 95 [.dat QI masks])),(2,some (.pl false QI vs_ gF)),(3,some (.arr 95 .vl l))] 4 (Is (lI (Ze (fun v:Hdr=> !(own_.any (fun s=>Wt masks (gF v) s))) l)) [(0,some (.box 95 [.dat QI own_])),(1,some (.box 95 [.dat QI masks])),(2,some (.pl false QI vs_ gF)),(3,some (.arr 95 .vl l))]):=by
 refine Qy Tryz.func279 rfl rfl Tryz.ntmps279 fun O_ hO w0_ N0_ X_ h0_ f0_=> ?_
 iterate 10 refine w_ ?_
 refine Qm (fun m_ s_=>∃(k:Nat),k≤l.length∧m_=l.length - k∧(NoneTo (fun v:Hdr=> !(own_.any (fun s=>Wt masks (gF v) s))) l k)∧s_=⟨[(0,lR 3),(1,lf (.clo 198 [0,1])),(7,lI (l.length:Int)),(8,lI (k:Int))],[(0,some (.box 95 [.dat QI own_])),(1,some (.box 95 [.dat QI masks])),(2,some (.pl false QI vs_ gF)),(3,some (.arr 95 .vl l))]⟩) ⟨0,ap _,rfl,NoneTo.zero,rfl⟩ ?_ ?_
 exact wo []
 rintro m_ s_ ⟨k,hk1,hm2,hno,rfl⟩
 iterate 4 refine w_ ?_
 cases hb3:(decide ((k:Int) < (l.length:Int)))
 have hb3':=a6 hb3
 iterate 7 refine w_ ?_
 subst hO
 have e4:((-1):Int)=(Ze (fun v:Hdr=> !(own_.any (fun s=>Wt masks (gF v) s))) l):=by
  first | exact (hno.no (by omega)).symm
 exact QF _ _ [] (Res.one rfl (Qb rfl)) (by rw[← e4] <;> rfl) ⟨rfl,rfl,rfl,rfl,trivial⟩ rfl rfl
 have hb3':=a7 hb3
 iterate 13 refine w_ ?_
 obtain ⟨x5,hx6⟩:=gx l k
 refine w_ ?_
 refine lc (Xn (args0:=[(false,[.dat QI (gF x5)])]) (caps:=[0,1]) 4 [(0,0),(1,1)] (Vv (gF x5) own_ masks hm (hv _ (hvs _ (a8 hx6))) ho) QdG rfl (Qa rfl) rfl rfl ⟨_,_,rfl,(Evl.ev (Evl.pl (p:=2) (Qa rfl) rfl (hvs _ (a8 hx6)))),rfl⟩ ⟨rfl,rfl,trivial⟩ rfl ⟨trivial,trivial,trivial⟩ (nlr rfl)) ?_
 refine w_ ?_
 cases hb7:(own_.any (fun s=>Wt masks (gF x5) s))
 iterate 6 refine w_ ?_
 subst hO
 have e8:((k:Int):Int)=(Ze (fun v:Hdr=> !(own_.any (fun s=>Wt masks (gF v) s))) l):=by
  exact (hno.at hx6 (nbt ‹_›)).symm
 exact QF _ _ [] (Res.one rfl (Qb rfl)) (by rw[e8] <;> rfl) ⟨rfl,rfl,rfl,rfl,trivial⟩ rfl rfl
 iterate 6 refine w_ ?_
 refine Qc<|QE ⟨k+1,by omega,rfl,hno.step hx6 (nbf ‹_›),rfl⟩ (by omega) ?_
 exact wo []
theorem Hl (l:List Hdr)(vs_:List Hdr)(gF:Hdr→List Int)(own_:List Int)(masks:List Int)(hm:∀x∈masks,0≤x)(hv:∀v∈vs_,2≤(gF v).length∧∀x∈gF v,0≤x∧x < (masks.length:Int))(ho:∀s∈own_,0≤s∧s≤7)(hvs:∀v∈l,v∈vs_)(hl:l.length≤1000000):FC Tryz.prog 196 [(false,[.ref 3]),(false,[.clo 198 [0,1]])] [(0,some (.box 95 [.dat QI own_])),(1,some (.box 95 [.dat QI masks])),(2,some (.pl false QI vs_ gF)),(3,some (.arr 95 .vl l))] 3 (Is (lR 4) [(0,some (.box 95 [.dat QI own_])),(1,some (.box 95 [.dat QI masks])),(2,some (.pl false QI vs_ gF)),(4,some (.arr 95 .vl (l.filter (fun v:Hdr=> !(!(own_.any (fun s=>Wt masks (gF v) s)))))))]):=by
 have hix:=Qit (fun v:Hdr=> !(own_.any (fun s=>Wt masks (gF v) s))) l
 refine Qy Tryz.func196 rfl rfl Tryz.ntmps196 fun O_ hO w0_ N0_ X_ h0_ f0_=> ?_
 iterate 6 refine w_ ?_
 refine lc (dP 4 [] (HQ l vs_ gF own_ masks hm hv ho hvs hl) QjI) ?_
 iterate 7 refine w_ ?_
 cases hb1:(decide ((Ze (fun v:Hdr=> !(own_.any (fun s=>Wt masks (gF v) s))) l)=(-1)))
 have hb1':=a6 hb1
 iterate 9 refine w_ ?_
 refine Qm (fun m_ s_=>∃(i:Int) (j:Int) (l2:List Hdr),m_=((l2.length:Int) - j).toNat∧(DelI (fun v:Hdr=> !(!(own_.any (fun s=>Wt masks (gF v) s)))) l l2 i j)∧s_=⟨[(0,lR 8),(1,lf (.clo 198 [0,1])),(4,lf (.val (.slice none 0 0))),(5,lI i),(6,lI j)],[(0,some (.box 95 [.dat QI own_])),(1,some (.box 95 [.dat QI masks])),(2,some (.pl false QI vs_ gF)),(8,some (.arr 95 .vl l2))]⟩) ⟨Ze (fun v:Hdr=> !(own_.any (fun s=>Wt masks (gF v) s))) l,(Ze (fun v:Hdr=> !(own_.any (fun s=>Wt masks (gF v) s))) l)+1,l,rfl,(DelI.start ‹_›),rfl⟩ ?_ ?_
 exact wo [(8,3)]
 rintro m_ s_ ⟨i,j,l2,hm3,hD,rfl⟩
 have hDb:=hD.1
 have hDl:=hD.2.1
 iterate 7 refine w_ ?_
 cases hb4:(decide (j < (l2.length:Int)))
 have hb4':=a6 hb4
 iterate 6 refine w_ ?_
 refine lc (Yh (e:= .vl) (a:=(i).toNat) (b:=l2.length - (i).toNat) (l:=(some i)) (h:=none) (Qa rfl) rfl (by exact (Qa rfl)) (by exact trivial) Kx X4 rfl (by first | (simp only[aj,ae]; omega) | omega | (simp only[aj,ae,aa,ak,ay]; omega)) (by first | (simp only[aj,ae]; omega) | omega | (simp only[aj,ae,aa,ak,ay]; omega)) (by first | (simp only[aj,ae]; omega) | omega | (simp only[aj,ae,aa,ak,ay]; omega)) (by first | rfl | simp) (by first | rfl | simp))<|lc (Qck (e:= .vl) (Qa rfl) rfl (by omega) Kx Qbx rfl rfl rfl) ?_
 iterate 4 refine w_ ?_
 refine lc (Yh (e:= .vl) (a:=0) (b:=(i).toNat) (l:=none) (h:=(some i)) (Qa rfl) rfl (by exact trivial) (by exact (Qa rfl)) Kx X4 rfl (by first | (simp only[aj,ae]; omega) | omega | (simp only[aj,ae,aa,ak,ay]; omega)) (by first | (simp only[aj,ae]; omega) | omega | (simp only[aj,ae,aa,ak,ay]; omega)) (by first | (simp only[aj,ae]; omega) | omega | (simp only[aj,ae,aa,ak,ay]; omega)) (by first | rfl | simp) (by first | rfl | simp)) ?_
 iterate 2 refine w_ ?_
 refine AC.wk (Qes 9 4 (e:= .vl) (xs:=l2.take ((i).toNat)++List.replicate (l2.length - (i).toNat) (Ty.zero .vl)) rfl rfl (by first | omega | (simp only[aa,ak,ay]; omega)) rfl (Fresh.of rfl) (nlr rfl))<|Zf ?_
 subst hO
 exact QF _ _ [(4,9)] (Res.one rfl (Qb rfl)) (rfl) ⟨rfl,rfl,rfl,(Qh (by exact hD.end_ ‹_› _ (by omega))),trivial⟩ rfl rfl
 have hb4':=a7 hb4
 iterate 8 refine w_ ?_
 obtain ⟨xj,hx6⟩:=gx l2 ((j).toNat)
 have h_xj:=hx6
 iterate 6 refine w_ ?_
 refine lc (Xn (args0:=[(false,[.dat QI (gF xj)])]) (caps:=[0,1]) 10 [(0,0),(1,1)] (Vv (gF xj) own_ masks hm (hv _ (hvs _ (a8 (hD.at_ hx6)))) ho) QdG rfl (Qa rfl) rfl rfl ⟨_,_,rfl,(Evl.ev (Evl.pl (p:=2) (Qa rfl) rfl (hvs _ (a8 (hD.at_ hx6))))),rfl⟩ ⟨rfl,rfl,trivial⟩ rfl ⟨trivial,trivial,trivial⟩ (nlr rfl)) ?_
 iterate 2 refine w_ ?_
 cases hb7:(!(own_.any (fun s=>Wt masks (gF xj) s)))
 iterate 6 refine w_ ?_
 obtain ⟨x8,hx9⟩:=gx l2 ((i).toNat)
 have h_x8:=hx9
 refine lc (QG (e:= .vl) (z':=xj) (Qa rfl) rfl hx9 rfl (Qf rfl) rfl X4 rfl rfl) ?_
 iterate 5 refine w_ ?_
 refine Qc ?_
 iterate 5 refine w_ ?_
 refine Qc<|QE ⟨(i+1),(j+1),(l2.set ((i).toNat) xj),rfl,(by exact hD.keep h_xj (nbt ‹_›)),rfl⟩ (by first | omega | (simp only[au]; omega)) ?_
 exact wp [] ⟨rfl,rfl,rfl,(Qh (by first | rfl | simp)),trivial⟩
 iterate 7 refine w_ ?_
 refine Qc<|QE ⟨i,(j+1),l2,rfl,(by exact hD.drop_ h_xj (nbf ‹_›)),rfl⟩ (by first | omega | (simp only[au]; omega)) ?_
 exact wo []
 have hb1':=a7 hb1
 iterate 6 refine w_ ?_
 subst hO
 exact QF _ _ [(4,3)] (Res.one rfl (Qb rfl)) (rfl) ⟨rfl,rfl,rfl,(Qh (by exact Qce ‹_›)),trivial⟩ rfl rfl
theorem Un (c:(List (ByteArray×Int))×List ByteArray×(List (Int×Int×Bool×Int)))(hs:SgW c):FC Tryz.prog 99 [(true,[.dat Qo c.1, .dat Qr c.2.1, .dat QD c.2.2])] [] 0 (Zk (lf (.dat Jl (YT c)))):=by
 have hr:∀a∈c.2.2,InR c.2.1.length a:=fun a ha=>(hs.arcs a ha).1
 have hn3:=hs.some_
 have hfw:=hs.few
 have hs8:=hs.sig8
 have hmn:=QaT (n:=c.2.1.length) (as_:=c.2.2)
 have hml:=QaJ (n:=c.2.1.length) (as_:=c.2.2)
 have hou:∀s∈ZI c.1 c.1.length,0≤s∧s≤7:=fun s h=>by obtain ⟨t,rfl,h1,_⟩:=UX.1 h; omega
 have hal:=Qea (c:=c) (f:=fun _ _=>true) (i:=c.2.1.length) (by omega) (aO _)
 refine Qy Tryz.func99 rfl rfl Tryz.ntmps99 fun O_ hO w0_ N0_ X_ h0_ f0_=> ?_
 refine w_ ?_
 refine xbx 0 ?_
 iterate 2 refine w_ ?_
 apply dW [io 5 _,io 6 (lf (.dat QI (XL c.2.1.length c.2.2))),io 7 _,io 8 (lf (.dat QI (ZI c.1 c.1.length))),⟨some 3,lP 1 0,[(1,some (.box 95 [.val (.slice none 0 0)]))]⟩,⟨some 4,lP 2 0,[(2,some (.box 95 [.val (.slice none 0 0)]))]⟩,⟨none,lf (.val undef),[(1,some (.box 95 [.dat QI (XL c.2.1.length c.2.2)]))]⟩,⟨none,lf (.val undef),[(2,some (.box 95 [.dat QI (ZI c.1 c.1.length)]))]⟩] [0,0,3,0,15,31,0,0]
 refine z_ ?_
 refine zz (fun _ h_=>ac (dK (VS c hs).frozen Qdr) rfl) ?_
 refine z_ ?_
 refine zz (fun _ h_=>ac (dK (KS c (by omega)).frozen QeR) rfl) ?_
 refine zz (fun _ h_=>ac (Xp 1 QI Qbx rfl rfl (h_.fr 1 rfl) (nlr rfl)) rfl)<|zz (fun _ h_=>ac (Xp 2 QI Qbx rfl rfl (h_.fr 2 rfl) (nlr rfl)) rfl) ?_
 iterate 2 refine z_ ?_
 exact zN
 iterate 2 refine w_ ?_
 refine lc (dO 3 (HO c (by omega)) Qlw) ?_
 refine lc (Xb ⟨_,_,rfl,(Qa rfl),rfl,⟨_,_,rfl,(Qa rfl),rfl,rfl⟩⟩ rfl)<|AL.pool (q:=3) (e:= .int) 4 rfl (Fresh.of rfl) (nlr rfl) fun vs1 gf2 hvf3=> ?_
 refine lc (dP 5 [(0,2),(2,4)] (Hl vs1 vs1 gf2 (ZI c.1 c.1.length) (XL c.2.1.length c.2.2) hmn (fun v hv=>by rw[hml]; exact QqQ (by rw[← hvf3]; exact List.mem_map_of_mem hv) (aO _)) hou (fun _ h=>h) (by have:=congrArg List.length hvf3; rw[aF] at this; omega)) Qli) ?_
 iterate 2 refine w_ ?_
 refine AC.wk (QpO (i:=2) (q:=9) (p:=4) rfl rfl rfl (fun z hz=>(bY.1 hz).1))<|Zf ?_
 subst hO
 have e4:((vs1.filter (fun v:Hdr=> !(!((ZI c.1 c.1.length).any (fun s=>Wt (XL c.2.1.length c.2.2) (gf2 v) s))))).map gf2:(Jl:Ty).Den)=(YT c):=by
  exact (QqL hvf3).trans (QrL fun a ha=>(hr a ha).1.1)
 exact Qe (Res.one rfl (Qb rfl)) (by rw[e4] <;> rfl) rfl
end Go.Proofs.YtjaadeknhofhpaaGreat
