/- Walks over abstract states: masks of labels; pairs of states that violate complete state coding, the program. -/
import Derived.Test.YtjaadeknhofhpaaGreatUd
import Derived.Test.YtjaadeknhofhpaaGreatBc
set_option linter.unusedSimpArgs false
set_option linter.unusedVariables false
set_option linter.unusedSectionVars false
namespace Go.Proofs.YtjaadeknhofhpaaGreat
open Go.RowKit
set_option maxRecDepth 100000
set_option maxHeartbeats 4000000
structure SgW (c:DSg):Prop where
  sig8:c.1.length≤8
  some_:1≤c.2.1.length∧c.2.1.length≤300
  few:c.2.2.length≤4000
  arcs:∀a∈c.2.2,InR c.2.1.length a∧Qm5 (c.1.length:Int) (a.2.1,a.2.2.1)
theorem SgOk.w {c:DSg}(h:SgOk c):SgW c:=⟨h.sigs.2.2,h.some_,h.few,fun a ha=>⟨Qlm (h.arcs a ha),(h.arcs a ha).2.2.1⟩⟩
def mkV (l:Int×Bool):Int:=(if l.2=true then 2 else 1)*2 ^ (2*l.1).toNat
def orA (s:List Int)(a:DAr):List Int:=if 0≤a.2.1 then s.set a.1.toNat (((((s[a.1.toNat]?).getD 0).toNat ||| (mkV (a.2.1,a.2.2.1)).toNat:Nat)):Int) else s
def Vn (n:Nat)(as_:List DAr):List Int:=as_.foldl orA (List.replicate n 0)
def mAt (l:List Int)(x:Int):Int:=(l[x.toNat]?).getD 0
def Qik (m:Int)(s:Int):Bool:=decide ((((m / 2 ^ (2*s).toNat).toNat &&& (3:Int).toNat:Nat):Int)=0)
def WP (masks pair:List Int)(s:Int):Bool:= !(Qik (mAt masks (mAt pair 0)) s==Qik (mAt masks (mAt pair 1)) s)
def UB (c:DSg)(k s:Int):Bool:=c.2.2.any fun a=>decide (a.1=k∧a.2.1=s)
def cdA (c:DSg)(j:Nat):ByteArray:=(c.2.1[j]?).getD ByteArray.empty
def Wn (c:DSg)(f:Nat→Nat→Bool)(i k:Nat):List (List Int):=((List.range k).filter fun j=>decide (i < j)&&(decide (cdA c j=cdA c i)&&f i j)).map fun j:Nat=>[(i:Int),(j:Int)]
def XW (c:DSg)(f:Nat→Nat→Bool)(i:Nat):List (List Int):=(List.range i).flatMap fun i=>Wn c f i c.2.1.length
def Qa2 (c:DSg)(i j:Nat):Bool:=(Xd c.1 c.1.length).any fun s=> !(UB c i s==UB c j s)
def VM (c:DSg):List (List Int):=XW c (Qa2 c) c.2.1.length
section
variable {c:DSg}{as_:List DAr}{a:DAr}{i j k n:Nat}{f g:Nat→Nat→Bool}{s x y m:Int}{l masks pair:List Int}{u v:ByteArray}
theorem QnM {m x:Int}(hm:0≤m∧m≤2)(h:0≤x∧x≤14): -9223372036854775808≤m*2 ^ x.toNat∧m*2 ^ x.toNat≤9223372036854775807:=by
  have h1:(2:Int) ^ x.toNat≤2 ^ 14:=by
    have:(2:Nat) ^ x.toNat≤2 ^ 14:=Nat.pow_le_pow_right (by omega) (by omega)
    exact_mod_cast this
  have h2:(0:Int)≤2 ^ x.toNat:=cP (by decide)
  have h3:m*2 ^ x.toNat≤2*2 ^ 14:=Int.mul_le_mul hm.2 h1 h2 (by decide)
  have h4:0≤m*2 ^ x.toNat:=Int.mul_nonneg hm.1 h2
  exact ⟨by omega,Int.le_trans h3 (by decide)⟩
theorem Qrd (l:Int×Bool):0≤mkV l:=by
  unfold mkV
  exact Int.mul_nonneg (by split <;> decide) (cP (by decide))
theorem Qfw:∀(as_:List DAr) (s:List Int),(as_.foldl orA s).length=s.length
  | [],_=>rfl
  | a :: as_,s=>by
    rw[bC,Qfw as_]
    unfold orA
    split <;> simp
theorem QdG:(Vn n as_).length=n:=by unfold Vn; rw[Qfw]; simp
theorem QiF:∀(as_:List DAr) (s:List Int),(∀x∈s,0≤x)→∀x∈as_.foldl orA s,0≤x
  | [],_,h=>h
  | a :: as_,s,h=>by
    rw[bC]
    refine QiF as_ _ ?_
    unfold orA
    split
    · intro x hx
      rcases c9 hx with hx | rfl
      · exact h x hx
      · exact cC _
    · exact h
theorem Qg0:∀x∈Vn n as_,0≤x:=QiF as_ _ (by simp)
theorem QlP (hx:as_[k]? =some a)(h:0≤a.2.1)(hy:(Vn n (as_.take k))[a.1.toNat]? =some y):(Vn n (as_.take k)).set a.1.toNat (((y.toNat ||| (mkV (a.2.1,a.2.2.1)).toNat:Nat)):Int)=Vn n (as_.take (k+1)):=by
  unfold Vn at*
  rw[Q0 hx,cp,bC,List.foldl_nil]
  unfold orA
  rw[if_pos h]
  unfold orA at hy
  rw[hy]; rfl
theorem QpG (hx:as_[k]? =some a)(h:¬0≤a.2.1):Vn n (as_.take k)=Vn n (as_.take (k+1)):=by
  unfold Vn
  rw[Q0 hx,cp,bC,List.foldl_nil,orA,if_neg h]
theorem Qda (h:l[x.toNat]? =some y):mAt l x=y:=by unfold mAt; rw[h]; rfl
theorem QeA:Wn c f i (i+1)=[]:=by
  unfold Wn
  rw[List.map_eq_nil_iff,List.filter_eq_nil_iff]
  intro j hj
  rw[cj] at hj
  simp; intro h; omega
theorem Qpk (h:i < k)(hu:c.2.1[k]? =some u)(hv:c.2.1[i]? =some v)(e:u=v)(hf:f i k=true):Wn c f i k++[[(i:Int),(k:Int)]]=Wn c f i (k+1):=by
  unfold Wn
  rw[cd,bc,bA]
  simp[h,cdA,hu,hv,e,hf]
theorem QlD (h:¬(cdA c k=cdA c i∧f i k=true)):Wn c f i k=Wn c f i (k+1):=by
  unfold Wn
  rw[cd,bc,bA]
  have:(decide (i < k)&&(decide (cdA c k=cdA c i)&&f i k))=false:=by
    cases hd:decide (cdA c k=cdA c i)&&f i k with
    | false=>simp
    | true=>simp only[aF,aN] at hd; exact absurd hd h
  simp[this]
theorem Qlv (h:c.2.1[k]? =some u):cdA c k=u:=by unfold cdA; rw[h]; rfl
theorem Ua:XW c f i++Wn c f i c.2.1.length=XW c f (i+1):=by
  unfold XW
  rw[cd,c8]; simp
theorem QeI:(Wn c f i k).length≤k:=by unfold Wn; rw[av]; exact b5 (bQ ..) (by simp)
theorem Qpg:(XW c f i).length≤i*c.2.1.length:=by
  induction i with
  | zero=>simp[XW]
  | succ i ih=>
    rw[← Ua,aa,Nat.succ_mul]
    have:=QeI (c:=c) (f:=f) (i:=i) (k:=c.2.1.length)
    omega
theorem Qe0 (hn:c.2.1.length≤300)(hi:i≤c.2.1.length):(XW c f i).length≤90000:=by
  have h1:=Qpg (c:=c) (f:=f) (i:=i)
  have h2:i*c.2.1.length≤300*300:=Nat.mul_le_mul (by omega) hn
  omega
theorem Qpu {p:List Int}(h:p∈Wn c f i k):∃j:Nat,j < k∧i < j∧p=[(i:Int),(j:Int)]:=by
  unfold Wn at h
  obtain ⟨j,hj,rfl⟩:=bM.1 h
  rw[bX,cj] at hj
  simp only[aF,aN] at hj
  exact ⟨j,hj.1,hj.2.1,rfl⟩
theorem QnI {p:List Int}(h:p∈XW c f n)(hn:n≤c.2.1.length):2≤p.length∧∀x∈p,0≤x∧x < (c.2.1.length:Int):=by
  unfold XW at h
  obtain ⟨i,hi,h⟩:=List.mem_flatMap.1 h
  rw[cj] at hi
  obtain ⟨j,h1,h2,rfl⟩:=Qpu h
  refine ⟨by simp,fun x hx=> ?_⟩
  simp only[aG,cQ,or_false] at hx
  rcases hx with rfl | rfl <;> omega
theorem QhV (q:List Int→Bool):(Wn c f i k).filter q=Wn c (fun i j=>f i j&&q [(i:Int),(j:Int)]) i k:=by
  unfold Wn
  rw[List.filter_map,List.filter_filter]
  congr 1
  apply cI
  intro j _
  simp only[Function.comp]
  cases decide (i < j) <;> cases decide (cdA c j=cdA c i) <;> cases f i j <;> simp
theorem QiS (q:List Int→Bool):(XW c f n).filter q=XW c (fun i j=>f i j&&q [(i:Int),(j:Int)]) n:=by
  induction n with
  | zero=>rfl
  | succ n ih=>rw[← Ua,← Ua,bc,ih,QhV]
theorem QkG (h:∀i j,i < n→j < c.2.1.length→f i j=g i j):XW c f n=XW c g n:=by
  induction n with
  | zero=>rfl
  | succ n ih=>
    rw[← Ua,← Ua,ih fun i j hi hj=>h i j (by omega) hj]
    congr 1
    unfold Wn
    congr 1
    apply cI
    intro j hj
    rw[cj] at hj
    rw[h n j (by omega) hj]
theorem Qh0 (b:Nat):Nat.testBit 3 b=decide (b < 2):=by
  match b with
  | 0=>rfl
  | 1=>rfl
  | b+2=>
    rw[show (3:Nat)=2 ^ 2 - 1 from rfl,Nat.testBit_two_pow_sub_one]
theorem QtB (m t:Nat):((m / 2 ^ t) &&& 3=0)↔(m.testBit t=false∧m.testBit (t+1)=false):=by
  rw[← Nat.shiftRight_eq_div_pow]
  constructor
  · intro h
    have h0:=congrArg (fun z=>Nat.testBit z 0) h
    have h1:=congrArg (fun z=>Nat.testBit z 1) h
    simp only[Nat.testBit_and,Nat.testBit_shiftRight,Qh0,Nat.zero_testBit,cW] at h0 h1
    simpa using And.intro h0 h1
  · rintro ⟨h0, h1⟩
    apply Nat.eq_of_testBit_eq
    intro b
    rw[Nat.testBit_and,Nat.testBit_shiftRight,Qh0,Nat.zero_testBit]
    match b with
    | 0=>simp[h0]
    | 1=>simp[h1]
    | b+2=>simp
theorem QmW (hm:0≤m):Qik m s=true↔(m.toNat.testBit (2*s).toNat=false∧m.toNat.testBit ((2*s).toNat+1)=false):=by
  unfold Qik
  rw[aN,← QtB]
  have:(m / 2 ^ (2*s).toNat).toNat=m.toNat / 2 ^ (2*s).toNat:=by
    have e:m / 2 ^ (2*s).toNat=((m.toNat / 2 ^ (2*s).toNat:Nat):Int):=by
      rw[Int.natCast_ediv,cy hm,Int.natCast_pow]; rfl
    rw[e]; rfl
  rw[this]
  show (((m.toNat / 2 ^ (2*s).toNat) &&& 3:Nat):Int)=0↔_
  omega
theorem QqB {l:Int×Bool}(h:0≤l.1)(b:Nat):(mkV l).toNat.testBit b=decide (b=(2*l.1).toNat+(if l.2=true then 1 else 0)):=by
  have e:(mkV l).toNat=2 ^ ((2*l.1).toNat+(if l.2=true then 1 else 0)):=by
    unfold mkV
    obtain ⟨x,up⟩:=l
    cases up
    · simp only [bi, if_false, Int.one_mul, cW]
      have:((2:Int) ^ (2*x).toNat)=((2 ^ (2*x).toNat:Nat):Int):=by rw[Int.natCast_pow]; rfl
      rw[this]; rfl
    · simp only [if_true]
      have:(2:Int)*2 ^ (2*x).toNat=((2 ^ ((2*x).toNat+1):Nat):Int):=by rw[Int.natCast_pow,Int.pow_succ,Int.mul_comm]; rfl
      rw[this]; rfl
  rw[e,Nat.testBit_two_pow]
  by_cases hb:b=(2*l.1).toNat+(if l.2=true then 1 else 0)
  · simp[hb]
  · simp[hb,Ne.symm hb]
theorem Qgw:∀(as_:List DAr) (s0:List Int) (k:Nat) (b:Nat),(∀a∈as_,0≤a.1)→k < s0.length→
    ((((as_.foldl orA s0)[k]?).getD 0).toNat.testBit b=true↔((s0[k]?).getD 0).toNat.testBit b=true∨∃a∈as_,0≤a.2.1∧a.1=(k:Int)∧b=(2*a.2.1).toNat+(if a.2.2.1=true then 1 else 0))
  | [],s0,k,b,_,_=>by simp
  | a :: as_,s0,k,b,hr,hk=>by
    have ha:=hr a (aA ..)
    have hlen:(orA s0 a).length=s0.length:=by unfold orA; split <;> simp
    rw[bC,Qgw as_ (orA s0 a) k b (fun x hx=>hr x (aD _ hx)) (by omega)]
    have h1:(((orA s0 a)[k]?).getD 0).toNat.testBit b=true↔((s0[k]?).getD 0).toNat.testBit b=true∨(0≤a.2.1∧a.1=(k:Int)∧b=(2*a.2.1).toNat+(if a.2.2.1=true then 1 else 0)):=by
      unfold orA
      split
      · rename_i h0
        by_cases e:a.1.toNat=k
        · subst e
          rw[aU hk,ak]
          show ((((s0[a.1.toNat]?).getD 0).toNat ||| (mkV (a.2.1,a.2.2.1)).toNat)).testBit b=true↔_
          rw[Nat.testBit_or,bR,QqB h0,aN]
          have e2:a.1=((a.1.toNat:Nat):Int):=by omega
          simp only[h0,true_and]
          constructor
          · rintro (h | h)
            · exact .inl h
            · exact .inr ⟨e2,h⟩
          · rintro (h | h)
            · exact .inl h
            · exact .inr h.2
        · rw [aX e]
          have e2:¬a.1=(k:Int):=fun h=>e (by omega)
          simp[e2]
      · rename_i h0
        simp[h0]
    rw[h1]
    constructor
    · rintro ((h | h) | ⟨x, hx, h⟩)
      · exact .inl h
      · exact .inr ⟨a,aA ..,h⟩
      · exact .inr ⟨x,aD _ hx,h⟩
    · rintro (h | ⟨x, hx, h⟩)
      · exact .inl (.inl h)
      · rcases aG.1 hx with rfl | hx
        · exact .inl (.inr h)
        · exact .inr ⟨x,hx,h⟩
theorem Qbk (hr:∀a∈c.2.2,0≤a.1)(hk:k < c.2.1.length)(hs:0≤s):Qik (mAt (Vn c.2.1.length c.2.2) (k:Int)) s= !UB c k s:=by
  have hnn:0≤mAt (Vn c.2.1.length c.2.2) (k:Int):=by
    unfold mAt
    rw[cY,ap (by rw[QdG]; exact hk)]
    exact Qg0 _ (cR _)
  have hb:∀b,(mAt (Vn c.2.1.length c.2.2) (k:Int)).toNat.testBit b=true↔∃a∈c.2.2,0≤a.2.1∧a.1=(k:Int)∧b=(2*a.2.1).toNat+(if a.2.2.1=true then 1 else 0):=fun b=>by
    unfold mAt Vn
    rw[cY,Qgw c.2.2 _ k b hr (by simpa using hk)]
    simp[List.getElem?_replicate,hk]
  rw[bY,QmW hnn,bS]
  have hex:UB c k s=true↔∃a∈c.2.2,a.1=(k:Int)∧a.2.1=s:=by
    unfold UB
    rw[bm]
    simp
  constructor
  · rintro ⟨h1, h2⟩
    cases he:UB c k s with
    | false=>rfl
    | true=>
      obtain ⟨a,ha,e1,e2⟩:=hex.1 he
      cases hu:a.2.2.1 with
      | false=>
        have:=(hb (2*s).toNat).2 ⟨a,ha,by omega,e1,by rw[e2,hu]; simp⟩
        rw[h1] at this; cases this
      | true=>
        have:=(hb ((2*s).toNat+1)).2 ⟨a,ha,by omega,e1,by rw[e2,hu]; simp⟩
        rw[h2] at this; cases this
  · intro he
    have hno:∀a∈c.2.2,¬(a.1=(k:Int)∧a.2.1=s):=fun a ha h=>by
      rw[hex.2 ⟨a,ha,h⟩] at he; cases he
    constructor
    · cases h : (mAt (Vn c.2.1.length c.2.2) (k : Int)).toNat.testBit (2 * s).toNat with
      | false=>rfl
      | true=>
        obtain ⟨a,ha,h0,e1,e2⟩:=(hb _).1 h
        have:a.2.1=s:=by split at e2 <;> omega
        exact absurd ⟨e1,this⟩ (hno a ha)
    · cases h : (mAt (Vn c.2.1.length c.2.2) (k : Int)).toNat.testBit ((2 * s).toNat + 1) with
      | false=>rfl
      | true=>
        obtain ⟨a,ha,h0,e1,e2⟩:=(hb _).1 h
        have:a.2.1=s:=by split at e2 <;> omega
        exact absurd ⟨e1,this⟩ (hno a ha)
theorem Qqj (hr:∀a∈c.2.2,0≤a.1):(XW c (fun _ _=>true) c.2.1.length).filter (fun p=>(Xd c.1 c.1.length).any fun s=>WP (Vn c.2.1.length c.2.2) p s)=VM c:=by
  rw[QiS]
  unfold VM
  refine QkG fun i j hi hj=> ?_
  rw[Bool.true_and]
  unfold Qa2
  have hp0:mAt [(i:Int),(j:Int)] 0=i:=rfl
  have hp1:mAt [(i:Int),(j:Int)] 1=j:=rfl
  rw[bY,bm,bm]
  constructor
  · rintro ⟨s, hs, h⟩
    obtain ⟨t,rfl,_,_⟩:=Ho.1 hs
    refine ⟨_,hs, ?_⟩
    unfold WP at h
    rw[hp0,hp1,Qbk hr hi (by omega),Qbk hr hj (by omega)] at h
    revert h
    cases UB c i t <;> cases UB c j t <;> simp
  · rintro ⟨s, hs, h⟩
    obtain ⟨t,rfl,_,_⟩:=Ho.1 hs
    refine ⟨_,hs, ?_⟩
    unfold WP
    rw[hp0,hp1,Qbk hr hi (by omega),Qbk hr hj (by omega)]
    revert h
    cases UB c i t <;> cases UB c j t <;> simp
theorem Qpc {α β:Type}{q:β→Bool}{f:α→β}{l:List α}{xs:List β}(h:l.map f=xs):(l.filter fun v=> !(!q (f v))).map f=xs.filter q:=by
  subst h
  rw[List.filter_map]
  congr 1
  apply cI
  intro v _
  simp
end
section
variable {c:DSg}{f:Nat→Nat→Bool}{i:Nat}{m:Int}{u v:ByteArray}
theorem Qq2 (h1:m≤(c.2.1.length:Int))(h2:¬m < (c.2.1.length:Int)):XW c f i++Wn c f i m.toNat=XW c f (i+1):=by rw[show m.toNat=c.2.1.length by omega,Ua]
theorem Qlb (h:(i:Int) < m)(hu:c.2.1[m.toNat]? =some u)(hv:c.2.1[i]? =some v)(e:v=u)(hf:f i m.toNat=true):(XW c f i++Wn c f i m.toNat)++[[(i:Int),m]]=XW c f i++Wn c f i (m+1).toNat:=by
  rw[show (m+1).toNat=m.toNat+1 by omega,← Qpk (by omega) hu hv e.symm hf,aI,show ((m.toNat:Nat):Int)=m by omega]
theorem QlI (h:(i:Int) < m)(hu:c.2.1[m.toNat]? =some u)(hv:c.2.1[i]? =some v)(e:¬v=u):XW c f i++Wn c f i m.toNat=XW c f i++Wn c f i (m+1).toNat:=by
  rw[show (m+1).toNat=m.toNat+1 by omega,← QlD fun g=>e (by rw[← Qlv hu,← Qlv hv]; exact g.1.symm)]
theorem QoH (h:(i:Int) < m)(hf:f i m.toNat=false):XW c f i++Wn c f i m.toNat=XW c f i++Wn c f i (m+1).toNat:=by
  rw[show (m+1).toNat=m.toNat+1 by omega,← QlD fun g=>by rw[hf] at g; cases g.2]
end
theorem QqS {c:DSg}{i:Nat}{m:Int}{u v:ByteArray}(h:(i:Int) < m)(hu:c.2.1[m.toNat]? =some u)(hv:c.2.1[i]? =some v)(e:v=u):(XW c (fun _ _=>true) i++Wn c (fun _ _=>true) i m.toNat)++[[(i:Int),m]]=XW c (fun _ _=>true) i++Wn c (fun _ _=>true) i (m+1).toNat:=Qlb h hu hv e rfl
theorem Qso {c:DSg}{i:Nat}{m:Int}{u v:ByteArray}(h:(i:Int) < m)(hu:c.2.1[m.toNat]? =some u)(hv:c.2.1[i]? =some v)(e:¬v=u):XW c (fun _ _=>true) i++Wn c (fun _ _=>true) i m.toNat=XW c (fun _ _=>true) i++Wn c (fun _ _=>true) i (m+1).toNat:=QlI h hu hv e
theorem Qbi (l:Int×Bool)(h:0≤l.1∧l.1≤7):FC Tryz.prog 278 [(true,[dI l.1,dB l.2])] [] 0 (Yj (lI (mkV l))):=by
 refine QO Tryz.func278 rfl rfl Tryz.ntmps278 fun O_ hO w0_ N0_ X_ h0_ f0_=> ?_
 refine AC.fact (QI (x:= .tmp 0) (i:=0) (Qb rfl) rfl) fun hi1=> ?_
 refine w_ ?_
 refine lc (Qy 0 (Qb rfl) rfl rfl (Fresh.of rfl) (nlr rfl)) ?_
 iterate 7 refine w_ ?_
 cases hb2:(l.2)
 iterate 5 refine w_ ?_
 refine lc (JJ (Qv rfl) (Qa rfl) rfl (by omega))<|lc (Qix (Qv rfl) (Qa rfl) rfl (by omega) (by exact QnM (by omega) (by omega))) ?_
 iterate 3 refine w_ ?_
 subst hO
 have e3:((1:Int)*2 ^ (2*l.1).toNat:Int)=(mkV l):=by
  (unfold mkV; simp only[*]; rfl)
 exact Qi (Qg rfl (Qd rfl)) (by rw[e3] <;> rfl) rfl
 iterate 4 refine w_ ?_
 refine lc (JJ (Qv rfl) (Qa rfl) rfl (by omega))<|lc (Qix (Qv rfl) (Qa rfl) rfl (by omega) (by exact QnM (by omega) (by omega))) ?_
 iterate 3 refine w_ ?_
 subst hO
 have e4:((2:Int)*2 ^ (2*l.1).toNat:Int)=(mkV l):=by
  (unfold mkV; simp only[*]; rfl)
 exact Qi (Qg rfl (Qd rfl)) (by rw[e4] <;> rfl) rfl
theorem QaR (c:(List (ByteArray×Int))×List ByteArray×(List (Int×Int×Bool×Int)))(hs:SgW c):FC Tryz.prog 194 [(true,[.dat QJ c.1, .dat Zr c.2.1, .dat VR c.2.2])] [] 0 (Uz 3 .int (Vn c.2.1.length c.2.2)):=by
 have hr:∀a∈c.2.2,InR c.2.1.length a:=fun a ha=>(hs.arcs a ha).1
 have hn3:=hs.some_
 have hfw:=hs.few
 have hs8:=hs.sig8
 refine QO Tryz.func194 rfl rfl Tryz.ntmps194 fun O_ hO w0_ N0_ X_ h0_ f0_=> ?_
 refine w_ ?_
 refine lc (Qy 0 (Qb rfl) rfl rfl (Fresh.of rfl) (nlr rfl)) ?_
 iterate 5 refine w_ ?_
 refine AL.fact (Qo (x:= .tmp 7) (Qa rfl)) fun hl1=> ?_
 refine w_ ?_
 refine lc (Kg 1 (e:= .int) (n:=c.2.1.length) (Qa rfl) (Qa rfl) QN Qst rfl (by omega) (by omega) rfl (Fresh.of rfl) (nlr rfl)) ?_
 iterate 6 refine w_ ?_
 refine AL.fact (Qo (x:= .tmp 11) (Qa rfl)) fun hl2=> ?_
 iterate 4 refine w_ ?_
 refine Qu (fun m_ s_=>∃(k:Nat),k≤c.2.2.length∧m_=c.2.2.length - k∧s_=⟨[(2,lf (.val (.slice none 0 0))),(3,lR 2),(11,lf (.dat VR c.2.2)),(12,lI (c.2.2.length:Int)),(13,lI (k:Int))],[(2,some (.arr 3 .int (Vn c.2.1.length (c.2.2.take k))))]⟩) ⟨0,aw _,rfl,rfl⟩ ?_ ?_
 exact wp [(2,1)] ⟨(Qp (by simp only[List.take_zero]; rfl)),trivial⟩
 rintro m_ s_ ⟨k,hk3,hm4,rfl⟩
 have hml:=QdG (n:=c.2.1.length) (as_:=c.2.2.take k)
 iterate 4 refine w_ ?_
 cases hb5:(decide ((k:Int) < (c.2.2.length:Int)))
 have hb5':=a7 hb5
 iterate 8 refine w_ ?_
 subst hO
 refine Z3 (e:= .int) (xs:=(Vn c.2.1.length (c.2.2.take k))) (Qg rfl (Qd rfl)) rfl ?_
 rw[ZF (by omega)]
 have hb5':=a8 hb5
 iterate 5 refine w_ ?_
 obtain ⟨ar,hx7⟩:=gx c.2.2 k
 have hain:=hr _ (ai hx7)
 obtain ⟨⟨ha1,ha2⟩,ha3,ha4⟩:=hain
 have hlab:=(hs.arcs _ (ai hx7)).2
 have hslt:ar.2.1 < (c.1.length:Int):=Qqh hlab
 have hmk:=Qrd (ar.2.1,ar.2.2.1)
 refine lc (Qh (Qa rfl) (Qa rfl) JG VU rfl (by omega) hx7) ?_
 refine w_ ?_
 refine lc (Qj 3 UC K0 rfl rfl (Fresh.of rfl) (nlr rfl))<|lc (Qc (Qa rfl) rfl (Qb rfl) rfl VU rfl) ?_
 iterate 4 refine w_ ?_
 refine AL.fact (QC (x:= .tmp 18) (Qa rfl)) fun hi8=> ?_
 iterate 2 refine w_ ?_
 cases hb9:(decide (0≤ar.2.1))
 have hb9':=a7 hb9
 iterate 6 refine w_ ?_
 refine Qm<|QV ⟨k+1,by omega,rfl,rfl⟩ (by omega) ?_
 exact wp [(2,2)] ⟨(Qp (by first | exact QlP hx7 ‹_› hy | exact QpG hx7 ‹_›)),trivial⟩
 have hb9':=a8 hb9
 refine w_ ?_
 obtain ⟨y,hx11⟩:=gx (Vn c.2.1.length (c.2.2.take k)) ((ar.1).toNat)
 have hy:=hx11
 have hyn:=Qg0 _ (ai hx11)
 refine dv [io 20 (lR 2),io 21 (lP 3 0),io 22 (lI ar.1),io 23 (lf (.ept 2 1 ((ar.1).toNat) 0)),io 24 (lI y),io 25 (lP 3 1),io 26 (lI ar.2.1),io 27 (lP 3 2),io 28 (lB ar.2.2.1),io 29 (ag [dI ar.2.1,dB ar.2.2.1]),io 30 (lI (mkV (ar.2.1,ar.2.2.1))),io 31 (lI ((y.toNat ||| (mkV (ar.2.1,ar.2.2.1)).toNat:Nat):Int)),io 32 (lf (.ept 2 1 ((ar.1).toNat) 0)),⟨none,lf (.val undef),[(2,some (.arr 3 .int ((Vn c.2.1.length (c.2.2.take k)).set ((ar.1).toNat) ((y.toNat ||| (mkV (ar.2.1,ar.2.2.1)).toNat:Nat):Int))))]⟩] [0,0,2,7,15,0,32,0,128,480,992,2047,4095,8191] mixed rfl (by kernel_rfl) ⟨dxm rfl rfl,dxf QfE rfl rfl rfl,dxl QL rfl rfl rfl rfl rfl,fun _ h_=>ac (Qw (e:= .int) (h_.v rfl) (h_.en 2 rfl) (h_.v rfl) QN QL rfl (by omega) (by first | omega | (simp only[aq]; omega))) rfl,fun _ h_=>ac (QP (e:= .int) (h_.v rfl) (h_.n 2 rfl) hx11 rfl QL rfl rfl) rfl,dxf Qmr rfl rfl rfl,dxl QL rfl rfl rfl rfl rfl,dxf Qci rfl rfl rfl,dxl Uj rfl rfl rfl rfl rfl,fun _ h_=>ac (QA QjM ⟨_,_,rfl,(h_.w rfl),⟨_,_,rfl,(h_.w rfl),rfl⟩⟩ (ae.1 rfl) rfl rfl) rfl,fun _ h_=>ac (Ql (Qbi (ar.2.1,ar.2.2.1) (by simp only; omega)) QkH ⟨_,_,rfl,(h_.w rfl),rfl⟩ rfl rfl) rfl,fun _ h_=>ac (QqE (h_.v rfl) (h_.v rfl) rfl (by omega) (by omega)) rfl,fun _ h_=>ac (Qw (e:= .int) (h_.v rfl) (h_.en 2 rfl) (h_.v rfl) QN QL rfl (by omega) (by first | omega | (simp only[aq]; omega))) rfl,fun _ h_=>ac (Q6 (e:= .int) (z':=((y.toNat ||| (mkV (ar.2.1,ar.2.2.1)).toNat:Nat):Int)) (h_.v rfl) (h_.n 2 rfl) hx11 rfl (h_.w rfl) rfl QL rfl rfl) rfl,⟨⟩⟩ ?_
 iterate 4 refine w_ ?_
 refine Qm<|QV ⟨k+1,by omega,rfl,rfl⟩ (by omega) ?_
 exact wp [(2,2)] ⟨(Qp (by first | exact QlP hx7 ‹_› hy | exact QpG hx7 ‹_›)),trivial⟩
theorem Qaz (c:(List (ByteArray×Int))×List ByteArray×(List (Int×Int×Bool×Int)))(hn:c.2.1.length≤300):FC Tryz.prog 197 [(true,[.dat QJ c.1, .dat Zr c.2.1, .dat VR c.2.2])] [] 0 (Uz 95 Qs (XW c (fun _ _=>true) c.2.1.length)):=by
 refine QO Tryz.func197 rfl rfl Tryz.ntmps197 fun O_ hO w0_ N0_ X_ h0_ f0_=> ?_
 refine w_ ?_
 refine lc (Qy 0 (Qb rfl) rfl rfl (Fresh.of rfl) (nlr rfl)) ?_
 iterate 3 refine w_ ?_
 refine lc (Qf 1 (e:=Qs) Zi QU XX rfl rfl (ae.1 rfl) ⟨rfl,rfl⟩ (by decide) rfl rfl (Fresh.of rfl) (nlr rfl)) ?_
 iterate 6 refine w_ ?_
 refine AL.fact (Qo (x:= .tmp 9) (Qa rfl)) fun hl1=> ?_
 iterate 4 refine w_ ?_
 refine Qu (fun m_ s_=>∃(i:Nat),i≤c.2.1.length∧m_=c.2.1.length - i∧s_=⟨[(1,lP 0 0),(2,lf (.val (.slice none 0 0))),(3,lR 2),(9,lf (.dat Zr c.2.1)),(10,lI (c.2.1.length:Int)),(11,lI (i:Int))],[(0,some (.box 52 [.dat QJ c.1, .dat Zr c.2.1, .dat VR c.2.2])),(2,some (.arr 95 Qs (XW c (fun _ _=>true) i)))]⟩) ⟨0,aw _,rfl,rfl⟩ ?_ ?_
 exact wp [(0,0),(2,1)] ⟨rfl,(Qp (rfl)),trivial⟩
 rintro m_ s_ ⟨i,hk2,hm3,rfl⟩
 have hal:=Qe0 (c:=c) (f:=fun _ _=>true) (i:=i) hn
 iterate 4 refine w_ ?_
 cases hb4:(decide ((i:Int) < (c.2.1.length:Int)))
 have hb4':=a7 hb4
 iterate 8 refine w_ ?_
 subst hO
 refine Z3 (e:=Qs) (xs:=(XW c (fun _ _=>true) i)) (Qg rfl (Qd rfl)) rfl ?_
 (congr 1; omega)
 have hb4':=a8 hb4
 iterate 6 refine w_ ?_
 obtain ⟨ci,hx6⟩:=gx c.2.1 i
 have hci:=hx6
 refine lc (Qh (Qa rfl) (Qa rfl) Zo Zg rfl (by omega) hx6) ?_
 iterate 10 refine w_ ?_
 refine Qu (fun m_ s_=>∃(m:Int) (out:List (List Int)),m_=((c.2.1.length:Int) - m).toNat∧((i:Int)+1≤m∧m≤(c.2.1.length:Int))∧(out=XW c (fun _ _=>true) i++Wn c (fun _ _=>true) i m.toNat)∧s_=⟨[(1,lP 0 0),(2,lf (.val (.slice none 0 0))),(3,lR 3),(4,lI (i:Int)),(5,lf (dS ci)),(6,lI m),(9,lf (.dat Zr c.2.1)),(10,lI (c.2.1.length:Int)),(11,lI (i:Int)),(12,lB true),(13,lI (i:Int)),(14,lf (.elt .str ci 0)),(15,lf (dS ci)),(16,lI (i:Int)),(17,lI ((i:Int)+1))],[(0,some (.box 52 [.dat QJ c.1, .dat Zr c.2.1, .dat VR c.2.2])),(3,some (.arr 95 Qs out))]⟩) ⟨(i:Int)+1,XW c (fun _ _=>true) i,rfl,(by omega),(by rw[show ((i:Int)+1).toNat=i+1 by omega,QeA,bt]),rfl⟩ ?_ ?_
 exact wp [(0,0),(3,2)] ⟨rfl,(Qp (by first | rfl | simp)),trivial⟩
 rintro m_ s_ ⟨m,out,hm8,hm,hO1,rfl⟩
 have hol:out.length≤100000:=by rw[hO1,aa]; have:=QeI (c:=c) (f:=fun _ _=>true) (i:=i) (k:=m.toNat); have:=hal (by omega); omega
 iterate 5 refine w_ ?_
 refine AL.fact (Qo (x:= .tmp 20) (Qa rfl)) fun hl9=> ?_
 iterate 3 refine w_ ?_
 cases hb10:(decide (m < (c.2.1.length:Int)))
 have hb10':=a7 hb10
 iterate 6 refine w_ ?_
 refine Qm<|QV ⟨i+1,by omega,rfl,rfl⟩ (by omega) ?_
 exact wp [(0,0),(2,3)] ⟨rfl,(Qp ((by rw[hO1]; exact Qq2 (by omega) (by omega)))),trivial⟩
 have hb10':=a8 hb10
 iterate 8 refine w_ ?_
 obtain ⟨cm,hx12⟩:=gx c.2.1 ((m).toNat)
 have hcm:=hx12
 refine lc (Qh (Qa rfl) (Qa rfl) Zo Zg rfl (by omega) hx12) ?_
 iterate 4 refine w_ ?_
 cases hb13:(decide (cm=ci))
 have hb13':=a7 hb13
 iterate 7 refine w_ ?_
 refine Qm<|QV ⟨(m+1),out,rfl,(by omega),(by rw[hO1]; first | exact QqS (by omega) hcm hci (Eq.symm ‹_›) | exact Qso (by omega) hcm hci (fun h=>absurd h.symm ‹_›)),rfl⟩ (by omega) ?_
 exact wo [(0,0),(3,3)]
 have hb13':=a8 hb13
 iterate 5 refine w_ ?_
 refine lc (Qf 4 (e:= .int) QN QL Yu rfl ⟨_,_,rfl,(Qb rfl),⟨_,_,rfl,(Qb rfl),rfl⟩⟩ (ae.1 rfl) ⟨_,_,_,_,rfl,⟨rfl,rfl⟩,⟨_,_,_,_,rfl,⟨rfl,rfl⟩,⟨rfl,rfl⟩,rfl⟩,rfl⟩ (by decide) rfl rfl (Fresh.of rfl) (nlr rfl))<|lc (Qf 5 (e:=Qs) Zi QU XX rfl ⟨_,_,rfl,(Qb rfl),rfl⟩ (ae.1 rfl) ⟨_,_,_,_,rfl,(.inl ⟨_,rfl,rfl,rfl⟩),⟨rfl,rfl⟩,rfl⟩ (by decide) rfl rfl (Fresh.of rfl) (nlr rfl))<|lc (QH 6 (Qa rfl) rfl (Qa rfl) rfl rfl Zi Va (by first | omega | (simp only[aa,av,ab,ah,aj]; omega) | (simp only[aa,ay,ab,ah,aj]; omega)) rfl (Fresh.of rfl) (nlr rfl)) ?_
 refine w_ ?_
 refine Qm ?_
 iterate 5 refine w_ ?_
 refine Qm<|QV ⟨(m+1),(out++([[(i:Int),m]])),rfl,(by omega),(by rw[hO1]; first | exact QqS (by omega) hcm hci (Eq.symm ‹_›) | exact Qso (by omega) hcm hci (fun h=>absurd h.symm ‹_›)),rfl⟩ (by omega) ?_
 exact wp [(0,0),(3,6)] ⟨rfl,(Qp (by first | rfl | simp)),trivial⟩
theorem nbt {b:Bool}(h:b=false):(!b)=true:=by rw[h]; rfl
theorem nbf {b:Bool}(h:b=true):(!b)=false:=by rw[h]; rfl
theorem Qqd {masks pair:List Int}{p0 p1 m0 m1 sig:Int}(hp0:pair[0]? =some p0)(hp1:pair[1]? =some p1)(hm0:masks[p0.toNat]? =some m0)(hm1:masks[p1.toNat]? =some m1):
    (!((decide ((((m0 / 2 ^ (2*sig).toNat).toNat &&& (3:Int).toNat:Nat):Int)=0))==(decide ((((m1 / 2 ^ (2*sig).toNat).toNat &&& (3:Int).toNat:Nat):Int)=0))))=WP masks pair sig:=by
  unfold WP
  rw[Qda (x:=0) (by simpa using hp0),Qda (x:=1) (by simpa using hp1),Qda hm0,Qda hm1]
  rfl
theorem Ju (sig:Int)(masks:List Int)(pair:List Int)(hm:∀x∈masks,0≤x)(hp:2≤pair.length∧∀x∈pair,0≤x∧x < (masks.length:Int))(hs:0≤sig∧sig≤7):FC Tryz.prog 199 [(false,[dI sig]),(false,[.ptr 0 0]),(false,[.ptr 1 0])] [(0,some (.box 95 [.dat Qs masks])),(1,some (.box 95 [.dat Qs pair]))] 2 (Is (lB (WP masks pair sig)) [(0,some (.box 95 [.dat Qs masks])),(1,some (.box 95 [.dat Qs pair]))]):=by
 refine QO Tryz.func199 rfl rfl Tryz.ntmps199 fun O_ hO w0_ N0_ X_ h0_ f0_=> ?_
 refine AC.fact (QC (x:= .tmp 0) (Qa rfl)) fun hi1=> ?_
 iterate 3 refine w_ ?_
 obtain ⟨p0,hx3⟩:=gx pair 0
 have hp0:=hx3
 have hrp0:=hp.2 _ (ai hx3)
 obtain ⟨m0,hx5⟩:=gx masks ((p0).toNat)
 have hm0:=hx5
 have hnm0:=hm _ (ai hx5)
 obtain ⟨p1,hx7⟩:=gx pair 1
 have hp1:=hx7
 have hrp1:=hp.2 _ (ai hx7)
 obtain ⟨m1,hx9⟩:=gx masks ((p1).toNat)
 have hm1:=hx9
 have hnm1:=hm _ (ai hx9)
 refine dw [io 5 (lf (.dat Qs masks)),io 6 (lf (.dat Qs pair)),io 7 (lf (.elt .int p0 0)),io 8 (lI p0),io 9 (lf (.elt .int m0 0)),io 10 (lI m0),io 11 (lI sig),io 12 (lI (2*sig)),io 13 (lI (m0 / 2 ^ (2*sig).toNat)),io 14 (lI (((m0 / 2 ^ (2*sig).toNat).toNat &&& (3:Int).toNat:Nat):Int)),io 15 (lB (decide ((((m0 / 2 ^ (2*sig).toNat).toNat &&& (3:Int).toNat:Nat):Int)=0))),io 16 (lf (.dat Qs masks)),io 17 (lf (.dat Qs pair)),io 18 (lf (.elt .int p1 0)),io 19 (lI p1),io 20 (lf (.elt .int m1 0)),io 21 (lI m1),io 22 (lI sig),io 23 (lI (2*sig)),io 24 (lI (m1 / 2 ^ (2*sig).toNat)),io 25 (lI (((m1 / 2 ^ (2*sig).toNat).toNat &&& (3:Int).toNat:Nat):Int)),io 26 (lB (decide ((((m1 / 2 ^ (2*sig).toNat).toNat &&& (3:Int).toNat:Nat):Int)=0))),io 27 (lB (!((decide ((((m0 / 2 ^ (2*sig).toNat).toNat &&& (3:Int).toNat:Nat):Int)=0))==(decide ((((m1 / 2 ^ (2*sig).toNat).toNat &&& (3:Int).toNat:Nat):Int)=0))))),io 4 (lB (!((decide ((((m0 / 2 ^ (2*sig).toNat).toNat &&& (3:Int).toNat:Nat):Int)=0))==(decide ((((m1 / 2 ^ (2*sig).toNat).toNat &&& (3:Int).toNat:Nat):Int)=0)))))] [0,0,2,6,15,31,0,64,255,511,1023,0,0,4096,12288,30720,63488,0,131072,522240,1046528,2095104,4194303,8388607] mixed rfl (by kernel_rfl) ⟨dxl QU rfl rfl rfl rfl rfl,dxl QU rfl rfl rfl rfl rfl,fun _ h_=>ac (Qh (h_.v rfl) (Qv rfl) QN QL rfl (by omega) hx3) rfl,fun _ h_=>ac (Q3 (h_.v rfl) QL rfl rfl) rfl,fun _ h_=>ac (Qh (h_.v rfl) (h_.v rfl) QN QL rfl (by omega) hx5) rfl,fun _ h_=>ac (Q3 (h_.v rfl) QL rfl rfl) rfl,dxm rfl rfl,fun _ h_=>ac (JJ (Qv rfl) (h_.v rfl) rfl (by omega)) rfl,fun _ h_=>ac (Qh2 (h_.v rfl) (h_.v rfl) rfl (by omega) (by first | omega | exact da (by omega) (cP (by decide)))) rfl,fun _ h_=>ac (QiJ (h_.v rfl) (Qv rfl) rfl (by first | omega | exact da (by omega) (cP (by decide))) (by omega)) rfl,fun _ h_=>ac (Qei (h_.v rfl) (Qv rfl) rfl) rfl,dxl QU rfl rfl rfl rfl rfl,dxl QU rfl rfl rfl rfl rfl,fun _ h_=>ac (Qh (h_.v rfl) (Qv rfl) QN QL rfl (by omega) hx7) rfl,fun _ h_=>ac (Q3 (h_.v rfl) QL rfl rfl) rfl,fun _ h_=>ac (Qh (h_.v rfl) (h_.v rfl) QN QL rfl (by omega) hx9) rfl,fun _ h_=>ac (Q3 (h_.v rfl) QL rfl rfl) rfl,dxm rfl rfl,fun _ h_=>ac (JJ (Qv rfl) (h_.v rfl) rfl (by omega)) rfl,fun _ h_=>ac (Qh2 (h_.v rfl) (h_.v rfl) rfl (by omega) (by first | omega | exact da (by omega) (cP (by decide)))) rfl,fun _ h_=>ac (QiJ (h_.v rfl) (Qv rfl) rfl (by first | omega | exact da (by omega) (cP (by decide))) (by omega)) rfl,fun _ h_=>ac (Qei (h_.v rfl) (Qv rfl) rfl) rfl,fun _ h_=>ac (Hz (h_.v rfl) (h_.v rfl) rfl QfG) rfl,dxt rfl rfl,⟨⟩⟩<|Q4 ?_
 subst hO
 have e10:(!((decide ((((m0 / 2 ^ (2*sig).toNat).toNat &&& (3:Int).toNat:Nat):Int)=0))==(decide ((((m1 / 2 ^ (2*sig).toNat).toNat &&& (3:Int).toNat:Nat):Int)=0))):Bool)=(WP masks pair sig):=by
  exact Qqd hp0 hp1 hm0 hm1
 exact QD _ _ [(0,0),(1,1)] (Qg rfl (Qd rfl)) (by rw[e10] <;> rfl) ⟨rfl,rfl,trivial⟩ rfl rfl
theorem Ha (l:List Int)(masks:List Int)(pair:List Int)(hm:∀x∈masks,0≤x)(hp:2≤pair.length∧∀x∈pair,0≤x∧x < (masks.length:Int))(ho:∀s∈l,0≤s∧s≤7):FC Tryz.prog 248 [(false,[.dat Qs l]),(false,[.clo 199 [0,1]])] [(0,some (.box 95 [.dat Qs masks])),(1,some (.box 95 [.dat Qs pair]))] 2 (Is (lI (ZN (fun s=>WP masks pair s) l)) [(0,some (.box 95 [.dat Qs masks])),(1,some (.box 95 [.dat Qs pair]))]):=by
 refine QO Tryz.func248 rfl rfl Tryz.ntmps248 fun O_ hO w0_ N0_ X_ h0_ f0_=> ?_
 iterate 6 refine w_ ?_
 refine AL.fact (Qo (x:= .tmp 6) (Qa rfl)) fun hl1=> ?_
 iterate 4 refine w_ ?_
 refine Qu (fun m_ s_=>∃(k:Nat),k≤l.length∧m_=l.length - k∧(NoneTo (fun s=>WP masks pair s) l k)∧s_=⟨[(0,lf (.dat Qs l)),(1,lf (.clo 199 [0,1])),(7,lI (l.length:Int)),(8,lI (k:Int))],[(0,some (.box 95 [.dat Qs masks])),(1,some (.box 95 [.dat Qs pair]))]⟩) ⟨0,aw _,rfl,NoneTo.zero,rfl⟩ ?_ ?_
 exact wo [(0,0),(1,1)]
 rintro m_ s_ ⟨k,hk2,hm3,hno,rfl⟩
 iterate 4 refine w_ ?_
 cases hb4:(decide ((k:Int) < (l.length:Int)))
 have hb4':=a7 hb4
 iterate 7 refine w_ ?_
 subst hO
 have e5:((-1):Int)=(ZN (fun s=>WP masks pair s) l):=by
  first | exact (hno.no (by omega)).symm
 exact QD _ _ [(0,0),(1,1)] (Qg rfl (Qd rfl)) (by rw[← e5] <;> rfl) ⟨rfl,rfl,trivial⟩ rfl rfl
 have hb4':=a8 hb4
 iterate 12 refine w_ ?_
 obtain ⟨x6,hx7⟩:=gx l k
 refine lc (Qh (Qa rfl) (Qa rfl) QN QL rfl (by omega) hx7) ?_
 refine w_ ?_
 refine AL.fact (QC (x:= .tmp 15) (Qa rfl)) fun hi8=>lc (Wh (args0:=[(false,[dI x6])]) (caps:=[0,1]) 2 [(0,0),(1,1)] (Ju x6 masks pair hm hp (ho _ (ai hx7))) Qkd rfl (Qa rfl) rfl rfl ⟨_,_,rfl,(Qb rfl),rfl⟩ ⟨rfl,rfl,trivial⟩ rfl ⟨trivial,trivial,trivial⟩ (nlr rfl)) ?_
 refine w_ ?_
 cases hb9:(WP masks pair x6)
 iterate 6 refine w_ ?_
 refine Qm<|QV ⟨k+1,by omega,rfl,hno.step hx7 ‹_›,rfl⟩ (by omega) ?_
 exact wo [(0,0),(1,1)]
 iterate 6 refine w_ ?_
 subst hO
 have e10:((k:Int):Int)=(ZN (fun s=>WP masks pair s) l):=by
  exact (hno.at hx7 ‹_›).symm
 exact QD _ _ [(0,0),(1,1)] (Qg rfl (Qd rfl)) (by rw[e10] <;> rfl) ⟨rfl,rfl,trivial⟩ rfl rfl
theorem Kh (l:List Int)(masks:List Int)(pair:List Int)(hm:∀x∈masks,0≤x)(hp:2≤pair.length∧∀x∈pair,0≤x∧x < (masks.length:Int))(ho:∀s∈l,0≤s∧s≤7):FC Tryz.prog 142 [(false,[.dat Qs l]),(false,[.clo 199 [0,1]])] [(0,some (.box 95 [.dat Qs masks])),(1,some (.box 95 [.dat Qs pair]))] 2 (Is (lB (l.any (fun s=>WP masks pair s))) [(0,some (.box 95 [.dat Qs masks])),(1,some (.box 95 [.dat Qs pair]))]):=by
 refine QO Tryz.func142 rfl rfl Tryz.ntmps142 fun O_ hO w0_ N0_ X_ h0_ f0_=> ?_
 iterate 6 refine w_ ?_
 refine lc (QK 2 [(0,0),(1,1)] (Ha l masks pair hm hp ho) QaG ⟨_,_,rfl,(Qb rfl),⟨_,_,rfl,(Qb rfl),rfl⟩⟩ ⟨rfl,rfl,trivial⟩ rfl ⟨trivial,trivial,trivial⟩ (nlr rfl)) ?_
 iterate 4 refine w_ ?_
 subst hO
 have e1:(decide (0≤(ZN (fun s=>WP masks pair s) l)):Bool)=(l.any (fun s=>WP masks pair s)):=by
  exact Vx _ _
 exact QD _ _ [(0,0),(1,1)] (Qg rfl (Qd rfl)) (by rw[e1] <;> rfl) ⟨rfl,rfl,trivial⟩ rfl rfl
theorem VJ (pair:List Int)(own_:List Int)(masks:List Int)(hm:∀x∈masks,0≤x)(hp:2≤pair.length∧∀x∈pair,0≤x∧x < (masks.length:Int))(ho:∀s∈own_,0≤s∧s≤7):FC Tryz.prog 198 [(false,[.dat Qs pair]),(false,[.ptr 0 0]),(false,[.ptr 1 0])] [(0,some (.box 95 [.dat Qs own_])),(1,some (.box 95 [.dat Qs masks]))] 2 (Is (lB (!(own_.any (fun s=>WP masks pair s)))) [(0,some (.box 95 [.dat Qs own_])),(1,some (.box 95 [.dat Qs masks]))]):=by
 refine QO Tryz.func198 rfl rfl Tryz.ntmps198 fun O_ hO w0_ N0_ X_ h0_ f0_=> ?_
 refine w_ ?_
 refine lc (Qy 2 (Qb rfl) rfl rfl (Fresh.of rfl) (nlr rfl)) ?_
 iterate 4 refine w_ ?_
 refine lc (Xz ⟨_,_,rfl,(Qa rfl),rfl,⟨_,_,rfl,(Qa rfl),rfl,rfl⟩⟩ rfl)<|lc (QK 3 [(0,1),(1,2)] (Kh own_ masks pair hm hp ho) QaB ⟨_,_,rfl,(Qb rfl),⟨_,_,rfl,(Qb rfl),rfl⟩⟩ ⟨rfl,rfl,trivial⟩ rfl ⟨trivial,trivial,trivial⟩ (nlr rfl)) ?_
 iterate 4 refine w_ ?_
 subst hO
 exact QD _ _ [(0,0),(1,1)] (Qg rfl (Qd rfl)) (rfl) ⟨rfl,rfl,trivial⟩ rfl rfl
theorem QaA (l:List Hdr)(vs_:List Hdr)(gF:Hdr→List Int)(own_:List Int)(masks:List Int)(hm:∀x∈masks,0≤x)(hv:∀v∈vs_,2≤(gF v).length∧∀x∈gF v,0≤x∧x < (masks.length:Int))(ho:∀s∈own_,0≤s∧s≤7)(hvs:∀v∈l,v∈vs_)(hl:l.length≤1000000):FC Tryz.prog 279 [(false,[.ref 3]),(false,[.clo 198 [0,1]])] [(0,some (.box 95 [.dat Qs own_])),(1,some (.box 95 [.dat Qs masks])),(2,some (.pl false Qs vs_ gF)),(3,some (.arr 95 .vl l))] 4 (Is (lI (ZN (fun v:Hdr=> !(own_.any (fun s=>WP masks (gF v) s))) l)) [(0,some (.box 95 [.dat Qs own_])),(1,some (.box 95 [.dat Qs masks])),(2,some (.pl false Qs vs_ gF)),(3,some (.arr 95 .vl l))]):=by
 refine QO Tryz.func279 rfl rfl Tryz.ntmps279 fun O_ hO w0_ N0_ X_ h0_ f0_=> ?_
 iterate 10 refine w_ ?_
 refine Qu (fun m_ s_=>∃(k:Nat),k≤l.length∧m_=l.length - k∧(NoneTo (fun v:Hdr=> !(own_.any (fun s=>WP masks (gF v) s))) l k)∧s_=⟨[(0,lR 3),(1,lf (.clo 198 [0,1])),(7,lI (l.length:Int)),(8,lI (k:Int))],[(0,some (.box 95 [.dat Qs own_])),(1,some (.box 95 [.dat Qs masks])),(2,some (.pl false Qs vs_ gF)),(3,some (.arr 95 .vl l))]⟩) ⟨0,aw _,rfl,NoneTo.zero,rfl⟩ ?_ ?_
 exact wo [(0,0),(1,1),(2,2),(3,3)]
 rintro m_ s_ ⟨k,hk1,hm2,hno,rfl⟩
 iterate 4 refine w_ ?_
 cases hb3:(decide ((k:Int) < (l.length:Int)))
 have hb3':=a7 hb3
 iterate 7 refine w_ ?_
 subst hO
 have e4:((-1):Int)=(ZN (fun v:Hdr=> !(own_.any (fun s=>WP masks (gF v) s))) l):=by
  first | exact (hno.no (by omega)).symm
 exact QD _ _ [(0,0),(1,1),(2,2),(3,3)] (Qg rfl (Qd rfl)) (by rw[← e4] <;> rfl) ⟨rfl,rfl,rfl,rfl,trivial⟩ rfl rfl
 have hb3':=a8 hb3
 iterate 12 refine w_ ?_
 refine lc (Qw (e:= .vl) (Qa rfl) rfl (Qa rfl) Zi QU rfl (by omega) (by first | omega | (simp only[aq]; omega))) ?_
 obtain ⟨x5,hx6⟩:=gx l k
 refine lc (QP (e:= .vl) (Qa rfl) rfl hx6 rfl QU rfl rfl)<|lc (Wh (args0:=[(false,[.dat Qs (gF x5)])]) (caps:=[0,1]) 4 [(0,0),(1,1)] (VJ (gF x5) own_ masks hm (hv _ (hvs _ (ai hx6))) ho) Qet rfl (Qa rfl) rfl rfl ⟨_,_,rfl,(Evl.ev (Evl.pl (p:=2) (Qa rfl) rfl (hvs _ (ai hx6)))),rfl⟩ ⟨rfl,rfl,trivial⟩ rfl ⟨trivial,trivial,trivial⟩ (nlr rfl)) ?_
 refine w_ ?_
 cases hb7:(own_.any (fun s=>WP masks (gF x5) s))
 iterate 6 refine w_ ?_
 subst hO
 have e8:((k:Int):Int)=(ZN (fun v:Hdr=> !(own_.any (fun s=>WP masks (gF v) s))) l):=by
  exact (hno.at hx6 (nbt ‹_›)).symm
 exact QD _ _ [(0,0),(1,1),(2,2),(3,3)] (Qg rfl (Qd rfl)) (by rw[e8] <;> rfl) ⟨rfl,rfl,rfl,rfl,trivial⟩ rfl rfl
 iterate 6 refine w_ ?_
 refine Qm<|QV ⟨k+1,by omega,rfl,hno.step hx6 (nbf ‹_›),rfl⟩ (by omega) ?_
 exact wo [(0,0),(1,1),(2,2),(3,3)]
theorem H2 (l:List Hdr)(vs_:List Hdr)(gF:Hdr→List Int)(own_:List Int)(masks:List Int)(hm:∀x∈masks,0≤x)(hv:∀v∈vs_,2≤(gF v).length∧∀x∈gF v,0≤x∧x < (masks.length:Int))(ho:∀s∈own_,0≤s∧s≤7)(hvs:∀v∈l,v∈vs_)(hl:l.length≤1000000):FC Tryz.prog 196 [(false,[.ref 3]),(false,[.clo 198 [0,1]])] [(0,some (.box 95 [.dat Qs own_])),(1,some (.box 95 [.dat Qs masks])),(2,some (.pl false Qs vs_ gF)),(3,some (.arr 95 .vl l))] 3 (Is (lR 4) [(0,some (.box 95 [.dat Qs own_])),(1,some (.box 95 [.dat Qs masks])),(2,some (.pl false Qs vs_ gF)),(4,some (.arr 95 .vl (l.filter (fun v:Hdr=> !(!(own_.any (fun s=>WP masks (gF v) s)))))))]):=by
 have hix:=Qo5 (fun v:Hdr=> !(own_.any (fun s=>WP masks (gF v) s))) l
 refine QO Tryz.func196 rfl rfl Tryz.ntmps196 fun O_ hO w0_ N0_ X_ h0_ f0_=> ?_
 iterate 6 refine w_ ?_
 refine lc (QK 4 [(0,0),(1,1),(2,2),(3,3)] (QaA l vs_ gF own_ masks hm hv ho hvs hl) QjV ⟨_,_,rfl,(Qb rfl),⟨_,_,rfl,(Qb rfl),rfl⟩⟩ ⟨rfl,rfl,rfl,rfl,trivial⟩ rfl ⟨trivial,trivial,trivial,trivial,trivial⟩ (nlr rfl)) ?_
 iterate 7 refine w_ ?_
 cases hb1:(decide ((ZN (fun v:Hdr=> !(own_.any (fun s=>WP masks (gF v) s))) l)=(-1)))
 have hb1':=a7 hb1
 iterate 9 refine w_ ?_
 refine Qu (fun m_ s_=>∃(i:Int) (j:Int) (l2:List Hdr),m_=((l2.length:Int) - j).toNat∧(DelI (fun v:Hdr=> !(!(own_.any (fun s=>WP masks (gF v) s)))) l l2 i j)∧s_=⟨[(0,lR 8),(1,lf (.clo 198 [0,1])),(4,lf (.val (.slice none 0 0))),(5,lI i),(6,lI j)],[(0,some (.box 95 [.dat Qs own_])),(1,some (.box 95 [.dat Qs masks])),(2,some (.pl false Qs vs_ gF)),(8,some (.arr 95 .vl l2))]⟩) ⟨ZN (fun v:Hdr=> !(own_.any (fun s=>WP masks (gF v) s))) l,(ZN (fun v:Hdr=> !(own_.any (fun s=>WP masks (gF v) s))) l)+1,l,rfl,(DelI.start ‹_›),rfl⟩ ?_ ?_
 exact wo [(0,0),(1,1),(2,2),(8,3)]
 rintro m_ s_ ⟨i,j,l2,hm3,hD,rfl⟩
 have hDb:=hD.1
 have hDl:=hD.2.1
 iterate 7 refine w_ ?_
 cases hb4:(decide (j < (l2.length:Int)))
 have hb4':=a7 hb4
 iterate 6 refine w_ ?_
 refine lc (Z8 (e:= .vl) (a:=(i).toNat) (b:=l2.length - (i).toNat) (l:=(some i)) (h:=none) (Qa rfl) rfl (by exact (Qa rfl)) (by exact trivial) Zi QU rfl (by first | (simp only[ao,ak]; omega) | omega | (simp only[ao,ak,aa,ab,az]; omega)) (by first | (simp only[ao,ak]; omega) | omega | (simp only[ao,ak,aa,ab,az]; omega)) (by first | (simp only[ao,ak]; omega) | omega | (simp only[ao,ak,aa,ab,az]; omega)) (by first | rfl | simp) (by first | rfl | simp))<|lc (Qct (e:= .vl) (Qa rfl) rfl (by omega) Zi XX rfl rfl rfl) ?_
 iterate 4 refine w_ ?_
 refine lc (Z8 (e:= .vl) (a:=0) (b:=(i).toNat) (l:=none) (h:=(some i)) (Qa rfl) rfl (by exact trivial) (by exact (Qa rfl)) Zi QU rfl (by first | (simp only[ao,ak]; omega) | omega | (simp only[ao,ak,aa,ab,az]; omega)) (by first | (simp only[ao,ak]; omega) | omega | (simp only[ao,ak,aa,ab,az]; omega)) (by first | (simp only[ao,ak]; omega) | omega | (simp only[ao,ak,aa,ab,az]; omega)) (by first | rfl | simp) (by first | rfl | simp)) ?_
 iterate 2 refine w_ ?_
 refine AC.wk (Qd1 9 4 (e:= .vl) (xs:=l2.take ((i).toNat)++List.replicate (l2.length - (i).toNat) (Ty.zero .vl)) rfl rfl (by first | omega | (simp only[aa,ab,az]; omega)) rfl (Fresh.of rfl) (nlr rfl))<|Q4 ?_
 subst hO
 exact QD _ _ [(0,0),(1,1),(2,2),(4,9)] (Qg rfl (Qd rfl)) (rfl) ⟨rfl,rfl,rfl,(Qp (by exact hD.end_ ‹_› _ (by omega))),trivial⟩ rfl rfl
 have hb4':=a8 hb4
 iterate 7 refine w_ ?_
 refine lc (Qw (e:= .vl) (Qa rfl) rfl (Qa rfl) Zi QU rfl (by omega) (by first | omega | (simp only[aq]; omega))) ?_
 obtain ⟨xj,hx6⟩:=gx l2 ((j).toNat)
 have h_xj:=hx6
 refine lc (QP (e:= .vl) (Qa rfl) rfl hx6 rfl QU rfl rfl) ?_
 iterate 5 refine w_ ?_
 refine lc (Wh (args0:=[(false,[.dat Qs (gF xj)])]) (caps:=[0,1]) 10 [(0,0),(1,1)] (VJ (gF xj) own_ masks hm (hv _ (hvs _ (ai (hD.at_ hx6)))) ho) Qet rfl (Qa rfl) rfl rfl ⟨_,_,rfl,(Evl.ev (Evl.pl (p:=2) (Qa rfl) rfl (hvs _ (ai (hD.at_ hx6))))),rfl⟩ ⟨rfl,rfl,trivial⟩ rfl ⟨trivial,trivial,trivial⟩ (nlr rfl)) ?_
 iterate 2 refine w_ ?_
 cases hb7:(!(own_.any (fun s=>WP masks (gF xj) s)))
 iterate 5 refine w_ ?_
 refine lc (Qw (e:= .vl) (Qa rfl) rfl (Qa rfl) Zi QU rfl (by omega) (by first | omega | (simp only[aq]; omega))) ?_
 obtain ⟨x8,hx9⟩:=gx l2 ((i).toNat)
 have h_x8:=hx9
 refine lc (Q6 (e:= .vl) (z':=xj) (Qa rfl) rfl hx9 rfl (Qb rfl) rfl QU rfl rfl) ?_
 iterate 5 refine w_ ?_
 refine Qm ?_
 iterate 5 refine w_ ?_
 refine Qm<|QV ⟨(i+1),(j+1),(l2.set ((i).toNat) xj),rfl,(by exact hD.keep h_xj (nbt ‹_›)),rfl⟩ (by first | omega | (simp only[aq]; omega)) ?_
 exact wp [(0,0),(1,1),(2,2),(8,8)] ⟨rfl,rfl,rfl,(Qp (by first | rfl | simp)),trivial⟩
 iterate 7 refine w_ ?_
 refine Qm<|QV ⟨i,(j+1),l2,rfl,(by exact hD.drop_ h_xj (nbf ‹_›)),rfl⟩ (by first | omega | (simp only[aq]; omega)) ?_
 exact wo [(0,0),(1,1),(2,2),(8,8)]
 have hb1':=a8 hb1
 iterate 6 refine w_ ?_
 subst hO
 exact QD _ _ [(0,0),(1,1),(2,2),(4,3)] (Qg rfl (Qd rfl)) (rfl) ⟨rfl,rfl,rfl,(Qp (by exact QiR ‹_›)),trivial⟩ rfl rfl
theorem QbK (c:(List (ByteArray×Int))×List ByteArray×(List (Int×Int×Bool×Int)))(hs:SgW c):FC Tryz.prog 99 [(true,[.dat QJ c.1, .dat Zr c.2.1, .dat VR c.2.2])] [] 0 (Yj (lf (.dat Uo (VM c)))):=by
 have hr:∀a∈c.2.2,InR c.2.1.length a:=fun a ha=>(hs.arcs a ha).1
 have hn3:=hs.some_
 have hfw:=hs.few
 have hs8:=hs.sig8
 have hmn:=Qg0 (n:=c.2.1.length) (as_:=c.2.2)
 have hml:=QdG (n:=c.2.1.length) (as_:=c.2.2)
 have hou:∀s∈Xd c.1 c.1.length,0≤s∧s≤7:=fun s h=>by obtain ⟨t,rfl,h1,_⟩:=Ho.1 h; omega
 have hal:=Qe0 (c:=c) (f:=fun _ _=>true) (i:=c.2.1.length) (by omega) (aL _)
 refine QO Tryz.func99 rfl rfl Tryz.ntmps99 fun O_ hO w0_ N0_ X_ h0_ f0_=> ?_
 refine w_ ?_
 refine lc (Qy 0 (Qb rfl) rfl rfl (Fresh.of rfl) (nlr rfl)) ?_
 iterate 2 refine w_ ?_
 refine dw [io 5 (ag [.dat QJ c.1, .dat Zr c.2.1, .dat VR c.2.2]),io 6 (lf (.dat Qs (Vn c.2.1.length c.2.2))),io 7 (ag [.dat QJ c.1, .dat Zr c.2.1, .dat VR c.2.2]),io 8 (lf (.dat Qs (Xd c.1 c.1.length))),⟨some 3,lP 1 0,[(1,some (.box 95 [.val (.slice none 0 0)]))]⟩,⟨some 4,lP 2 0,[(2,some (.box 95 [.val (.slice none 0 0)]))]⟩,⟨none,lf (.val undef),[(1,some (.box 95 [.dat Qs (Vn c.2.1.length c.2.2)]))]⟩,⟨none,lf (.val undef),[(2,some (.box 95 [.dat Qs (Xd c.1 c.1.length)]))]⟩] [0,1,0,7,0,0,63,127] mixed rfl (by kernel_rfl) ⟨dxa Yh rfl rfl rfl rfl,fun _ h_=>ac (Ql (QaR c hs).frozen Qj8 ⟨_,_,rfl,(h_.w rfl),rfl⟩ rfl rfl) rfl,dxa Yh rfl rfl rfl rfl,fun _ h_=>ac (Ql (QcF c (by omega)).frozen Qkq ⟨_,_,rfl,(h_.w rfl),rfl⟩ rfl rfl) rfl,fun _ h_=>ac (Qj 1 Qs XX rfl rfl (h_.fr 1 rfl) (nlr rfl)) rfl,fun _ h_=>ac (Qj 2 Qs XX rfl rfl (h_.fr 2 rfl) (nlr rfl)) rfl,fun _ h_=>ac (Qc (h_.v rfl) (h_.n 1 rfl) (h_.w rfl) rfl QU rfl) rfl,fun _ h_=>ac (Qc (h_.v rfl) (h_.n 2 rfl) (h_.w rfl) rfl QU rfl) rfl,⟨⟩⟩ ?_
 iterate 2 refine w_ ?_
 refine lc (YF 3 (Qaz c (by omega)) Qjh ⟨_,_,rfl,(Qb rfl),rfl⟩ rfl (Fresh.of rfl) (nlr rfl))<|lc (Xz ⟨_,_,rfl,(Qa rfl),rfl,⟨_,_,rfl,(Qa rfl),rfl,rfl⟩⟩ rfl)<|AL.pool (q:=3) (e:= .int) 4 rfl (Fresh.of rfl) (nlr rfl) fun vs1 gf2 hvf3=>lc (QK 5 [(0,2),(1,1),(2,4),(3,3)] (H2 vs1 vs1 gf2 (Xd c.1 c.1.length) (Vn c.2.1.length c.2.2) hmn (fun v hv=>by rw[hml]; exact QnI (by rw[← hvf3]; exact List.mem_map_of_mem hv) (aL _)) hou (fun _ h=>h) (by have:=congrArg List.length hvf3; rw[av] at this; omega)) QkQ ⟨_,_,rfl,(Qb rfl),⟨_,_,rfl,(Qb rfl),rfl⟩⟩ ⟨rfl,rfl,rfl,rfl,trivial⟩ rfl ⟨trivial,trivial,trivial,(Fresh.of rfl),trivial⟩ (nlr rfl)) ?_
 iterate 2 refine w_ ?_
 refine AC.wk (Qph (i:=2) (q:=9) (p:=4) rfl rfl rfl (fun z hz=>(bX.1 hz).1))<|Q4 ?_
 subst hO
 have e4:((vs1.filter (fun v:Hdr=> !(!((Xd c.1 c.1.length).any (fun s=>WP (Vn c.2.1.length c.2.2) (gf2 v) s))))).map gf2:(Uo:Ty).Den)=(VM c):=by
  exact (Qpc hvf3).trans (Qqj fun a ha=>(hr a ha).1.1)
 exact Qi (Qg rfl (Qd rfl)) (by rw[e4] <;> rfl) rfl
end Go.Proofs.YtjaadeknhofhpaaGreat
namespace Go.Proofs.YtjaadeknhofhpaaGreat
open Go.RowKit
set_option maxRecDepth 100000
set_option maxHeartbeats 4000000
def QtP (c:DSg)(s:ByteArray):Bool:=c.2.2.any fun a=>Qsl s a&&Qtt c a.2.1
def Qs1 (f:DAr→Bool)(as_:List DAr)(k:Nat):List Int:=((List.range k).filter fun i=>match as_[i]? with | some a=>f a | none=>false).map fun i=>((i:Nat):Int)
def exL (c:DSg)(q sig:Int)(up:Bool):Bool:=c.2.2.any fun a=>decide (a.1=q∧a.2.1=sig∧a.2.2.1=up)
def Qrm (c:DSg)(sig:Int)(up:Bool)(a:DAr):Bool:= !decide (a.2.1=sig)&&(exL c a.1 sig up&& !exL c a.2.2.2 sig up)
def Qtp (c:DSg)(sig:Int)(a:DAr):Bool:=Qrm c sig false a||Qrm c sig true a
abbrev QsZ (c:DSg)(sig:Int)(k:Nat):List Int:=Qs1 (Qtp c sig) c.2.2 k
def Qtz (c:DSg)(k:Nat):Int:=((Xd c.1 k).map fun s=>((QsZ c s c.2.2.length).length:Int)).sum
def Qtc (c:DSg):Int:=Qtz c c.1.length
def QtK (sig:Int)(up:Bool)(l:List Int)(a:DAr):List Int:=if a.2.1=sig∧a.2.2.1=up then Y1 ltI a.1 l else l
def exS (sig:Int)(up:Bool)(as_:List DAr):List Int:=as_.foldl (QtK sig up) []
def QrZ (c:DSg)(sig:Int)(up:Bool)(l:List Int)(k:Nat):List Int:=(Qs1 (Qrm c sig up) c.2.2 k).foldl (fun l i=>Y1 ltI i l) l
def Quj (c:DSg)(sig:Int):Nat→List Int
  | 0=>[]
  | 1=>QrZ c sig false [] c.2.2.length
  | _=>QrZ c sig true (QrZ c sig false [] c.2.2.length) c.2.2.length
section
variable {c:DSg}{as_:List DAr}{a:DAr}{i j k n:Nat}{s:ByteArray}{sig q x y:Int}{up:Bool}{l:List Int}{f g:DAr→Bool}
def Qt4 (c:DSg)(l:List Int):Int:=(l.map fun s=>((QsZ c s c.2.2.length).length:Int)).sum
end
end Go.Proofs.YtjaadeknhofhpaaGreat
