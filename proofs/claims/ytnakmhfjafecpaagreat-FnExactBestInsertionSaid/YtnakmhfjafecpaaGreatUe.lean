/- Walks over abstract states: masks of labels; pairs of states that violate complete state coding, the program. -/
import Derived.Test.YtnakmhfjafecpaaGreatUd
import Derived.Test.YtnakmhfjafecpaaGreatSo
set_option linter.unusedSimpArgs false
set_option linter.unusedVariables false
namespace Go.Proofs.YtnakmhfjafecpaaGreat
open Go.RowKit
set_option maxRecDepth 100000
set_option maxHeartbeats 4000000
def mkV (l:Int×Bool):Int:=(if l.2=true then 2 else 1)*2 ^ (2*l.1).toNat
def orA (s:List Int)(a:DAr):List Int:=if 0≤a.2.1 then s.set a.1.toNat (((((s[a.1.toNat]?).getD 0).toNat ||| (mkV (a.2.1,a.2.2.1)).toNat:Nat)):Int) else s
def Xv (n:Nat)(as_:List DAr):List Int:=as_.foldl orA (List.replicate n 0)
def mAt (l:List Int)(x:Int):Int:=(l[x.toNat]?).getD 0
def Qf7 (m:Int)(s:Int):Bool:=decide ((((m / 2 ^ (2*s).toNat).toNat &&& (3:Int).toNat:Nat):Int)=0)
def Wj (masks pair:List Int)(s:Int):Bool:= !(Qf7 (mAt masks (mAt pair 0)) s==Qf7 (mAt masks (mAt pair 1)) s)
def VC (c:DSg)(k s:Int):Bool:=c.2.2.any fun a=>decide (a.1=k∧a.2.1=s)
def cdA (c:DSg)(j:Nat):ByteArray:=(c.2.1[j]?).getD ByteArray.empty
def XV (c:DSg)(f:Nat→Nat→Bool)(i k:Nat):List (List Int):=((List.range k).filter fun j=>decide (i < j)&&(decide (cdA c j=cdA c i)&&f i j)).map fun j:Nat=>[(i:Int),(j:Int)]
def Xm (c:DSg)(f:Nat→Nat→Bool)(i:Nat):List (List Int):=(List.range i).flatMap fun i=>XV c f i c.2.1.length
def Hg (c:DSg)(i j:Nat):Bool:=(ZV c.1 c.1.length).any fun s=> !(VC c i s==VC c j s)
def YW (c:DSg):List (List Int):=Xm c (Hg c) c.2.1.length
section
variable {c:DSg}{as_:List DAr}{a:DAr}{i j k n:Nat}{f g:Nat→Nat→Bool}{s x y m:Int}{l masks pair:List Int}{u v:ByteArray}
theorem QmF {m x:Int}(hm:0≤m∧m≤2)(h:0≤x∧x≤14): -9223372036854775808≤m*2 ^ x.toNat∧m*2 ^ x.toNat≤9223372036854775807:=by
  have h1:(2:Int) ^ x.toNat≤2 ^ 14:=by
    have:(2:Nat) ^ x.toNat≤2 ^ 14:=Nat.pow_le_pow_right (by omega) (by omega)
    exact_mod_cast this
  have h2:(0:Int)≤2 ^ x.toNat:=Int.pow_nonneg (by decide)
  have h3:m*2 ^ x.toNat≤2*2 ^ 14:=Int.mul_le_mul hm.2 h1 h2 (by decide)
  have h4:0≤m*2 ^ x.toNat:=Int.mul_nonneg hm.1 h2
  exact ⟨by omega,Int.le_trans h3 (by decide)⟩
theorem QoT (l:Int×Bool):0≤mkV l:=by
  unfold mkV
  exact Int.mul_nonneg (by split <;> decide) (Int.pow_nonneg (by decide))
theorem QdH:∀(as_:List DAr) (s:List Int),(as_.foldl orA s).length=s.length
  | [],_=>rfl
  | a :: as_,s=>by
    rw[List.foldl_cons,QdH as_]
    unfold orA
    split <;> simp
theorem Hm:(Xv n as_).length=n:=by unfold Xv; rw[QdH]; simp
theorem Qf3:∀(as_:List DAr) (s:List Int),(∀x∈s,0≤x)→∀x∈as_.foldl orA s,0≤x
  | [],_,h=>h
  | a :: as_,s,h=>by
    rw[List.foldl_cons]
    refine Qf3 as_ _ ?_
    unfold orA
    split
    · intro x hx
      rcases List.mem_or_eq_of_mem_set hx with hx | rfl
      · exact h x hx
      · exact Int.natCast_nonneg _
    · exact h
theorem Hr:∀x∈Xv n as_,0≤x:=Qf3 as_ _ (by simp)
theorem Qi8 (hx:as_[k]? =some a)(h:0≤a.2.1)(hy:(Xv n (as_.take k))[a.1.toNat]? =some y):(Xv n (as_.take k)).set a.1.toNat (((y.toNat ||| (mkV (a.2.1,a.2.2.1)).toNat:Nat)):Int)=Xv n (as_.take (k+1)):=by
  unfold Xv at*
  rw[Q8 hx,List.foldl_append,List.foldl_cons,List.foldl_nil]
  unfold orA
  rw[if_pos h]
  unfold orA at hy
  rw[hy]; rfl
theorem QlQ (hx:as_[k]? =some a)(h:¬0≤a.2.1):Xv n (as_.take k)=Xv n (as_.take (k+1)):=by
  unfold Xv
  rw[Q8 hx,List.foldl_append,List.foldl_cons,List.foldl_nil,orA,if_neg h]
theorem K8 (h:l[x.toNat]? =some y):mAt l x=y:=by unfold mAt; rw[h]; rfl
theorem Qcm:XV c f i (i+1)=[]:=by
  unfold XV
  rw[List.map_eq_nil_iff,List.filter_eq_nil_iff]
  intro j hj
  rw[List.mem_range] at hj
  simp; intro h; omega
theorem Qlp (h:i < k)(hu:c.2.1[k]? =some u)(hv:c.2.1[i]? =some v)(e:u=v)(hf:f i k=true):XV c f i k++[[(i:Int),(k:Int)]]=XV c f i (k+1):=by
  unfold XV
  rw[List.range_succ,List.filter_append,List.map_append]
  simp[h,cdA,hu,hv,e,hf]
theorem Qkb (h:¬(cdA c k=cdA c i∧f i k=true)):XV c f i k=XV c f i (k+1):=by
  unfold XV
  rw[List.range_succ,List.filter_append,List.map_append]
  have:(decide (i < k)&&(decide (cdA c k=cdA c i)&&f i k))=false:=by
    cases hd:decide (cdA c k=cdA c i)&&f i k with
    | false=>simp
    | true=>simp only[Bool.and_eq_true,decide_eq_true_eq] at hd; exact absurd hd h
  simp[this]
theorem Qjn (h:c.2.1[k]? =some u):cdA c k=u:=by unfold cdA; rw[h]; rfl
theorem Ve:Xm c f i++XV c f i c.2.1.length=Xm c f (i+1):=by
  unfold Xm
  rw[List.range_succ,List.flatMap_append]; simp
theorem QbZ:(XV c f i k).length≤k:=by unfold XV; rw[List.length_map]; exact Nat.le_trans (List.length_filter_le ..) (by simp)
theorem Qmi:(Xm c f i).length≤i*c.2.1.length:=by
  induction i with
  | zero=>simp[Xm]
  | succ i ih=>
    rw[← Ve,List.length_append,Nat.succ_mul]
    have:=QbZ (c:=c) (f:=f) (i:=i) (k:=c.2.1.length)
    omega
theorem QcA (hn:c.2.1.length≤300)(hi:i≤c.2.1.length):(Xm c f i).length≤90000:=by
  have h1:=Qmi (c:=c) (f:=f) (i:=i)
  have h2:i*c.2.1.length≤300*300:=Nat.mul_le_mul (by omega) hn
  omega
theorem QlV {p:List Int}(h:p∈XV c f i k):∃j:Nat,j < k∧i < j∧p=[(i:Int),(j:Int)]:=by
  unfold XV at h
  obtain ⟨j,hj,rfl⟩:=List.mem_map.1 h
  rw[List.mem_filter,List.mem_range] at hj
  simp only[Bool.and_eq_true,decide_eq_true_eq] at hj
  exact ⟨j,hj.1,hj.2.1,rfl⟩
theorem Qm0 {p:List Int}(h:p∈Xm c f n)(hn:n≤c.2.1.length):2≤p.length∧∀x∈p,0≤x∧x < (c.2.1.length:Int):=by
  unfold Xm at h
  obtain ⟨i,hi,h⟩:=List.mem_flatMap.1 h
  rw[List.mem_range] at hi
  obtain ⟨j,h1,h2,rfl⟩:=QlV h
  refine ⟨by simp,fun x hx=> ?_⟩
  simp only[List.mem_cons,List.not_mem_nil,or_false] at hx
  rcases hx with rfl | rfl <;> omega
theorem QfD (q:List Int→Bool):(XV c f i k).filter q=XV c (fun i j=>f i j&&q [(i:Int),(j:Int)]) i k:=by
  unfold XV
  rw[List.filter_map,List.filter_filter]
  congr 1
  apply List.filter_congr
  intro j _
  simp only[Function.comp]
  cases decide (i < j) <;> cases decide (cdA c j=cdA c i) <;> cases f i j <;> simp
theorem QfI (q:List Int→Bool):(Xm c f n).filter q=Xm c (fun i j=>f i j&&q [(i:Int),(j:Int)]) n:=by
  induction n with
  | zero=>rfl
  | succ n ih=>rw[← Ve,← Ve,List.filter_append,ih,QfD]
theorem QhU (h:∀i j,i < n→j < c.2.1.length→f i j=g i j):Xm c f n=Xm c g n:=by
  induction n with
  | zero=>rfl
  | succ n ih=>
    rw[← Ve,← Ve,ih fun i j hi hj=>h i j (by omega) hj]
    congr 1
    unfold XV
    congr 1
    apply List.filter_congr
    intro j hj
    rw[List.mem_range] at hj
    rw[h n j (by omega) hj]
theorem QfH (b:Nat):Nat.testBit 3 b=decide (b < 2):=by
  match b with
  | 0=>rfl
  | 1=>rfl
  | b+2=>
    rw[show (3:Nat)=2 ^ 2 - 1 from rfl,Nat.testBit_two_pow_sub_one]
theorem QpD (m t:Nat):((m / 2 ^ t) &&& 3=0)↔(m.testBit t=false∧m.testBit (t+1)=false):=by
  rw[← Nat.shiftRight_eq_div_pow]
  constructor
  · intro h
    have h0:=congrArg (fun z=>Nat.testBit z 0) h
    have h1:=congrArg (fun z=>Nat.testBit z 1) h
    simp only[Nat.testBit_and,Nat.testBit_shiftRight,QfH,Nat.zero_testBit,Nat.add_zero] at h0 h1
    simpa using And.intro h0 h1
  · rintro ⟨h0, h1⟩
    apply Nat.eq_of_testBit_eq
    intro b
    rw[Nat.testBit_and,Nat.testBit_shiftRight,QfH,Nat.zero_testBit]
    match b with
    | 0=>simp[h0]
    | 1=>simp[h1]
    | b+2=>simp
theorem QkY (hm:0≤m):Qf7 m s=true↔(m.toNat.testBit (2*s).toNat=false∧m.toNat.testBit ((2*s).toNat+1)=false):=by
  unfold Qf7
  rw[decide_eq_true_eq,← QpD]
  have:(m / 2 ^ (2*s).toNat).toNat=m.toNat / 2 ^ (2*s).toNat:=by
    have e:m / 2 ^ (2*s).toNat=((m.toNat / 2 ^ (2*s).toNat:Nat):Int):=by
      rw[Int.natCast_ediv,Int.toNat_of_nonneg hm,Int.natCast_pow]; rfl
    rw[e]; rfl
  rw[this]
  show (((m.toNat / 2 ^ (2*s).toNat) &&& 3:Nat):Int)=0↔_
  omega
theorem QnZ {l:Int×Bool}(h:0≤l.1)(b:Nat):(mkV l).toNat.testBit b=decide (b=(2*l.1).toNat+(if l.2=true then 1 else 0)):=by
  have e:(mkV l).toNat=2 ^ ((2*l.1).toNat+(if l.2=true then 1 else 0)):=by
    unfold mkV
    obtain ⟨x,up⟩:=l
    cases up
    · simp only [Bool.false_eq_true, if_false, Int.one_mul, Nat.add_zero]
      have:((2:Int) ^ (2*x).toNat)=((2 ^ (2*x).toNat:Nat):Int):=by rw[Int.natCast_pow]; rfl
      rw[this]; rfl
    · simp only [if_true]
      have:(2:Int)*2 ^ (2*x).toNat=((2 ^ ((2*x).toNat+1):Nat):Int):=by rw[Int.natCast_pow,Int.pow_succ,Int.mul_comm]; rfl
      rw[this]; rfl
  rw[e,Nat.testBit_two_pow]
  by_cases hb:b=(2*l.1).toNat+(if l.2=true then 1 else 0)
  · simp[hb]
  · simp[hb,Ne.symm hb]
theorem Qaq:∀(as_:List DAr) (s0:List Int) (k:Nat) (b:Nat),(∀a∈as_,0≤a.1)→k < s0.length→
    ((((as_.foldl orA s0)[k]?).getD 0).toNat.testBit b=true↔((s0[k]?).getD 0).toNat.testBit b=true∨∃a∈as_,0≤a.2.1∧a.1=(k:Int)∧b=(2*a.2.1).toNat+(if a.2.2.1=true then 1 else 0))
  | [],s0,k,b,_,_=>by simp
  | a :: as_,s0,k,b,hr,hk=>by
    have ha:=hr a (List.mem_cons_self ..)
    have hlen:(orA s0 a).length=s0.length:=by unfold orA; split <;> simp
    rw[List.foldl_cons,Qaq as_ (orA s0 a) k b (fun x hx=>hr x (List.mem_cons_of_mem _ hx)) (by omega)]
    have h1:(((orA s0 a)[k]?).getD 0).toNat.testBit b=true↔((s0[k]?).getD 0).toNat.testBit b=true∨(0≤a.2.1∧a.1=(k:Int)∧b=(2*a.2.1).toNat+(if a.2.2.1=true then 1 else 0)):=by
      unfold orA
      split
      · rename_i h0
        by_cases e:a.1.toNat=k
        · subst e
          rw[List.getElem?_set_self hk,Option.getD_some]
          show ((((s0[a.1.toNat]?).getD 0).toNat ||| (mkV (a.2.1,a.2.2.1)).toNat)).testBit b=true↔_
          rw[Nat.testBit_or,Bool.or_eq_true,QnZ h0,decide_eq_true_eq]
          have e2:a.1=((a.1.toNat:Nat):Int):=by omega
          simp only[h0,true_and]
          constructor
          · rintro (h | h)
            · exact .inl h
            · exact .inr ⟨e2,h⟩
          · rintro (h | h)
            · exact .inl h
            · exact .inr h.2
        · rw [List.getElem?_set_ne e]
          have e2:¬a.1=(k:Int):=fun h=>e (by omega)
          simp[e2]
      · rename_i h0
        simp[h0]
    rw[h1]
    constructor
    · rintro ((h | h) | ⟨x, hx, h⟩)
      · exact .inl h
      · exact .inr ⟨a,List.mem_cons_self ..,h⟩
      · exact .inr ⟨x,List.mem_cons_of_mem _ hx,h⟩
    · rintro (h | ⟨x, hx, h⟩)
      · exact .inl (.inl h)
      · rcases List.mem_cons.1 hx with rfl | hx
        · exact .inl (.inr h)
        · exact .inr ⟨x,hx,h⟩
theorem H2 (hr:∀a∈c.2.2,0≤a.1)(hk:k < c.2.1.length)(hs:0≤s):Qf7 (mAt (Xv c.2.1.length c.2.2) (k:Int)) s= !VC c k s:=by
  have hnn:0≤mAt (Xv c.2.1.length c.2.2) (k:Int):=by
    unfold mAt
    rw[Int.toNat_natCast,List.getElem?_eq_getElem (by rw[Hm]; exact hk)]
    exact Hr _ (List.getElem_mem _)
  have hb:∀b,(mAt (Xv c.2.1.length c.2.2) (k:Int)).toNat.testBit b=true↔∃a∈c.2.2,0≤a.2.1∧a.1=(k:Int)∧b=(2*a.2.1).toNat+(if a.2.2.1=true then 1 else 0):=fun b=>by
    unfold mAt Xv
    rw[Int.toNat_natCast,Qaq c.2.2 _ k b hr (by simpa using hk)]
    simp[List.getElem?_replicate,hk]
  rw[Bool.eq_iff_iff,QkY hnn,Bool.not_eq_true']
  have hex:VC c k s=true↔∃a∈c.2.2,a.1=(k:Int)∧a.2.1=s:=by
    unfold VC
    rw[List.any_eq_true]
    simp
  constructor
  · rintro ⟨h1, h2⟩
    cases he:VC c k s with
    | false=>rfl
    | true=>
      obtain ⟨a,ha,e1,e2⟩:=hex.1 he
      cases hu:a.2.2.1 with
      | false=>
        have:=(hb (2*s).toNat).2 ⟨a,ha,by omega,e1,by rw[e2,hu]; simp⟩
        rw[h1] at this; cases this
      | true=>
        have:=(hb ((2*s).toNat+1)).2 ⟨a,ha,by omega,e1,by rw[e2,hu]; simp⟩
        rw[h2] at this; cases this
  · intro he
    have hno:∀a∈c.2.2,¬(a.1=(k:Int)∧a.2.1=s):=fun a ha h=>by
      rw[hex.2 ⟨a,ha,h⟩] at he; cases he
    constructor
    · cases h : (mAt (Xv c.2.1.length c.2.2) (k : Int)).toNat.testBit (2 * s).toNat with
      | false=>rfl
      | true=>
        obtain ⟨a,ha,h0,e1,e2⟩:=(hb _).1 h
        have:a.2.1=s:=by split at e2 <;> omega
        exact absurd ⟨e1,this⟩ (hno a ha)
    · cases h : (mAt (Xv c.2.1.length c.2.2) (k : Int)).toNat.testBit ((2 * s).toNat + 1) with
      | false=>rfl
      | true=>
        obtain ⟨a,ha,h0,e1,e2⟩:=(hb _).1 h
        have:a.2.1=s:=by split at e2 <;> omega
        exact absurd ⟨e1,this⟩ (hno a ha)
theorem Qn0 (hr:∀a∈c.2.2,0≤a.1):(Xm c (fun _ _=>true) c.2.1.length).filter (fun p=>(ZV c.1 c.1.length).any fun s=>Wj (Xv c.2.1.length c.2.2) p s)=YW c:=by
  rw[QfI]
  unfold YW
  refine QhU fun i j hi hj=> ?_
  rw[Bool.true_and]
  unfold Hg
  have hp0:mAt [(i:Int),(j:Int)] 0=i:=rfl
  have hp1:mAt [(i:Int),(j:Int)] 1=j:=rfl
  rw[Bool.eq_iff_iff,List.any_eq_true,List.any_eq_true]
  constructor
  · rintro ⟨s, hs, h⟩
    obtain ⟨t,rfl,_,_⟩:=Ug.1 hs
    refine ⟨_,hs, ?_⟩
    unfold Wj at h
    rw[hp0,hp1,H2 hr hi (by omega),H2 hr hj (by omega)] at h
    revert h
    cases VC c i t <;> cases VC c j t <;> simp
  · rintro ⟨s, hs, h⟩
    obtain ⟨t,rfl,_,_⟩:=Ug.1 hs
    refine ⟨_,hs, ?_⟩
    unfold Wj
    rw[hp0,hp1,H2 hr hi (by omega),H2 hr hj (by omega)]
    revert h
    cases VC c i t <;> cases VC c j t <;> simp
theorem QmS {α β:Type}{q:β→Bool}{f:α→β}{l:List α}{xs:List β}(h:l.map f=xs):(l.filter fun v=> !(!q (f v))).map f=xs.filter q:=by
  subst h
  rw[List.filter_map]
  congr 1
  apply List.filter_congr
  intro v _
  simp
end
section
variable {c:DSg}{f:Nat→Nat→Bool}{i:Nat}{m:Int}{u v:ByteArray}
theorem Qoa (h1:m≤(c.2.1.length:Int))(h2:¬m < (c.2.1.length:Int)):Xm c f i++XV c f i m.toNat=Xm c f (i+1):=by rw[show m.toNat=c.2.1.length by omega,Ve]
theorem QjK (h:(i:Int) < m)(hu:c.2.1[m.toNat]? =some u)(hv:c.2.1[i]? =some v)(e:v=u)(hf:f i m.toNat=true):(Xm c f i++XV c f i m.toNat)++[[(i:Int),m]]=Xm c f i++XV c f i (m+1).toNat:=by
  rw[show (m+1).toNat=m.toNat+1 by omega,← Qlp (by omega) hu hv e.symm hf,List.append_assoc,show ((m.toNat:Nat):Int)=m by omega]
theorem QiX (h:(i:Int) < m)(hu:c.2.1[m.toNat]? =some u)(hv:c.2.1[i]? =some v)(e:¬v=u):Xm c f i++XV c f i m.toNat=Xm c f i++XV c f i (m+1).toNat:=by
  rw[show (m+1).toNat=m.toNat+1 by omega,← Qkb fun g=>e (by rw[← Qjn hu,← Qjn hv]; exact g.1.symm)]
theorem Qll (h:(i:Int) < m)(hf:f i m.toNat=false):Xm c f i++XV c f i m.toNat=Xm c f i++XV c f i (m+1).toNat:=by
  rw[show (m+1).toNat=m.toNat+1 by omega,← Qkb fun g=>by rw[hf] at g; cases g.2]
end
theorem Qn8 {c:DSg}{i:Nat}{m:Int}{u v:ByteArray}(h:(i:Int) < m)(hu:c.2.1[m.toNat]? =some u)(hv:c.2.1[i]? =some v)(e:v=u):(Xm c (fun _ _=>true) i++XV c (fun _ _=>true) i m.toNat)++[[(i:Int),m]]=Xm c (fun _ _=>true) i++XV c (fun _ _=>true) i (m+1).toNat:=QjK h hu hv e rfl
theorem QpV {c:DSg}{i:Nat}{m:Int}{u v:ByteArray}(h:(i:Int) < m)(hu:c.2.1[m.toNat]? =some u)(hv:c.2.1[i]? =some v)(e:¬v=u):Xm c (fun _ _=>true) i++XV c (fun _ _=>true) i m.toNat=Xm c (fun _ _=>true) i++XV c (fun _ _=>true) i (m+1).toNat:=QiX h hu hv e
theorem HU (l:Int×Bool)(h:0≤l.1∧l.1≤7):FC Tryz.prog 216 [(true,[dI l.1,dB l.2])] [] 0 (Zo (lI (mkV l))):=by
 refine QM Tryz.func216 rfl rfl Tryz.ntmps216 fun O_ hO w0_ N0_ X_ h0_ f0_=> ?_
 refine AC.fact (QO (x:= .tmp 0) (i:=0) (Qb rfl) rfl) fun hi1=> ?_
 refine w_ ?_
 refine lc (Qo 0 (Qb rfl) rfl rfl (Fresh.of rfl) (nlr rfl)) ?_
 iterate 7 refine w_ ?_
 cases hb2:(l.2)
 ·iterate 5 refine w_ ?_
  refine lc (Vq (QB rfl) (Qa rfl) rfl (by omega))<|lc (QgO (QB rfl) (Qa rfl) rfl (by omega) (by exact QmF (by omega) (by omega))) ?_
  iterate 2 refine w_ ?_
  refine Qd ?_
  subst hO
  have e3:((1:Int)*2 ^ (2*l.1).toNat:Int)=(mkV l):=by
   (unfold mkV; simp only[*]; rfl)
  exact Qg (Qe rfl (Qc rfl)) ((congrArg (fun z_=>lI z_) e3)) rfl
 ·iterate 4 refine w_ ?_
  refine lc (Vq (QB rfl) (Qa rfl) rfl (by omega))<|lc (QgO (QB rfl) (Qa rfl) rfl (by omega) (by exact QmF (by omega) (by omega))) ?_
  iterate 2 refine w_ ?_
  refine Qd ?_
  subst hO
  have e4:((2:Int)*2 ^ (2*l.1).toNat:Int)=(mkV l):=by
   (unfold mkV; simp only[*]; rfl)
  exact Qg (Qe rfl (Qc rfl)) ((congrArg (fun z_=>lI z_) e4)) rfl
theorem Vl (c:(List (ByteArray×Int))×List ByteArray×(List (Int×Int×Bool×Int)))(hs:SgOk c):FC Tryz.prog 140 [(true,[.dat (.sl 145 (.pr .str .int)) c.1, .dat (.sl 9 .str) c.2.1, .dat (.sl 179 (.pr .int (.pr .int (.pr .bool .int)))) c.2.2])] [] 0 (X8 3 .int (Xv c.2.1.length c.2.2)):=by
 have hr:∀a∈c.2.2,InR c.2.1.length a:=fun a ha=>YO (hs.arcs a ha)
 have hn3:=hs.some_
 have hfw:=hs.few
 have hs8:=hs.sigs.2.2
 refine QM Tryz.func140 rfl rfl Tryz.ntmps140 fun O_ hO w0_ N0_ X_ h0_ f0_=> ?_
 refine w_ ?_
 refine lc (Qo 0 (Qb rfl) rfl rfl (Fresh.of rfl) (nlr rfl)) ?_
 iterate 5 refine w_ ?_
 refine AL.fact (Qy (x:= .tmp 7) (Qa rfl)) fun hl1=> ?_
 refine w_ ?_
 refine lc (Vg 1 (e:= .int) (n:=c.2.1.length) (Qa rfl) (Qa rfl) QL QjL rfl (by omega) (by omega) rfl (Fresh.of rfl) (nlr rfl)) ?_
 iterate 6 refine w_ ?_
 refine AL.fact (Qy (x:= .tmp 11) (Qa rfl)) fun hl2=> ?_
 iterate 4 refine w_ ?_
 refine Qx (fun m_ s_=>∃(k:Nat),k≤c.2.2.length∧m_=c.2.2.length - k∧s_=⟨[(2,lf (.val (.slice none 0 0))),(3,lR 2),(11,lf (.dat (.sl 179 (.pr .int (.pr .int (.pr .bool .int)))) c.2.2)),(12,lI (c.2.2.length:Int)),(13,lI (k:Int))],[(2,some (.arr 3 .int (Xv c.2.1.length (c.2.2.take k))))]⟩) ⟨0,Nat.zero_le _,rfl,rfl⟩ ?_ ?_
 · exact Wk.of [(2,1)] rfl ⟨rfl,rfl,rfl,rfl,rfl,trivial⟩ ⟨(QA (by simp only[List.take_zero]; rfl)),trivial⟩ rfl rfl
 rintro m_ s_ ⟨k,hk3,hm4,rfl⟩
 have hml:=Hm (n:=c.2.1.length) (as_:=c.2.2.take k)
 iterate 4 refine w_ ?_
 cases hb5:(decide ((k:Int) < (c.2.2.length:Int)))
 ·have hb5':=of_decide_eq_false hb5
  refine w_ ?_
  refine QC ?_
  refine (?_:AC _ _ _ _ _)
  iterate 4 refine w_ ?_
  refine Qd ?_
  subst hO
  refine ZC (e:= .int) (xs:=(Xv c.2.1.length (c.2.2.take k))) (Qe rfl (Qc rfl)) rfl ?_
  rw[Zd (by omega)]
 ·have hb5':=of_decide_eq_true hb5
  iterate 5 refine w_ ?_
  obtain ⟨ar,hx7⟩:∃z,c.2.2[k]? =some z:=⟨_,List.getElem?_eq_getElem (by omega)⟩
  have hain:=hr _ (List.mem_of_getElem? hx7)
  obtain ⟨⟨ha1,ha2⟩,ha3,ha4⟩:=hain
  have hlab:=(hs.arcs _ (List.mem_of_getElem? hx7)).2.2.1
  have hslt:ar.2.1 < (c.1.length:Int):=VN hlab
  have hmk:=QoT (ar.2.1,ar.2.2.1)
  refine lc (Qn (Qa rfl) (Qa rfl) Zg QJ rfl (by omega) hx7) ?_
  refine w_ ?_
  refine lc (Qt 3 (.pr .int (.pr .int (.pr .bool .int))) Zn rfl rfl (Fresh.of rfl) (nlr rfl))<|lc (Qh (Qa rfl) rfl (Qb rfl) rfl QJ rfl) ?_
  iterate 4 refine w_ ?_
  refine AL.fact (Qu (x:= .tmp 18) (Qa rfl)) fun hi8=> ?_
  iterate 2 refine w_ ?_
  cases hb9:(decide (0≤ar.2.1))
  ·have hb9':=of_decide_eq_false hb9
   refine w_ ?_
   refine AC.skip ?_
   refine (?_:AC _ _ _ _ _)
   iterate 3 refine w_ ?_
   refine Qj<|QR ⟨k+1,by omega,rfl,rfl⟩ (by omega) ?_
   exact Wk.of [(2,2)] rfl ⟨rfl,rfl,rfl,rfl,rfl,trivial⟩ ⟨(QA (by first | exact Qi8 hx7 (by assumption) hy | exact QlQ hx7 (by assumption))),trivial⟩ rfl rfl
  ·have hb9':=of_decide_eq_true hb9
   refine w_ ?_
   obtain ⟨y,hx11⟩:∃z,(Xv c.2.1.length (c.2.2.take k))[(ar.1).toNat]? =some z:=⟨_,List.getElem?_eq_getElem (by omega)⟩
   have hy:=hx11
   have hyn:=Hr _ (List.mem_of_getElem? hx11)
   refine dv [io 20 (lR 2),io 21 (lP 3 0),io 22 (lI ar.1),io 23 (lf (.ept 2 1 ((ar.1).toNat) 0)),io 24 (lI y),io 25 (lP 3 1),io 26 (lI ar.2.1),io 27 (lP 3 2),io 28 (lB ar.2.2.1),io 29 (ag [dI ar.2.1,dB ar.2.2.1]),io 30 (lI (mkV (ar.2.1,ar.2.2.1))),io 31 (lI ((y.toNat ||| (mkV (ar.2.1,ar.2.2.1)).toNat:Nat):Int)),io 32 (lf (.ept 2 1 ((ar.1).toNat) 0)),⟨none,lf (.val undef),[(2,some (.arr 3 .int ((Xv c.2.1.length (c.2.2.take k)).set ((ar.1).toNat) ((y.toNat ||| (mkV (ar.2.1,ar.2.2.1)).toNat:Nat):Int))))]⟩] [0,0,2,7,15,0,32,0,128,480,992,2047,4095,8191] mixed rfl (by kernel_rfl) ⟨dxm rfl rfl,dxf Zl rfl rfl rfl,dxl Qz rfl rfl rfl rfl rfl,fun _ h_=>ac (Qq (e:= .int) (h_.v rfl) (h_.en 2 rfl) (h_.v rfl) QL Qz rfl (by omega) (by first | omega | (simp only[List.length_set]; omega))) rfl,fun _ h_=>ac (Q4 (e:= .int) (h_.v rfl) (h_.n 2 rfl) hx11 rfl Qz rfl rfl) rfl,dxf ZQ rfl rfl rfl,dxl Qz rfl rfl rfl rfl rfl,dxf YQ rfl rfl rfl,dxl ZD rfl rfl rfl rfl rfl,fun _ h_=>ac (QH WY ⟨_,_,rfl,(h_.w rfl),⟨_,_,rfl,(h_.w rfl),rfl⟩⟩ (List.all_eq_true.1 rfl) rfl rfl) rfl,fun _ h_=>ac (Qf (HU (ar.2.1,ar.2.2.1) (by simp only; omega)) QiM ⟨_,_,rfl,(h_.w rfl),rfl⟩ rfl rfl) rfl,fun _ h_=>ac (QnV (h_.v rfl) (h_.v rfl) rfl (by omega) (by omega)) rfl,fun _ h_=>ac (Qq (e:= .int) (h_.v rfl) (h_.en 2 rfl) (h_.v rfl) QL Qz rfl (by omega) (by first | omega | (simp only[List.length_set]; omega))) rfl,fun _ h_=>ac (Q2 (e:= .int) (z':=((y.toNat ||| (mkV (ar.2.1,ar.2.2.1)).toNat:Nat):Int)) (h_.v rfl) (h_.n 2 rfl) hx11 rfl (h_.w rfl) rfl Qz rfl rfl) rfl,⟨⟩⟩ ?_
   refine (?_:AC _ _ _ _ _)
   iterate 3 refine w_ ?_
   refine Qj<|QR ⟨k+1,by omega,rfl,rfl⟩ (by omega) ?_
   exact Wk.of [(2,2)] rfl ⟨rfl,rfl,rfl,rfl,rfl,trivial⟩ ⟨(QA (by first | exact Qi8 hx7 (by assumption) hy | exact QlQ hx7 (by assumption))),trivial⟩ rfl rfl
theorem JC (c:(List (ByteArray×Int))×List ByteArray×(List (Int×Int×Bool×Int)))(hn:c.2.1.length≤300):FC Tryz.prog 143 [(true,[.dat (.sl 145 (.pr .str .int)) c.1, .dat (.sl 9 .str) c.2.1, .dat (.sl 179 (.pr .int (.pr .int (.pr .bool .int)))) c.2.2])] [] 0 (X8 106 (.sl 3 .int) (Xm c (fun _ _=>true) c.2.1.length)):=by
 refine QM Tryz.func143 rfl rfl Tryz.ntmps143 fun O_ hO w0_ N0_ X_ h0_ f0_=> ?_
 refine w_ ?_
 refine lc (Qo 0 (Qb rfl) rfl rfl (Fresh.of rfl) (nlr rfl)) ?_
 iterate 3 refine w_ ?_
 refine lc (Ql 1 (e:=(.sl 3 .int)) YH Zx K6 rfl rfl (List.all_eq_true.1 rfl) ⟨rfl,rfl⟩ (by decide) rfl rfl (Fresh.of rfl) (nlr rfl)) ?_
 iterate 6 refine w_ ?_
 refine AL.fact (Qy (x:= .tmp 9) (Qa rfl)) fun hl1=> ?_
 iterate 4 refine w_ ?_
 refine Qx (fun m_ s_=>∃(i:Nat),i≤c.2.1.length∧m_=c.2.1.length - i∧s_=⟨[(1,lP 0 0),(2,lf (.val (.slice none 0 0))),(3,lR 2),(9,lf (.dat (.sl 9 .str) c.2.1)),(10,lI (c.2.1.length:Int)),(11,lI (i:Int))],[(0,some (.box 59 [.dat (.sl 145 (.pr .str .int)) c.1, .dat (.sl 9 .str) c.2.1, .dat (.sl 179 (.pr .int (.pr .int (.pr .bool .int)))) c.2.2])),(2,some (.arr 106 (.sl 3 .int) (Xm c (fun _ _=>true) i)))]⟩) ⟨0,Nat.zero_le _,rfl,rfl⟩ ?_ ?_
 · exact Wk.of [(0,0),(2,1)] rfl ⟨rfl,rfl,rfl,rfl,rfl,rfl,trivial⟩ ⟨rfl,(QA (rfl)),trivial⟩ rfl rfl
 rintro m_ s_ ⟨i,hk2,hm3,rfl⟩
 have hal:=QcA (c:=c) (f:=fun _ _=>true) (i:=i) hn
 iterate 4 refine w_ ?_
 cases hb4:(decide ((i:Int) < (c.2.1.length:Int)))
 ·have hb4':=of_decide_eq_false hb4
  refine w_ ?_
  refine QC ?_
  refine (?_:AC _ _ _ _ _)
  iterate 4 refine w_ ?_
  refine Qd ?_
  subst hO
  refine ZC (e:=(.sl 3 .int)) (xs:=(Xm c (fun _ _=>true) i)) (Qe rfl (Qc rfl)) rfl ?_
  (congr 1; omega)
 ·have hb4':=of_decide_eq_true hb4
  iterate 6 refine w_ ?_
  obtain ⟨ci,hx6⟩:∃z,c.2.1[i]? =some z:=⟨_,List.getElem?_eq_getElem (by omega)⟩
  have hci:=hx6
  refine lc (Qn (Qa rfl) (Qa rfl) Yg ZF rfl (by omega) hx6) ?_
  iterate 10 refine w_ ?_
  refine Qx (fun m_ s_=>∃(m:Int) (out:List (List Int)),m_=((c.2.1.length:Int) - m).toNat∧((i:Int)+1≤m∧m≤(c.2.1.length:Int))∧(out=Xm c (fun _ _=>true) i++XV c (fun _ _=>true) i m.toNat)∧s_=⟨[(1,lP 0 0),(2,lf (.val (.slice none 0 0))),(3,lR 3),(4,lI (i:Int)),(5,lf (dS ci)),(6,lI m),(9,lf (.dat (.sl 9 .str) c.2.1)),(10,lI (c.2.1.length:Int)),(11,lI (i:Int)),(12,lB true),(13,lI (i:Int)),(14,lf (.elt .str ci 0)),(15,lf (dS ci)),(16,lI (i:Int)),(17,lI ((i:Int)+1))],[(0,some (.box 59 [.dat (.sl 145 (.pr .str .int)) c.1, .dat (.sl 9 .str) c.2.1, .dat (.sl 179 (.pr .int (.pr .int (.pr .bool .int)))) c.2.2])),(3,some (.arr 106 (.sl 3 .int) out))]⟩) ⟨(i:Int)+1,Xm c (fun _ _=>true) i,rfl,(by omega),(by rw[show ((i:Int)+1).toNat=i+1 by omega,Qcm,List.append_nil]),rfl⟩ ?_ ?_
  · exact Wk.of [(0,0),(3,2)] rfl ⟨rfl,rfl,rfl,rfl,rfl,rfl,rfl,rfl,rfl,rfl,rfl,rfl,rfl,rfl,rfl,trivial⟩ ⟨rfl,(QA (by first | rfl | simp)),trivial⟩ rfl rfl
  rintro m_ s_ ⟨m,out,hm8,hm,hO1,rfl⟩
  have hol:out.length≤100000:=by rw[hO1,List.length_append]; have:=QbZ (c:=c) (f:=fun _ _=>true) (i:=i) (k:=m.toNat); have:=hal (by omega); omega
  iterate 5 refine w_ ?_
  refine AL.fact (Qy (x:= .tmp 20) (Qa rfl)) fun hl9=> ?_
  iterate 3 refine w_ ?_
  cases hb10:(decide (m < (c.2.1.length:Int)))
  ·have hb10':=of_decide_eq_false hb10
   refine w_ ?_
   refine QC ?_
   refine (?_:AC _ _ _ _ _)
   iterate 3 refine w_ ?_
   refine Qj<|QR ⟨i+1,by omega,rfl,rfl⟩ (by omega) ?_
   exact Wk.of [(0,0),(2,3)] rfl ⟨rfl,rfl,rfl,rfl,rfl,rfl,trivial⟩ ⟨rfl,(QA ((by rw[hO1]; exact Qoa (by omega) (by omega)))),trivial⟩ rfl rfl
  ·have hb10':=of_decide_eq_true hb10
   iterate 8 refine w_ ?_
   obtain ⟨cm,hx12⟩:∃z,c.2.1[(m).toNat]? =some z:=⟨_,List.getElem?_eq_getElem (by omega)⟩
   have hcm:=hx12
   refine lc (Qn (Qa rfl) (Qa rfl) Yg ZF rfl (by omega) hx12) ?_
   iterate 4 refine w_ ?_
   cases hb13:(decide (cm=ci))
   ·have hb13':=of_decide_eq_false hb13
    refine w_ ?_
    refine AC.skip ?_
    refine (?_:AC _ _ _ _ _)
    iterate 4 refine w_ ?_
    refine Qj<|QR ⟨(m+1),out,rfl,(by omega),(by rw[hO1]; first | exact Qn8 (by omega) hcm hci (Eq.symm (by assumption)) | exact QpV (by omega) hcm hci (fun h=>absurd h.symm (by assumption))),rfl⟩ (by omega) ?_
    exact Wk.of [(0,0),(3,3)] rfl ⟨rfl,rfl,rfl,rfl,rfl,rfl,rfl,rfl,rfl,rfl,rfl,rfl,rfl,rfl,rfl,trivial⟩ ⟨rfl,rfl,trivial⟩ rfl rfl
   ·have hb13':=of_decide_eq_true hb13
    iterate 5 refine w_ ?_
    refine lc (Ql 4 (e:= .int) QL Qz Xg rfl ⟨_,_,rfl,(Qb rfl),⟨_,_,rfl,(Qb rfl),rfl⟩⟩ (List.all_eq_true.1 rfl) ⟨_,_,_,_,rfl,⟨rfl,rfl⟩,⟨_,_,_,_,rfl,⟨rfl,rfl⟩,⟨rfl,rfl⟩,rfl⟩,rfl⟩ (by decide) rfl rfl (Fresh.of rfl) (nlr rfl))<|lc (Ql 5 (e:=(.sl 3 .int)) YH Zx K6 rfl ⟨_,_,rfl,(Qb rfl),rfl⟩ (List.all_eq_true.1 rfl) ⟨_,_,_,_,rfl,(.inl ⟨_,rfl,rfl,rfl⟩),⟨rfl,rfl⟩,rfl⟩ (by decide) rfl rfl (Fresh.of rfl) (nlr rfl))<|lc (QY 6 (Qa rfl) rfl (Qa rfl) rfl rfl YH Qjs (by first | omega | (simp only[List.length_append,List.length_map,List.length_take,List.length_cons,List.length_nil]; omega) | (simp only[List.length_append,List.length_drop,List.length_take,List.length_cons,List.length_nil]; omega)) rfl (Fresh.of rfl) (nlr rfl)) ?_
    refine w_ ?_
    refine Qj ?_
    refine (?_:AC _ _ _ _ _)
    iterate 4 refine w_ ?_
    refine Qj<|QR ⟨(m+1),(out++([[(i:Int),m]])),rfl,(by omega),(by rw[hO1]; first | exact Qn8 (by omega) hcm hci (Eq.symm (by assumption)) | exact QpV (by omega) hcm hci (fun h=>absurd h.symm (by assumption))),rfl⟩ (by omega) ?_
    exact Wk.of [(0,0),(3,6)] rfl ⟨rfl,rfl,rfl,rfl,rfl,rfl,rfl,rfl,rfl,rfl,rfl,rfl,rfl,rfl,rfl,trivial⟩ ⟨rfl,(QA (by first | rfl | simp)),trivial⟩ rfl rfl
theorem nbt {b:Bool}(h:b=false):(!b)=true:=by rw[h]; rfl
theorem nbf {b:Bool}(h:b=true):(!b)=false:=by rw[h]; rfl
theorem Qm6 {masks pair:List Int}{p0 p1 m0 m1 sig:Int}(hp0:pair[0]? =some p0)(hp1:pair[1]? =some p1)(hm0:masks[p0.toNat]? =some m0)(hm1:masks[p1.toNat]? =some m1):
    (!((decide ((((m0 / 2 ^ (2*sig).toNat).toNat &&& (3:Int).toNat:Nat):Int)=0))==(decide ((((m1 / 2 ^ (2*sig).toNat).toNat &&& (3:Int).toNat:Nat):Int)=0))))=Wj masks pair sig:=by
  unfold Wj
  rw[K8 (x:=0) (by simpa using hp0),K8 (x:=1) (by simpa using hp1),K8 hm0,K8 hm1]
  rfl
theorem Ki (sig:Int)(masks:List Int)(pair:List Int)(hm:∀x∈masks,0≤x)(hp:2≤pair.length∧∀x∈pair,0≤x∧x < (masks.length:Int))(hs:0≤sig∧sig≤7):FC Tryz.prog 146 [(false,[dI sig]),(false,[.ptr 0 0]),(false,[.ptr 1 0])] [(0,some (.box 106 [.dat (.sl 3 .int) masks])),(1,some (.box 106 [.dat (.sl 3 .int) pair]))] 2 (Is (lB (Wj masks pair sig)) [(0,some (.box 106 [.dat (.sl 3 .int) masks])),(1,some (.box 106 [.dat (.sl 3 .int) pair]))]):=by
 refine QM Tryz.func146 rfl rfl Tryz.ntmps146 fun O_ hO w0_ N0_ X_ h0_ f0_=> ?_
 refine AC.fact (Qu (x:= .tmp 0) (Qa rfl)) fun hi1=> ?_
 iterate 3 refine w_ ?_
 obtain ⟨p0,hx3⟩:∃z,pair[0]? =some z:=⟨_,List.getElem?_eq_getElem (by omega)⟩
 have hp0:=hx3
 have hrp0:=hp.2 _ (List.mem_of_getElem? hx3)
 obtain ⟨m0,hx5⟩:∃z,masks[(p0).toNat]? =some z:=⟨_,List.getElem?_eq_getElem (by omega)⟩
 have hm0:=hx5
 have hnm0:=hm _ (List.mem_of_getElem? hx5)
 obtain ⟨p1,hx7⟩:∃z,pair[1]? =some z:=⟨_,List.getElem?_eq_getElem (by omega)⟩
 have hp1:=hx7
 have hrp1:=hp.2 _ (List.mem_of_getElem? hx7)
 obtain ⟨m1,hx9⟩:∃z,masks[(p1).toNat]? =some z:=⟨_,List.getElem?_eq_getElem (by omega)⟩
 have hm1:=hx9
 have hnm1:=hm _ (List.mem_of_getElem? hx9)
 refine dw [io 5 (lf (.dat (.sl 3 .int) masks)),io 6 (lf (.dat (.sl 3 .int) pair)),io 7 (lf (.elt .int p0 0)),io 8 (lI p0),io 9 (lf (.elt .int m0 0)),io 10 (lI m0),io 11 (lI sig),io 12 (lI (2*sig)),io 13 (lI (m0 / 2 ^ (2*sig).toNat)),io 14 (lI (((m0 / 2 ^ (2*sig).toNat).toNat &&& (3:Int).toNat:Nat):Int)),io 15 (lB (decide ((((m0 / 2 ^ (2*sig).toNat).toNat &&& (3:Int).toNat:Nat):Int)=0))),io 16 (lf (.dat (.sl 3 .int) masks)),io 17 (lf (.dat (.sl 3 .int) pair)),io 18 (lf (.elt .int p1 0)),io 19 (lI p1),io 20 (lf (.elt .int m1 0)),io 21 (lI m1),io 22 (lI sig),io 23 (lI (2*sig)),io 24 (lI (m1 / 2 ^ (2*sig).toNat)),io 25 (lI (((m1 / 2 ^ (2*sig).toNat).toNat &&& (3:Int).toNat:Nat):Int)),io 26 (lB (decide ((((m1 / 2 ^ (2*sig).toNat).toNat &&& (3:Int).toNat:Nat):Int)=0))),io 27 (lB (!((decide ((((m0 / 2 ^ (2*sig).toNat).toNat &&& (3:Int).toNat:Nat):Int)=0))==(decide ((((m1 / 2 ^ (2*sig).toNat).toNat &&& (3:Int).toNat:Nat):Int)=0))))),io 4 (lB (!((decide ((((m0 / 2 ^ (2*sig).toNat).toNat &&& (3:Int).toNat:Nat):Int)=0))==(decide ((((m1 / 2 ^ (2*sig).toNat).toNat &&& (3:Int).toNat:Nat):Int)=0)))))] [0,0,2,6,15,31,0,64,255,511,1023,0,0,4096,12288,30720,63488,0,131072,522240,1046528,2095104,4194303,8388607] mixed rfl (by kernel_rfl) ⟨dxl Zx rfl rfl rfl rfl rfl,dxl Zx rfl rfl rfl rfl rfl,fun _ h_=>ac (Qn (h_.v rfl) (QB rfl) QL Qz rfl (by omega) hx3) rfl,fun _ h_=>ac (ZG (h_.v rfl) Qz rfl rfl) rfl,fun _ h_=>ac (Qn (h_.v rfl) (h_.v rfl) QL Qz rfl (by omega) hx5) rfl,fun _ h_=>ac (ZG (h_.v rfl) Qz rfl rfl) rfl,dxm rfl rfl,fun _ h_=>ac (Vq (QB rfl) (h_.v rfl) rfl (by omega)) rfl,fun _ h_=>ac (QcS (h_.v rfl) (h_.v rfl) rfl (by omega) (by first | omega | exact Int.ediv_nonneg (by omega) (Int.pow_nonneg (by decide)))) rfl,fun _ h_=>ac (QbG (h_.v rfl) (QB rfl) rfl (by first | omega | exact Int.ediv_nonneg (by omega) (Int.pow_nonneg (by decide))) (by omega)) rfl,fun _ h_=>ac (Wd (h_.v rfl) (QB rfl) rfl) rfl,dxl Zx rfl rfl rfl rfl rfl,dxl Zx rfl rfl rfl rfl rfl,fun _ h_=>ac (Qn (h_.v rfl) (QB rfl) QL Qz rfl (by omega) hx7) rfl,fun _ h_=>ac (ZG (h_.v rfl) Qz rfl rfl) rfl,fun _ h_=>ac (Qn (h_.v rfl) (h_.v rfl) QL Qz rfl (by omega) hx9) rfl,fun _ h_=>ac (ZG (h_.v rfl) Qz rfl rfl) rfl,dxm rfl rfl,fun _ h_=>ac (Vq (QB rfl) (h_.v rfl) rfl (by omega)) rfl,fun _ h_=>ac (QcS (h_.v rfl) (h_.v rfl) rfl (by omega) (by first | omega | exact Int.ediv_nonneg (by omega) (Int.pow_nonneg (by decide)))) rfl,fun _ h_=>ac (QbG (h_.v rfl) (QB rfl) rfl (by first | omega | exact Int.ediv_nonneg (by omega) (Int.pow_nonneg (by decide))) (by omega)) rfl,fun _ h_=>ac (Wd (h_.v rfl) (QB rfl) rfl) rfl,fun _ h_=>ac (Y6 (h_.v rfl) (h_.v rfl) rfl Vh) rfl,dxt rfl rfl,⟨⟩⟩<|Qd ?_
 subst hO
 have e10:(!((decide ((((m0 / 2 ^ (2*sig).toNat).toNat &&& (3:Int).toNat:Nat):Int)=0))==(decide ((((m1 / 2 ^ (2*sig).toNat).toNat &&& (3:Int).toNat:Nat):Int)=0))):Bool)=(Wj masks pair sig):=by
  exact Qm6 hp0 hp1 hm0 hm1
 exact Q0 _ _ [(0,0),(1,1)] (Qe rfl (Qc rfl)) ((congrArg (fun z_=>lB z_) e10)) ⟨rfl,rfl,trivial⟩ rfl rfl
theorem KT (l:List Int)(masks:List Int)(pair:List Int)(hm:∀x∈masks,0≤x)(hp:2≤pair.length∧∀x∈pair,0≤x∧x < (masks.length:Int))(ho:∀s∈l,0≤s∧s≤7):FC Tryz.prog 218 [(false,[.dat (.sl 3 .int) l]),(false,[.clo 146 [0,1]])] [(0,some (.box 106 [.dat (.sl 3 .int) masks])),(1,some (.box 106 [.dat (.sl 3 .int) pair]))] 2 (Is (lI (ZO (fun s=>Wj masks pair s) l)) [(0,some (.box 106 [.dat (.sl 3 .int) masks])),(1,some (.box 106 [.dat (.sl 3 .int) pair]))]):=by
 refine QM Tryz.func218 rfl rfl Tryz.ntmps218 fun O_ hO w0_ N0_ X_ h0_ f0_=> ?_
 iterate 6 refine w_ ?_
 refine AL.fact (Qy (x:= .tmp 6) (Qa rfl)) fun hl1=> ?_
 iterate 4 refine w_ ?_
 refine Qx (fun m_ s_=>∃(k:Nat),k≤l.length∧m_=l.length - k∧(NoneTo (fun s=>Wj masks pair s) l k)∧s_=⟨[(0,lf (.dat (.sl 3 .int) l)),(1,lf (.clo 146 [0,1])),(7,lI (l.length:Int)),(8,lI (k:Int))],[(0,some (.box 106 [.dat (.sl 3 .int) masks])),(1,some (.box 106 [.dat (.sl 3 .int) pair]))]⟩) ⟨0,Nat.zero_le _,rfl,NoneTo.zero,rfl⟩ ?_ ?_
 · exact Wk.of [(0,0),(1,1)] rfl ⟨rfl,rfl,rfl,rfl,trivial⟩ ⟨rfl,rfl,trivial⟩ rfl rfl
 rintro m_ s_ ⟨k,hk2,hm3,hno,rfl⟩
 iterate 4 refine w_ ?_
 cases hb4:(decide ((k:Int) < (l.length:Int)))
 ·have hb4':=of_decide_eq_false hb4
  refine w_ ?_
  refine QC ?_
  refine (?_:AC _ _ _ _ _)
  iterate 3 refine w_ ?_
  refine Qd ?_
  subst hO
  have e5:((-1):Int)=(ZO (fun s=>Wj masks pair s) l):=by
   first | exact (hno.no (by omega)).symm
  exact Q0 _ _ [(0,0),(1,1)] (Qe rfl (Qc rfl)) ((congrArg (fun z_=>lI z_) e5)) ⟨rfl,rfl,trivial⟩ rfl rfl
 ·have hb4':=of_decide_eq_true hb4
  iterate 12 refine w_ ?_
  obtain ⟨x6,hx7⟩:∃z,l[k]? =some z:=⟨_,List.getElem?_eq_getElem (by omega)⟩
  refine lc (Qn (Qa rfl) (Qa rfl) QL Qz rfl (by omega) hx7) ?_
  refine w_ ?_
  refine AL.fact (Qu (x:= .tmp 15) (Qa rfl)) fun hi8=>lc (Xw (args0:=[(false,[dI x6])]) (caps:=[0,1]) 2 [(0,0),(1,1)] (Ki x6 masks pair hm hp (ho _ (List.mem_of_getElem? hx7))) Qh7 rfl (Qa rfl) rfl rfl ⟨_,_,rfl,(Qb rfl),rfl⟩ ⟨rfl,rfl,trivial⟩ rfl ⟨trivial,trivial,trivial⟩ (nlr rfl)) ?_
  refine w_ ?_
  cases hb9:(Wj masks pair x6)
  ·refine w_ ?_
   refine AC.skip ?_
   refine (?_:AC _ _ _ _ _)
   iterate 3 refine w_ ?_
   refine Qj<|QR ⟨k+1,by omega,rfl,hno.step hx7 (by assumption),rfl⟩ (by omega) ?_
   exact Wk.of [(0,0),(1,1)] rfl ⟨rfl,rfl,rfl,rfl,trivial⟩ ⟨rfl,rfl,trivial⟩ rfl rfl
  ·iterate 5 refine w_ ?_
   refine Qd ?_
   subst hO
   have e10:((k:Int):Int)=(ZO (fun s=>Wj masks pair s) l):=by
    exact (hno.at hx7 (by assumption)).symm
   exact Q0 _ _ [(0,0),(1,1)] (Qe rfl (Qc rfl)) ((congrArg (fun z_=>lI z_) e10)) ⟨rfl,rfl,trivial⟩ rfl rfl
theorem Ua (l:List Int)(masks:List Int)(pair:List Int)(hm:∀x∈masks,0≤x)(hp:2≤pair.length∧∀x∈pair,0≤x∧x < (masks.length:Int))(ho:∀s∈l,0≤s∧s≤7):FC Tryz.prog 145 [(false,[.dat (.sl 3 .int) l]),(false,[.clo 146 [0,1]])] [(0,some (.box 106 [.dat (.sl 3 .int) masks])),(1,some (.box 106 [.dat (.sl 3 .int) pair]))] 2 (Is (lB (l.any (fun s=>Wj masks pair s))) [(0,some (.box 106 [.dat (.sl 3 .int) masks])),(1,some (.box 106 [.dat (.sl 3 .int) pair]))]):=by
 refine QM Tryz.func145 rfl rfl Tryz.ntmps145 fun O_ hO w0_ N0_ X_ h0_ f0_=> ?_
 iterate 6 refine w_ ?_
 refine lc (QN 2 [(0,0),(1,1)] (KT l masks pair hm hp ho) Qg5 ⟨_,_,rfl,(Qb rfl),⟨_,_,rfl,(Qb rfl),rfl⟩⟩ ⟨rfl,rfl,trivial⟩ rfl ⟨trivial,trivial,trivial⟩ (nlr rfl)) ?_
 iterate 3 refine w_ ?_
 refine Qd ?_
 subst hO
 have e1:(decide (0≤(ZO (fun s=>Wj masks pair s) l)):Bool)=(l.any (fun s=>Wj masks pair s)):=by
  exact Un _ _
 exact Q0 _ _ [(0,0),(1,1)] (Qe rfl (Qc rfl)) ((congrArg (fun z_=>lB z_) e1)) ⟨rfl,rfl,trivial⟩ rfl rfl
theorem W3 (pair:List Int)(own_:List Int)(masks:List Int)(hm:∀x∈masks,0≤x)(hp:2≤pair.length∧∀x∈pair,0≤x∧x < (masks.length:Int))(ho:∀s∈own_,0≤s∧s≤7):FC Tryz.prog 144 [(false,[.dat (.sl 3 .int) pair]),(false,[.ptr 0 0]),(false,[.ptr 1 0])] [(0,some (.box 106 [.dat (.sl 3 .int) own_])),(1,some (.box 106 [.dat (.sl 3 .int) masks]))] 2 (Is (lB (!(own_.any (fun s=>Wj masks pair s)))) [(0,some (.box 106 [.dat (.sl 3 .int) own_])),(1,some (.box 106 [.dat (.sl 3 .int) masks]))]):=by
 refine QM Tryz.func144 rfl rfl Tryz.ntmps144 fun O_ hO w0_ N0_ X_ h0_ f0_=> ?_
 refine w_ ?_
 refine lc (Qo 2 (Qb rfl) rfl rfl (Fresh.of rfl) (nlr rfl)) ?_
 iterate 4 refine w_ ?_
 refine lc (Y9 ⟨_,_,rfl,(Qa rfl),rfl,⟨_,_,rfl,(Qa rfl),rfl,rfl⟩⟩ rfl)<|lc (QN 3 [(0,1),(1,2)] (Ua own_ masks pair hm hp ho) QhI ⟨_,_,rfl,(Qb rfl),⟨_,_,rfl,(Qb rfl),rfl⟩⟩ ⟨rfl,rfl,trivial⟩ rfl ⟨trivial,trivial,trivial⟩ (nlr rfl)) ?_
 iterate 3 refine w_ ?_
 refine Qd ?_
 subst hO
 exact Q0 _ _ [(0,0),(1,1)] (Qe rfl (Qc rfl)) (rfl) ⟨rfl,rfl,trivial⟩ rfl rfl
theorem JH (l:List Hdr)(vs_:List Hdr)(gF:Hdr→List Int)(own_:List Int)(masks:List Int)(hm:∀x∈masks,0≤x)(hv:∀v∈vs_,2≤(gF v).length∧∀x∈gF v,0≤x∧x < (masks.length:Int))(ho:∀s∈own_,0≤s∧s≤7)(hvs:∀v∈l,v∈vs_)(hl:l.length≤1000000):FC Tryz.prog 217 [(false,[.ref 3]),(false,[.clo 144 [0,1]])] [(0,some (.box 106 [.dat (.sl 3 .int) own_])),(1,some (.box 106 [.dat (.sl 3 .int) masks])),(2,some (.pl false (.sl 3 .int) vs_ gF)),(3,some (.arr 106 .vl l))] 4 (Is (lI (ZO (fun v:Hdr=> !(own_.any (fun s=>Wj masks (gF v) s))) l)) [(0,some (.box 106 [.dat (.sl 3 .int) own_])),(1,some (.box 106 [.dat (.sl 3 .int) masks])),(2,some (.pl false (.sl 3 .int) vs_ gF)),(3,some (.arr 106 .vl l))]):=by
 refine QM Tryz.func217 rfl rfl Tryz.ntmps217 fun O_ hO w0_ N0_ X_ h0_ f0_=> ?_
 iterate 10 refine w_ ?_
 refine Qx (fun m_ s_=>∃(k:Nat),k≤l.length∧m_=l.length - k∧(NoneTo (fun v:Hdr=> !(own_.any (fun s=>Wj masks (gF v) s))) l k)∧s_=⟨[(0,lR 3),(1,lf (.clo 144 [0,1])),(7,lI (l.length:Int)),(8,lI (k:Int))],[(0,some (.box 106 [.dat (.sl 3 .int) own_])),(1,some (.box 106 [.dat (.sl 3 .int) masks])),(2,some (.pl false (.sl 3 .int) vs_ gF)),(3,some (.arr 106 .vl l))]⟩) ⟨0,Nat.zero_le _,rfl,NoneTo.zero,rfl⟩ ?_ ?_
 · exact Wk.of [(0,0),(1,1),(2,2),(3,3)] rfl ⟨rfl,rfl,rfl,rfl,trivial⟩ ⟨rfl,rfl,rfl,rfl,trivial⟩ rfl rfl
 rintro m_ s_ ⟨k,hk1,hm2,hno,rfl⟩
 iterate 4 refine w_ ?_
 cases hb3:(decide ((k:Int) < (l.length:Int)))
 ·have hb3':=of_decide_eq_false hb3
  refine w_ ?_
  refine QC ?_
  refine (?_:AC _ _ _ _ _)
  iterate 3 refine w_ ?_
  refine Qd ?_
  subst hO
  have e4:((-1):Int)=(ZO (fun v:Hdr=> !(own_.any (fun s=>Wj masks (gF v) s))) l):=by
   first | exact (hno.no (by omega)).symm
  exact Q0 _ _ [(0,0),(1,1),(2,2),(3,3)] (Qe rfl (Qc rfl)) ((congrArg (fun z_=>lI z_) e4)) ⟨rfl,rfl,rfl,rfl,trivial⟩ rfl rfl
 ·have hb3':=of_decide_eq_true hb3
  iterate 12 refine w_ ?_
  refine lc (Qq (e:= .vl) (Qa rfl) rfl (Qa rfl) YH Zx rfl (by omega) (by first | omega | (simp only[List.length_set]; omega))) ?_
  obtain ⟨x5,hx6⟩:∃z,l[k]? =some z:=⟨_,List.getElem?_eq_getElem (by omega)⟩
  refine lc (Q4 (e:= .vl) (Qa rfl) rfl hx6 rfl Zx rfl rfl)<|lc (Xw (args0:=[(false,[.dat (.sl 3 .int) (gF x5)])]) (caps:=[0,1]) 4 [(0,0),(1,1)] (W3 (gF x5) own_ masks hm (hv _ (hvs _ (List.mem_of_getElem? hx6))) ho) Qb5 rfl (Qa rfl) rfl rfl ⟨_,_,rfl,(Evl.ev (Qmd (p:=2) (Qa rfl) rfl (hvs _ (List.mem_of_getElem? hx6)))),rfl⟩ ⟨rfl,rfl,trivial⟩ rfl ⟨trivial,trivial,trivial⟩ (nlr rfl)) ?_
  refine w_ ?_
  cases hb7:(own_.any (fun s=>Wj masks (gF x5) s))
  ·iterate 5 refine w_ ?_
   refine Qd ?_
   subst hO
   have e8:((k:Int):Int)=(ZO (fun v:Hdr=> !(own_.any (fun s=>Wj masks (gF v) s))) l):=by
    exact (hno.at hx6 (nbt (by assumption))).symm
   exact Q0 _ _ [(0,0),(1,1),(2,2),(3,3)] (Qe rfl (Qc rfl)) ((congrArg (fun z_=>lI z_) e8)) ⟨rfl,rfl,rfl,rfl,trivial⟩ rfl rfl
  ·refine w_ ?_
   refine AC.skip ?_
   refine (?_:AC _ _ _ _ _)
   iterate 3 refine w_ ?_
   refine Qj<|QR ⟨k+1,by omega,rfl,hno.step hx6 (nbf (by assumption)),rfl⟩ (by omega) ?_
   exact Wk.of [(0,0),(1,1),(2,2),(3,3)] rfl ⟨rfl,rfl,rfl,rfl,trivial⟩ ⟨rfl,rfl,rfl,rfl,trivial⟩ rfl rfl
theorem Jf (l:List Hdr)(vs_:List Hdr)(gF:Hdr→List Int)(own_:List Int)(masks:List Int)(hm:∀x∈masks,0≤x)(hv:∀v∈vs_,2≤(gF v).length∧∀x∈gF v,0≤x∧x < (masks.length:Int))(ho:∀s∈own_,0≤s∧s≤7)(hvs:∀v∈l,v∈vs_)(hl:l.length≤1000000):FC Tryz.prog 142 [(false,[.ref 3]),(false,[.clo 144 [0,1]])] [(0,some (.box 106 [.dat (.sl 3 .int) own_])),(1,some (.box 106 [.dat (.sl 3 .int) masks])),(2,some (.pl false (.sl 3 .int) vs_ gF)),(3,some (.arr 106 .vl l))] 3 (Is (lR 4) [(0,some (.box 106 [.dat (.sl 3 .int) own_])),(1,some (.box 106 [.dat (.sl 3 .int) masks])),(2,some (.pl false (.sl 3 .int) vs_ gF)),(4,some (.arr 106 .vl (l.filter (fun v:Hdr=> !(!(own_.any (fun s=>Wj masks (gF v) s)))))))]):=by
 have hix:=QgR (fun v:Hdr=> !(own_.any (fun s=>Wj masks (gF v) s))) l
 refine QM Tryz.func142 rfl rfl Tryz.ntmps142 fun O_ hO w0_ N0_ X_ h0_ f0_=> ?_
 iterate 6 refine w_ ?_
 refine lc (QN 4 [(0,0),(1,1),(2,2),(3,3)] (JH l vs_ gF own_ masks hm hv ho hvs hl) QhH ⟨_,_,rfl,(Qb rfl),⟨_,_,rfl,(Qb rfl),rfl⟩⟩ ⟨rfl,rfl,rfl,rfl,trivial⟩ rfl ⟨trivial,trivial,trivial,trivial,trivial⟩ (nlr rfl)) ?_
 iterate 7 refine w_ ?_
 cases hb1:(decide ((ZO (fun v:Hdr=> !(own_.any (fun s=>Wj masks (gF v) s))) l)=(-1)))
 ·have hb1':=of_decide_eq_false hb1
  iterate 9 refine w_ ?_
  refine Qx (fun m_ s_=>∃(i:Int) (j:Int) (l2:List Hdr),m_=((l2.length:Int) - j).toNat∧(DelI (fun v:Hdr=> !(!(own_.any (fun s=>Wj masks (gF v) s)))) l l2 i j)∧s_=⟨[(0,lR 8),(1,lf (.clo 144 [0,1])),(4,lf (.val (.slice none 0 0))),(5,lI i),(6,lI j)],[(0,some (.box 106 [.dat (.sl 3 .int) own_])),(1,some (.box 106 [.dat (.sl 3 .int) masks])),(2,some (.pl false (.sl 3 .int) vs_ gF)),(8,some (.arr 106 .vl l2))]⟩) ⟨ZO (fun v:Hdr=> !(own_.any (fun s=>Wj masks (gF v) s))) l,(ZO (fun v:Hdr=> !(own_.any (fun s=>Wj masks (gF v) s))) l)+1,l,rfl,(DelI.start (by assumption)),rfl⟩ ?_ ?_
  · exact Wk.of [(0,0),(1,1),(2,2),(8,3)] rfl ⟨rfl,rfl,rfl,rfl,rfl,trivial⟩ ⟨rfl,rfl,rfl,rfl,trivial⟩ rfl rfl
  rintro m_ s_ ⟨i,j,l2,hm3,hD,rfl⟩
  have hDb:=hD.1
  have hDl:=hD.2.1
  iterate 7 refine w_ ?_
  cases hb4:(decide (j < (l2.length:Int)))
  ·have hb4':=of_decide_eq_false hb4
   refine w_ ?_
   refine QC ?_
   refine (?_:AC _ _ _ _ _)
   iterate 3 refine w_ ?_
   refine lc (Yu (e:= .vl) (a:=(i).toNat) (b:=l2.length - (i).toNat) (l:=(some i)) (h:=none) (Qa rfl) rfl (by exact (Qa rfl)) (by exact trivial) YH Zx rfl (by first | (simp only[Option.getD_none,Option.getD_some]; omega) | omega | (simp only[Option.getD_none,Option.getD_some,List.length_append,List.length_take,List.length_replicate]; omega)) (by first | (simp only[Option.getD_none,Option.getD_some]; omega) | omega | (simp only[Option.getD_none,Option.getD_some,List.length_append,List.length_take,List.length_replicate]; omega)) (by first | (simp only[Option.getD_none,Option.getD_some]; omega) | omega | (simp only[Option.getD_none,Option.getD_some,List.length_append,List.length_take,List.length_replicate]; omega)) (by first | rfl | simp) (by first | rfl | simp))<|lc (Qa7 (e:= .vl) (Qa rfl) rfl (by omega) YH K6 rfl rfl rfl) ?_
   iterate 4 refine w_ ?_
   refine lc (Yu (e:= .vl) (a:=0) (b:=(i).toNat) (l:=none) (h:=(some i)) (Qa rfl) rfl (by exact trivial) (by exact (Qa rfl)) YH Zx rfl (by first | (simp only[Option.getD_none,Option.getD_some]; omega) | omega | (simp only[Option.getD_none,Option.getD_some,List.length_append,List.length_take,List.length_replicate]; omega)) (by first | (simp only[Option.getD_none,Option.getD_some]; omega) | omega | (simp only[Option.getD_none,Option.getD_some,List.length_append,List.length_take,List.length_replicate]; omega)) (by first | (simp only[Option.getD_none,Option.getD_some]; omega) | omega | (simp only[Option.getD_none,Option.getD_some,List.length_append,List.length_take,List.length_replicate]; omega)) (by first | rfl | simp) (by first | rfl | simp)) ?_
   iterate 2 refine w_ ?_
   refine AC.wk (QcR 9 4 (e:= .vl) (xs:=l2.take ((i).toNat)++List.replicate (l2.length - (i).toNat) (Ty.zero .vl)) rfl rfl (by first | omega | (simp only[List.length_append,List.length_take,List.length_replicate]; omega)) rfl (Fresh.of rfl) (nlr rfl))<|Qd ?_
   subst hO
   exact Q0 _ _ [(0,0),(1,1),(2,2),(4,9)] (Qe rfl (Qc rfl)) (rfl) ⟨rfl,rfl,rfl,(QA (by exact hD.end_ (by assumption) _ (by omega))),trivial⟩ rfl rfl
  ·have hb4':=of_decide_eq_true hb4
   iterate 7 refine w_ ?_
   refine lc (Qq (e:= .vl) (Qa rfl) rfl (Qa rfl) YH Zx rfl (by omega) (by first | omega | (simp only[List.length_set]; omega))) ?_
   obtain ⟨xj,hx6⟩:∃z,l2[(j).toNat]? =some z:=⟨_,List.getElem?_eq_getElem (by omega)⟩
   have h_xj:=hx6
   refine lc (Q4 (e:= .vl) (Qa rfl) rfl hx6 rfl Zx rfl rfl) ?_
   iterate 5 refine w_ ?_
   refine lc (Xw (args0:=[(false,[.dat (.sl 3 .int) (gF xj)])]) (caps:=[0,1]) 10 [(0,0),(1,1)] (W3 (gF xj) own_ masks hm (hv _ (hvs _ (List.mem_of_getElem? (hD.at_ hx6)))) ho) Qb5 rfl (Qa rfl) rfl rfl ⟨_,_,rfl,(Evl.ev (Qmd (p:=2) (Qa rfl) rfl (hvs _ (List.mem_of_getElem? (hD.at_ hx6))))),rfl⟩ ⟨rfl,rfl,trivial⟩ rfl ⟨trivial,trivial,trivial⟩ (nlr rfl)) ?_
   iterate 2 refine w_ ?_
   cases hb7:(!(own_.any (fun s=>Wj masks (gF xj) s)))
   ·iterate 5 refine w_ ?_
    refine lc (Qq (e:= .vl) (Qa rfl) rfl (Qa rfl) YH Zx rfl (by omega) (by first | omega | (simp only[List.length_set]; omega))) ?_
    obtain ⟨x8,hx9⟩:∃z,l2[(i).toNat]? =some z:=⟨_,List.getElem?_eq_getElem (by omega)⟩
    have h_x8:=hx9
    refine lc (Q2 (e:= .vl) (z':=xj) (Qa rfl) rfl hx9 rfl (Qb rfl) rfl Zx rfl rfl) ?_
    iterate 5 refine w_ ?_
    refine Qj ?_
    refine (?_:AC _ _ _ _ _)
    iterate 4 refine w_ ?_
    refine Qj<|QR ⟨(i+1),(j+1),(l2.set ((i).toNat) xj),rfl,(by exact hD.keep h_xj (nbt (by assumption))),rfl⟩ (by first | omega | (simp only[List.length_set]; omega)) ?_
    exact Wk.of [(0,0),(1,1),(2,2),(8,8)] rfl ⟨rfl,rfl,rfl,rfl,rfl,trivial⟩ ⟨rfl,rfl,rfl,(QA (by first | rfl | simp)),trivial⟩ rfl rfl
   ·refine w_ ?_
    refine AC.skip ?_
    refine (?_:AC _ _ _ _ _)
    iterate 4 refine w_ ?_
    refine Qj<|QR ⟨i,(j+1),l2,rfl,(by exact hD.drop_ h_xj (nbf (by assumption))),rfl⟩ (by first | omega | (simp only[List.length_set]; omega)) ?_
    exact Wk.of [(0,0),(1,1),(2,2),(8,8)] rfl ⟨rfl,rfl,rfl,rfl,rfl,trivial⟩ ⟨rfl,rfl,rfl,rfl,trivial⟩ rfl rfl
 ·have hb1':=of_decide_eq_true hb1
  iterate 5 refine w_ ?_
  refine Qd ?_
  subst hO
  exact Q0 _ _ [(0,0),(1,1),(2,2),(4,3)] (Qe rfl (Qc rfl)) (rfl) ⟨rfl,rfl,rfl,(QA (by exact Qa8 (by assumption))),trivial⟩ rfl rfl
theorem VJ (c:(List (ByteArray×Int))×List ByteArray×(List (Int×Int×Bool×Int)))(hs:SgOk c):FC Tryz.prog 77 [(true,[.dat (.sl 145 (.pr .str .int)) c.1, .dat (.sl 9 .str) c.2.1, .dat (.sl 179 (.pr .int (.pr .int (.pr .bool .int)))) c.2.2])] [] 0 (Zo (lf (.dat (.sl 106 (.sl 3 .int)) (YW c)))):=by
 have hr:∀a∈c.2.2,InR c.2.1.length a:=fun a ha=>YO (hs.arcs a ha)
 have hn3:=hs.some_
 have hfw:=hs.few
 have hs8:=hs.sigs.2.2
 have hmn:=Hr (n:=c.2.1.length) (as_:=c.2.2)
 have hml:=Hm (n:=c.2.1.length) (as_:=c.2.2)
 have hou:∀s∈ZV c.1 c.1.length,0≤s∧s≤7:=fun s h=>by obtain ⟨t,rfl,h1,_⟩:=Ug.1 h; omega
 have hal:=QcA (c:=c) (f:=fun _ _=>true) (i:=c.2.1.length) (by omega) (Nat.le_refl _)
 refine QM Tryz.func77 rfl rfl Tryz.ntmps77 fun O_ hO w0_ N0_ X_ h0_ f0_=> ?_
 refine w_ ?_
 refine lc (Qo 0 (Qb rfl) rfl rfl (Fresh.of rfl) (nlr rfl)) ?_
 iterate 2 refine w_ ?_
 refine dw [io 5 (ag [.dat (.sl 145 (.pr .str .int)) c.1, .dat (.sl 9 .str) c.2.1, .dat (.sl 179 (.pr .int (.pr .int (.pr .bool .int)))) c.2.2]),io 6 (lf (.dat (.sl 3 .int) (Xv c.2.1.length c.2.2))),io 7 (ag [.dat (.sl 145 (.pr .str .int)) c.1, .dat (.sl 9 .str) c.2.1, .dat (.sl 179 (.pr .int (.pr .int (.pr .bool .int)))) c.2.2]),io 8 (lf (.dat (.sl 3 .int) (ZV c.1 c.1.length))),⟨some 3,lP 1 0,[(1,some (.box 106 [.val (.slice none 0 0)]))]⟩,⟨some 4,lP 2 0,[(2,some (.box 106 [.val (.slice none 0 0)]))]⟩,⟨none,lf (.val undef),[(1,some (.box 106 [.dat (.sl 3 .int) (Xv c.2.1.length c.2.2)]))]⟩,⟨none,lf (.val undef),[(2,some (.box 106 [.dat (.sl 3 .int) (ZV c.1 c.1.length)]))]⟩] [0,1,0,7,0,0,63,127] mixed rfl (by kernel_rfl) ⟨dxa QU rfl rfl rfl rfl,fun _ h_=>ac (Qf (Vl c hs).frozen Qc4 ⟨_,_,rfl,(h_.w rfl),rfl⟩ rfl rfl) rfl,dxa QU rfl rfl rfl rfl,fun _ h_=>ac (Qf (U9 c (by omega)).frozen Qcv ⟨_,_,rfl,(h_.w rfl),rfl⟩ rfl rfl) rfl,fun _ h_=>ac (Qt 1 (.sl 3 .int) K6 rfl rfl (h_.fr 1 rfl) (nlr rfl)) rfl,fun _ h_=>ac (Qt 2 (.sl 3 .int) K6 rfl rfl (h_.fr 2 rfl) (nlr rfl)) rfl,fun _ h_=>ac (Qh (h_.v rfl) (h_.n 1 rfl) (h_.w rfl) rfl Zx rfl) rfl,fun _ h_=>ac (Qh (h_.v rfl) (h_.n 2 rfl) (h_.w rfl) rfl Zx rfl) rfl,⟨⟩⟩ ?_
 iterate 2 refine w_ ?_
 refine lc (Y3 3 (JC c (by omega)) Qif ⟨_,_,rfl,(Qb rfl),rfl⟩ rfl (Fresh.of rfl) (nlr rfl))<|lc (Y9 ⟨_,_,rfl,(Qa rfl),rfl,⟨_,_,rfl,(Qa rfl),rfl,rfl⟩⟩ rfl)<|AL.pool (q:=3) (e:= .int) 4 rfl (Fresh.of rfl) (nlr rfl) fun vs1 gf2 hvf3=>lc (QN 5 [(0,2),(1,1),(2,4),(3,3)] (Jf vs1 vs1 gf2 (ZV c.1 c.1.length) (Xv c.2.1.length c.2.2) hmn (fun v hv=>by rw[hml]; exact Qm0 (by rw[← hvf3]; exact List.mem_map_of_mem hv) (Nat.le_refl _)) hou (fun _ h=>h) (by have:=congrArg List.length hvf3; rw[List.length_map] at this; omega)) Qia ⟨_,_,rfl,(Qb rfl),⟨_,_,rfl,(Qb rfl),rfl⟩⟩ ⟨rfl,rfl,rfl,rfl,trivial⟩ rfl ⟨trivial,trivial,trivial,(Fresh.of rfl),trivial⟩ (nlr rfl)) ?_
 iterate 2 refine w_ ?_
 refine AC.wk (QlT (i:=2) (q:=9) (p:=4) rfl rfl rfl (fun z hz=>(List.mem_filter.1 hz).1))<|Qd ?_
 subst hO
 have e4:((vs1.filter (fun v:Hdr=> !(!((ZV c.1 c.1.length).any (fun s=>Wj (Xv c.2.1.length c.2.2) (gf2 v) s))))).map gf2:((.sl 106 (.sl 3 .int)):Ty).Den)=(YW c):=by
  exact (QmS hvf3).trans (Qn0 fun a ha=>(hr a ha).1.1)
 exact Qg (Qe rfl (Qc rfl)) ((congrArg (fun z_=>lf (.dat (.sl 106 (.sl 3 .int)) z_)) e4)) rfl
end Go.Proofs.YtnakmhfjafecpaaGreat
