/- Walks over abstract states: masks of labels; pairs of states that violate complete state coding, the program. -/
import Derived.Test.YtnakmhfjafecpaaGreatUd
import Derived.Test.YtnakmhfjafecpaaGreatBp
set_option linter.unusedSimpArgs false
set_option linter.unusedVariables false
set_option linter.unusedSectionVars false
namespace Go.Proofs.YtnakmhfjafecpaaGreat
open Go.RowKit
set_option maxRecDepth 100000
set_option maxHeartbeats 4000000
structure SgW (c:DSg):Prop where
  sig8:c.1.length≤8
  some_:1≤c.2.1.length∧c.2.1.length≤300
  few:c.2.2.length≤4000
  arcs:∀a∈c.2.2,InR c.2.1.length a∧Qkn (c.1.length:Int) (a.2.1,a.2.2.1)
theorem SgOk.w {c:DSg}(h:SgOk c):SgW c:=⟨h.sigs.2.2,h.some_,h.few,fun a ha=>⟨Qi7 (h.arcs a ha),(h.arcs a ha).2.2.1⟩⟩
def mkV (l:Int×Bool):Int:=(if l.2=true then 2 else 1)*2 ^ (2*l.1).toNat
def orA (s:List Int)(a:DAr):List Int:=if 0≤a.2.1 then s.set a.1.toNat (((((s[a.1.toNat]?).getD 0).toNat ||| (mkV (a.2.1,a.2.2.1)).toNat:Nat)):Int) else s
def Wi (n:Nat)(as_:List DAr):List Int:=as_.foldl orA (List.replicate n 0)
def mAt (l:List Int)(x:Int):Int:=(l[x.toNat]?).getD 0
def QgQ (m:Int)(s:Int):Bool:=decide ((((m / 2 ^ (2*s).toNat).toNat &&& (3:Int).toNat:Nat):Int)=0)
def XL (masks pair:List Int)(s:Int):Bool:= !(QgQ (mAt masks (mAt pair 0)) s==QgQ (mAt masks (mAt pair 1)) s)
def Vj (c:DSg)(k s:Int):Bool:=c.2.2.any fun a=>decide (a.1=k∧a.2.1=s)
def cdA (c:DSg)(j:Nat):ByteArray:=(c.2.1[j]?).getD ByteArray.empty
def Xg (c:DSg)(f:Nat→Nat→Bool)(i k:Nat):List (List Int):=((List.range k).filter fun j=>decide (i < j)&&(decide (cdA c j=cdA c i)&&f i j)).map fun j:Nat=>[(i:Int),(j:Int)]
def YP (c:DSg)(f:Nat→Nat→Bool)(i:Nat):List (List Int):=(List.range i).flatMap fun i=>Xg c f i c.2.1.length
def Ha (c:DSg)(i j:Nat):Bool:=(Yk c.1 c.1.length).any fun s=> !(Vj c i s==Vj c j s)
def W7 (c:DSg):List (List Int):=YP c (Ha c) c.2.1.length
section
variable {c:DSg}{as_:List DAr}{a:DAr}{i j k n:Nat}{f g:Nat→Nat→Bool}{s x y m:Int}{l masks pair:List Int}{u v:ByteArray}
theorem Qmf {m x:Int}(hm:0≤m∧m≤2)(h:0≤x∧x≤14): -9223372036854775808≤m*2 ^ x.toNat∧m*2 ^ x.toNat≤9223372036854775807:=by
  have h1:(2:Int) ^ x.toNat≤2 ^ 14:=by
    have:(2:Nat) ^ x.toNat≤2 ^ 14:=Nat.pow_le_pow_right (by omega) (by omega)
    exact_mod_cast this
  have h2:(0:Int)≤2 ^ x.toNat:=Int.pow_nonneg (by decide)
  have h3:m*2 ^ x.toNat≤2*2 ^ 14:=Int.mul_le_mul hm.2 h1 h2 (by decide)
  have h4:0≤m*2 ^ x.toNat:=Int.mul_nonneg hm.1 h2
  exact ⟨by omega,Int.le_trans h3 (by decide)⟩
theorem Qof (l:Int×Bool):0≤mkV l:=by
  unfold mkV
  exact Int.mul_nonneg (by split <;> decide) (Int.pow_nonneg (by decide))
theorem QdL:∀(as_:List DAr) (s:List Int),(as_.foldl orA s).length=s.length
  | [],_=>rfl
  | a :: as_,s=>by
    rw[List.foldl_cons,QdL as_]
    unfold orA
    split <;> simp
theorem QcR:(Wi n as_).length=n:=by unfold Wi; rw[QdL]; simp
theorem QfZ:∀(as_:List DAr) (s:List Int),(∀x∈s,0≤x)→∀x∈as_.foldl orA s,0≤x
  | [],_,h=>h
  | a :: as_,s,h=>by
    rw[List.foldl_cons]
    refine QfZ as_ _ ?_
    unfold orA
    split
    · intro x hx
      rcases List.mem_or_eq_of_mem_set hx with hx | rfl
      · exact h x hx
      · exact Int.natCast_nonneg _
    · exact h
theorem Qe9:∀x∈Wi n as_,0≤x:=QfZ as_ _ (by simp)
theorem QjH (hx:as_[k]? =some a)(h:0≤a.2.1)(hy:(Wi n (as_.take k))[a.1.toNat]? =some y):(Wi n (as_.take k)).set a.1.toNat (((y.toNat ||| (mkV (a.2.1,a.2.2.1)).toNat:Nat)):Int)=Wi n (as_.take (k+1)):=by
  unfold Wi at*
  rw[QW hx,List.foldl_append,List.foldl_cons,List.foldl_nil]
  unfold orA
  rw[if_pos h]
  unfold orA at hy
  rw[hy]; rfl
theorem QmG (hx:as_[k]? =some a)(h:¬0≤a.2.1):Wi n (as_.take k)=Wi n (as_.take (k+1)):=by
  unfold Wi
  rw[QW hx,List.foldl_append,List.foldl_cons,List.foldl_nil,orA,if_neg h]
theorem Qbe (h:l[x.toNat]? =some y):mAt l x=y:=by unfold mAt; rw[h]; rfl
theorem QbW:Xg c f i (i+1)=[]:=by
  unfold Xg
  rw[List.map_eq_nil_iff,List.filter_eq_nil_iff]
  intro j hj
  rw[List.mem_range] at hj
  simp; intro h; omega
theorem QmH (h:i < k)(hu:c.2.1[k]? =some u)(hv:c.2.1[i]? =some v)(e:u=v)(hf:f i k=true):Xg c f i k++[[(i:Int),(k:Int)]]=Xg c f i (k+1):=by
  unfold Xg
  rw[List.range_succ,List.filter_append,List.map_append]
  simp[h,cdA,hu,hv,e,hf]
theorem QjJ (h:¬(cdA c k=cdA c i∧f i k=true)):Xg c f i k=Xg c f i (k+1):=by
  unfold Xg
  rw[List.range_succ,List.filter_append,List.map_append]
  have:(decide (i < k)&&(decide (cdA c k=cdA c i)&&f i k))=false:=by
    cases hd:decide (cdA c k=cdA c i)&&f i k with
    | false=>simp
    | true=>simp only[Bool.and_eq_true,decide_eq_true_eq] at hd; exact absurd hd h
  simp[this]
theorem QiY (h:c.2.1[k]? =some u):cdA c k=u:=by unfold cdA; rw[h]; rfl
theorem WT:YP c f i++Xg c f i c.2.1.length=YP c f (i+1):=by
  unfold YP
  rw[List.range_succ,List.flatMap_append]; simp
theorem Qb7:(Xg c f i k).length≤k:=by unfold Xg; rw[List.length_map]; exact Nat.le_trans (List.length_filter_le ..) (by simp)
theorem QmA:(YP c f i).length≤i*c.2.1.length:=by
  induction i with
  | zero=>simp[YP]
  | succ i ih=>
    rw[← WT,List.length_append,Nat.succ_mul]
    have:=Qb7 (c:=c) (f:=f) (i:=i) (k:=c.2.1.length)
    omega
theorem Qb8 (hn:c.2.1.length≤300)(hi:i≤c.2.1.length):(YP c f i).length≤90000:=by
  have h1:=QmA (c:=c) (f:=f) (i:=i)
  have h2:i*c.2.1.length≤300*300:=Nat.mul_le_mul (by omega) hn
  omega
theorem QlY {p:List Int}(h:p∈Xg c f i k):∃j:Nat,j < k∧i < j∧p=[(i:Int),(j:Int)]:=by
  unfold Xg at h
  obtain ⟨j,hj,rfl⟩:=List.mem_map.1 h
  rw[List.mem_filter,List.mem_range] at hj
  simp only[Bool.and_eq_true,decide_eq_true_eq] at hj
  exact ⟨j,hj.1,hj.2.1,rfl⟩
theorem QlZ {p:List Int}(h:p∈YP c f n)(hn:n≤c.2.1.length):2≤p.length∧∀x∈p,0≤x∧x < (c.2.1.length:Int):=by
  unfold YP at h
  obtain ⟨i,hi,h⟩:=List.mem_flatMap.1 h
  rw[List.mem_range] at hi
  obtain ⟨j,h1,h2,rfl⟩:=QlY h
  refine ⟨by simp,fun x hx=> ?_⟩
  simp only[List.mem_cons,List.not_mem_nil,or_false] at hx
  rcases hx with rfl | rfl <;> omega
theorem Qgf (q:List Int→Bool):(Xg c f i k).filter q=Xg c (fun i j=>f i j&&q [(i:Int),(j:Int)]) i k:=by
  unfold Xg
  rw[List.filter_map,List.filter_filter]
  congr 1
  apply List.filter_congr
  intro j _
  simp only[Function.comp]
  cases decide (i < j) <;> cases decide (cdA c j=cdA c i) <;> cases f i j <;> simp
theorem Qgw (q:List Int→Bool):(YP c f n).filter q=YP c (fun i j=>f i j&&q [(i:Int),(j:Int)]) n:=by
  induction n with
  | zero=>rfl
  | succ n ih=>rw[← WT,← WT,List.filter_append,ih,Qgf]
theorem Qig (h:∀i j,i < n→j < c.2.1.length→f i j=g i j):YP c f n=YP c g n:=by
  induction n with
  | zero=>rfl
  | succ n ih=>
    rw[← WT,← WT,ih fun i j hi hj=>h i j (by omega) hj]
    congr 1
    unfold Xg
    congr 1
    apply List.filter_congr
    intro j hj
    rw[List.mem_range] at hj
    rw[h n j (by omega) hj]
theorem QgX (b:Nat):Nat.testBit 3 b=decide (b < 2):=by
  match b with
  | 0=>rfl
  | 1=>rfl
  | b+2=>
    rw[show (3:Nat)=2 ^ 2 - 1 from rfl,Nat.testBit_two_pow_sub_one]
theorem Qqn (m t:Nat):((m / 2 ^ t) &&& 3=0)↔(m.testBit t=false∧m.testBit (t+1)=false):=by
  rw[← Nat.shiftRight_eq_div_pow]
  constructor
  · intro h
    have h0:=congrArg (fun z=>Nat.testBit z 0) h
    have h1:=congrArg (fun z=>Nat.testBit z 1) h
    simp only[Nat.testBit_and,Nat.testBit_shiftRight,QgX,Nat.zero_testBit,Nat.add_zero] at h0 h1
    simpa using And.intro h0 h1
  · rintro ⟨h0, h1⟩
    apply Nat.eq_of_testBit_eq
    intro b
    rw[Nat.testBit_and,Nat.testBit_shiftRight,QgX,Nat.zero_testBit]
    match b with
    | 0=>simp[h0]
    | 1=>simp[h1]
    | b+2=>simp
theorem QkJ (hm:0≤m):QgQ m s=true↔(m.toNat.testBit (2*s).toNat=false∧m.toNat.testBit ((2*s).toNat+1)=false):=by
  unfold QgQ
  rw[decide_eq_true_eq,← Qqn]
  have:(m / 2 ^ (2*s).toNat).toNat=m.toNat / 2 ^ (2*s).toNat:=by
    have e:m / 2 ^ (2*s).toNat=((m.toNat / 2 ^ (2*s).toNat:Nat):Int):=by
      rw[Int.natCast_ediv,Int.toNat_of_nonneg hm,Int.natCast_pow]; rfl
    rw[e]; rfl
  rw[this]
  show (((m.toNat / 2 ^ (2*s).toNat) &&& 3:Nat):Int)=0↔_
  omega
theorem Qni {l:Int×Bool}(h:0≤l.1)(b:Nat):(mkV l).toNat.testBit b=decide (b=(2*l.1).toNat+(if l.2=true then 1 else 0)):=by
  have e:(mkV l).toNat=2 ^ ((2*l.1).toNat+(if l.2=true then 1 else 0)):=by
    unfold mkV
    obtain ⟨x,up⟩:=l
    cases up
    · simp only [Bool.false_eq_true, if_false, Int.one_mul, Nat.add_zero]
      have:((2:Int) ^ (2*x).toNat)=((2 ^ (2*x).toNat:Nat):Int):=by rw[Int.natCast_pow]; rfl
      rw[this]; rfl
    · simp only [if_true]
      have:(2:Int)*2 ^ (2*x).toNat=((2 ^ ((2*x).toNat+1):Nat):Int):=by rw[Int.natCast_pow,Int.pow_succ,Int.mul_comm]; rfl
      rw[this]; rfl
  rw[e,Nat.testBit_two_pow]
  by_cases hb:b=(2*l.1).toNat+(if l.2=true then 1 else 0)
  · simp[hb]
  · simp[hb,Ne.symm hb]
theorem Qd7:∀(as_:List DAr) (s0:List Int) (k:Nat) (b:Nat),(∀a∈as_,0≤a.1)→k < s0.length→
    ((((as_.foldl orA s0)[k]?).getD 0).toNat.testBit b=true↔((s0[k]?).getD 0).toNat.testBit b=true∨∃a∈as_,0≤a.2.1∧a.1=(k:Int)∧b=(2*a.2.1).toNat+(if a.2.2.1=true then 1 else 0))
  | [],s0,k,b,_,_=>by simp
  | a :: as_,s0,k,b,hr,hk=>by
    have ha:=hr a (List.mem_cons_self ..)
    have hlen:(orA s0 a).length=s0.length:=by unfold orA; split <;> simp
    rw[List.foldl_cons,Qd7 as_ (orA s0 a) k b (fun x hx=>hr x (List.mem_cons_of_mem _ hx)) (by omega)]
    have h1:(((orA s0 a)[k]?).getD 0).toNat.testBit b=true↔((s0[k]?).getD 0).toNat.testBit b=true∨(0≤a.2.1∧a.1=(k:Int)∧b=(2*a.2.1).toNat+(if a.2.2.1=true then 1 else 0)):=by
      unfold orA
      split
      · rename_i h0
        by_cases e:a.1.toNat=k
        · subst e
          rw[List.getElem?_set_self hk,Option.getD_some]
          show ((((s0[a.1.toNat]?).getD 0).toNat ||| (mkV (a.2.1,a.2.2.1)).toNat)).testBit b=true↔_
          rw[Nat.testBit_or,Bool.or_eq_true,Qni h0,decide_eq_true_eq]
          have e2:a.1=((a.1.toNat:Nat):Int):=by omega
          simp only[h0,true_and]
          constructor
          · rintro (h | h)
            · exact .inl h
            · exact .inr ⟨e2,h⟩
          · rintro (h | h)
            · exact .inl h
            · exact .inr h.2
        · rw [List.getElem?_set_ne e]
          have e2:¬a.1=(k:Int):=fun h=>e (by omega)
          simp[e2]
      · rename_i h0
        simp[h0]
    rw[h1]
    constructor
    · rintro ((h | h) | ⟨x, hx, h⟩)
      · exact .inl h
      · exact .inr ⟨a,List.mem_cons_self ..,h⟩
      · exact .inr ⟨x,List.mem_cons_of_mem _ hx,h⟩
    · rintro (h | ⟨x, hx, h⟩)
      · exact .inl (.inl h)
      · rcases List.mem_cons.1 hx with rfl | hx
        · exact .inl (.inr h)
        · exact .inr ⟨x,hx,h⟩
theorem Hk (hr:∀a∈c.2.2,0≤a.1)(hk:k < c.2.1.length)(hs:0≤s):QgQ (mAt (Wi c.2.1.length c.2.2) (k:Int)) s= !Vj c k s:=by
  have hnn:0≤mAt (Wi c.2.1.length c.2.2) (k:Int):=by
    unfold mAt
    rw[Int.toNat_natCast,List.getElem?_eq_getElem (by rw[QcR]; exact hk)]
    exact Qe9 _ (List.getElem_mem _)
  have hb:∀b,(mAt (Wi c.2.1.length c.2.2) (k:Int)).toNat.testBit b=true↔∃a∈c.2.2,0≤a.2.1∧a.1=(k:Int)∧b=(2*a.2.1).toNat+(if a.2.2.1=true then 1 else 0):=fun b=>by
    unfold mAt Wi
    rw[Int.toNat_natCast,Qd7 c.2.2 _ k b hr (by simpa using hk)]
    simp[List.getElem?_replicate,hk]
  rw[Bool.eq_iff_iff,QkJ hnn,Bool.not_eq_true']
  have hex:Vj c k s=true↔∃a∈c.2.2,a.1=(k:Int)∧a.2.1=s:=by
    unfold Vj
    rw[List.any_eq_true]
    simp
  constructor
  · rintro ⟨h1, h2⟩
    cases he:Vj c k s with
    | false=>rfl
    | true=>
      obtain ⟨a,ha,e1,e2⟩:=hex.1 he
      cases hu:a.2.2.1 with
      | false=>
        have:=(hb (2*s).toNat).2 ⟨a,ha,by omega,e1,by rw[e2,hu]; simp⟩
        rw[h1] at this; cases this
      | true=>
        have:=(hb ((2*s).toNat+1)).2 ⟨a,ha,by omega,e1,by rw[e2,hu]; simp⟩
        rw[h2] at this; cases this
  · intro he
    have hno:∀a∈c.2.2,¬(a.1=(k:Int)∧a.2.1=s):=fun a ha h=>by
      rw[hex.2 ⟨a,ha,h⟩] at he; cases he
    constructor
    · cases h : (mAt (Wi c.2.1.length c.2.2) (k : Int)).toNat.testBit (2 * s).toNat with
      | false=>rfl
      | true=>
        obtain ⟨a,ha,h0,e1,e2⟩:=(hb _).1 h
        have:a.2.1=s:=by split at e2 <;> omega
        exact absurd ⟨e1,this⟩ (hno a ha)
    · cases h : (mAt (Wi c.2.1.length c.2.2) (k : Int)).toNat.testBit ((2 * s).toNat + 1) with
      | false=>rfl
      | true=>
        obtain ⟨a,ha,h0,e1,e2⟩:=(hb _).1 h
        have:a.2.1=s:=by split at e2 <;> omega
        exact absurd ⟨e1,this⟩ (hno a ha)
theorem QmV (hr:∀a∈c.2.2,0≤a.1):(YP c (fun _ _=>true) c.2.1.length).filter (fun p=>(Yk c.1 c.1.length).any fun s=>XL (Wi c.2.1.length c.2.2) p s)=W7 c:=by
  rw[Qgw]
  unfold W7
  refine Qig fun i j hi hj=> ?_
  rw[Bool.true_and]
  unfold Ha
  have hp0:mAt [(i:Int),(j:Int)] 0=i:=rfl
  have hp1:mAt [(i:Int),(j:Int)] 1=j:=rfl
  rw[Bool.eq_iff_iff,List.any_eq_true,List.any_eq_true]
  constructor
  · rintro ⟨s, hs, h⟩
    obtain ⟨t,rfl,_,_⟩:=K6.1 hs
    refine ⟨_,hs, ?_⟩
    unfold XL at h
    rw[hp0,hp1,Hk hr hi (by omega),Hk hr hj (by omega)] at h
    revert h
    cases Vj c i t <;> cases Vj c j t <;> simp
  · rintro ⟨s, hs, h⟩
    obtain ⟨t,rfl,_,_⟩:=K6.1 hs
    refine ⟨_,hs, ?_⟩
    unfold XL
    rw[hp0,hp1,Hk hr hi (by omega),Hk hr hj (by omega)]
    revert h
    cases Vj c i t <;> cases Vj c j t <;> simp
theorem QlL {α β:Type}{q:β→Bool}{f:α→β}{l:List α}{xs:List β}(h:l.map f=xs):(l.filter fun v=> !(!q (f v))).map f=xs.filter q:=by
  subst h
  rw[List.filter_map]
  congr 1
  apply List.filter_congr
  intro v _
  simp
end
section
variable {c:DSg}{f:Nat→Nat→Bool}{i:Nat}{m:Int}{u v:ByteArray}
theorem QnV (h1:m≤(c.2.1.length:Int))(h2:¬m < (c.2.1.length:Int)):YP c f i++Xg c f i m.toNat=YP c f (i+1):=by rw[show m.toNat=c.2.1.length by omega,WT]
theorem Qjd (h:(i:Int) < m)(hu:c.2.1[m.toNat]? =some u)(hv:c.2.1[i]? =some v)(e:v=u)(hf:f i m.toNat=true):(YP c f i++Xg c f i m.toNat)++[[(i:Int),m]]=YP c f i++Xg c f i (m+1).toNat:=by
  rw[show (m+1).toNat=m.toNat+1 by omega,← QmH (by omega) hu hv e.symm hf,List.append_assoc,show ((m.toNat:Nat):Int)=m by omega]
theorem QjI (h:(i:Int) < m)(hu:c.2.1[m.toNat]? =some u)(hv:c.2.1[i]? =some v)(e:¬v=u):YP c f i++Xg c f i m.toNat=YP c f i++Xg c f i (m+1).toNat:=by
  rw[show (m+1).toNat=m.toNat+1 by omega,← QjJ fun g=>e (by rw[← QiY hu,← QiY hv]; exact g.1.symm)]
theorem Qlv (h:(i:Int) < m)(hf:f i m.toNat=false):YP c f i++Xg c f i m.toNat=YP c f i++Xg c f i (m+1).toNat:=by
  rw[show (m+1).toNat=m.toNat+1 by omega,← QjJ fun g=>by rw[hf] at g; cases g.2]
end
theorem QnY {c:DSg}{i:Nat}{m:Int}{u v:ByteArray}(h:(i:Int) < m)(hu:c.2.1[m.toNat]? =some u)(hv:c.2.1[i]? =some v)(e:v=u):(YP c (fun _ _=>true) i++Xg c (fun _ _=>true) i m.toNat)++[[(i:Int),m]]=YP c (fun _ _=>true) i++Xg c (fun _ _=>true) i (m+1).toNat:=Qjd h hu hv e rfl
theorem QpH {c:DSg}{i:Nat}{m:Int}{u v:ByteArray}(h:(i:Int) < m)(hu:c.2.1[m.toNat]? =some u)(hv:c.2.1[i]? =some v)(e:¬v=u):YP c (fun _ _=>true) i++Xg c (fun _ _=>true) i m.toNat=YP c (fun _ _=>true) i++Xg c (fun _ _=>true) i (m+1).toNat:=QjI h hu hv e
theorem Hn (l:Int×Bool)(h:0≤l.1∧l.1≤7):FC Tryz.prog 216 [(true,[dI l.1,dB l.2])] [] 0 (Zq (lI (mkV l))):=by
 refine QN Tryz.func216 rfl rfl Tryz.ntmps216 fun O_ hO w0_ N0_ X_ h0_ f0_=> ?_
 refine AC.fact (QG (x:= .tmp 0) (i:=0) (Qb rfl) rfl) fun hi1=> ?_
 refine w_ ?_
 refine lc (Qw 0 (Qb rfl) rfl rfl (Fresh.of rfl) (nlr rfl)) ?_
 iterate 7 refine w_ ?_
 cases hb2:(l.2)
 ·iterate 5 refine w_ ?_
  refine lc (HU (QM rfl) (Qa rfl) rfl (by omega))<|lc (QfU (QM rfl) (Qa rfl) rfl (by omega) (by exact Qmf (by omega) (by omega))) ?_
  iterate 2 refine w_ ?_
  refine Qf ?_
  subst hO
  have e3:((1:Int)*2 ^ (2*l.1).toNat:Int)=(mkV l):=by
   (unfold mkV; simp only[*]; rfl)
  exact Ql (Qm rfl (Qd rfl)) ((congrArg (fun z_=>lI z_) e3)) rfl
 ·iterate 4 refine w_ ?_
  refine lc (HU (QM rfl) (Qa rfl) rfl (by omega))<|lc (QfU (QM rfl) (Qa rfl) rfl (by omega) (by exact Qmf (by omega) (by omega))) ?_
  iterate 2 refine w_ ?_
  refine Qf ?_
  subst hO
  have e4:((2:Int)*2 ^ (2*l.1).toNat:Int)=(mkV l):=by
   (unfold mkV; simp only[*]; rfl)
  exact Ql (Qm rfl (Qd rfl)) ((congrArg (fun z_=>lI z_) e4)) rfl
theorem JS (c:(List (ByteArray×Int))×List ByteArray×(List (Int×Int×Bool×Int)))(hs:SgW c):FC Tryz.prog 140 [(true,[.dat (.sl 145 (.pr .str .int)) c.1, .dat (.sl 9 .str) c.2.1, .dat (.sl 179 (.pr .int (.pr .int (.pr .bool .int)))) c.2.2])] [] 0 (UC 3 .int (Wi c.2.1.length c.2.2)):=by
 have hr:∀a∈c.2.2,InR c.2.1.length a:=fun a ha=>(hs.arcs a ha).1
 have hn3:=hs.some_
 have hfw:=hs.few
 have hs8:=hs.sig8
 refine QN Tryz.func140 rfl rfl Tryz.ntmps140 fun O_ hO w0_ N0_ X_ h0_ f0_=> ?_
 refine w_ ?_
 refine lc (Qw 0 (Qb rfl) rfl rfl (Fresh.of rfl) (nlr rfl)) ?_
 iterate 5 refine w_ ?_
 refine AL.fact (Qq (x:= .tmp 7) (Qa rfl)) fun hl1=> ?_
 refine w_ ?_
 refine lc (VX 1 (e:= .int) (n:=c.2.1.length) (Qa rfl) (Qa rfl) QE Qpr rfl (by omega) (by omega) rfl (Fresh.of rfl) (nlr rfl)) ?_
 iterate 6 refine w_ ?_
 refine AL.fact (Qq (x:= .tmp 11) (Qa rfl)) fun hl2=> ?_
 iterate 4 refine w_ ?_
 refine Qx (fun m_ s_=>∃(k:Nat),k≤c.2.2.length∧m_=c.2.2.length - k∧s_=⟨[(2,lf (.val (.slice none 0 0))),(3,lR 2),(11,lf (.dat (.sl 179 (.pr .int (.pr .int (.pr .bool .int)))) c.2.2)),(12,lI (c.2.2.length:Int)),(13,lI (k:Int))],[(2,some (.arr 3 .int (Wi c.2.1.length (c.2.2.take k))))]⟩) ⟨0,Nat.zero_le _,rfl,rfl⟩ ?_ ?_
 · exact Wk.of [(2,1)] rfl ⟨rfl,rfl,rfl,rfl,rfl,trivial⟩ ⟨(Qy (by simp only[List.take_zero]; rfl)),trivial⟩ rfl rfl
 rintro m_ s_ ⟨k,hk3,hm4,rfl⟩
 have hml:=QcR (n:=c.2.1.length) (as_:=c.2.2.take k)
 iterate 4 refine w_ ?_
 cases hb5:(decide ((k:Int) < (c.2.2.length:Int)))
 ·have hb5':=of_decide_eq_false hb5
  refine w_ ?_
  refine QB ?_
  refine (?_:AC _ _ _ _ _)
  iterate 4 refine w_ ?_
  refine Qf ?_
  subst hO
  refine ZU (e:= .int) (xs:=(Wi c.2.1.length (c.2.2.take k))) (Qm rfl (Qd rfl)) rfl ?_
  rw[Yi (by omega)]
 ·have hb5':=of_decide_eq_true hb5
  iterate 5 refine w_ ?_
  obtain ⟨ar,hx7⟩:∃z,c.2.2[k]? =some z:=⟨_,List.getElem?_eq_getElem (by omega)⟩
  have hain:=hr _ (List.mem_of_getElem? hx7)
  obtain ⟨⟨ha1,ha2⟩,ha3,ha4⟩:=hain
  have hlab:=(hs.arcs _ (List.mem_of_getElem? hx7)).2
  have hslt:ar.2.1 < (c.1.length:Int):=QnK hlab
  have hmk:=Qof (ar.2.1,ar.2.2.1)
  refine lc (Qh (Qa rfl) (Qa rfl) Ks WF rfl (by omega) hx7) ?_
  refine w_ ?_
  refine lc (Qp 3 (.pr .int (.pr .int (.pr .bool .int))) UE rfl rfl (Fresh.of rfl) (nlr rfl))<|lc (Qe (Qa rfl) rfl (Qb rfl) rfl WF rfl) ?_
  iterate 4 refine w_ ?_
  refine AL.fact (QA (x:= .tmp 18) (Qa rfl)) fun hi8=> ?_
  iterate 2 refine w_ ?_
  cases hb9:(decide (0≤ar.2.1))
  ·have hb9':=of_decide_eq_false hb9
   refine w_ ?_
   refine AC.skip ?_
   refine (?_:AC _ _ _ _ _)
   iterate 3 refine w_ ?_
   refine Qk<|QU ⟨k+1,by omega,rfl,rfl⟩ (by omega) ?_
   exact Wk.of [(2,2)] rfl ⟨rfl,rfl,rfl,rfl,rfl,trivial⟩ ⟨(Qy (by first | exact QjH hx7 (by assumption) hy | exact QmG hx7 (by assumption))),trivial⟩ rfl rfl
  ·have hb9':=of_decide_eq_true hb9
   refine w_ ?_
   obtain ⟨y,hx11⟩:∃z,(Wi c.2.1.length (c.2.2.take k))[(ar.1).toNat]? =some z:=⟨_,List.getElem?_eq_getElem (by omega)⟩
   have hy:=hx11
   have hyn:=Qe9 _ (List.mem_of_getElem? hx11)
   refine dv [io 20 (lR 2),io 21 (lP 3 0),io 22 (lI ar.1),io 23 (lf (.ept 2 1 ((ar.1).toNat) 0)),io 24 (lI y),io 25 (lP 3 1),io 26 (lI ar.2.1),io 27 (lP 3 2),io 28 (lB ar.2.2.1),io 29 (ag [dI ar.2.1,dB ar.2.2.1]),io 30 (lI (mkV (ar.2.1,ar.2.2.1))),io 31 (lI ((y.toNat ||| (mkV (ar.2.1,ar.2.2.1)).toNat:Nat):Int)),io 32 (lf (.ept 2 1 ((ar.1).toNat) 0)),⟨none,lf (.val undef),[(2,some (.arr 3 .int ((Wi c.2.1.length (c.2.2.take k)).set ((ar.1).toNat) ((y.toNat ||| (mkV (ar.2.1,ar.2.2.1)).toNat:Nat):Int))))]⟩] [0,0,2,7,15,0,32,0,128,480,992,2047,4095,8191] mixed rfl (by kernel_rfl) ⟨dxm rfl rfl,dxf QeE rfl rfl rfl,dxl QO rfl rfl rfl rfl rfl,fun _ h_=>ac (Qu (e:= .int) (h_.v rfl) (h_.en 2 rfl) (h_.v rfl) QE QO rfl (by omega) (by first | omega | (simp only[List.length_set]; omega))) rfl,fun _ h_=>ac (QL (e:= .int) (h_.v rfl) (h_.n 2 rfl) hx11 rfl QO rfl rfl) rfl,dxf Qkb rfl rfl rfl,dxl QO rfl rfl rfl rfl rfl,dxf QaC rfl rfl rfl,dxl WW rfl rfl rfl rfl rfl,fun _ h_=>ac (QH QoB ⟨_,_,rfl,(h_.w rfl),⟨_,_,rfl,(h_.w rfl),rfl⟩⟩ (List.all_eq_true.1 rfl) rfl rfl) rfl,fun _ h_=>ac (Qn (Hn (ar.2.1,ar.2.2.1) (by simp only; omega)) Qhu ⟨_,_,rfl,(h_.w rfl),rfl⟩ rfl rfl) rfl,fun _ h_=>ac (Qm7 (h_.v rfl) (h_.v rfl) rfl (by omega) (by omega)) rfl,fun _ h_=>ac (Qu (e:= .int) (h_.v rfl) (h_.en 2 rfl) (h_.v rfl) QE QO rfl (by omega) (by first | omega | (simp only[List.length_set]; omega))) rfl,fun _ h_=>ac (QX (e:= .int) (z':=((y.toNat ||| (mkV (ar.2.1,ar.2.2.1)).toNat:Nat):Int)) (h_.v rfl) (h_.n 2 rfl) hx11 rfl (h_.w rfl) rfl QO rfl rfl) rfl,⟨⟩⟩ ?_
   refine (?_:AC _ _ _ _ _)
   iterate 3 refine w_ ?_
   refine Qk<|QU ⟨k+1,by omega,rfl,rfl⟩ (by omega) ?_
   exact Wk.of [(2,2)] rfl ⟨rfl,rfl,rfl,rfl,rfl,trivial⟩ ⟨(Qy (by first | exact QjH hx7 (by assumption) hy | exact QmG hx7 (by assumption))),trivial⟩ rfl rfl
theorem JB (c:(List (ByteArray×Int))×List ByteArray×(List (Int×Int×Bool×Int)))(hn:c.2.1.length≤300):FC Tryz.prog 143 [(true,[.dat (.sl 145 (.pr .str .int)) c.1, .dat (.sl 9 .str) c.2.1, .dat (.sl 179 (.pr .int (.pr .int (.pr .bool .int)))) c.2.2])] [] 0 (UC 106 (.sl 3 .int) (YP c (fun _ _=>true) c.2.1.length)):=by
 refine QN Tryz.func143 rfl rfl Tryz.ntmps143 fun O_ hO w0_ N0_ X_ h0_ f0_=> ?_
 refine w_ ?_
 refine lc (Qw 0 (Qb rfl) rfl rfl (Fresh.of rfl) (nlr rfl)) ?_
 iterate 3 refine w_ ?_
 refine lc (Qg 1 (e:=(.sl 3 .int)) Q1 QI Z9 rfl rfl (List.all_eq_true.1 rfl) ⟨rfl,rfl⟩ (by decide) rfl rfl (Fresh.of rfl) (nlr rfl)) ?_
 iterate 6 refine w_ ?_
 refine AL.fact (Qq (x:= .tmp 9) (Qa rfl)) fun hl1=> ?_
 iterate 4 refine w_ ?_
 refine Qx (fun m_ s_=>∃(i:Nat),i≤c.2.1.length∧m_=c.2.1.length - i∧s_=⟨[(1,lP 0 0),(2,lf (.val (.slice none 0 0))),(3,lR 2),(9,lf (.dat (.sl 9 .str) c.2.1)),(10,lI (c.2.1.length:Int)),(11,lI (i:Int))],[(0,some (.box 59 [.dat (.sl 145 (.pr .str .int)) c.1, .dat (.sl 9 .str) c.2.1, .dat (.sl 179 (.pr .int (.pr .int (.pr .bool .int)))) c.2.2])),(2,some (.arr 106 (.sl 3 .int) (YP c (fun _ _=>true) i)))]⟩) ⟨0,Nat.zero_le _,rfl,rfl⟩ ?_ ?_
 · exact Wk.of [(0,0),(2,1)] rfl ⟨rfl,rfl,rfl,rfl,rfl,rfl,trivial⟩ ⟨rfl,(Qy (rfl)),trivial⟩ rfl rfl
 rintro m_ s_ ⟨i,hk2,hm3,rfl⟩
 have hal:=Qb8 (c:=c) (f:=fun _ _=>true) (i:=i) hn
 iterate 4 refine w_ ?_
 cases hb4:(decide ((i:Int) < (c.2.1.length:Int)))
 ·have hb4':=of_decide_eq_false hb4
  refine w_ ?_
  refine QB ?_
  refine (?_:AC _ _ _ _ _)
  iterate 4 refine w_ ?_
  refine Qf ?_
  subst hO
  refine ZU (e:=(.sl 3 .int)) (xs:=(YP c (fun _ _=>true) i)) (Qm rfl (Qd rfl)) rfl ?_
  (congr 1; omega)
 ·have hb4':=of_decide_eq_true hb4
  iterate 6 refine w_ ?_
  obtain ⟨ci,hx6⟩:∃z,c.2.1[i]? =some z:=⟨_,List.getElem?_eq_getElem (by omega)⟩
  have hci:=hx6
  refine lc (Qh (Qa rfl) (Qa rfl) Zi Ze rfl (by omega) hx6) ?_
  iterate 10 refine w_ ?_
  refine Qx (fun m_ s_=>∃(m:Int) (out:List (List Int)),m_=((c.2.1.length:Int) - m).toNat∧((i:Int)+1≤m∧m≤(c.2.1.length:Int))∧(out=YP c (fun _ _=>true) i++Xg c (fun _ _=>true) i m.toNat)∧s_=⟨[(1,lP 0 0),(2,lf (.val (.slice none 0 0))),(3,lR 3),(4,lI (i:Int)),(5,lf (dS ci)),(6,lI m),(9,lf (.dat (.sl 9 .str) c.2.1)),(10,lI (c.2.1.length:Int)),(11,lI (i:Int)),(12,lB true),(13,lI (i:Int)),(14,lf (.elt .str ci 0)),(15,lf (dS ci)),(16,lI (i:Int)),(17,lI ((i:Int)+1))],[(0,some (.box 59 [.dat (.sl 145 (.pr .str .int)) c.1, .dat (.sl 9 .str) c.2.1, .dat (.sl 179 (.pr .int (.pr .int (.pr .bool .int)))) c.2.2])),(3,some (.arr 106 (.sl 3 .int) out))]⟩) ⟨(i:Int)+1,YP c (fun _ _=>true) i,rfl,(by omega),(by rw[show ((i:Int)+1).toNat=i+1 by omega,QbW,List.append_nil]),rfl⟩ ?_ ?_
  · exact Wk.of [(0,0),(3,2)] rfl ⟨rfl,rfl,rfl,rfl,rfl,rfl,rfl,rfl,rfl,rfl,rfl,rfl,rfl,rfl,rfl,trivial⟩ ⟨rfl,(Qy (by first | rfl | simp)),trivial⟩ rfl rfl
  rintro m_ s_ ⟨m,out,hm8,hm,hO1,rfl⟩
  have hol:out.length≤100000:=by rw[hO1,List.length_append]; have:=Qb7 (c:=c) (f:=fun _ _=>true) (i:=i) (k:=m.toNat); have:=hal (by omega); omega
  iterate 5 refine w_ ?_
  refine AL.fact (Qq (x:= .tmp 20) (Qa rfl)) fun hl9=> ?_
  iterate 3 refine w_ ?_
  cases hb10:(decide (m < (c.2.1.length:Int)))
  ·have hb10':=of_decide_eq_false hb10
   refine w_ ?_
   refine QB ?_
   refine (?_:AC _ _ _ _ _)
   iterate 3 refine w_ ?_
   refine Qk<|QU ⟨i+1,by omega,rfl,rfl⟩ (by omega) ?_
   exact Wk.of [(0,0),(2,3)] rfl ⟨rfl,rfl,rfl,rfl,rfl,rfl,trivial⟩ ⟨rfl,(Qy ((by rw[hO1]; exact QnV (by omega) (by omega)))),trivial⟩ rfl rfl
  ·have hb10':=of_decide_eq_true hb10
   iterate 8 refine w_ ?_
   obtain ⟨cm,hx12⟩:∃z,c.2.1[(m).toNat]? =some z:=⟨_,List.getElem?_eq_getElem (by omega)⟩
   have hcm:=hx12
   refine lc (Qh (Qa rfl) (Qa rfl) Zi Ze rfl (by omega) hx12) ?_
   iterate 4 refine w_ ?_
   cases hb13:(decide (cm=ci))
   ·have hb13':=of_decide_eq_false hb13
    refine w_ ?_
    refine AC.skip ?_
    refine (?_:AC _ _ _ _ _)
    iterate 4 refine w_ ?_
    refine Qk<|QU ⟨(m+1),out,rfl,(by omega),(by rw[hO1]; first | exact QnY (by omega) hcm hci (Eq.symm (by assumption)) | exact QpH (by omega) hcm hci (fun h=>absurd h.symm (by assumption))),rfl⟩ (by omega) ?_
    exact Wk.of [(0,0),(3,3)] rfl ⟨rfl,rfl,rfl,rfl,rfl,rfl,rfl,rfl,rfl,rfl,rfl,rfl,rfl,rfl,rfl,trivial⟩ ⟨rfl,rfl,trivial⟩ rfl rfl
   ·have hb13':=of_decide_eq_true hb13
    iterate 5 refine w_ ?_
    refine lc (Qg 4 (e:= .int) QE QO Yf rfl ⟨_,_,rfl,(Qb rfl),⟨_,_,rfl,(Qb rfl),rfl⟩⟩ (List.all_eq_true.1 rfl) ⟨_,_,_,_,rfl,⟨rfl,rfl⟩,⟨_,_,_,_,rfl,⟨rfl,rfl⟩,⟨rfl,rfl⟩,rfl⟩,rfl⟩ (by decide) rfl rfl (Fresh.of rfl) (nlr rfl))<|lc (Qg 5 (e:=(.sl 3 .int)) Q1 QI Z9 rfl ⟨_,_,rfl,(Qb rfl),rfl⟩ (List.all_eq_true.1 rfl) ⟨_,_,_,_,rfl,(.inl ⟨_,rfl,rfl,rfl⟩),⟨rfl,rfl⟩,rfl⟩ (by decide) rfl rfl (Fresh.of rfl) (nlr rfl))<|lc (QQ 6 (Qa rfl) rfl (Qa rfl) rfl rfl Q1 Y5 (by first | omega | (simp only[List.length_append,List.length_map,List.length_take,List.length_cons,List.length_nil]; omega) | (simp only[List.length_append,List.length_drop,List.length_take,List.length_cons,List.length_nil]; omega)) rfl (Fresh.of rfl) (nlr rfl)) ?_
    refine w_ ?_
    refine Qk ?_
    refine (?_:AC _ _ _ _ _)
    iterate 4 refine w_ ?_
    refine Qk<|QU ⟨(m+1),(out++([[(i:Int),m]])),rfl,(by omega),(by rw[hO1]; first | exact QnY (by omega) hcm hci (Eq.symm (by assumption)) | exact QpH (by omega) hcm hci (fun h=>absurd h.symm (by assumption))),rfl⟩ (by omega) ?_
    exact Wk.of [(0,0),(3,6)] rfl ⟨rfl,rfl,rfl,rfl,rfl,rfl,rfl,rfl,rfl,rfl,rfl,rfl,rfl,rfl,rfl,trivial⟩ ⟨rfl,(Qy (by first | rfl | simp)),trivial⟩ rfl rfl
theorem nbt {b:Bool}(h:b=false):(!b)=true:=by rw[h]; rfl
theorem nbf {b:Bool}(h:b=true):(!b)=false:=by rw[h]; rfl
theorem Qnx {masks pair:List Int}{p0 p1 m0 m1 sig:Int}(hp0:pair[0]? =some p0)(hp1:pair[1]? =some p1)(hm0:masks[p0.toNat]? =some m0)(hm1:masks[p1.toNat]? =some m1):
    (!((decide ((((m0 / 2 ^ (2*sig).toNat).toNat &&& (3:Int).toNat:Nat):Int)=0))==(decide ((((m1 / 2 ^ (2*sig).toNat).toNat &&& (3:Int).toNat:Nat):Int)=0))))=XL masks pair sig:=by
  unfold XL
  rw[Qbe (x:=0) (by simpa using hp0),Qbe (x:=1) (by simpa using hp1),Qbe hm0,Qbe hm1]
  rfl
theorem U6 (sig:Int)(masks:List Int)(pair:List Int)(hm:∀x∈masks,0≤x)(hp:2≤pair.length∧∀x∈pair,0≤x∧x < (masks.length:Int))(hs:0≤sig∧sig≤7):FC Tryz.prog 146 [(false,[dI sig]),(false,[.ptr 0 0]),(false,[.ptr 1 0])] [(0,some (.box 106 [.dat (.sl 3 .int) masks])),(1,some (.box 106 [.dat (.sl 3 .int) pair]))] 2 (Is (lB (XL masks pair sig)) [(0,some (.box 106 [.dat (.sl 3 .int) masks])),(1,some (.box 106 [.dat (.sl 3 .int) pair]))]):=by
 refine QN Tryz.func146 rfl rfl Tryz.ntmps146 fun O_ hO w0_ N0_ X_ h0_ f0_=> ?_
 refine AC.fact (QA (x:= .tmp 0) (Qa rfl)) fun hi1=> ?_
 iterate 3 refine w_ ?_
 obtain ⟨p0,hx3⟩:∃z,pair[0]? =some z:=⟨_,List.getElem?_eq_getElem (by omega)⟩
 have hp0:=hx3
 have hrp0:=hp.2 _ (List.mem_of_getElem? hx3)
 obtain ⟨m0,hx5⟩:∃z,masks[(p0).toNat]? =some z:=⟨_,List.getElem?_eq_getElem (by omega)⟩
 have hm0:=hx5
 have hnm0:=hm _ (List.mem_of_getElem? hx5)
 obtain ⟨p1,hx7⟩:∃z,pair[1]? =some z:=⟨_,List.getElem?_eq_getElem (by omega)⟩
 have hp1:=hx7
 have hrp1:=hp.2 _ (List.mem_of_getElem? hx7)
 obtain ⟨m1,hx9⟩:∃z,masks[(p1).toNat]? =some z:=⟨_,List.getElem?_eq_getElem (by omega)⟩
 have hm1:=hx9
 have hnm1:=hm _ (List.mem_of_getElem? hx9)
 refine dw [io 5 (lf (.dat (.sl 3 .int) masks)),io 6 (lf (.dat (.sl 3 .int) pair)),io 7 (lf (.elt .int p0 0)),io 8 (lI p0),io 9 (lf (.elt .int m0 0)),io 10 (lI m0),io 11 (lI sig),io 12 (lI (2*sig)),io 13 (lI (m0 / 2 ^ (2*sig).toNat)),io 14 (lI (((m0 / 2 ^ (2*sig).toNat).toNat &&& (3:Int).toNat:Nat):Int)),io 15 (lB (decide ((((m0 / 2 ^ (2*sig).toNat).toNat &&& (3:Int).toNat:Nat):Int)=0))),io 16 (lf (.dat (.sl 3 .int) masks)),io 17 (lf (.dat (.sl 3 .int) pair)),io 18 (lf (.elt .int p1 0)),io 19 (lI p1),io 20 (lf (.elt .int m1 0)),io 21 (lI m1),io 22 (lI sig),io 23 (lI (2*sig)),io 24 (lI (m1 / 2 ^ (2*sig).toNat)),io 25 (lI (((m1 / 2 ^ (2*sig).toNat).toNat &&& (3:Int).toNat:Nat):Int)),io 26 (lB (decide ((((m1 / 2 ^ (2*sig).toNat).toNat &&& (3:Int).toNat:Nat):Int)=0))),io 27 (lB (!((decide ((((m0 / 2 ^ (2*sig).toNat).toNat &&& (3:Int).toNat:Nat):Int)=0))==(decide ((((m1 / 2 ^ (2*sig).toNat).toNat &&& (3:Int).toNat:Nat):Int)=0))))),io 4 (lB (!((decide ((((m0 / 2 ^ (2*sig).toNat).toNat &&& (3:Int).toNat:Nat):Int)=0))==(decide ((((m1 / 2 ^ (2*sig).toNat).toNat &&& (3:Int).toNat:Nat):Int)=0)))))] [0,0,2,6,15,31,0,64,255,511,1023,0,0,4096,12288,30720,63488,0,131072,522240,1046528,2095104,4194303,8388607] mixed rfl (by kernel_rfl) ⟨dxl QI rfl rfl rfl rfl rfl,dxl QI rfl rfl rfl rfl rfl,fun _ h_=>ac (Qh (h_.v rfl) (QM rfl) QE QO rfl (by omega) hx3) rfl,fun _ h_=>ac (Q0 (h_.v rfl) QO rfl rfl) rfl,fun _ h_=>ac (Qh (h_.v rfl) (h_.v rfl) QE QO rfl (by omega) hx5) rfl,fun _ h_=>ac (Q0 (h_.v rfl) QO rfl rfl) rfl,dxm rfl rfl,fun _ h_=>ac (HU (QM rfl) (h_.v rfl) rfl (by omega)) rfl,fun _ h_=>ac (Qgg (h_.v rfl) (h_.v rfl) rfl (by omega) (by first | omega | exact Int.ediv_nonneg (by omega) (Int.pow_nonneg (by decide)))) rfl,fun _ h_=>ac (QgA (h_.v rfl) (QM rfl) rfl (by first | omega | exact Int.ediv_nonneg (by omega) (Int.pow_nonneg (by decide))) (by omega)) rfl,fun _ h_=>ac (Qb0 (h_.v rfl) (QM rfl) rfl) rfl,dxl QI rfl rfl rfl rfl rfl,dxl QI rfl rfl rfl rfl rfl,fun _ h_=>ac (Qh (h_.v rfl) (QM rfl) QE QO rfl (by omega) hx7) rfl,fun _ h_=>ac (Q0 (h_.v rfl) QO rfl rfl) rfl,fun _ h_=>ac (Qh (h_.v rfl) (h_.v rfl) QE QO rfl (by omega) hx9) rfl,fun _ h_=>ac (Q0 (h_.v rfl) QO rfl rfl) rfl,dxm rfl rfl,fun _ h_=>ac (HU (QM rfl) (h_.v rfl) rfl (by omega)) rfl,fun _ h_=>ac (Qgg (h_.v rfl) (h_.v rfl) rfl (by omega) (by first | omega | exact Int.ediv_nonneg (by omega) (Int.pow_nonneg (by decide)))) rfl,fun _ h_=>ac (QgA (h_.v rfl) (QM rfl) rfl (by first | omega | exact Int.ediv_nonneg (by omega) (Int.pow_nonneg (by decide))) (by omega)) rfl,fun _ h_=>ac (Qb0 (h_.v rfl) (QM rfl) rfl) rfl,fun _ h_=>ac (Qae (h_.v rfl) (h_.v rfl) rfl QgP) rfl,dxt rfl rfl,⟨⟩⟩<|Qf ?_
 subst hO
 have e10:(!((decide ((((m0 / 2 ^ (2*sig).toNat).toNat &&& (3:Int).toNat:Nat):Int)=0))==(decide ((((m1 / 2 ^ (2*sig).toNat).toNat &&& (3:Int).toNat:Nat):Int)=0))):Bool)=(XL masks pair sig):=by
  exact Qnx hp0 hp1 hm0 hm1
 exact QF _ _ [(0,0),(1,1)] (Qm rfl (Qd rfl)) ((congrArg (fun z_=>lB z_) e10)) ⟨rfl,rfl,trivial⟩ rfl rfl
theorem Kh (l:List Int)(masks:List Int)(pair:List Int)(hm:∀x∈masks,0≤x)(hp:2≤pair.length∧∀x∈pair,0≤x∧x < (masks.length:Int))(ho:∀s∈l,0≤s∧s≤7):FC Tryz.prog 218 [(false,[.dat (.sl 3 .int) l]),(false,[.clo 146 [0,1]])] [(0,some (.box 106 [.dat (.sl 3 .int) masks])),(1,some (.box 106 [.dat (.sl 3 .int) pair]))] 2 (Is (lI (ZH (fun s=>XL masks pair s) l)) [(0,some (.box 106 [.dat (.sl 3 .int) masks])),(1,some (.box 106 [.dat (.sl 3 .int) pair]))]):=by
 refine QN Tryz.func218 rfl rfl Tryz.ntmps218 fun O_ hO w0_ N0_ X_ h0_ f0_=> ?_
 iterate 6 refine w_ ?_
 refine AL.fact (Qq (x:= .tmp 6) (Qa rfl)) fun hl1=> ?_
 iterate 4 refine w_ ?_
 refine Qx (fun m_ s_=>∃(k:Nat),k≤l.length∧m_=l.length - k∧(NoneTo (fun s=>XL masks pair s) l k)∧s_=⟨[(0,lf (.dat (.sl 3 .int) l)),(1,lf (.clo 146 [0,1])),(7,lI (l.length:Int)),(8,lI (k:Int))],[(0,some (.box 106 [.dat (.sl 3 .int) masks])),(1,some (.box 106 [.dat (.sl 3 .int) pair]))]⟩) ⟨0,Nat.zero_le _,rfl,NoneTo.zero,rfl⟩ ?_ ?_
 · exact Wk.of [(0,0),(1,1)] rfl ⟨rfl,rfl,rfl,rfl,trivial⟩ ⟨rfl,rfl,trivial⟩ rfl rfl
 rintro m_ s_ ⟨k,hk2,hm3,hno,rfl⟩
 iterate 4 refine w_ ?_
 cases hb4:(decide ((k:Int) < (l.length:Int)))
 ·have hb4':=of_decide_eq_false hb4
  refine w_ ?_
  refine QB ?_
  refine (?_:AC _ _ _ _ _)
  iterate 3 refine w_ ?_
  refine Qf ?_
  subst hO
  have e5:((-1):Int)=(ZH (fun s=>XL masks pair s) l):=by
   first | exact (hno.no (by omega)).symm
  exact QF _ _ [(0,0),(1,1)] (Qm rfl (Qd rfl)) ((congrArg (fun z_=>lI z_) e5)) ⟨rfl,rfl,trivial⟩ rfl rfl
 ·have hb4':=of_decide_eq_true hb4
  iterate 12 refine w_ ?_
  obtain ⟨x6,hx7⟩:∃z,l[k]? =some z:=⟨_,List.getElem?_eq_getElem (by omega)⟩
  refine lc (Qh (Qa rfl) (Qa rfl) QE QO rfl (by omega) hx7) ?_
  refine w_ ?_
  refine AL.fact (QA (x:= .tmp 15) (Qa rfl)) fun hi8=>lc (Xi (args0:=[(false,[dI x6])]) (caps:=[0,1]) 2 [(0,0),(1,1)] (U6 x6 masks pair hm hp (ho _ (List.mem_of_getElem? hx7))) QhQ rfl (Qa rfl) rfl rfl ⟨_,_,rfl,(Qb rfl),rfl⟩ ⟨rfl,rfl,trivial⟩ rfl ⟨trivial,trivial,trivial⟩ (nlr rfl)) ?_
  refine w_ ?_
  cases hb9:(XL masks pair x6)
  ·refine w_ ?_
   refine AC.skip ?_
   refine (?_:AC _ _ _ _ _)
   iterate 3 refine w_ ?_
   refine Qk<|QU ⟨k+1,by omega,rfl,hno.step hx7 (by assumption),rfl⟩ (by omega) ?_
   exact Wk.of [(0,0),(1,1)] rfl ⟨rfl,rfl,rfl,rfl,trivial⟩ ⟨rfl,rfl,trivial⟩ rfl rfl
  ·iterate 5 refine w_ ?_
   refine Qf ?_
   subst hO
   have e10:((k:Int):Int)=(ZH (fun s=>XL masks pair s) l):=by
    exact (hno.at hx7 (by assumption)).symm
   exact QF _ _ [(0,0),(1,1)] (Qm rfl (Qd rfl)) ((congrArg (fun z_=>lI z_) e10)) ⟨rfl,rfl,trivial⟩ rfl rfl
theorem Ur (l:List Int)(masks:List Int)(pair:List Int)(hm:∀x∈masks,0≤x)(hp:2≤pair.length∧∀x∈pair,0≤x∧x < (masks.length:Int))(ho:∀s∈l,0≤s∧s≤7):FC Tryz.prog 145 [(false,[.dat (.sl 3 .int) l]),(false,[.clo 146 [0,1]])] [(0,some (.box 106 [.dat (.sl 3 .int) masks])),(1,some (.box 106 [.dat (.sl 3 .int) pair]))] 2 (Is (lB (l.any (fun s=>XL masks pair s))) [(0,some (.box 106 [.dat (.sl 3 .int) masks])),(1,some (.box 106 [.dat (.sl 3 .int) pair]))]):=by
 refine QN Tryz.func145 rfl rfl Tryz.ntmps145 fun O_ hO w0_ N0_ X_ h0_ f0_=> ?_
 iterate 6 refine w_ ?_
 refine lc (Za 2 [(0,0),(1,1)] (Kh l masks pair hm hp ho) JJ ⟨_,_,rfl,(Qb rfl),⟨_,_,rfl,(Qb rfl),rfl⟩⟩ ⟨rfl,rfl,trivial⟩ rfl ⟨trivial,trivial,trivial⟩ (nlr rfl)) ?_
 iterate 3 refine w_ ?_
 refine Qf ?_
 subst hO
 have e1:(decide (0≤(ZH (fun s=>XL masks pair s) l)):Bool)=(l.any (fun s=>XL masks pair s)):=by
  exact W6 _ _
 exact QF _ _ [(0,0),(1,1)] (Qm rfl (Qd rfl)) ((congrArg (fun z_=>lB z_) e1)) ⟨rfl,rfl,trivial⟩ rfl rfl
theorem WA (pair:List Int)(own_:List Int)(masks:List Int)(hm:∀x∈masks,0≤x)(hp:2≤pair.length∧∀x∈pair,0≤x∧x < (masks.length:Int))(ho:∀s∈own_,0≤s∧s≤7):FC Tryz.prog 144 [(false,[.dat (.sl 3 .int) pair]),(false,[.ptr 0 0]),(false,[.ptr 1 0])] [(0,some (.box 106 [.dat (.sl 3 .int) own_])),(1,some (.box 106 [.dat (.sl 3 .int) masks]))] 2 (Is (lB (!(own_.any (fun s=>XL masks pair s)))) [(0,some (.box 106 [.dat (.sl 3 .int) own_])),(1,some (.box 106 [.dat (.sl 3 .int) masks]))]):=by
 refine QN Tryz.func144 rfl rfl Tryz.ntmps144 fun O_ hO w0_ N0_ X_ h0_ f0_=> ?_
 refine w_ ?_
 refine lc (Qw 2 (Qb rfl) rfl rfl (Fresh.of rfl) (nlr rfl)) ?_
 iterate 4 refine w_ ?_
 refine lc (YB ⟨_,_,rfl,(Qa rfl),rfl,⟨_,_,rfl,(Qa rfl),rfl,rfl⟩⟩ rfl)<|lc (Za 3 [(0,1),(1,2)] (Ur own_ masks pair hm hp ho) JT ⟨_,_,rfl,(Qb rfl),⟨_,_,rfl,(Qb rfl),rfl⟩⟩ ⟨rfl,rfl,trivial⟩ rfl ⟨trivial,trivial,trivial⟩ (nlr rfl)) ?_
 iterate 3 refine w_ ?_
 refine Qf ?_
 subst hO
 exact QF _ _ [(0,0),(1,1)] (Qm rfl (Qd rfl)) (rfl) ⟨rfl,rfl,trivial⟩ rfl rfl
theorem JW (l:List Hdr)(vs_:List Hdr)(gF:Hdr→List Int)(own_:List Int)(masks:List Int)(hm:∀x∈masks,0≤x)(hv:∀v∈vs_,2≤(gF v).length∧∀x∈gF v,0≤x∧x < (masks.length:Int))(ho:∀s∈own_,0≤s∧s≤7)(hvs:∀v∈l,v∈vs_)(hl:l.length≤1000000):FC Tryz.prog 217 [(false,[.ref 3]),(false,[.clo 144 [0,1]])] [(0,some (.box 106 [.dat (.sl 3 .int) own_])),(1,some (.box 106 [.dat (.sl 3 .int) masks])),(2,some (.pl false (.sl 3 .int) vs_ gF)),(3,some (.arr 106 .vl l))] 4 (Is (lI (ZH (fun v:Hdr=> !(own_.any (fun s=>XL masks (gF v) s))) l)) [(0,some (.box 106 [.dat (.sl 3 .int) own_])),(1,some (.box 106 [.dat (.sl 3 .int) masks])),(2,some (.pl false (.sl 3 .int) vs_ gF)),(3,some (.arr 106 .vl l))]):=by
 refine QN Tryz.func217 rfl rfl Tryz.ntmps217 fun O_ hO w0_ N0_ X_ h0_ f0_=> ?_
 iterate 10 refine w_ ?_
 refine Qx (fun m_ s_=>∃(k:Nat),k≤l.length∧m_=l.length - k∧(NoneTo (fun v:Hdr=> !(own_.any (fun s=>XL masks (gF v) s))) l k)∧s_=⟨[(0,lR 3),(1,lf (.clo 144 [0,1])),(7,lI (l.length:Int)),(8,lI (k:Int))],[(0,some (.box 106 [.dat (.sl 3 .int) own_])),(1,some (.box 106 [.dat (.sl 3 .int) masks])),(2,some (.pl false (.sl 3 .int) vs_ gF)),(3,some (.arr 106 .vl l))]⟩) ⟨0,Nat.zero_le _,rfl,NoneTo.zero,rfl⟩ ?_ ?_
 · exact Wk.of [(0,0),(1,1),(2,2),(3,3)] rfl ⟨rfl,rfl,rfl,rfl,trivial⟩ ⟨rfl,rfl,rfl,rfl,trivial⟩ rfl rfl
 rintro m_ s_ ⟨k,hk1,hm2,hno,rfl⟩
 iterate 4 refine w_ ?_
 cases hb3:(decide ((k:Int) < (l.length:Int)))
 ·have hb3':=of_decide_eq_false hb3
  refine w_ ?_
  refine QB ?_
  refine (?_:AC _ _ _ _ _)
  iterate 3 refine w_ ?_
  refine Qf ?_
  subst hO
  have e4:((-1):Int)=(ZH (fun v:Hdr=> !(own_.any (fun s=>XL masks (gF v) s))) l):=by
   first | exact (hno.no (by omega)).symm
  exact QF _ _ [(0,0),(1,1),(2,2),(3,3)] (Qm rfl (Qd rfl)) ((congrArg (fun z_=>lI z_) e4)) ⟨rfl,rfl,rfl,rfl,trivial⟩ rfl rfl
 ·have hb3':=of_decide_eq_true hb3
  iterate 12 refine w_ ?_
  refine lc (Qu (e:= .vl) (Qa rfl) rfl (Qa rfl) Q1 QI rfl (by omega) (by first | omega | (simp only[List.length_set]; omega))) ?_
  obtain ⟨x5,hx6⟩:∃z,l[k]? =some z:=⟨_,List.getElem?_eq_getElem (by omega)⟩
  refine lc (QL (e:= .vl) (Qa rfl) rfl hx6 rfl QI rfl rfl)<|lc (Xi (args0:=[(false,[.dat (.sl 3 .int) (gF x5)])]) (caps:=[0,1]) 4 [(0,0),(1,1)] (WA (gF x5) own_ masks hm (hv _ (hvs _ (List.mem_of_getElem? hx6))) ho) Qc7 rfl (Qa rfl) rfl rfl ⟨_,_,rfl,(Evl.ev (QkY (p:=2) (Qa rfl) rfl (hvs _ (List.mem_of_getElem? hx6)))),rfl⟩ ⟨rfl,rfl,trivial⟩ rfl ⟨trivial,trivial,trivial⟩ (nlr rfl)) ?_
  refine w_ ?_
  cases hb7:(own_.any (fun s=>XL masks (gF x5) s))
  ·iterate 5 refine w_ ?_
   refine Qf ?_
   subst hO
   have e8:((k:Int):Int)=(ZH (fun v:Hdr=> !(own_.any (fun s=>XL masks (gF v) s))) l):=by
    exact (hno.at hx6 (nbt (by assumption))).symm
   exact QF _ _ [(0,0),(1,1),(2,2),(3,3)] (Qm rfl (Qd rfl)) ((congrArg (fun z_=>lI z_) e8)) ⟨rfl,rfl,rfl,rfl,trivial⟩ rfl rfl
  ·refine w_ ?_
   refine AC.skip ?_
   refine (?_:AC _ _ _ _ _)
   iterate 3 refine w_ ?_
   refine Qk<|QU ⟨k+1,by omega,rfl,hno.step hx6 (nbf (by assumption)),rfl⟩ (by omega) ?_
   exact Wk.of [(0,0),(1,1),(2,2),(3,3)] rfl ⟨rfl,rfl,rfl,rfl,trivial⟩ ⟨rfl,rfl,rfl,rfl,trivial⟩ rfl rfl
theorem Jf (l:List Hdr)(vs_:List Hdr)(gF:Hdr→List Int)(own_:List Int)(masks:List Int)(hm:∀x∈masks,0≤x)(hv:∀v∈vs_,2≤(gF v).length∧∀x∈gF v,0≤x∧x < (masks.length:Int))(ho:∀s∈own_,0≤s∧s≤7)(hvs:∀v∈l,v∈vs_)(hl:l.length≤1000000):FC Tryz.prog 142 [(false,[.ref 3]),(false,[.clo 144 [0,1]])] [(0,some (.box 106 [.dat (.sl 3 .int) own_])),(1,some (.box 106 [.dat (.sl 3 .int) masks])),(2,some (.pl false (.sl 3 .int) vs_ gF)),(3,some (.arr 106 .vl l))] 3 (Is (lR 4) [(0,some (.box 106 [.dat (.sl 3 .int) own_])),(1,some (.box 106 [.dat (.sl 3 .int) masks])),(2,some (.pl false (.sl 3 .int) vs_ gF)),(4,some (.arr 106 .vl (l.filter (fun v:Hdr=> !(!(own_.any (fun s=>XL masks (gF v) s)))))))]):=by
 have hix:=Qme (fun v:Hdr=> !(own_.any (fun s=>XL masks (gF v) s))) l
 refine QN Tryz.func142 rfl rfl Tryz.ntmps142 fun O_ hO w0_ N0_ X_ h0_ f0_=> ?_
 iterate 6 refine w_ ?_
 refine lc (Za 4 [(0,0),(1,1),(2,2),(3,3)] (JW l vs_ gF own_ masks hm hv ho hvs hl) Qhk ⟨_,_,rfl,(Qb rfl),⟨_,_,rfl,(Qb rfl),rfl⟩⟩ ⟨rfl,rfl,rfl,rfl,trivial⟩ rfl ⟨trivial,trivial,trivial,trivial,trivial⟩ (nlr rfl)) ?_
 iterate 7 refine w_ ?_
 cases hb1:(decide ((ZH (fun v:Hdr=> !(own_.any (fun s=>XL masks (gF v) s))) l)=(-1)))
 ·have hb1':=of_decide_eq_false hb1
  iterate 9 refine w_ ?_
  refine Qx (fun m_ s_=>∃(i:Int) (j:Int) (l2:List Hdr),m_=((l2.length:Int) - j).toNat∧(DelI (fun v:Hdr=> !(!(own_.any (fun s=>XL masks (gF v) s)))) l l2 i j)∧s_=⟨[(0,lR 8),(1,lf (.clo 144 [0,1])),(4,lf (.val (.slice none 0 0))),(5,lI i),(6,lI j)],[(0,some (.box 106 [.dat (.sl 3 .int) own_])),(1,some (.box 106 [.dat (.sl 3 .int) masks])),(2,some (.pl false (.sl 3 .int) vs_ gF)),(8,some (.arr 106 .vl l2))]⟩) ⟨ZH (fun v:Hdr=> !(own_.any (fun s=>XL masks (gF v) s))) l,(ZH (fun v:Hdr=> !(own_.any (fun s=>XL masks (gF v) s))) l)+1,l,rfl,(DelI.start (by assumption)),rfl⟩ ?_ ?_
  · exact Wk.of [(0,0),(1,1),(2,2),(8,3)] rfl ⟨rfl,rfl,rfl,rfl,rfl,trivial⟩ ⟨rfl,rfl,rfl,rfl,trivial⟩ rfl rfl
  rintro m_ s_ ⟨i,j,l2,hm3,hD,rfl⟩
  have hDb:=hD.1
  have hDl:=hD.2.1
  iterate 7 refine w_ ?_
  cases hb4:(decide (j < (l2.length:Int)))
  ·have hb4':=of_decide_eq_false hb4
   refine w_ ?_
   refine QB ?_
   refine (?_:AC _ _ _ _ _)
   iterate 3 refine w_ ?_
   refine lc (Ya (e:= .vl) (a:=(i).toNat) (b:=l2.length - (i).toNat) (l:=(some i)) (h:=none) (Qa rfl) rfl (by exact (Qa rfl)) (by exact trivial) Q1 QI rfl (by first | (simp only[Option.getD_none,Option.getD_some]; omega) | omega | (simp only[Option.getD_none,Option.getD_some,List.length_append,List.length_take,List.length_replicate]; omega)) (by first | (simp only[Option.getD_none,Option.getD_some]; omega) | omega | (simp only[Option.getD_none,Option.getD_some,List.length_append,List.length_take,List.length_replicate]; omega)) (by first | (simp only[Option.getD_none,Option.getD_some]; omega) | omega | (simp only[Option.getD_none,Option.getD_some,List.length_append,List.length_take,List.length_replicate]; omega)) (by first | rfl | simp) (by first | rfl | simp))<|lc (QaF (e:= .vl) (Qa rfl) rfl (by omega) Q1 Z9 rfl rfl rfl) ?_
   iterate 4 refine w_ ?_
   refine lc (Ya (e:= .vl) (a:=0) (b:=(i).toNat) (l:=none) (h:=(some i)) (Qa rfl) rfl (by exact trivial) (by exact (Qa rfl)) Q1 QI rfl (by first | (simp only[Option.getD_none,Option.getD_some]; omega) | omega | (simp only[Option.getD_none,Option.getD_some,List.length_append,List.length_take,List.length_replicate]; omega)) (by first | (simp only[Option.getD_none,Option.getD_some]; omega) | omega | (simp only[Option.getD_none,Option.getD_some,List.length_append,List.length_take,List.length_replicate]; omega)) (by first | (simp only[Option.getD_none,Option.getD_some]; omega) | omega | (simp only[Option.getD_none,Option.getD_some,List.length_append,List.length_take,List.length_replicate]; omega)) (by first | rfl | simp) (by first | rfl | simp)) ?_
   iterate 2 refine w_ ?_
   refine AC.wk (QcE 9 4 (e:= .vl) (xs:=l2.take ((i).toNat)++List.replicate (l2.length - (i).toNat) (Ty.zero .vl)) rfl rfl (by first | omega | (simp only[List.length_append,List.length_take,List.length_replicate]; omega)) rfl (Fresh.of rfl) (nlr rfl))<|Qf ?_
   subst hO
   exact QF _ _ [(0,0),(1,1),(2,2),(4,9)] (Qm rfl (Qd rfl)) (rfl) ⟨rfl,rfl,rfl,(Qy (by exact hD.end_ (by assumption) _ (by omega))),trivial⟩ rfl rfl
  ·have hb4':=of_decide_eq_true hb4
   iterate 7 refine w_ ?_
   refine lc (Qu (e:= .vl) (Qa rfl) rfl (Qa rfl) Q1 QI rfl (by omega) (by first | omega | (simp only[List.length_set]; omega))) ?_
   obtain ⟨xj,hx6⟩:∃z,l2[(j).toNat]? =some z:=⟨_,List.getElem?_eq_getElem (by omega)⟩
   have h_xj:=hx6
   refine lc (QL (e:= .vl) (Qa rfl) rfl hx6 rfl QI rfl rfl) ?_
   iterate 5 refine w_ ?_
   refine lc (Xi (args0:=[(false,[.dat (.sl 3 .int) (gF xj)])]) (caps:=[0,1]) 10 [(0,0),(1,1)] (WA (gF xj) own_ masks hm (hv _ (hvs _ (List.mem_of_getElem? (hD.at_ hx6)))) ho) Qc7 rfl (Qa rfl) rfl rfl ⟨_,_,rfl,(Evl.ev (QkY (p:=2) (Qa rfl) rfl (hvs _ (List.mem_of_getElem? (hD.at_ hx6))))),rfl⟩ ⟨rfl,rfl,trivial⟩ rfl ⟨trivial,trivial,trivial⟩ (nlr rfl)) ?_
   iterate 2 refine w_ ?_
   cases hb7:(!(own_.any (fun s=>XL masks (gF xj) s)))
   ·iterate 5 refine w_ ?_
    refine lc (Qu (e:= .vl) (Qa rfl) rfl (Qa rfl) Q1 QI rfl (by omega) (by first | omega | (simp only[List.length_set]; omega))) ?_
    obtain ⟨x8,hx9⟩:∃z,l2[(i).toNat]? =some z:=⟨_,List.getElem?_eq_getElem (by omega)⟩
    have h_x8:=hx9
    refine lc (QX (e:= .vl) (z':=xj) (Qa rfl) rfl hx9 rfl (Qb rfl) rfl QI rfl rfl) ?_
    iterate 5 refine w_ ?_
    refine Qk ?_
    refine (?_:AC _ _ _ _ _)
    iterate 4 refine w_ ?_
    refine Qk<|QU ⟨(i+1),(j+1),(l2.set ((i).toNat) xj),rfl,(by exact hD.keep h_xj (nbt (by assumption))),rfl⟩ (by first | omega | (simp only[List.length_set]; omega)) ?_
    exact Wk.of [(0,0),(1,1),(2,2),(8,8)] rfl ⟨rfl,rfl,rfl,rfl,rfl,trivial⟩ ⟨rfl,rfl,rfl,(Qy (by first | rfl | simp)),trivial⟩ rfl rfl
   ·refine w_ ?_
    refine AC.skip ?_
    refine (?_:AC _ _ _ _ _)
    iterate 4 refine w_ ?_
    refine Qk<|QU ⟨i,(j+1),l2,rfl,(by exact hD.drop_ h_xj (nbf (by assumption))),rfl⟩ (by first | omega | (simp only[List.length_set]; omega)) ?_
    exact Wk.of [(0,0),(1,1),(2,2),(8,8)] rfl ⟨rfl,rfl,rfl,rfl,rfl,trivial⟩ ⟨rfl,rfl,rfl,rfl,trivial⟩ rfl rfl
 ·have hb1':=of_decide_eq_true hb1
  iterate 5 refine w_ ?_
  refine Qf ?_
  subst hO
  exact QF _ _ [(0,0),(1,1),(2,2),(4,3)] (Qm rfl (Qd rfl)) (rfl) ⟨rfl,rfl,rfl,(Qy (by exact QfH (by assumption))),trivial⟩ rfl rfl
theorem HT (c:(List (ByteArray×Int))×List ByteArray×(List (Int×Int×Bool×Int)))(hs:SgW c):FC Tryz.prog 77 [(true,[.dat (.sl 145 (.pr .str .int)) c.1, .dat (.sl 9 .str) c.2.1, .dat (.sl 179 (.pr .int (.pr .int (.pr .bool .int)))) c.2.2])] [] 0 (Zq (lf (.dat (.sl 106 (.sl 3 .int)) (W7 c)))):=by
 have hr:∀a∈c.2.2,InR c.2.1.length a:=fun a ha=>(hs.arcs a ha).1
 have hn3:=hs.some_
 have hfw:=hs.few
 have hs8:=hs.sig8
 have hmn:=Qe9 (n:=c.2.1.length) (as_:=c.2.2)
 have hml:=QcR (n:=c.2.1.length) (as_:=c.2.2)
 have hou:∀s∈Yk c.1 c.1.length,0≤s∧s≤7:=fun s h=>by obtain ⟨t,rfl,h1,_⟩:=K6.1 h; omega
 have hal:=Qb8 (c:=c) (f:=fun _ _=>true) (i:=c.2.1.length) (by omega) (Nat.le_refl _)
 refine QN Tryz.func77 rfl rfl Tryz.ntmps77 fun O_ hO w0_ N0_ X_ h0_ f0_=> ?_
 refine w_ ?_
 refine lc (Qw 0 (Qb rfl) rfl rfl (Fresh.of rfl) (nlr rfl)) ?_
 iterate 2 refine w_ ?_
 refine dw [io 5 (ag [.dat (.sl 145 (.pr .str .int)) c.1, .dat (.sl 9 .str) c.2.1, .dat (.sl 179 (.pr .int (.pr .int (.pr .bool .int)))) c.2.2]),io 6 (lf (.dat (.sl 3 .int) (Wi c.2.1.length c.2.2))),io 7 (ag [.dat (.sl 145 (.pr .str .int)) c.1, .dat (.sl 9 .str) c.2.1, .dat (.sl 179 (.pr .int (.pr .int (.pr .bool .int)))) c.2.2]),io 8 (lf (.dat (.sl 3 .int) (Yk c.1 c.1.length))),⟨some 3,lP 1 0,[(1,some (.box 106 [.val (.slice none 0 0)]))]⟩,⟨some 4,lP 2 0,[(2,some (.box 106 [.val (.slice none 0 0)]))]⟩,⟨none,lf (.val undef),[(1,some (.box 106 [.dat (.sl 3 .int) (Wi c.2.1.length c.2.2)]))]⟩,⟨none,lf (.val undef),[(2,some (.box 106 [.dat (.sl 3 .int) (Yk c.1 c.1.length)]))]⟩] [0,1,0,7,0,0,63,127] mixed rfl (by kernel_rfl) ⟨dxa ZA rfl rfl rfl rfl,fun _ h_=>ac (Qn (JS c hs).frozen Qh1 ⟨_,_,rfl,(h_.w rfl),rfl⟩ rfl rfl) rfl,dxa ZA rfl rfl rfl rfl,fun _ h_=>ac (Qn (Qa2 c (by omega)).frozen Qh5 ⟨_,_,rfl,(h_.w rfl),rfl⟩ rfl rfl) rfl,fun _ h_=>ac (Qp 1 (.sl 3 .int) Z9 rfl rfl (h_.fr 1 rfl) (nlr rfl)) rfl,fun _ h_=>ac (Qp 2 (.sl 3 .int) Z9 rfl rfl (h_.fr 2 rfl) (nlr rfl)) rfl,fun _ h_=>ac (Qe (h_.v rfl) (h_.n 1 rfl) (h_.w rfl) rfl QI rfl) rfl,fun _ h_=>ac (Qe (h_.v rfl) (h_.n 2 rfl) (h_.w rfl) rfl QI rfl) rfl,⟨⟩⟩ ?_
 iterate 2 refine w_ ?_
 refine lc (Yq 3 (JB c (by omega)) Qho ⟨_,_,rfl,(Qb rfl),rfl⟩ rfl (Fresh.of rfl) (nlr rfl))<|lc (YB ⟨_,_,rfl,(Qa rfl),rfl,⟨_,_,rfl,(Qa rfl),rfl,rfl⟩⟩ rfl)<|AL.pool (q:=3) (e:= .int) 4 rfl (Fresh.of rfl) (nlr rfl) fun vs1 gf2 hvf3=>lc (Za 5 [(0,2),(1,1),(2,4),(3,3)] (Jf vs1 vs1 gf2 (Yk c.1 c.1.length) (Wi c.2.1.length c.2.2) hmn (fun v hv=>by rw[hml]; exact QlZ (by rw[← hvf3]; exact List.mem_map_of_mem hv) (Nat.le_refl _)) hou (fun _ h=>h) (by have:=congrArg List.length hvf3; rw[List.length_map] at this; omega)) Qij ⟨_,_,rfl,(Qb rfl),⟨_,_,rfl,(Qb rfl),rfl⟩⟩ ⟨rfl,rfl,rfl,rfl,trivial⟩ rfl ⟨trivial,trivial,trivial,(Fresh.of rfl),trivial⟩ (nlr rfl)) ?_
 iterate 2 refine w_ ?_
 refine AC.wk (QmB (i:=2) (q:=9) (p:=4) rfl rfl rfl (fun z hz=>(List.mem_filter.1 hz).1))<|Qf ?_
 subst hO
 have e4:((vs1.filter (fun v:Hdr=> !(!((Yk c.1 c.1.length).any (fun s=>XL (Wi c.2.1.length c.2.2) (gf2 v) s))))).map gf2:((.sl 106 (.sl 3 .int)):Ty).Den)=(W7 c):=by
  exact (QlL hvf3).trans (QmV fun a ha=>(hr a ha).1.1)
 exact Ql (Qm rfl (Qd rfl)) ((congrArg (fun z_=>lf (.dat (.sl 106 (.sl 3 .int)) z_)) e4)) rfl
end Go.Proofs.YtnakmhfjafecpaaGreat
namespace Go.Proofs.YtnakmhfjafecpaaGreat
open Go.RowKit
set_option maxRecDepth 100000
set_option maxHeartbeats 4000000
def Qp3 (c:DSg)(s:ByteArray):Bool:=c.2.2.any fun a=>Qpo s a&&Qqm c a.2.1
def Qpm (f:DAr→Bool)(as_:List DAr)(k:Nat):List Int:=((List.range k).filter fun i=>match as_[i]? with | some a=>f a | none=>false).map fun i=>((i:Nat):Int)
def exL (c:DSg)(q sig:Int)(up:Bool):Bool:=c.2.2.any fun a=>decide (a.1=q∧a.2.1=sig∧a.2.2.1=up)
def QoL (c:DSg)(sig:Int)(up:Bool)(a:DAr):Bool:= !decide (a.2.1=sig)&&(exL c a.1 sig up&& !exL c a.2.2.2 sig up)
def QpS (c:DSg)(sig:Int)(a:DAr):Bool:=QoL c sig false a||QoL c sig true a
abbrev QpK (c:DSg)(sig:Int)(k:Nat):List Int:=Qpm (QpS c sig) c.2.2 k
def QpY (c:DSg)(k:Nat):Int:=((Yk c.1 k).map fun s=>((QpK c s c.2.2.length).length:Int)).sum
def QpB (c:DSg):Int:=QpY c c.1.length
def Qqd (sig:Int)(up:Bool)(l:List Int)(a:DAr):List Int:=if a.2.1=sig∧a.2.2.1=up then Xa ltI a.1 l else l
def exS (sig:Int)(up:Bool)(as_:List DAr):List Int:=as_.foldl (Qqd sig up) []
def Qot (c:DSg)(sig:Int)(up:Bool)(l:List Int)(k:Nat):List Int:=(Qpm (QoL c sig up) c.2.2 k).foldl (fun l i=>Xa ltI i l) l
def QqD (c:DSg)(sig:Int):Nat→List Int
  | 0=>[]
  | 1=>Qot c sig false [] c.2.2.length
  | _=>Qot c sig true (Qot c sig false [] c.2.2.length) c.2.2.length
section
variable {c:DSg}{as_:List DAr}{a:DAr}{i j k n:Nat}{s:ByteArray}{sig q x y:Int}{up:Bool}{l:List Int}{f g:DAr→Bool}
def Qqy (c:DSg)(l:List Int):Int:=(l.map fun s=>((QpK c s c.2.2.length).length:Int)).sum
end
end Go.Proofs.YtnakmhfjafecpaaGreat
