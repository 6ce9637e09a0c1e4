/- Walks over abstract states: masks of labels; pairs of states that violate complete state coding, the program. -/
import Derived.Test.YtnakmhfjafecpaaGreatUd
import Derived.Test.YtnakmhfjafecpaaGreatBp
set_option linter.unusedSimpArgs false
set_option linter.unusedVariables false
set_option linter.unusedSectionVars false
namespace Go.Proofs.YtnakmhfjafecpaaGreat
open Go.RowKit
set_option maxRecDepth 100000
set_option maxHeartbeats 4000000
structure SgW (c:DSg):Prop where
  sig8:c.1.length≤8
  some_:1≤c.2.1.length∧c.2.1.length≤300
  few:c.2.2.length≤4000
  arcs:∀a∈c.2.2,InR c.2.1.length a∧Vk (c.1.length:Int) (a.2.1,a.2.2.1)
theorem SgOk.w {c:DSg}(h:SgOk c):SgW c:=⟨h.sigs.2.2,h.some_,h.few,fun a ha=>⟨XG (h.arcs a ha),(h.arcs a ha).2.2.1⟩⟩
def mkV (l:Int×Bool):Int:=(if l.2=true then 2 else 1)*2 ^ (2*l.1).toNat
def orA (s:List Int)(a:DAr):List Int:=if 0≤a.2.1 then s.set a.1.toNat (((((s[a.1.toNat]?).getD 0).toNat ||| (mkV (a.2.1,a.2.2.1)).toNat:Nat)):Int) else s
def Xr (n:Nat)(as_:List DAr):List Int:=as_.foldl orA (List.replicate n 0)
def mAt (l:List Int)(x:Int):Int:=(l[x.toNat]?).getD 0
def QgH (m:Int)(s:Int):Bool:=decide ((((m / 2 ^ (2*s).toNat).toNat &&& (3:Int).toNat:Nat):Int)=0)
def Wn (masks pair:List Int)(s:Int):Bool:= !(QgH (mAt masks (mAt pair 0)) s==QgH (mAt masks (mAt pair 1)) s)
def VG (c:DSg)(k s:Int):Bool:=c.2.2.any fun a=>decide (a.1=k∧a.2.1=s)
def cdA (c:DSg)(j:Nat):ByteArray:=(c.2.1[j]?).getD ByteArray.empty
def X5 (c:DSg)(f:Nat→Nat→Bool)(i k:Nat):List (List Int):=((List.range k).filter fun j=>decide (i < j)&&(decide (cdA c j=cdA c i)&&f i j)).map fun j:Nat=>[(i:Int),(j:Int)]
def XA (c:DSg)(f:Nat→Nat→Bool)(i:Nat):List (List Int):=(List.range i).flatMap fun i=>X5 c f i c.2.1.length
def HV (c:DSg)(i j:Nat):Bool:=(ZW c.1 c.1.length).any fun s=> !(VG c i s==VG c j s)
def ZQ (c:DSg):List (List Int):=XA c (HV c) c.2.1.length
section
variable {c:DSg}{as_:List DAr}{a:DAr}{i j k n:Nat}{f g:Nat→Nat→Bool}{s x y m:Int}{l masks pair:List Int}{u v:ByteArray}
theorem QmB {m x:Int}(hm:0≤m∧m≤2)(h:0≤x∧x≤14): -9223372036854775808≤m*2 ^ x.toNat∧m*2 ^ x.toNat≤9223372036854775807:=by
  have h1:(2:Int) ^ x.toNat≤2 ^ 14:=by
    have:(2:Nat) ^ x.toNat≤2 ^ 14:=Nat.pow_le_pow_right (by omega) (by omega)
    exact_mod_cast this
  have h2:(0:Int)≤2 ^ x.toNat:=Int.pow_nonneg (by decide)
  have h3:m*2 ^ x.toNat≤2*2 ^ 14:=Int.mul_le_mul hm.2 h1 h2 (by decide)
  have h4:0≤m*2 ^ x.toNat:=Int.mul_nonneg hm.1 h2
  exact ⟨by omega,Int.le_trans h3 (by decide)⟩
theorem Qpk (l:Int×Bool):0≤mkV l:=by
  unfold mkV
  exact Int.mul_nonneg (by split <;> decide) (Int.pow_nonneg (by decide))
theorem QdW:∀(as_:List DAr) (s:List Int),(as_.foldl orA s).length=s.length
  | [],_=>rfl
  | a :: as_,s=>by
    rw[List.foldl_cons,QdW as_]
    unfold orA
    split <;> simp
theorem H9:(Xr n as_).length=n:=by unfold Xr; rw[QdW]; simp
theorem QgT:∀(as_:List DAr) (s:List Int),(∀x∈s,0≤x)→∀x∈as_.foldl orA s,0≤x
  | [],_,h=>h
  | a :: as_,s,h=>by
    rw[List.foldl_cons]
    refine QgT as_ _ ?_
    unfold orA
    split
    · intro x hx
      rcases List.mem_or_eq_of_mem_set hx with hx | rfl
      · exact h x hx
      · exact Int.natCast_nonneg _
    · exact h
theorem HB:∀x∈Xr n as_,0≤x:=QgT as_ _ (by simp)
theorem Qkc (hx:as_[k]? =some a)(h:0≤a.2.1)(hy:(Xr n (as_.take k))[a.1.toNat]? =some y):(Xr n (as_.take k)).set a.1.toNat (((y.toNat ||| (mkV (a.2.1,a.2.2.1)).toNat:Nat)):Int)=Xr n (as_.take (k+1)):=by
  unfold Xr at*
  rw[Za hx,List.foldl_append,List.foldl_cons,List.foldl_nil]
  unfold orA
  rw[if_pos h]
  unfold orA at hy
  rw[hy]; rfl
theorem Qm1 (hx:as_[k]? =some a)(h:¬0≤a.2.1):Xr n (as_.take k)=Xr n (as_.take (k+1)):=by
  unfold Xr
  rw[Za hx,List.foldl_append,List.foldl_cons,List.foldl_nil,orA,if_neg h]
theorem KW (h:l[x.toNat]? =some y):mAt l x=y:=by unfold mAt; rw[h]; rfl
theorem Qcd:X5 c f i (i+1)=[]:=by
  unfold X5
  rw[List.map_eq_nil_iff,List.filter_eq_nil_iff]
  intro j hj
  rw[List.mem_range] at hj
  simp; intro h; omega
theorem Qmw (h:i < k)(hu:c.2.1[k]? =some u)(hv:c.2.1[i]? =some v)(e:u=v)(hf:f i k=true):X5 c f i k++[[(i:Int),(k:Int)]]=X5 c f i (k+1):=by
  unfold X5
  rw[List.range_succ,List.filter_append,List.map_append]
  simp[h,cdA,hu,hv,e,hf]
theorem QjM (h:¬(cdA c k=cdA c i∧f i k=true)):X5 c f i k=X5 c f i (k+1):=by
  unfold X5
  rw[List.range_succ,List.filter_append,List.map_append]
  have:(decide (i < k)&&(decide (cdA c k=cdA c i)&&f i k))=false:=by
    cases hd:decide (cdA c k=cdA c i)&&f i k with
    | false=>simp
    | true=>simp only[Bool.and_eq_true,decide_eq_true_eq] at hd; exact absurd hd h
  simp[this]
theorem QjH (h:c.2.1[k]? =some u):cdA c k=u:=by unfold cdA; rw[h]; rfl
theorem Vn:XA c f i++X5 c f i c.2.1.length=XA c f (i+1):=by
  unfold XA
  rw[List.range_succ,List.flatMap_append]; simp
theorem Qc4:(X5 c f i k).length≤k:=by unfold X5; rw[List.length_map]; exact Nat.le_trans (List.length_filter_le ..) (by simp)
theorem Qln:(XA c f i).length≤i*c.2.1.length:=by
  induction i with
  | zero=>simp[XA]
  | succ i ih=>
    rw[← Vn,List.length_append,Nat.succ_mul]
    have:=Qc4 (c:=c) (f:=f) (i:=i) (k:=c.2.1.length)
    omega
theorem Qcj (hn:c.2.1.length≤300)(hi:i≤c.2.1.length):(XA c f i).length≤90000:=by
  have h1:=Qln (c:=c) (f:=f) (i:=i)
  have h2:i*c.2.1.length≤300*300:=Nat.mul_le_mul (by omega) hn
  omega
theorem Qlz {p:List Int}(h:p∈X5 c f i k):∃j:Nat,j < k∧i < j∧p=[(i:Int),(j:Int)]:=by
  unfold X5 at h
  obtain ⟨j,hj,rfl⟩:=List.mem_map.1 h
  rw[List.mem_filter,List.mem_range] at hj
  simp only[Bool.and_eq_true,decide_eq_true_eq] at hj
  exact ⟨j,hj.1,hj.2.1,rfl⟩
theorem QlV {p:List Int}(h:p∈XA c f n)(hn:n≤c.2.1.length):2≤p.length∧∀x∈p,0≤x∧x < (c.2.1.length:Int):=by
  unfold XA at h
  obtain ⟨i,hi,h⟩:=List.mem_flatMap.1 h
  rw[List.mem_range] at hi
  obtain ⟨j,h1,h2,rfl⟩:=Qlz h
  refine ⟨by simp,fun x hx=> ?_⟩
  simp only[List.mem_cons,List.not_mem_nil,or_false] at hx
  rcases hx with rfl | rfl <;> omega
theorem QfM (q:List Int→Bool):(X5 c f i k).filter q=X5 c (fun i j=>f i j&&q [(i:Int),(j:Int)]) i k:=by
  unfold X5
  rw[List.filter_map,List.filter_filter]
  congr 1
  apply List.filter_congr
  intro j _
  simp only[Function.comp]
  cases decide (i < j) <;> cases decide (cdA c j=cdA c i) <;> cases f i j <;> simp
theorem Qgo (q:List Int→Bool):(XA c f n).filter q=XA c (fun i j=>f i j&&q [(i:Int),(j:Int)]) n:=by
  induction n with
  | zero=>rfl
  | succ n ih=>rw[← Vn,← Vn,List.filter_append,ih,QfM]
theorem QiI (h:∀i j,i < n→j < c.2.1.length→f i j=g i j):XA c f n=XA c g n:=by
  induction n with
  | zero=>rfl
  | succ n ih=>
    rw[← Vn,← Vn,ih fun i j hi hj=>h i j (by omega) hj]
    congr 1
    unfold X5
    congr 1
    apply List.filter_congr
    intro j hj
    rw[List.mem_range] at hj
    rw[h n j (by omega) hj]
theorem QgM (b:Nat):Nat.testBit 3 b=decide (b < 2):=by
  match b with
  | 0=>rfl
  | 1=>rfl
  | b+2=>
    rw[show (3:Nat)=2 ^ 2 - 1 from rfl,Nat.testBit_two_pow_sub_one]
theorem QpM (m t:Nat):((m / 2 ^ t) &&& 3=0)↔(m.testBit t=false∧m.testBit (t+1)=false):=by
  rw[← Nat.shiftRight_eq_div_pow]
  constructor
  · intro h
    have h0:=congrArg (fun z=>Nat.testBit z 0) h
    have h1:=congrArg (fun z=>Nat.testBit z 1) h
    simp only[Nat.testBit_and,Nat.testBit_shiftRight,QgM,Nat.zero_testBit,Nat.add_zero] at h0 h1
    simpa using And.intro h0 h1
  · rintro ⟨h0, h1⟩
    apply Nat.eq_of_testBit_eq
    intro b
    rw[Nat.testBit_and,Nat.testBit_shiftRight,QgM,Nat.zero_testBit]
    match b with
    | 0=>simp[h0]
    | 1=>simp[h1]
    | b+2=>simp
theorem QkI (hm:0≤m):QgH m s=true↔(m.toNat.testBit (2*s).toNat=false∧m.toNat.testBit ((2*s).toNat+1)=false):=by
  unfold QgH
  rw[decide_eq_true_eq,← QpM]
  have:(m / 2 ^ (2*s).toNat).toNat=m.toNat / 2 ^ (2*s).toNat:=by
    have e:m / 2 ^ (2*s).toNat=((m.toNat / 2 ^ (2*s).toNat:Nat):Int):=by
      rw[Int.natCast_ediv,Int.toNat_of_nonneg hm,Int.natCast_pow]; rfl
    rw[e]; rfl
  rw[this]
  show (((m.toNat / 2 ^ (2*s).toNat) &&& 3:Nat):Int)=0↔_
  omega
theorem Qod {l:Int×Bool}(h:0≤l.1)(b:Nat):(mkV l).toNat.testBit b=decide (b=(2*l.1).toNat+(if l.2=true then 1 else 0)):=by
  have e:(mkV l).toNat=2 ^ ((2*l.1).toNat+(if l.2=true then 1 else 0)):=by
    unfold mkV
    obtain ⟨x,up⟩:=l
    cases up
    · simp only [Bool.false_eq_true, if_false, Int.one_mul, Nat.add_zero]
      have:((2:Int) ^ (2*x).toNat)=((2 ^ (2*x).toNat:Nat):Int):=by rw[Int.natCast_pow]; rfl
      rw[this]; rfl
    · simp only [if_true]
      have:(2:Int)*2 ^ (2*x).toNat=((2 ^ ((2*x).toNat+1):Nat):Int):=by rw[Int.natCast_pow,Int.pow_succ,Int.mul_comm]; rfl
      rw[this]; rfl
  rw[e,Nat.testBit_two_pow]
  by_cases hb:b=(2*l.1).toNat+(if l.2=true then 1 else 0)
  · simp[hb]
  · simp[hb,Ne.symm hb]
theorem QaZ:∀(as_:List DAr) (s0:List Int) (k:Nat) (b:Nat),(∀a∈as_,0≤a.1)→k < s0.length→
    ((((as_.foldl orA s0)[k]?).getD 0).toNat.testBit b=true↔((s0[k]?).getD 0).toNat.testBit b=true∨∃a∈as_,0≤a.2.1∧a.1=(k:Int)∧b=(2*a.2.1).toNat+(if a.2.2.1=true then 1 else 0))
  | [],s0,k,b,_,_=>by simp
  | a :: as_,s0,k,b,hr,hk=>by
    have ha:=hr a (List.mem_cons_self ..)
    have hlen:(orA s0 a).length=s0.length:=by unfold orA; split <;> simp
    rw[List.foldl_cons,QaZ as_ (orA s0 a) k b (fun x hx=>hr x (List.mem_cons_of_mem _ hx)) (by omega)]
    have h1:(((orA s0 a)[k]?).getD 0).toNat.testBit b=true↔((s0[k]?).getD 0).toNat.testBit b=true∨(0≤a.2.1∧a.1=(k:Int)∧b=(2*a.2.1).toNat+(if a.2.2.1=true then 1 else 0)):=by
      unfold orA
      split
      · rename_i h0
        by_cases e:a.1.toNat=k
        · subst e
          rw[List.getElem?_set_self hk,Option.getD_some]
          show ((((s0[a.1.toNat]?).getD 0).toNat ||| (mkV (a.2.1,a.2.2.1)).toNat)).testBit b=true↔_
          rw[Nat.testBit_or,Bool.or_eq_true,Qod h0,decide_eq_true_eq]
          have e2:a.1=((a.1.toNat:Nat):Int):=by omega
          simp only[h0,true_and]
          constructor
          · rintro (h | h)
            · exact .inl h
            · exact .inr ⟨e2,h⟩
          · rintro (h | h)
            · exact .inl h
            · exact .inr h.2
        · rw [List.getElem?_set_ne e]
          have e2:¬a.1=(k:Int):=fun h=>e (by omega)
          simp[e2]
      · rename_i h0
        simp[h0]
    rw[h1]
    constructor
    · rintro ((h | h) | ⟨x, hx, h⟩)
      · exact .inl h
      · exact .inr ⟨a,List.mem_cons_self ..,h⟩
      · exact .inr ⟨x,List.mem_cons_of_mem _ hx,h⟩
    · rintro (h | ⟨x, hx, h⟩)
      · exact .inl (.inl h)
      · rcases List.mem_cons.1 hx with rfl | hx
        · exact .inl (.inr h)
        · exact .inr ⟨x,hx,h⟩
theorem H7 (hr:∀a∈c.2.2,0≤a.1)(hk:k < c.2.1.length)(hs:0≤s):QgH (mAt (Xr c.2.1.length c.2.2) (k:Int)) s= !VG c k s:=by
  have hnn:0≤mAt (Xr c.2.1.length c.2.2) (k:Int):=by
    unfold mAt
    rw[Int.toNat_natCast,List.getElem?_eq_getElem (by rw[H9]; exact hk)]
    exact HB _ (List.getElem_mem _)
  have hb:∀b,(mAt (Xr c.2.1.length c.2.2) (k:Int)).toNat.testBit b=true↔∃a∈c.2.2,0≤a.2.1∧a.1=(k:Int)∧b=(2*a.2.1).toNat+(if a.2.2.1=true then 1 else 0):=fun b=>by
    unfold mAt Xr
    rw[Int.toNat_natCast,QaZ c.2.2 _ k b hr (by simpa using hk)]
    simp[List.getElem?_replicate,hk]
  rw[Bool.eq_iff_iff,QkI hnn,Bool.not_eq_true']
  have hex:VG c k s=true↔∃a∈c.2.2,a.1=(k:Int)∧a.2.1=s:=by
    unfold VG
    rw[List.any_eq_true]
    simp
  constructor
  · rintro ⟨h1, h2⟩
    cases he:VG c k s with
    | false=>rfl
    | true=>
      obtain ⟨a,ha,e1,e2⟩:=hex.1 he
      cases hu:a.2.2.1 with
      | false=>
        have:=(hb (2*s).toNat).2 ⟨a,ha,by omega,e1,by rw[e2,hu]; simp⟩
        rw[h1] at this; cases this
      | true=>
        have:=(hb ((2*s).toNat+1)).2 ⟨a,ha,by omega,e1,by rw[e2,hu]; simp⟩
        rw[h2] at this; cases this
  · intro he
    have hno:∀a∈c.2.2,¬(a.1=(k:Int)∧a.2.1=s):=fun a ha h=>by
      rw[hex.2 ⟨a,ha,h⟩] at he; cases he
    constructor
    · cases h : (mAt (Xr c.2.1.length c.2.2) (k : Int)).toNat.testBit (2 * s).toNat with
      | false=>rfl
      | true=>
        obtain ⟨a,ha,h0,e1,e2⟩:=(hb _).1 h
        have:a.2.1=s:=by split at e2 <;> omega
        exact absurd ⟨e1,this⟩ (hno a ha)
    · cases h : (mAt (Xr c.2.1.length c.2.2) (k : Int)).toNat.testBit ((2 * s).toNat + 1) with
      | false=>rfl
      | true=>
        obtain ⟨a,ha,h0,e1,e2⟩:=(hb _).1 h
        have:a.2.1=s:=by split at e2 <;> omega
        exact absurd ⟨e1,this⟩ (hno a ha)
theorem Qn5 (hr:∀a∈c.2.2,0≤a.1):(XA c (fun _ _=>true) c.2.1.length).filter (fun p=>(ZW c.1 c.1.length).any fun s=>Wn (Xr c.2.1.length c.2.2) p s)=ZQ c:=by
  rw[Qgo]
  unfold ZQ
  refine QiI fun i j hi hj=> ?_
  rw[Bool.true_and]
  unfold HV
  have hp0:mAt [(i:Int),(j:Int)] 0=i:=rfl
  have hp1:mAt [(i:Int),(j:Int)] 1=j:=rfl
  rw[Bool.eq_iff_iff,List.any_eq_true,List.any_eq_true]
  constructor
  · rintro ⟨s, hs, h⟩
    obtain ⟨t,rfl,_,_⟩:=Ul.1 hs
    refine ⟨_,hs, ?_⟩
    unfold Wn at h
    rw[hp0,hp1,H7 hr hi (by omega),H7 hr hj (by omega)] at h
    revert h
    cases VG c i t <;> cases VG c j t <;> simp
  · rintro ⟨s, hs, h⟩
    obtain ⟨t,rfl,_,_⟩:=Ul.1 hs
    refine ⟨_,hs, ?_⟩
    unfold Wn
    rw[hp0,hp1,H7 hr hi (by omega),H7 hr hj (by omega)]
    revert h
    cases VG c i t <;> cases VG c j t <;> simp
theorem QmY {α β:Type}{q:β→Bool}{f:α→β}{l:List α}{xs:List β}(h:l.map f=xs):(l.filter fun v=> !(!q (f v))).map f=xs.filter q:=by
  subst h
  rw[List.filter_map]
  congr 1
  apply List.filter_congr
  intro v _
  simp
end
section
variable {c:DSg}{f:Nat→Nat→Bool}{i:Nat}{m:Int}{u v:ByteArray}
theorem Qoz (h1:m≤(c.2.1.length:Int))(h2:¬m < (c.2.1.length:Int)):XA c f i++X5 c f i m.toNat=XA c f (i+1):=by rw[show m.toNat=c.2.1.length by omega,Vn]
theorem Qjx (h:(i:Int) < m)(hu:c.2.1[m.toNat]? =some u)(hv:c.2.1[i]? =some v)(e:v=u)(hf:f i m.toNat=true):(XA c f i++X5 c f i m.toNat)++[[(i:Int),m]]=XA c f i++X5 c f i (m+1).toNat:=by
  rw[show (m+1).toNat=m.toNat+1 by omega,← Qmw (by omega) hu hv e.symm hf,List.append_assoc,show ((m.toNat:Nat):Int)=m by omega]
theorem Qjd (h:(i:Int) < m)(hu:c.2.1[m.toNat]? =some u)(hv:c.2.1[i]? =some v)(e:¬v=u):XA c f i++X5 c f i m.toNat=XA c f i++X5 c f i (m+1).toNat:=by
  rw[show (m+1).toNat=m.toNat+1 by omega,← QjM fun g=>e (by rw[← QjH hu,← QjH hv]; exact g.1.symm)]
theorem Qlo (h:(i:Int) < m)(hf:f i m.toNat=false):XA c f i++X5 c f i m.toNat=XA c f i++X5 c f i (m+1).toNat:=by
  rw[show (m+1).toNat=m.toNat+1 by omega,← QjM fun g=>by rw[hf] at g; cases g.2]
end
theorem Qon {c:DSg}{i:Nat}{m:Int}{u v:ByteArray}(h:(i:Int) < m)(hu:c.2.1[m.toNat]? =some u)(hv:c.2.1[i]? =some v)(e:v=u):(XA c (fun _ _=>true) i++X5 c (fun _ _=>true) i m.toNat)++[[(i:Int),m]]=XA c (fun _ _=>true) i++X5 c (fun _ _=>true) i (m+1).toNat:=Qjx h hu hv e rfl
theorem Qqb {c:DSg}{i:Nat}{m:Int}{u v:ByteArray}(h:(i:Int) < m)(hu:c.2.1[m.toNat]? =some u)(hv:c.2.1[i]? =some v)(e:¬v=u):XA c (fun _ _=>true) i++X5 c (fun _ _=>true) i m.toNat=XA c (fun _ _=>true) i++X5 c (fun _ _=>true) i (m+1).toNat:=Qjd h hu hv e
theorem Qac (l:Int×Bool)(h:0≤l.1∧l.1≤7):FC Tryz.prog 216 [(true,[dI l.1,dB l.2])] [] 0 (Zy (lI (mkV l))):=by
 refine QQ Tryz.func216 rfl rfl Tryz.ntmps216 fun O_ hO w0_ N0_ X_ h0_ f0_=> ?_
 refine AC.fact (Q3 (x:= .tmp 0) (i:=0) (Qb rfl) rfl) fun hi1=> ?_
 refine w_ ?_
 refine lc (Qr 0 (Qb rfl) rfl rfl (Fresh.of rfl) (nlr rfl)) ?_
 iterate 7 refine w_ ?_
 cases hb2:(l.2)
 ·iterate 5 refine w_ ?_
  refine lc (VF (QE rfl) (Qa rfl) rfl (by omega))<|lc (QgV (QE rfl) (Qa rfl) rfl (by omega) (by exact QmB (by omega) (by omega))) ?_
  iterate 2 refine w_ ?_
  refine Qe ?_
  subst hO
  have e3:((1:Int)*2 ^ (2*l.1).toNat:Int)=(mkV l):=by
   (unfold mkV; simp only[*]; rfl)
  exact Qg (Qd rfl (Qc rfl)) ((congrArg (fun z_=>lI z_) e3)) rfl
 ·iterate 4 refine w_ ?_
  refine lc (VF (QE rfl) (Qa rfl) rfl (by omega))<|lc (QgV (QE rfl) (Qa rfl) rfl (by omega) (by exact QmB (by omega) (by omega))) ?_
  iterate 2 refine w_ ?_
  refine Qe ?_
  subst hO
  have e4:((2:Int)*2 ^ (2*l.1).toNat:Int)=(mkV l):=by
   (unfold mkV; simp only[*]; rfl)
  exact Qg (Qd rfl (Qc rfl)) ((congrArg (fun z_=>lI z_) e4)) rfl
theorem Vw (c:(List (ByteArray×Int))×List ByteArray×(List (Int×Int×Bool×Int)))(hs:SgW c):FC Tryz.prog 140 [(true,[.dat (.sl 145 (.pr .str .int)) c.1, .dat (.sl 9 .str) c.2.1, .dat (.sl 179 (.pr .int (.pr .int (.pr .bool .int)))) c.2.2])] [] 0 (XZ 3 .int (Xr c.2.1.length c.2.2)):=by
 have hr:∀a∈c.2.2,InR c.2.1.length a:=fun a ha=>(hs.arcs a ha).1
 have hn3:=hs.some_
 have hfw:=hs.few
 have hs8:=hs.sig8
 refine QQ Tryz.func140 rfl rfl Tryz.ntmps140 fun O_ hO w0_ N0_ X_ h0_ f0_=> ?_
 refine w_ ?_
 refine lc (Qr 0 (Qb rfl) rfl rfl (Fresh.of rfl) (nlr rfl)) ?_
 iterate 5 refine w_ ?_
 refine AL.fact (QB (x:= .tmp 7) (Qa rfl)) fun hl1=> ?_
 refine w_ ?_
 refine lc (Vo 1 (e:= .int) (n:=c.2.1.length) (Qa rfl) (Qa rfl) QO Qjt rfl (by omega) (by omega) rfl (Fresh.of rfl) (nlr rfl)) ?_
 iterate 6 refine w_ ?_
 refine AL.fact (QB (x:= .tmp 11) (Qa rfl)) fun hl2=> ?_
 iterate 4 refine w_ ?_
 refine Qy (fun m_ s_=>∃(k:Nat),k≤c.2.2.length∧m_=c.2.2.length - k∧s_=⟨[(2,lf (.val (.slice none 0 0))),(3,lR 2),(11,lf (.dat (.sl 179 (.pr .int (.pr .int (.pr .bool .int)))) c.2.2)),(12,lI (c.2.2.length:Int)),(13,lI (k:Int))],[(2,some (.arr 3 .int (Xr c.2.1.length (c.2.2.take k))))]⟩) ⟨0,Nat.zero_le _,rfl,rfl⟩ ?_ ?_
 · exact Wk.of [(2,1)] rfl ⟨rfl,rfl,rfl,rfl,rfl,trivial⟩ ⟨(Qv (by simp only[List.take_zero]; rfl)),trivial⟩ rfl rfl
 rintro m_ s_ ⟨k,hk3,hm4,rfl⟩
 have hml:=H9 (n:=c.2.1.length) (as_:=c.2.2.take k)
 iterate 4 refine w_ ?_
 cases hb5:(decide ((k:Int) < (c.2.2.length:Int)))
 ·have hb5':=of_decide_eq_false hb5
  refine w_ ?_
  refine QA ?_
  refine (?_:AC _ _ _ _ _)
  iterate 4 refine w_ ?_
  refine Qe ?_
  subst hO
  refine ZC (e:= .int) (xs:=(Xr c.2.1.length (c.2.2.take k))) (Qd rfl (Qc rfl)) rfl ?_
  rw[Zh (by omega)]
 ·have hb5':=of_decide_eq_true hb5
  iterate 5 refine w_ ?_
  obtain ⟨ar,hx7⟩:∃z,c.2.2[k]? =some z:=⟨_,List.getElem?_eq_getElem (by omega)⟩
  have hain:=hr _ (List.mem_of_getElem? hx7)
  obtain ⟨⟨ha1,ha2⟩,ha3,ha4⟩:=hain
  have hlab:=(hs.arcs _ (List.mem_of_getElem? hx7)).2
  have hslt:ar.2.1 < (c.1.length:Int):=VK hlab
  have hmk:=Qpk (ar.2.1,ar.2.2.1)
  refine lc (Qm (Qa rfl) (Qa rfl) Q9 QJ rfl (by omega) hx7) ?_
  refine w_ ?_
  refine lc (Qw 3 (.pr .int (.pr .int (.pr .bool .int))) Zq rfl rfl (Fresh.of rfl) (nlr rfl))<|lc (Qf (Qa rfl) rfl (Qb rfl) rfl QJ rfl) ?_
  iterate 4 refine w_ ?_
  refine AL.fact (Qs (x:= .tmp 18) (Qa rfl)) fun hi8=> ?_
  iterate 2 refine w_ ?_
  cases hb9:(decide (0≤ar.2.1))
  ·have hb9':=of_decide_eq_false hb9
   refine w_ ?_
   refine AC.skip ?_
   refine (?_:AC _ _ _ _ _)
   iterate 3 refine w_ ?_
   refine Qj<|QS ⟨k+1,by omega,rfl,rfl⟩ (by omega) ?_
   exact Wk.of [(2,2)] rfl ⟨rfl,rfl,rfl,rfl,rfl,trivial⟩ ⟨(Qv (by first | exact Qkc hx7 (by assumption) hy | exact Qm1 hx7 (by assumption))),trivial⟩ rfl rfl
  ·have hb9':=of_decide_eq_true hb9
   refine w_ ?_
   obtain ⟨y,hx11⟩:∃z,(Xr c.2.1.length (c.2.2.take k))[(ar.1).toNat]? =some z:=⟨_,List.getElem?_eq_getElem (by omega)⟩
   have hy:=hx11
   have hyn:=HB _ (List.mem_of_getElem? hx11)
   refine dv [io 20 (lR 2),io 21 (lP 3 0),io 22 (lI ar.1),io 23 (lf (.ept 2 1 ((ar.1).toNat) 0)),io 24 (lI y),io 25 (lP 3 1),io 26 (lI ar.2.1),io 27 (lP 3 2),io 28 (lB ar.2.2.1),io 29 (ag [dI ar.2.1,dB ar.2.2.1]),io 30 (lI (mkV (ar.2.1,ar.2.2.1))),io 31 (lI ((y.toNat ||| (mkV (ar.2.1,ar.2.2.1)).toNat:Nat):Int)),io 32 (lf (.ept 2 1 ((ar.1).toNat) 0)),⟨none,lf (.val undef),[(2,some (.arr 3 .int ((Xr c.2.1.length (c.2.2.take k)).set ((ar.1).toNat) ((y.toNat ||| (mkV (ar.2.1,ar.2.2.1)).toNat:Nat):Int))))]⟩] [0,0,2,7,15,0,32,0,128,480,992,2047,4095,8191] mixed rfl (by kernel_rfl) ⟨dxm rfl rfl,dxf Zr rfl rfl rfl,dxl QD rfl rfl rfl rfl rfl,fun _ h_=>ac (Qq (e:= .int) (h_.v rfl) (h_.en 2 rfl) (h_.v rfl) QO QD rfl (by omega) (by first | omega | (simp only[List.length_set]; omega))) rfl,fun _ h_=>ac (Q7 (e:= .int) (h_.v rfl) (h_.n 2 rfl) hx11 rfl QD rfl rfl) rfl,dxf ZN rfl rfl rfl,dxl QD rfl rfl rfl rfl rfl,dxf YY rfl rfl rfl,dxl ZH rfl rfl rfl rfl rfl,fun _ h_=>ac (QC W5 ⟨_,_,rfl,(h_.w rfl),⟨_,_,rfl,(h_.w rfl),rfl⟩⟩ (List.all_eq_true.1 rfl) rfl rfl) rfl,fun _ h_=>ac (Qh (Qac (ar.2.1,ar.2.2.1) (by simp only; omega)) Qik ⟨_,_,rfl,(h_.w rfl),rfl⟩ rfl rfl) rfl,fun _ h_=>ac (Qnb (h_.v rfl) (h_.v rfl) rfl (by omega) (by omega)) rfl,fun _ h_=>ac (Qq (e:= .int) (h_.v rfl) (h_.en 2 rfl) (h_.v rfl) QO QD rfl (by omega) (by first | omega | (simp only[List.length_set]; omega))) rfl,fun _ h_=>ac (Q5 (e:= .int) (z':=((y.toNat ||| (mkV (ar.2.1,ar.2.2.1)).toNat:Nat):Int)) (h_.v rfl) (h_.n 2 rfl) hx11 rfl (h_.w rfl) rfl QD rfl rfl) rfl,⟨⟩⟩ ?_
   refine (?_:AC _ _ _ _ _)
   iterate 3 refine w_ ?_
   refine Qj<|QS ⟨k+1,by omega,rfl,rfl⟩ (by omega) ?_
   exact Wk.of [(2,2)] rfl ⟨rfl,rfl,rfl,rfl,rfl,trivial⟩ ⟨(Qv (by first | exact Qkc hx7 (by assumption) hy | exact Qm1 hx7 (by assumption))),trivial⟩ rfl rfl
theorem JN (c:(List (ByteArray×Int))×List ByteArray×(List (Int×Int×Bool×Int)))(hn:c.2.1.length≤300):FC Tryz.prog 143 [(true,[.dat (.sl 145 (.pr .str .int)) c.1, .dat (.sl 9 .str) c.2.1, .dat (.sl 179 (.pr .int (.pr .int (.pr .bool .int)))) c.2.2])] [] 0 (XZ 106 (.sl 3 .int) (XA c (fun _ _=>true) c.2.1.length)):=by
 refine QQ Tryz.func143 rfl rfl Tryz.ntmps143 fun O_ hO w0_ N0_ X_ h0_ f0_=> ?_
 refine w_ ?_
 refine lc (Qr 0 (Qb rfl) rfl rfl (Fresh.of rfl) (nlr rfl)) ?_
 iterate 3 refine w_ ?_
 refine lc (Qk 1 (e:=(.sl 3 .int)) YK ZB KZ rfl rfl (List.all_eq_true.1 rfl) ⟨rfl,rfl⟩ (by decide) rfl rfl (Fresh.of rfl) (nlr rfl)) ?_
 iterate 6 refine w_ ?_
 refine AL.fact (QB (x:= .tmp 9) (Qa rfl)) fun hl1=> ?_
 iterate 4 refine w_ ?_
 refine Qy (fun m_ s_=>∃(i:Nat),i≤c.2.1.length∧m_=c.2.1.length - i∧s_=⟨[(1,lP 0 0),(2,lf (.val (.slice none 0 0))),(3,lR 2),(9,lf (.dat (.sl 9 .str) c.2.1)),(10,lI (c.2.1.length:Int)),(11,lI (i:Int))],[(0,some (.box 59 [.dat (.sl 145 (.pr .str .int)) c.1, .dat (.sl 9 .str) c.2.1, .dat (.sl 179 (.pr .int (.pr .int (.pr .bool .int)))) c.2.2])),(2,some (.arr 106 (.sl 3 .int) (XA c (fun _ _=>true) i)))]⟩) ⟨0,Nat.zero_le _,rfl,rfl⟩ ?_ ?_
 · exact Wk.of [(0,0),(2,1)] rfl ⟨rfl,rfl,rfl,rfl,rfl,rfl,trivial⟩ ⟨rfl,(Qv (rfl)),trivial⟩ rfl rfl
 rintro m_ s_ ⟨i,hk2,hm3,rfl⟩
 have hal:=Qcj (c:=c) (f:=fun _ _=>true) (i:=i) hn
 iterate 4 refine w_ ?_
 cases hb4:(decide ((i:Int) < (c.2.1.length:Int)))
 ·have hb4':=of_decide_eq_false hb4
  refine w_ ?_
  refine QA ?_
  refine (?_:AC _ _ _ _ _)
  iterate 4 refine w_ ?_
  refine Qe ?_
  subst hO
  refine ZC (e:=(.sl 3 .int)) (xs:=(XA c (fun _ _=>true) i)) (Qd rfl (Qc rfl)) rfl ?_
  (congr 1; omega)
 ·have hb4':=of_decide_eq_true hb4
  iterate 6 refine w_ ?_
  obtain ⟨ci,hx6⟩:∃z,c.2.1[i]? =some z:=⟨_,List.getElem?_eq_getElem (by omega)⟩
  have hci:=hx6
  refine lc (Qm (Qa rfl) (Qa rfl) ZL Zx rfl (by omega) hx6) ?_
  iterate 10 refine w_ ?_
  refine Qy (fun m_ s_=>∃(m:Int) (out:List (List Int)),m_=((c.2.1.length:Int) - m).toNat∧((i:Int)+1≤m∧m≤(c.2.1.length:Int))∧(out=XA c (fun _ _=>true) i++X5 c (fun _ _=>true) i m.toNat)∧s_=⟨[(1,lP 0 0),(2,lf (.val (.slice none 0 0))),(3,lR 3),(4,lI (i:Int)),(5,lf (dS ci)),(6,lI m),(9,lf (.dat (.sl 9 .str) c.2.1)),(10,lI (c.2.1.length:Int)),(11,lI (i:Int)),(12,lB true),(13,lI (i:Int)),(14,lf (.elt .str ci 0)),(15,lf (dS ci)),(16,lI (i:Int)),(17,lI ((i:Int)+1))],[(0,some (.box 59 [.dat (.sl 145 (.pr .str .int)) c.1, .dat (.sl 9 .str) c.2.1, .dat (.sl 179 (.pr .int (.pr .int (.pr .bool .int)))) c.2.2])),(3,some (.arr 106 (.sl 3 .int) out))]⟩) ⟨(i:Int)+1,XA c (fun _ _=>true) i,rfl,(by omega),(by rw[show ((i:Int)+1).toNat=i+1 by omega,Qcd,List.append_nil]),rfl⟩ ?_ ?_
  · exact Wk.of [(0,0),(3,2)] rfl ⟨rfl,rfl,rfl,rfl,rfl,rfl,rfl,rfl,rfl,rfl,rfl,rfl,rfl,rfl,rfl,trivial⟩ ⟨rfl,(Qv (by first | rfl | simp)),trivial⟩ rfl rfl
  rintro m_ s_ ⟨m,out,hm8,hm,hO1,rfl⟩
  have hol:out.length≤100000:=by rw[hO1,List.length_append]; have:=Qc4 (c:=c) (f:=fun _ _=>true) (i:=i) (k:=m.toNat); have:=hal (by omega); omega
  iterate 5 refine w_ ?_
  refine AL.fact (QB (x:= .tmp 20) (Qa rfl)) fun hl9=> ?_
  iterate 3 refine w_ ?_
  cases hb10:(decide (m < (c.2.1.length:Int)))
  ·have hb10':=of_decide_eq_false hb10
   refine w_ ?_
   refine QA ?_
   refine (?_:AC _ _ _ _ _)
   iterate 3 refine w_ ?_
   refine Qj<|QS ⟨i+1,by omega,rfl,rfl⟩ (by omega) ?_
   exact Wk.of [(0,0),(2,3)] rfl ⟨rfl,rfl,rfl,rfl,rfl,rfl,trivial⟩ ⟨rfl,(Qv ((by rw[hO1]; exact Qoz (by omega) (by omega)))),trivial⟩ rfl rfl
  ·have hb10':=of_decide_eq_true hb10
   iterate 8 refine w_ ?_
   obtain ⟨cm,hx12⟩:∃z,c.2.1[(m).toNat]? =some z:=⟨_,List.getElem?_eq_getElem (by omega)⟩
   have hcm:=hx12
   refine lc (Qm (Qa rfl) (Qa rfl) ZL Zx rfl (by omega) hx12) ?_
   iterate 4 refine w_ ?_
   cases hb13:(decide (cm=ci))
   ·have hb13':=of_decide_eq_false hb13
    refine w_ ?_
    refine AC.skip ?_
    refine (?_:AC _ _ _ _ _)
    iterate 4 refine w_ ?_
    refine Qj<|QS ⟨(m+1),out,rfl,(by omega),(by rw[hO1]; first | exact Qon (by omega) hcm hci (Eq.symm (by assumption)) | exact Qqb (by omega) hcm hci (fun h=>absurd h.symm (by assumption))),rfl⟩ (by omega) ?_
    exact Wk.of [(0,0),(3,3)] rfl ⟨rfl,rfl,rfl,rfl,rfl,rfl,rfl,rfl,rfl,rfl,rfl,rfl,rfl,rfl,rfl,trivial⟩ ⟨rfl,rfl,trivial⟩ rfl rfl
   ·have hb13':=of_decide_eq_true hb13
    iterate 5 refine w_ ?_
    refine lc (Qk 4 (e:= .int) QO QD Xl rfl ⟨_,_,rfl,(Qb rfl),⟨_,_,rfl,(Qb rfl),rfl⟩⟩ (List.all_eq_true.1 rfl) ⟨_,_,_,_,rfl,⟨rfl,rfl⟩,⟨_,_,_,_,rfl,⟨rfl,rfl⟩,⟨rfl,rfl⟩,rfl⟩,rfl⟩ (by decide) rfl rfl (Fresh.of rfl) (nlr rfl))<|lc (Qk 5 (e:=(.sl 3 .int)) YK ZB KZ rfl ⟨_,_,rfl,(Qb rfl),rfl⟩ (List.all_eq_true.1 rfl) ⟨_,_,_,_,rfl,(.inl ⟨_,rfl,rfl,rfl⟩),⟨rfl,rfl⟩,rfl⟩ (by decide) rfl rfl (Fresh.of rfl) (nlr rfl))<|lc (Q0 6 (Qa rfl) rfl (Qa rfl) rfl rfl YK Qja (by first | omega | (simp only[List.length_append,List.length_map,List.length_take,List.length_cons,List.length_nil]; omega) | (simp only[List.length_append,List.length_drop,List.length_take,List.length_cons,List.length_nil]; omega)) rfl (Fresh.of rfl) (nlr rfl)) ?_
    refine w_ ?_
    refine Qj ?_
    refine (?_:AC _ _ _ _ _)
    iterate 4 refine w_ ?_
    refine Qj<|QS ⟨(m+1),(out++([[(i:Int),m]])),rfl,(by omega),(by rw[hO1]; first | exact Qon (by omega) hcm hci (Eq.symm (by assumption)) | exact Qqb (by omega) hcm hci (fun h=>absurd h.symm (by assumption))),rfl⟩ (by omega) ?_
    exact Wk.of [(0,0),(3,6)] rfl ⟨rfl,rfl,rfl,rfl,rfl,rfl,rfl,rfl,rfl,rfl,rfl,rfl,rfl,rfl,rfl,trivial⟩ ⟨rfl,(Qv (by first | rfl | simp)),trivial⟩ rfl rfl
theorem nbt {b:Bool}(h:b=false):(!b)=true:=by rw[h]; rfl
theorem nbf {b:Bool}(h:b=true):(!b)=false:=by rw[h]; rfl
theorem Qnz {masks pair:List Int}{p0 p1 m0 m1 sig:Int}(hp0:pair[0]? =some p0)(hp1:pair[1]? =some p1)(hm0:masks[p0.toNat]? =some m0)(hm1:masks[p1.toNat]? =some m1):
    (!((decide ((((m0 / 2 ^ (2*sig).toNat).toNat &&& (3:Int).toNat:Nat):Int)=0))==(decide ((((m1 / 2 ^ (2*sig).toNat).toNat &&& (3:Int).toNat:Nat):Int)=0))))=Wn masks pair sig:=by
  unfold Wn
  rw[KW (x:=0) (by simpa using hp0),KW (x:=1) (by simpa using hp1),KW hm0,KW hm1]
  rfl
theorem Kq (sig:Int)(masks:List Int)(pair:List Int)(hm:∀x∈masks,0≤x)(hp:2≤pair.length∧∀x∈pair,0≤x∧x < (masks.length:Int))(hs:0≤sig∧sig≤7):FC Tryz.prog 146 [(false,[dI sig]),(false,[.ptr 0 0]),(false,[.ptr 1 0])] [(0,some (.box 106 [.dat (.sl 3 .int) masks])),(1,some (.box 106 [.dat (.sl 3 .int) pair]))] 2 (Is (lB (Wn masks pair sig)) [(0,some (.box 106 [.dat (.sl 3 .int) masks])),(1,some (.box 106 [.dat (.sl 3 .int) pair]))]):=by
 refine QQ Tryz.func146 rfl rfl Tryz.ntmps146 fun O_ hO w0_ N0_ X_ h0_ f0_=> ?_
 refine AC.fact (Qs (x:= .tmp 0) (Qa rfl)) fun hi1=> ?_
 iterate 3 refine w_ ?_
 obtain ⟨p0,hx3⟩:∃z,pair[0]? =some z:=⟨_,List.getElem?_eq_getElem (by omega)⟩
 have hp0:=hx3
 have hrp0:=hp.2 _ (List.mem_of_getElem? hx3)
 obtain ⟨m0,hx5⟩:∃z,masks[(p0).toNat]? =some z:=⟨_,List.getElem?_eq_getElem (by omega)⟩
 have hm0:=hx5
 have hnm0:=hm _ (List.mem_of_getElem? hx5)
 obtain ⟨p1,hx7⟩:∃z,pair[1]? =some z:=⟨_,List.getElem?_eq_getElem (by omega)⟩
 have hp1:=hx7
 have hrp1:=hp.2 _ (List.mem_of_getElem? hx7)
 obtain ⟨m1,hx9⟩:∃z,masks[(p1).toNat]? =some z:=⟨_,List.getElem?_eq_getElem (by omega)⟩
 have hm1:=hx9
 have hnm1:=hm _ (List.mem_of_getElem? hx9)
 refine dw [io 5 (lf (.dat (.sl 3 .int) masks)),io 6 (lf (.dat (.sl 3 .int) pair)),io 7 (lf (.elt .int p0 0)),io 8 (lI p0),io 9 (lf (.elt .int m0 0)),io 10 (lI m0),io 11 (lI sig),io 12 (lI (2*sig)),io 13 (lI (m0 / 2 ^ (2*sig).toNat)),io 14 (lI (((m0 / 2 ^ (2*sig).toNat).toNat &&& (3:Int).toNat:Nat):Int)),io 15 (lB (decide ((((m0 / 2 ^ (2*sig).toNat).toNat &&& (3:Int).toNat:Nat):Int)=0))),io 16 (lf (.dat (.sl 3 .int) masks)),io 17 (lf (.dat (.sl 3 .int) pair)),io 18 (lf (.elt .int p1 0)),io 19 (lI p1),io 20 (lf (.elt .int m1 0)),io 21 (lI m1),io 22 (lI sig),io 23 (lI (2*sig)),io 24 (lI (m1 / 2 ^ (2*sig).toNat)),io 25 (lI (((m1 / 2 ^ (2*sig).toNat).toNat &&& (3:Int).toNat:Nat):Int)),io 26 (lB (decide ((((m1 / 2 ^ (2*sig).toNat).toNat &&& (3:Int).toNat:Nat):Int)=0))),io 27 (lB (!((decide ((((m0 / 2 ^ (2*sig).toNat).toNat &&& (3:Int).toNat:Nat):Int)=0))==(decide ((((m1 / 2 ^ (2*sig).toNat).toNat &&& (3:Int).toNat:Nat):Int)=0))))),io 4 (lB (!((decide ((((m0 / 2 ^ (2*sig).toNat).toNat &&& (3:Int).toNat:Nat):Int)=0))==(decide ((((m1 / 2 ^ (2*sig).toNat).toNat &&& (3:Int).toNat:Nat):Int)=0)))))] [0,0,2,6,15,31,0,64,255,511,1023,0,0,4096,12288,30720,63488,0,131072,522240,1046528,2095104,4194303,8388607] mixed rfl (by kernel_rfl) ⟨dxl ZB rfl rfl rfl rfl rfl,dxl ZB rfl rfl rfl rfl rfl,fun _ h_=>ac (Qm (h_.v rfl) (QE rfl) QO QD rfl (by omega) hx3) rfl,fun _ h_=>ac (Zv (h_.v rfl) QD rfl rfl) rfl,fun _ h_=>ac (Qm (h_.v rfl) (h_.v rfl) QO QD rfl (by omega) hx5) rfl,fun _ h_=>ac (Zv (h_.v rfl) QD rfl rfl) rfl,dxm rfl rfl,fun _ h_=>ac (VF (QE rfl) (h_.v rfl) rfl (by omega)) rfl,fun _ h_=>ac (QbV (h_.v rfl) (h_.v rfl) rfl (by omega) (by first | omega | exact Int.ediv_nonneg (by omega) (Int.pow_nonneg (by decide)))) rfl,fun _ h_=>ac (QcK (h_.v rfl) (QE rfl) rfl (by first | omega | exact Int.ediv_nonneg (by omega) (Int.pow_nonneg (by decide))) (by omega)) rfl,fun _ h_=>ac (Ws (h_.v rfl) (QE rfl) rfl) rfl,dxl ZB rfl rfl rfl rfl rfl,dxl ZB rfl rfl rfl rfl rfl,fun _ h_=>ac (Qm (h_.v rfl) (QE rfl) QO QD rfl (by omega) hx7) rfl,fun _ h_=>ac (Zv (h_.v rfl) QD rfl rfl) rfl,fun _ h_=>ac (Qm (h_.v rfl) (h_.v rfl) QO QD rfl (by omega) hx9) rfl,fun _ h_=>ac (Zv (h_.v rfl) QD rfl rfl) rfl,dxm rfl rfl,fun _ h_=>ac (VF (QE rfl) (h_.v rfl) rfl (by omega)) rfl,fun _ h_=>ac (QbV (h_.v rfl) (h_.v rfl) rfl (by omega) (by first | omega | exact Int.ediv_nonneg (by omega) (Int.pow_nonneg (by decide)))) rfl,fun _ h_=>ac (QcK (h_.v rfl) (QE rfl) rfl (by first | omega | exact Int.ediv_nonneg (by omega) (Int.pow_nonneg (by decide))) (by omega)) rfl,fun _ h_=>ac (Ws (h_.v rfl) (QE rfl) rfl) rfl,fun _ h_=>ac (XC (h_.v rfl) (h_.v rfl) rfl VV) rfl,dxt rfl rfl,⟨⟩⟩<|Qe ?_
 subst hO
 have e10:(!((decide ((((m0 / 2 ^ (2*sig).toNat).toNat &&& (3:Int).toNat:Nat):Int)=0))==(decide ((((m1 / 2 ^ (2*sig).toNat).toNat &&& (3:Int).toNat:Nat):Int)=0))):Bool)=(Wn masks pair sig):=by
  exact Qnz hp0 hp1 hm0 hm1
 exact Q2 _ _ [(0,0),(1,1)] (Qd rfl (Qc rfl)) ((congrArg (fun z_=>lB z_) e10)) ⟨rfl,rfl,trivial⟩ rfl rfl
theorem Kw (l:List Int)(masks:List Int)(pair:List Int)(hm:∀x∈masks,0≤x)(hp:2≤pair.length∧∀x∈pair,0≤x∧x < (masks.length:Int))(ho:∀s∈l,0≤s∧s≤7):FC Tryz.prog 218 [(false,[.dat (.sl 3 .int) l]),(false,[.clo 146 [0,1]])] [(0,some (.box 106 [.dat (.sl 3 .int) masks])),(1,some (.box 106 [.dat (.sl 3 .int) pair]))] 2 (Is (lI (ZJ (fun s=>Wn masks pair s) l)) [(0,some (.box 106 [.dat (.sl 3 .int) masks])),(1,some (.box 106 [.dat (.sl 3 .int) pair]))]):=by
 refine QQ Tryz.func218 rfl rfl Tryz.ntmps218 fun O_ hO w0_ N0_ X_ h0_ f0_=> ?_
 iterate 6 refine w_ ?_
 refine AL.fact (QB (x:= .tmp 6) (Qa rfl)) fun hl1=> ?_
 iterate 4 refine w_ ?_
 refine Qy (fun m_ s_=>∃(k:Nat),k≤l.length∧m_=l.length - k∧(NoneTo (fun s=>Wn masks pair s) l k)∧s_=⟨[(0,lf (.dat (.sl 3 .int) l)),(1,lf (.clo 146 [0,1])),(7,lI (l.length:Int)),(8,lI (k:Int))],[(0,some (.box 106 [.dat (.sl 3 .int) masks])),(1,some (.box 106 [.dat (.sl 3 .int) pair]))]⟩) ⟨0,Nat.zero_le _,rfl,NoneTo.zero,rfl⟩ ?_ ?_
 · exact Wk.of [(0,0),(1,1)] rfl ⟨rfl,rfl,rfl,rfl,trivial⟩ ⟨rfl,rfl,trivial⟩ rfl rfl
 rintro m_ s_ ⟨k,hk2,hm3,hno,rfl⟩
 iterate 4 refine w_ ?_
 cases hb4:(decide ((k:Int) < (l.length:Int)))
 ·have hb4':=of_decide_eq_false hb4
  refine w_ ?_
  refine QA ?_
  refine (?_:AC _ _ _ _ _)
  iterate 3 refine w_ ?_
  refine Qe ?_
  subst hO
  have e5:((-1):Int)=(ZJ (fun s=>Wn masks pair s) l):=by
   first | exact (hno.no (by omega)).symm
  exact Q2 _ _ [(0,0),(1,1)] (Qd rfl (Qc rfl)) ((congrArg (fun z_=>lI z_) e5)) ⟨rfl,rfl,trivial⟩ rfl rfl
 ·have hb4':=of_decide_eq_true hb4
  iterate 12 refine w_ ?_
  obtain ⟨x6,hx7⟩:∃z,l[k]? =some z:=⟨_,List.getElem?_eq_getElem (by omega)⟩
  refine lc (Qm (Qa rfl) (Qa rfl) QO QD rfl (by omega) hx7) ?_
  refine w_ ?_
  refine AL.fact (Qs (x:= .tmp 15) (Qa rfl)) fun hi8=>lc (Xp (args0:=[(false,[dI x6])]) (caps:=[0,1]) 2 [(0,0),(1,1)] (Kq x6 masks pair hm hp (ho _ (List.mem_of_getElem? hx7))) Qhg rfl (Qa rfl) rfl rfl ⟨_,_,rfl,(Qb rfl),rfl⟩ ⟨rfl,rfl,trivial⟩ rfl ⟨trivial,trivial,trivial⟩ (nlr rfl)) ?_
  refine w_ ?_
  cases hb9:(Wn masks pair x6)
  ·refine w_ ?_
   refine AC.skip ?_
   refine (?_:AC _ _ _ _ _)
   iterate 3 refine w_ ?_
   refine Qj<|QS ⟨k+1,by omega,rfl,hno.step hx7 (by assumption),rfl⟩ (by omega) ?_
   exact Wk.of [(0,0),(1,1)] rfl ⟨rfl,rfl,rfl,rfl,trivial⟩ ⟨rfl,rfl,trivial⟩ rfl rfl
  ·iterate 5 refine w_ ?_
   refine Qe ?_
   subst hO
   have e10:((k:Int):Int)=(ZJ (fun s=>Wn masks pair s) l):=by
    exact (hno.at hx7 (by assumption)).symm
   exact Q2 _ _ [(0,0),(1,1)] (Qd rfl (Qc rfl)) ((congrArg (fun z_=>lI z_) e10)) ⟨rfl,rfl,trivial⟩ rfl rfl
theorem Uu (l:List Int)(masks:List Int)(pair:List Int)(hm:∀x∈masks,0≤x)(hp:2≤pair.length∧∀x∈pair,0≤x∧x < (masks.length:Int))(ho:∀s∈l,0≤s∧s≤7):FC Tryz.prog 145 [(false,[.dat (.sl 3 .int) l]),(false,[.clo 146 [0,1]])] [(0,some (.box 106 [.dat (.sl 3 .int) masks])),(1,some (.box 106 [.dat (.sl 3 .int) pair]))] 2 (Is (lB (l.any (fun s=>Wn masks pair s))) [(0,some (.box 106 [.dat (.sl 3 .int) masks])),(1,some (.box 106 [.dat (.sl 3 .int) pair]))]):=by
 refine QQ Tryz.func145 rfl rfl Tryz.ntmps145 fun O_ hO w0_ N0_ X_ h0_ f0_=> ?_
 iterate 6 refine w_ ?_
 refine lc (QP 2 [(0,0),(1,1)] (Kw l masks pair hm hp ho) Qhz ⟨_,_,rfl,(Qb rfl),⟨_,_,rfl,(Qb rfl),rfl⟩⟩ ⟨rfl,rfl,trivial⟩ rfl ⟨trivial,trivial,trivial⟩ (nlr rfl)) ?_
 iterate 3 refine w_ ?_
 refine Qe ?_
 subst hO
 have e1:(decide (0≤(ZJ (fun s=>Wn masks pair s) l)):Bool)=(l.any (fun s=>Wn masks pair s)):=by
  exact Ua _ _
 exact Q2 _ _ [(0,0),(1,1)] (Qd rfl (Qc rfl)) ((congrArg (fun z_=>lB z_) e1)) ⟨rfl,rfl,trivial⟩ rfl rfl
theorem Vg (pair:List Int)(own_:List Int)(masks:List Int)(hm:∀x∈masks,0≤x)(hp:2≤pair.length∧∀x∈pair,0≤x∧x < (masks.length:Int))(ho:∀s∈own_,0≤s∧s≤7):FC Tryz.prog 144 [(false,[.dat (.sl 3 .int) pair]),(false,[.ptr 0 0]),(false,[.ptr 1 0])] [(0,some (.box 106 [.dat (.sl 3 .int) own_])),(1,some (.box 106 [.dat (.sl 3 .int) masks]))] 2 (Is (lB (!(own_.any (fun s=>Wn masks pair s)))) [(0,some (.box 106 [.dat (.sl 3 .int) own_])),(1,some (.box 106 [.dat (.sl 3 .int) masks]))]):=by
 refine QQ Tryz.func144 rfl rfl Tryz.ntmps144 fun O_ hO w0_ N0_ X_ h0_ f0_=> ?_
 refine w_ ?_
 refine lc (Qr 2 (Qb rfl) rfl rfl (Fresh.of rfl) (nlr rfl)) ?_
 iterate 4 refine w_ ?_
 refine lc (Xe ⟨_,_,rfl,(Qa rfl),rfl,⟨_,_,rfl,(Qa rfl),rfl,rfl⟩⟩ rfl)<|lc (QP 3 [(0,1),(1,2)] (Uu own_ masks pair hm hp ho) Qhc ⟨_,_,rfl,(Qb rfl),⟨_,_,rfl,(Qb rfl),rfl⟩⟩ ⟨rfl,rfl,trivial⟩ rfl ⟨trivial,trivial,trivial⟩ (nlr rfl)) ?_
 iterate 3 refine w_ ?_
 refine Qe ?_
 subst hO
 exact Q2 _ _ [(0,0),(1,1)] (Qd rfl (Qc rfl)) (rfl) ⟨rfl,rfl,trivial⟩ rfl rfl
theorem JO (l:List Hdr)(vs_:List Hdr)(gF:Hdr→List Int)(own_:List Int)(masks:List Int)(hm:∀x∈masks,0≤x)(hv:∀v∈vs_,2≤(gF v).length∧∀x∈gF v,0≤x∧x < (masks.length:Int))(ho:∀s∈own_,0≤s∧s≤7)(hvs:∀v∈l,v∈vs_)(hl:l.length≤1000000):FC Tryz.prog 217 [(false,[.ref 3]),(false,[.clo 144 [0,1]])] [(0,some (.box 106 [.dat (.sl 3 .int) own_])),(1,some (.box 106 [.dat (.sl 3 .int) masks])),(2,some (.pl false (.sl 3 .int) vs_ gF)),(3,some (.arr 106 .vl l))] 4 (Is (lI (ZJ (fun v:Hdr=> !(own_.any (fun s=>Wn masks (gF v) s))) l)) [(0,some (.box 106 [.dat (.sl 3 .int) own_])),(1,some (.box 106 [.dat (.sl 3 .int) masks])),(2,some (.pl false (.sl 3 .int) vs_ gF)),(3,some (.arr 106 .vl l))]):=by
 refine QQ Tryz.func217 rfl rfl Tryz.ntmps217 fun O_ hO w0_ N0_ X_ h0_ f0_=> ?_
 iterate 10 refine w_ ?_
 refine Qy (fun m_ s_=>∃(k:Nat),k≤l.length∧m_=l.length - k∧(NoneTo (fun v:Hdr=> !(own_.any (fun s=>Wn masks (gF v) s))) l k)∧s_=⟨[(0,lR 3),(1,lf (.clo 144 [0,1])),(7,lI (l.length:Int)),(8,lI (k:Int))],[(0,some (.box 106 [.dat (.sl 3 .int) own_])),(1,some (.box 106 [.dat (.sl 3 .int) masks])),(2,some (.pl false (.sl 3 .int) vs_ gF)),(3,some (.arr 106 .vl l))]⟩) ⟨0,Nat.zero_le _,rfl,NoneTo.zero,rfl⟩ ?_ ?_
 · exact Wk.of [(0,0),(1,1),(2,2),(3,3)] rfl ⟨rfl,rfl,rfl,rfl,trivial⟩ ⟨rfl,rfl,rfl,rfl,trivial⟩ rfl rfl
 rintro m_ s_ ⟨k,hk1,hm2,hno,rfl⟩
 iterate 4 refine w_ ?_
 cases hb3:(decide ((k:Int) < (l.length:Int)))
 ·have hb3':=of_decide_eq_false hb3
  refine w_ ?_
  refine QA ?_
  refine (?_:AC _ _ _ _ _)
  iterate 3 refine w_ ?_
  refine Qe ?_
  subst hO
  have e4:((-1):Int)=(ZJ (fun v:Hdr=> !(own_.any (fun s=>Wn masks (gF v) s))) l):=by
   first | exact (hno.no (by omega)).symm
  exact Q2 _ _ [(0,0),(1,1),(2,2),(3,3)] (Qd rfl (Qc rfl)) ((congrArg (fun z_=>lI z_) e4)) ⟨rfl,rfl,rfl,rfl,trivial⟩ rfl rfl
 ·have hb3':=of_decide_eq_true hb3
  iterate 12 refine w_ ?_
  refine lc (Qq (e:= .vl) (Qa rfl) rfl (Qa rfl) YK ZB rfl (by omega) (by first | omega | (simp only[List.length_set]; omega))) ?_
  obtain ⟨x5,hx6⟩:∃z,l[k]? =some z:=⟨_,List.getElem?_eq_getElem (by omega)⟩
  refine lc (Q7 (e:= .vl) (Qa rfl) rfl hx6 rfl ZB rfl rfl)<|lc (Xp (args0:=[(false,[.dat (.sl 3 .int) (gF x5)])]) (caps:=[0,1]) 4 [(0,0),(1,1)] (Vg (gF x5) own_ masks hm (hv _ (hvs _ (List.mem_of_getElem? hx6))) ho) Qcz rfl (Qa rfl) rfl rfl ⟨_,_,rfl,(Evl.ev (QmI (p:=2) (Qa rfl) rfl (hvs _ (List.mem_of_getElem? hx6)))),rfl⟩ ⟨rfl,rfl,trivial⟩ rfl ⟨trivial,trivial,trivial⟩ (nlr rfl)) ?_
  refine w_ ?_
  cases hb7:(own_.any (fun s=>Wn masks (gF x5) s))
  ·iterate 5 refine w_ ?_
   refine Qe ?_
   subst hO
   have e8:((k:Int):Int)=(ZJ (fun v:Hdr=> !(own_.any (fun s=>Wn masks (gF v) s))) l):=by
    exact (hno.at hx6 (nbt (by assumption))).symm
   exact Q2 _ _ [(0,0),(1,1),(2,2),(3,3)] (Qd rfl (Qc rfl)) ((congrArg (fun z_=>lI z_) e8)) ⟨rfl,rfl,rfl,rfl,trivial⟩ rfl rfl
  ·refine w_ ?_
   refine AC.skip ?_
   refine (?_:AC _ _ _ _ _)
   iterate 3 refine w_ ?_
   refine Qj<|QS ⟨k+1,by omega,rfl,hno.step hx6 (nbf (by assumption)),rfl⟩ (by omega) ?_
   exact Wk.of [(0,0),(1,1),(2,2),(3,3)] rfl ⟨rfl,rfl,rfl,rfl,trivial⟩ ⟨rfl,rfl,rfl,rfl,trivial⟩ rfl rfl
theorem Jl (l:List Hdr)(vs_:List Hdr)(gF:Hdr→List Int)(own_:List Int)(masks:List Int)(hm:∀x∈masks,0≤x)(hv:∀v∈vs_,2≤(gF v).length∧∀x∈gF v,0≤x∧x < (masks.length:Int))(ho:∀s∈own_,0≤s∧s≤7)(hvs:∀v∈l,v∈vs_)(hl:l.length≤1000000):FC Tryz.prog 142 [(false,[.ref 3]),(false,[.clo 144 [0,1]])] [(0,some (.box 106 [.dat (.sl 3 .int) own_])),(1,some (.box 106 [.dat (.sl 3 .int) masks])),(2,some (.pl false (.sl 3 .int) vs_ gF)),(3,some (.arr 106 .vl l))] 3 (Is (lR 4) [(0,some (.box 106 [.dat (.sl 3 .int) own_])),(1,some (.box 106 [.dat (.sl 3 .int) masks])),(2,some (.pl false (.sl 3 .int) vs_ gF)),(4,some (.arr 106 .vl (l.filter (fun v:Hdr=> !(!(own_.any (fun s=>Wn masks (gF v) s)))))))]):=by
 have hix:=Qgn (fun v:Hdr=> !(own_.any (fun s=>Wn masks (gF v) s))) l
 refine QQ Tryz.func142 rfl rfl Tryz.ntmps142 fun O_ hO w0_ N0_ X_ h0_ f0_=> ?_
 iterate 6 refine w_ ?_
 refine lc (QP 4 [(0,0),(1,1),(2,2),(3,3)] (JO l vs_ gF own_ masks hm hv ho hvs hl) Qhp ⟨_,_,rfl,(Qb rfl),⟨_,_,rfl,(Qb rfl),rfl⟩⟩ ⟨rfl,rfl,rfl,rfl,trivial⟩ rfl ⟨trivial,trivial,trivial,trivial,trivial⟩ (nlr rfl)) ?_
 iterate 7 refine w_ ?_
 cases hb1:(decide ((ZJ (fun v:Hdr=> !(own_.any (fun s=>Wn masks (gF v) s))) l)=(-1)))
 ·have hb1':=of_decide_eq_false hb1
  iterate 9 refine w_ ?_
  refine Qy (fun m_ s_=>∃(i:Int) (j:Int) (l2:List Hdr),m_=((l2.length:Int) - j).toNat∧(DelI (fun v:Hdr=> !(!(own_.any (fun s=>Wn masks (gF v) s)))) l l2 i j)∧s_=⟨[(0,lR 8),(1,lf (.clo 144 [0,1])),(4,lf (.val (.slice none 0 0))),(5,lI i),(6,lI j)],[(0,some (.box 106 [.dat (.sl 3 .int) own_])),(1,some (.box 106 [.dat (.sl 3 .int) masks])),(2,some (.pl false (.sl 3 .int) vs_ gF)),(8,some (.arr 106 .vl l2))]⟩) ⟨ZJ (fun v:Hdr=> !(own_.any (fun s=>Wn masks (gF v) s))) l,(ZJ (fun v:Hdr=> !(own_.any (fun s=>Wn masks (gF v) s))) l)+1,l,rfl,(DelI.start (by assumption)),rfl⟩ ?_ ?_
  · exact Wk.of [(0,0),(1,1),(2,2),(8,3)] rfl ⟨rfl,rfl,rfl,rfl,rfl,trivial⟩ ⟨rfl,rfl,rfl,rfl,trivial⟩ rfl rfl
  rintro m_ s_ ⟨i,j,l2,hm3,hD,rfl⟩
  have hDb:=hD.1
  have hDl:=hD.2.1
  iterate 7 refine w_ ?_
  cases hb4:(decide (j < (l2.length:Int)))
  ·have hb4':=of_decide_eq_false hb4
   refine w_ ?_
   refine QA ?_
   refine (?_:AC _ _ _ _ _)
   iterate 3 refine w_ ?_
   refine lc (YD (e:= .vl) (a:=(i).toNat) (b:=l2.length - (i).toNat) (l:=(some i)) (h:=none) (Qa rfl) rfl (by exact (Qa rfl)) (by exact trivial) YK ZB rfl (by first | (simp only[Option.getD_none,Option.getD_some]; omega) | omega | (simp only[Option.getD_none,Option.getD_some,List.length_append,List.length_take,List.length_replicate]; omega)) (by first | (simp only[Option.getD_none,Option.getD_some]; omega) | omega | (simp only[Option.getD_none,Option.getD_some,List.length_append,List.length_take,List.length_replicate]; omega)) (by first | (simp only[Option.getD_none,Option.getD_some]; omega) | omega | (simp only[Option.getD_none,Option.getD_some,List.length_append,List.length_take,List.length_replicate]; omega)) (by first | rfl | simp) (by first | rfl | simp))<|lc (Qba (e:= .vl) (Qa rfl) rfl (by omega) YK KZ rfl rfl rfl) ?_
   iterate 4 refine w_ ?_
   refine lc (YD (e:= .vl) (a:=0) (b:=(i).toNat) (l:=none) (h:=(some i)) (Qa rfl) rfl (by exact trivial) (by exact (Qa rfl)) YK ZB rfl (by first | (simp only[Option.getD_none,Option.getD_some]; omega) | omega | (simp only[Option.getD_none,Option.getD_some,List.length_append,List.length_take,List.length_replicate]; omega)) (by first | (simp only[Option.getD_none,Option.getD_some]; omega) | omega | (simp only[Option.getD_none,Option.getD_some,List.length_append,List.length_take,List.length_replicate]; omega)) (by first | (simp only[Option.getD_none,Option.getD_some]; omega) | omega | (simp only[Option.getD_none,Option.getD_some,List.length_append,List.length_take,List.length_replicate]; omega)) (by first | rfl | simp) (by first | rfl | simp)) ?_
   iterate 2 refine w_ ?_
   refine AC.wk (QbT 9 4 (e:= .vl) (xs:=l2.take ((i).toNat)++List.replicate (l2.length - (i).toNat) (Ty.zero .vl)) rfl rfl (by first | omega | (simp only[List.length_append,List.length_take,List.length_replicate]; omega)) rfl (Fresh.of rfl) (nlr rfl))<|Qe ?_
   subst hO
   exact Q2 _ _ [(0,0),(1,1),(2,2),(4,9)] (Qd rfl (Qc rfl)) (rfl) ⟨rfl,rfl,rfl,(Qv (by exact hD.end_ (by assumption) _ (by omega))),trivial⟩ rfl rfl
  ·have hb4':=of_decide_eq_true hb4
   iterate 7 refine w_ ?_
   refine lc (Qq (e:= .vl) (Qa rfl) rfl (Qa rfl) YK ZB rfl (by omega) (by first | omega | (simp only[List.length_set]; omega))) ?_
   obtain ⟨xj,hx6⟩:∃z,l2[(j).toNat]? =some z:=⟨_,List.getElem?_eq_getElem (by omega)⟩
   have h_xj:=hx6
   refine lc (Q7 (e:= .vl) (Qa rfl) rfl hx6 rfl ZB rfl rfl) ?_
   iterate 5 refine w_ ?_
   refine lc (Xp (args0:=[(false,[.dat (.sl 3 .int) (gF xj)])]) (caps:=[0,1]) 10 [(0,0),(1,1)] (Vg (gF xj) own_ masks hm (hv _ (hvs _ (List.mem_of_getElem? (hD.at_ hx6)))) ho) Qcz rfl (Qa rfl) rfl rfl ⟨_,_,rfl,(Evl.ev (QmI (p:=2) (Qa rfl) rfl (hvs _ (List.mem_of_getElem? (hD.at_ hx6))))),rfl⟩ ⟨rfl,rfl,trivial⟩ rfl ⟨trivial,trivial,trivial⟩ (nlr rfl)) ?_
   iterate 2 refine w_ ?_
   cases hb7:(!(own_.any (fun s=>Wn masks (gF xj) s)))
   ·iterate 5 refine w_ ?_
    refine lc (Qq (e:= .vl) (Qa rfl) rfl (Qa rfl) YK ZB rfl (by omega) (by first | omega | (simp only[List.length_set]; omega))) ?_
    obtain ⟨x8,hx9⟩:∃z,l2[(i).toNat]? =some z:=⟨_,List.getElem?_eq_getElem (by omega)⟩
    have h_x8:=hx9
    refine lc (Q5 (e:= .vl) (z':=xj) (Qa rfl) rfl hx9 rfl (Qb rfl) rfl ZB rfl rfl) ?_
    iterate 5 refine w_ ?_
    refine Qj ?_
    refine (?_:AC _ _ _ _ _)
    iterate 4 refine w_ ?_
    refine Qj<|QS ⟨(i+1),(j+1),(l2.set ((i).toNat) xj),rfl,(by exact hD.keep h_xj (nbt (by assumption))),rfl⟩ (by first | omega | (simp only[List.length_set]; omega)) ?_
    exact Wk.of [(0,0),(1,1),(2,2),(8,8)] rfl ⟨rfl,rfl,rfl,rfl,rfl,trivial⟩ ⟨rfl,rfl,rfl,(Qv (by first | rfl | simp)),trivial⟩ rfl rfl
   ·refine w_ ?_
    refine AC.skip ?_
    refine (?_:AC _ _ _ _ _)
    iterate 4 refine w_ ?_
    refine Qj<|QS ⟨i,(j+1),l2,rfl,(by exact hD.drop_ h_xj (nbf (by assumption))),rfl⟩ (by first | omega | (simp only[List.length_set]; omega)) ?_
    exact Wk.of [(0,0),(1,1),(2,2),(8,8)] rfl ⟨rfl,rfl,rfl,rfl,rfl,trivial⟩ ⟨rfl,rfl,rfl,rfl,trivial⟩ rfl rfl
 ·have hb1':=of_decide_eq_true hb1
  iterate 5 refine w_ ?_
  refine Qe ?_
  subst hO
  exact Q2 _ _ [(0,0),(1,1),(2,2),(4,3)] (Qd rfl (Qc rfl)) (rfl) ⟨rfl,rfl,rfl,(Qv (by exact Qbh (by assumption))),trivial⟩ rfl rfl
theorem VN (c:(List (ByteArray×Int))×List ByteArray×(List (Int×Int×Bool×Int)))(hs:SgW c):FC Tryz.prog 77 [(true,[.dat (.sl 145 (.pr .str .int)) c.1, .dat (.sl 9 .str) c.2.1, .dat (.sl 179 (.pr .int (.pr .int (.pr .bool .int)))) c.2.2])] [] 0 (Zy (lf (.dat (.sl 106 (.sl 3 .int)) (ZQ c)))):=by
 have hr:∀a∈c.2.2,InR c.2.1.length a:=fun a ha=>(hs.arcs a ha).1
 have hn3:=hs.some_
 have hfw:=hs.few
 have hs8:=hs.sig8
 have hmn:=HB (n:=c.2.1.length) (as_:=c.2.2)
 have hml:=H9 (n:=c.2.1.length) (as_:=c.2.2)
 have hou:∀s∈ZW c.1 c.1.length,0≤s∧s≤7:=fun s h=>by obtain ⟨t,rfl,h1,_⟩:=Ul.1 h; omega
 have hal:=Qcj (c:=c) (f:=fun _ _=>true) (i:=c.2.1.length) (by omega) (Nat.le_refl _)
 refine QQ Tryz.func77 rfl rfl Tryz.ntmps77 fun O_ hO w0_ N0_ X_ h0_ f0_=> ?_
 refine w_ ?_
 refine lc (Qr 0 (Qb rfl) rfl rfl (Fresh.of rfl) (nlr rfl)) ?_
 iterate 2 refine w_ ?_
 refine dw [io 5 (ag [.dat (.sl 145 (.pr .str .int)) c.1, .dat (.sl 9 .str) c.2.1, .dat (.sl 179 (.pr .int (.pr .int (.pr .bool .int)))) c.2.2]),io 6 (lf (.dat (.sl 3 .int) (Xr c.2.1.length c.2.2))),io 7 (ag [.dat (.sl 145 (.pr .str .int)) c.1, .dat (.sl 9 .str) c.2.1, .dat (.sl 179 (.pr .int (.pr .int (.pr .bool .int)))) c.2.2]),io 8 (lf (.dat (.sl 3 .int) (ZW c.1 c.1.length))),⟨some 3,lP 1 0,[(1,some (.box 106 [.val (.slice none 0 0)]))]⟩,⟨some 4,lP 2 0,[(2,some (.box 106 [.val (.slice none 0 0)]))]⟩,⟨none,lf (.val undef),[(1,some (.box 106 [.dat (.sl 3 .int) (Xr c.2.1.length c.2.2)]))]⟩,⟨none,lf (.val undef),[(2,some (.box 106 [.dat (.sl 3 .int) (ZW c.1 c.1.length)]))]⟩] [0,1,0,7,0,0,63,127] mixed rfl (by kernel_rfl) ⟨dxa QK rfl rfl rfl rfl,fun _ h_=>ac (Qh (Vw c hs).frozen QbU ⟨_,_,rfl,(h_.w rfl),rfl⟩ rfl rfl) rfl,dxa QK rfl rfl rfl rfl,fun _ h_=>ac (Qh (Ke c (by omega)).frozen Qc8 ⟨_,_,rfl,(h_.w rfl),rfl⟩ rfl rfl) rfl,fun _ h_=>ac (Qw 1 (.sl 3 .int) KZ rfl rfl (h_.fr 1 rfl) (nlr rfl)) rfl,fun _ h_=>ac (Qw 2 (.sl 3 .int) KZ rfl rfl (h_.fr 2 rfl) (nlr rfl)) rfl,fun _ h_=>ac (Qf (h_.v rfl) (h_.n 1 rfl) (h_.w rfl) rfl ZB rfl) rfl,fun _ h_=>ac (Qf (h_.v rfl) (h_.n 2 rfl) (h_.w rfl) rfl ZB rfl) rfl,⟨⟩⟩ ?_
 iterate 2 refine w_ ?_
 refine lc (Y7 3 (JN c (by omega)) Qir ⟨_,_,rfl,(Qb rfl),rfl⟩ rfl (Fresh.of rfl) (nlr rfl))<|lc (Xe ⟨_,_,rfl,(Qa rfl),rfl,⟨_,_,rfl,(Qa rfl),rfl,rfl⟩⟩ rfl)<|AL.pool (q:=3) (e:= .int) 4 rfl (Fresh.of rfl) (nlr rfl) fun vs1 gf2 hvf3=>lc (QP 5 [(0,2),(1,1),(2,4),(3,3)] (Jl vs1 vs1 gf2 (ZW c.1 c.1.length) (Xr c.2.1.length c.2.2) hmn (fun v hv=>by rw[hml]; exact QlV (by rw[← hvf3]; exact List.mem_map_of_mem hv) (Nat.le_refl _)) hou (fun _ h=>h) (by have:=congrArg List.length hvf3; rw[List.length_map] at this; omega)) QhX ⟨_,_,rfl,(Qb rfl),⟨_,_,rfl,(Qb rfl),rfl⟩⟩ ⟨rfl,rfl,rfl,rfl,trivial⟩ rfl ⟨trivial,trivial,trivial,(Fresh.of rfl),trivial⟩ (nlr rfl)) ?_
 iterate 2 refine w_ ?_
 refine AC.wk (QlE (i:=2) (q:=9) (p:=4) rfl rfl rfl (fun z hz=>(List.mem_filter.1 hz).1))<|Qe ?_
 subst hO
 have e4:((vs1.filter (fun v:Hdr=> !(!((ZW c.1 c.1.length).any (fun s=>Wn (Xr c.2.1.length c.2.2) (gf2 v) s))))).map gf2:((.sl 106 (.sl 3 .int)):Ty).Den)=(ZQ c):=by
  exact (QmY hvf3).trans (Qn5 fun a ha=>(hr a ha).1.1)
 exact Qg (Qd rfl (Qc rfl)) ((congrArg (fun z_=>lf (.dat (.sl 106 (.sl 3 .int)) z_)) e4)) rfl
end Go.Proofs.YtnakmhfjafecpaaGreat
