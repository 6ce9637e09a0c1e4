/- Walks over abstract states: the candidate insertions and the best one, both sides. -/
import Derived.Test.YtnakmhfjafecpaaGreatUg
import Derived.Test.YtnakmhfjafecpaaGreatBp
import Derived.Test.YtnakmhfjafecpaaGreatAg
import Derived.Test.YtnakmhfjafecpaaGreatNet
set_option linter.unusedSimpArgs false
set_option linter.unusedVariables false
set_option linter.unusedSectionVars false
namespace Go.Proofs.YtnakmhfjafecpaaGreat
open Go.RowKit
set_option maxRecDepth 100000
set_option maxHeartbeats 4000000
abbrev Yu:=(Int×Bool)×Int×Bool
def Zf (k:Nat):List (Int×Bool):=(List.range k).flatMap fun i=>[(((i:Nat):Int),false),(((i:Nat):Int),true)]
section
variable {k:Nat}
theorem WA:(Zf k).length=2*k:=by
  unfold Zf
  induction k with
  | zero=>rfl
  | succ k ih=>rw[List.range_succ,List.flatMap_append,List.length_append,ih]; simp; omega
theorem QbW:Zf k++[(((k:Nat):Int),false),(((k:Nat):Int),true)]=Zf (k+1):=by
  unfold Zf
  rw[List.range_succ,List.flatMap_append]; simp
end
section
variable [∀c,Decidable (SgOk c)][∀s,Decidable (ZZ s)]{c:DSg}{a b:Int×Bool}{i j k n:Nat}{x:Yu}{L:List (Int×Bool)}
def isX (c:DSg)(a b:Int×Bool):Bool:= !decide (a=b)&&(ZE c (a,b)).2
def UK (c:DSg)(a:Int×Bool)(l:List (Int×Bool)):List Yu:=(l.filter fun b=>isX c a b).map fun b=>(a,b)
def Jm (c:DSg)(L l:List (Int×Bool)):List Yu:=l.flatMap fun a=>UK c a L
abbrev QY (c:DSg):List Yu:=Jm c (Zf c.1.length) (Zf c.1.length)
abbrev Ve (c:DSg)(l:List Yu):List (Yu×DSg):=l.map fun x=>(x,(ZE c x).1)
theorem K2 (hx:L[i]? =some b)(h:Ty.beq (.pr .int .bool) a b=true):UK c a (L.take i)=UK c a (L.take (i+1)):=by
  rw[QoK,decide_eq_true_eq] at h
  unfold UK
  rw[Za hx,List.filter_append,List.map_append]; simp[isX,h]
theorem K9 (hx:L[i]? =some b)(h:(ZE c (a,b)).2=false):UK c a (L.take i)=UK c a (L.take (i+1)):=by
  unfold UK
  rw[Za hx,List.filter_append,List.map_append]; simp[isX,h]
theorem Qbw (hx:L[i]? =some b)(h1:Ty.beq (.pr .int .bool) a b=false)(h:(ZE c (a,b)).2=true):UK c a (L.take i)++[(a,b)]=UK c a (L.take (i+1)):=by
  rw[QoK,decide_eq_false_iff_not] at h1
  unfold UK
  rw[Za hx,List.filter_append,List.map_append]; simp[isX,h,h1]
theorem QfH (hx:L[k]? =some a):Jm c L (L.take k)++UK c a L=Jm c L (L.take (k+1)):=by
  unfold Jm
  rw[Za hx,List.flatMap_append]; simp
theorem QfC:(UK c a L).length≤L.length:=by unfold UK; rw[List.length_map]; exact List.length_filter_le ..
theorem Qn3 {l:List (Int×Bool)}:(Jm c L l).length≤l.length*L.length:=by
  unfold Jm
  induction l with
  | nil=>simp
  | cons a l ih=>
    rw[List.flatMap_cons,List.length_append,List.length_cons,Nat.succ_mul]
    have:=QfC (c:=c) (a:=a) (L:=L)
    omega
theorem QbB (h:c.1.length≤8)(l:List (Int×Bool))(hl:l.length≤16):(Jm c (Zf c.1.length) l).length≤256:=by
  have h1:=Qn3 (c:=c) (L:=Zf c.1.length) (l:=l)
  rw[WA] at h1
  have:l.length*(2*c.1.length)≤16*16:=Nat.mul_le_mul hl (by omega)
  omega
theorem QnS (h:x∈Jm c L L):(x.1∈L∧x.2∈L)∧¬x.1=x.2∧(ZE c x).2=true:=by
  unfold Jm at h
  obtain ⟨a,ha,h⟩:=List.mem_flatMap.1 h
  unfold UK at h
  obtain ⟨b,hb,rfl⟩:=List.mem_map.1 h
  rw[List.mem_filter] at hb
  have h2:=hb.2
  unfold isX at h2
  simp only[Bool.and_eq_true,Bool.not_eq_true',decide_eq_false_iff_not] at h2
  exact ⟨⟨ha,hb.1⟩,h2.1,h2.2⟩
theorem Qgp (h:b∈Zf k):0≤b.1∧b.1≤(k:Int) - 1:=by
  unfold Zf at h
  obtain ⟨i,hi,h⟩:=List.mem_flatMap.1 h
  rw[List.mem_range] at hi
  simp only[List.mem_cons,List.not_mem_nil,or_false] at h
  rcases h with rfl | rfl <;> (simp only; omega)
theorem QjP (hs:SgOk c)(h:x∈QY c):Qgl c x∧(ZE c x).2=true:=by
  obtain ⟨⟨h1,h2⟩,h3,h4⟩:=QnS h
  exact ⟨⟨⟨⟨hs,Qgp h1⟩,Qgp h2⟩,h3⟩,h4⟩
theorem Qai (l:List Yu):(Ve c l).length=l.length:=List.length_map ..
theorem QmA {l:List Yu}{y:Yu×DSg}(h:(Ve c l)[i]? =some y):∃x,l[i]? =some x∧y=(x,(ZE c x).1):=by
  simp only[List.getElem?_map,Option.map_eq_some_iff] at h
  obtain ⟨x,h1,h2⟩:=h
  exact ⟨x,h1,h2.symm⟩
def Qbl (c:DSg)(x:Yu):Int:=((ZQ (ZE c x).1).length:Int)
def QkH (c:DSg)(x:Yu):Int:=((ZE c x).1.2.1.length:Int)
def Qld (c:DSg)(m:Option Yu)(x:Yu):Option Yu:=match m with
  | none=>some x
  | some y=>if Qbl c x < Qbl c y∨(Qbl c x=Qbl c y∧QkH c x < QkH c y) then some x else some y
def oC (c:DSg):Option Yu→Yu×DSg
  | some x=>(x,(ZE c x).1)
  | none=>(((0,false),0,false),([],[],[]))
def oF (c:DSg)(d:Int):Option Yu→Int
  | some x=>Qbl c x
  | none=>d
def oS (c:DSg):Option Yu→Int
  | some x=>QkH c x
  | none=>0
def Zm (c:DSg)(l:List Yu):Option Yu:=l.foldl (Qld c) none
def Zu (c:DSg)(l:List Yu):Yu:=(Zm c l).getD ((0,false),0,false)
def Zi (c:DSg)(l:List Yu):Yu×DSg:=oC c (Zm c l)
def Y3 (c:DSg)(l:List Yu):Int:=oF c 0 (Zm c l)
def Vc (c:DSg)(l:List Yu):Int:=oF c (-1) (Zm c l)
def Kj (c:DSg)(l:List Yu):Int:=oS c (Zm c l)
theorem QbS {l:List Yu}(hx:l[k]? =some x):Zm c (l.take (k+1))=Qld c (Zm c (l.take k)) x:=by
  unfold Zm
  rw[Za hx,List.foldl_append]; rfl
theorem Qi3 (x:Yu):0≤Qbl c x:=Int.natCast_nonneg _
theorem QdQ {l:List Yu}:Vc c l < 0↔Zm c l=none:=by
  unfold Vc
  cases h:Zm c l with
  | none=>simp[oF]
  | some y=>have:=Qi3 (c:=c) y; simp[oF]; omega
theorem J4 {l:List Yu}(hx:l[k]? =some x)(h:Zm c (l.take k)=none∨Qbl c x < Y3 c (l.take k)∨(Qbl c x=Y3 c (l.take k)∧QkH c x < Kj c (l.take k))):Zm c (l.take (k+1))=some x:=by
  rw[QbS hx]
  unfold Y3 Kj at h
  cases hb:Zm c (l.take k) with
  | none=>rfl
  | some y=>
    rw[hb] at h
    exact if_pos (h.resolve_left (by simp))
theorem QfN {l:List Yu}(hx:l[k]? =some x)(h0:¬Zm c (l.take k)=none)(h:¬(Qbl c x < Y3 c (l.take k)∨(Qbl c x=Y3 c (l.take k)∧QkH c x < Kj c (l.take k)))):Zm c (l.take (k+1))=Zm c (l.take k):=by
  rw[QbS hx]
  unfold Y3 Kj at h
  cases hb:Zm c (l.take k) with
  | none=>exact absurd hb h0
  | some y=>
    rw[hb] at h
    exact if_neg h
theorem KP {l:List Yu}{m:Option Yu}(h:Zm c l=m):Zu c l=m.getD ((0,false),0,false)∧Zi c l=oC c m∧Y3 c l=oF c 0 m∧Vc c l=oF c (-1) m∧Kj c l=oS c m:=by
  subst h; exact ⟨rfl,rfl,rfl,rfl,rfl⟩
theorem Qjf {l:List Yu}(h:¬Vc c l < 0):Y3 c l=Vc c l:=by
  unfold Vc at h
  unfold Y3 Vc
  cases hb:Zm c l with
  | none=>rw[hb] at h; simp[oF] at h
  | some y=>rfl
theorem Qkb {l:List Yu}(h:¬Zm c l=none):((Zi c l).2.2.1.length:Int)=Kj c l:=by
  unfold Zi Kj
  cases hb:Zm c l with
  | none=>exact absurd hb h
  | some y=>rfl
theorem QnL {l:List Yu}:(Zi c l).1=Zu c l:=by
  unfold Zi Zu
  cases hb:Zm c l <;> rfl
theorem Qde (hs:SgOk c)(h:x∈QY c):YR c x=Qbl c x∧Ww c x=QkH c x∧Vf c x=true:=by
  obtain ⟨h1,h2⟩:=QjP hs h
  have h3:=He h1 h2
  exact ⟨if_pos h3,if_pos h3,h3⟩
theorem QdR (hs:SgOk c)(h:x∈QY c):SgOk (ZE c x).1:=Qme (QjP hs h).2
def Qq0 (c:DSg):Yu:=if SgOk c then Zu c (QY c) else ((0,false),0,false)
def QqO (c:DSg):Bool:=decide (SgOk c)&&(Zm c (QY c)).isSome
section
variable {l:List Yu}{y cand:Yu×DSg}{few st:Int}{fnd:Bool}{bx:Yu}
theorem QeN (hx:l[k]? =some x)(hy:y=(x,(ZE c x).1))(hB:cand=Zi c (l.take k)∧few=Y3 c (l.take k)∧fnd=(Zm c (l.take k)).isSome)
    (h:fnd=false∨((ZQ y.2).length:Int) < few∨(((ZQ y.2).length:Int)=few∧(y.2.2.1.length:Int) < (cand.2.2.1.length:Int))):
    y=Zi c (l.take (k+1))∧((ZQ y.2).length:Int)=Y3 c (l.take (k+1))∧true=(Zm c (l.take (k+1))).isSome:=by
  obtain ⟨h1,h2,h3⟩:=hB
  subst hy
  have hn:Zm c (l.take (k+1))=some x:=by
    by_cases h0:Zm c (l.take k)=none
    · exact J4 hx (.inl h0)
    · refine J4 hx (.inr ?_)
      rw[h2,h1,Qkb h0] at h
      rcases h with h | h
      · rw [h3] at h; cases hb : Zm c (l.take k) with
        | none=>exact absurd hb h0
        | some z=>rw[hb] at h; cases h
      · exact h
  obtain ⟨_,e2,e3,_,_⟩:=KP hn
  exact ⟨e2.symm,e3.symm,by rw[hn]; rfl⟩
theorem QjF (hx:l[k]? =some x)(hy:y=(x,(ZE c x).1))(hB:cand=Zi c (l.take k)∧few=Y3 c (l.take k)∧fnd=(Zm c (l.take k)).isSome)
    (h0:fnd=true) (h1:¬((ZQ y.2).length:Int) < few) (h2:¬(((ZQ y.2).length:Int)=few∧(y.2.2.1.length:Int) < (cand.2.2.1.length:Int))):
    cand=Zi c (l.take (k+1))∧few=Y3 c (l.take (k+1))∧true=(Zm c (l.take (k+1))).isSome:=by
  obtain ⟨g1,g2,g3⟩:=hB
  subst hy
  have hne:¬Zm c (l.take k)=none:=fun h=>by rw[g3,h] at h0; cases h0
  have hn:Zm c (l.take (k+1))=Zm c (l.take k):=QfN hx hne fun h=>by
    rw[g2] at h1 h2
    rw[g1,Qkb hne] at h2
    rcases h with h | h
    · exact h1 h
    · exact h2 h
  obtain ⟨_,e2,e3,_,_⟩:=KP hn
  refine ⟨g1.trans ?_,g2.trans ?_,by rw[hn,← g3,h0]⟩
  · rw[e2]; rfl
  · rw[e3]; rfl
theorem QeM (hs:SgOk c)(hm:x∈QY c)(hx:l[k]? =some x)(hB:bx=Zu c (l.take k)∧few=Vc c (l.take k)∧st=Kj c (l.take k))
    (h:few < 0∨YR c x < few∨(YR c x=few∧Ww c x < st)):x=Zu c (l.take (k+1))∧YR c x=Vc c (l.take (k+1))∧Ww c x=Kj c (l.take (k+1)):=by
  obtain ⟨h1,h2,h3⟩:=hB
  obtain ⟨c1,c2,_⟩:=Qde hs hm
  rw[c1,c2] at h ⊢
  have hn:Zm c (l.take (k+1))=some x:=by
    by_cases h0:Zm c (l.take k)=none
    · exact J4 hx (.inl h0)
    · have hM : ¬ Vc c (l.take k) < 0 := fun h => h0 (QdQ.1 h)
      refine J4 hx (.inr ?_)
      rw[Qjf hM]
      rw[h2,h3] at h
      exact h.resolve_left hM
  obtain ⟨e1,_,_,e4,e5⟩:=KP hn
  exact ⟨e1.symm,e4.symm,e5.symm⟩
theorem Qjk (hs:SgOk c)(hm:x∈QY c)(hx:l[k]? =some x)(hB:bx=Zu c (l.take k)∧few=Vc c (l.take k)∧st=Kj c (l.take k))
    (h0:¬few < 0) (h1:¬YR c x < few) (h2':¬(YR c x=few∧Ww c x < st)):bx=Zu c (l.take (k+1))∧few=Vc c (l.take (k+1))∧st=Kj c (l.take (k+1)):=by
  obtain ⟨g1,g2,g3⟩:=hB
  obtain ⟨c1,c2,_⟩:=Qde hs hm
  rw[c1] at h1
  rw[c1,c2] at h2'
  have hne:¬Zm c (l.take k)=none:=fun h=>by rw[g2] at h0; exact h0 (QdQ.2 h)
  have hn:Zm c (l.take (k+1))=Zm c (l.take k):=QfN hx hne fun h=>by
    rw[Qjf (by rw[← g2]; exact h0),← g2,← g3] at h
    rcases h with h | h
    · exact h1 h
    · exact h2' h
  obtain ⟨e1,_,_,e4,e5⟩:=KP hn
  refine ⟨g1.trans ?_,g2.trans ?_,g3.trans ?_⟩
  · rw[e1]; rfl
  · rw[e4]; rfl
  · rw[e5]; rfl
theorem KK:decide (0≤Vc c l)=(Zm c l).isSome:=by
  cases h:Zm c l with
  | none=>unfold Vc; rw[h]; rfl
  | some y=>unfold Vc; rw[h]; exact decide_eq_true (Qi3 y)
theorem Qdk {P:List (Yu×DSg)}(hx:L[i]? =some b)(h1:Ty.beq (.pr .int .bool) a b=false)(h:(ZE c (a,b)).2=true):(P++Ve c (UK c a (L.take i)))++[((a,b),(ZE c (a,b)).1)]=P++Ve c (UK c a (L.take (i+1))):=by
  rw[← Qbw hx h1 h,Ve,Ve,List.map_append,List.append_assoc]; rfl
end
end
theorem Ux (c:(List (ByteArray×Int))×List ByteArray×(List (Int×Int×Bool×Int)))(hl:c.1.length≤100000):FC Tryz.prog 162 [(true,[.dat (.sl 145 (.pr .str .int)) c.1, .dat (.sl 9 .str) c.2.1, .dat (.sl 179 (.pr .int (.pr .int (.pr .bool .int)))) c.2.2])] [] 0 (XZ 61 (.pr .int .bool) (Zf c.1.length)):=by
 refine QQ Tryz.func162 rfl rfl Tryz.ntmps162 fun O_ hO w0_ N0_ X_ h0_ f0_=> ?_
 refine w_ ?_
 refine lc (Qr 0 (Qb rfl) rfl rfl (Fresh.of rfl) (nlr rfl)) ?_
 iterate 3 refine w_ ?_
 refine lc (Qk 1 (e:=(.pr .int .bool)) U3 Xt U0 rfl rfl (List.all_eq_true.1 rfl) ⟨rfl,rfl⟩ (by decide) rfl rfl (Fresh.of rfl) (nlr rfl)) ?_
 iterate 6 refine w_ ?_
 refine AL.fact (QB (x:= .tmp 7) (Qa rfl)) fun hl1=> ?_
 iterate 4 refine w_ ?_
 refine Qy (fun m_ s_=>∃(k:Nat),k≤c.1.length∧m_=c.1.length - k∧s_=⟨[(2,lf (.val (.slice none 0 0))),(3,lR 2),(8,lI (c.1.length:Int)),(9,lI (k:Int))],[(2,some (.arr 61 (.pr .int .bool) (Zf k)))]⟩) ⟨0,Nat.zero_le _,rfl,rfl⟩ ?_ ?_
 · exact Wk.of [(2,1)] rfl ⟨rfl,rfl,rfl,rfl,trivial⟩ ⟨(Qv (rfl)),trivial⟩ rfl rfl
 rintro m_ s_ ⟨k,hk2,hm3,rfl⟩
 have hll:=WA (k:=k)
 iterate 4 refine w_ ?_
 cases hb4:(decide ((k:Int) < (c.1.length:Int)))
 ·have hb4':=of_decide_eq_false hb4
  refine w_ ?_
  refine QA ?_
  refine (?_:AC _ _ _ _ _)
  iterate 4 refine w_ ?_
  refine Qe ?_
  subst hO
  refine ZC (e:=(.pr .int .bool)) (xs:=(Zf k)) (Qd rfl (Qc rfl)) rfl ?_
  (congr 1; omega)
 ·have hb4':=of_decide_eq_true hb4
  iterate 11 refine w_ ?_
  refine lc (QC W5 ⟨_,_,rfl,(Qb rfl),⟨_,_,rfl,(Evl.ev QU),rfl⟩⟩ (List.all_eq_true.1 rfl) rfl rfl) ?_
  refine w_ ?_
  refine lc (QC W5 ⟨_,_,rfl,(Qb rfl),⟨_,_,rfl,(Evl.ev QU),rfl⟩⟩ (List.all_eq_true.1 rfl) rfl rfl)<|lc (Qk 3 (e:=(.pr .int .bool)) U3 Xt U0 rfl ⟨_,_,rfl,(Qb rfl),⟨_,_,rfl,(Qb rfl),rfl⟩⟩ (List.all_eq_true.1 rfl) ⟨_,_,_,_,rfl,⟨[dI (k:Int)],[dB false],_,_,_,_,rfl,rfl,⟨rfl,rfl⟩,⟨rfl,rfl⟩,rfl⟩,⟨_,_,_,_,rfl,⟨[dI (k:Int)],[dB true],_,_,_,_,rfl,rfl,⟨rfl,rfl⟩,⟨rfl,rfl⟩,rfl⟩,⟨rfl,rfl⟩,rfl⟩,rfl⟩ (by decide) rfl rfl (Fresh.of rfl) (nlr rfl))<|lc (Q0 4 (Qa rfl) rfl (Qa rfl) rfl rfl U3 QlH (by first | omega | (simp only[List.length_append,List.length_map,List.length_take,List.length_cons,List.length_nil]; omega) | (simp only[List.length_append,List.length_drop,List.length_take,List.length_cons,List.length_nil]; omega)) rfl (Fresh.of rfl) (nlr rfl)) ?_
  refine w_ ?_
  refine Qj ?_
  refine (?_:AC _ _ _ _ _)
  iterate 3 refine w_ ?_
  refine Qj<|QS ⟨k+1,by omega,rfl,rfl⟩ (by omega) ?_
  exact Wk.of [(2,4)] rfl ⟨rfl,rfl,rfl,rfl,trivial⟩ ⟨(Qv (QbW)),trivial⟩ rfl rfl
theorem VT (c:(List (ByteArray×Int))×List ByteArray×(List (Int×Int×Bool×Int)))(hl:c.1.length≤100000):FC Tryz.prog 161 [(true,[.dat (.sl 145 (.pr .str .int)) c.1, .dat (.sl 9 .str) c.2.1, .dat (.sl 179 (.pr .int (.pr .int (.pr .bool .int)))) c.2.2])] [] 0 (XZ 61 (.pr .int .bool) (Zf c.1.length)):=by
 refine QQ Tryz.func161 rfl rfl Tryz.ntmps161 fun O_ hO w0_ N0_ X_ h0_ f0_=> ?_
 refine w_ ?_
 refine lc (Qr 0 (Qb rfl) rfl rfl (Fresh.of rfl) (nlr rfl)) ?_
 iterate 9 refine w_ ?_
 refine AL.fact (QB (x:= .tmp 6) (Qa rfl)) fun hl1=> ?_
 iterate 4 refine w_ ?_
 refine AC.wk (Wk.nilS 1 3 61 (.pr .int .bool) rfl (Fresh.of rfl) (nlr rfl)) ?_
 refine Qy (fun m_ s_=>∃(k:Nat),k≤c.1.length∧m_=c.1.length - k∧s_=⟨[(2,lf (.val (.slice none 0 0))),(3,lR 2),(7,lI (c.1.length:Int)),(8,lI (k:Int))],[(2,some (.arr 61 (.pr .int .bool) (Zf k)))]⟩) ⟨0,Nat.zero_le _,rfl,rfl⟩ ?_ ?_
 · exact Wk.of [(2,1)] rfl ⟨rfl,rfl,rfl,rfl,trivial⟩ ⟨(Qv (rfl)),trivial⟩ rfl rfl
 rintro m_ s_ ⟨k,hk2,hm3,rfl⟩
 have hll:=WA (k:=k)
 iterate 4 refine w_ ?_
 cases hb4:(decide ((k:Int) < (c.1.length:Int)))
 ·have hb4':=of_decide_eq_false hb4
  refine w_ ?_
  refine QA ?_
  refine (?_:AC _ _ _ _ _)
  iterate 4 refine w_ ?_
  refine Qe ?_
  subst hO
  refine ZC (e:=(.pr .int .bool)) (xs:=(Zf k)) (Qd rfl (Qc rfl)) rfl ?_
  (congr 1; omega)
 ·have hb4':=of_decide_eq_true hb4
  iterate 11 refine w_ ?_
  refine lc (QC W5 ⟨_,_,rfl,(Qb rfl),rfl⟩ (List.all_eq_true.1 rfl) rfl rfl) ?_
  refine w_ ?_
  refine lc (QC W5 ⟨_,_,rfl,(Qb rfl),⟨_,_,rfl,(Evl.ev QU),rfl⟩⟩ (List.all_eq_true.1 rfl) rfl rfl)<|lc (Qk 3 (e:=(.pr .int .bool)) U3 Xt U0 rfl ⟨_,_,rfl,(Qb rfl),⟨_,_,rfl,(Qb rfl),rfl⟩⟩ (List.all_eq_true.1 rfl) ⟨_,_,_,_,rfl,⟨[dI (k:Int)],[dB false],_,_,_,_,rfl,rfl,⟨rfl,rfl⟩,⟨rfl,rfl⟩,rfl⟩,⟨_,_,_,_,rfl,⟨[dI (k:Int)],[dB true],_,_,_,_,rfl,rfl,⟨rfl,rfl⟩,⟨rfl,rfl⟩,rfl⟩,⟨rfl,rfl⟩,rfl⟩,rfl⟩ (by decide) rfl rfl (Fresh.of rfl) (nlr rfl))<|lc (Q0 4 (Qa rfl) rfl (Qa rfl) rfl rfl U3 QlH (by first | omega | (simp only[List.length_append,List.length_map,List.length_take,List.length_cons,List.length_nil]; omega) | (simp only[List.length_append,List.length_drop,List.length_take,List.length_cons,List.length_nil]; omega)) rfl (Fresh.of rfl) (nlr rfl)) ?_
  refine w_ ?_
  refine Qj ?_
  refine (?_:AC _ _ _ _ _)
  iterate 3 refine w_ ?_
  refine Qj<|QS ⟨k+1,by omega,rfl,rfl⟩ (by omega) ?_
  exact Wk.of [(2,4)] rfl ⟨rfl,rfl,rfl,rfl,trivial⟩ ⟨(Qv (QbW)),trivial⟩ rfl rfl
theorem JE (c:(List (ByteArray×Int))×List ByteArray×(List (Int×Int×Bool×Int)))[∀c,Decidable (SgOk c)][∀s,Decidable (ZZ s)](hs:SgOk c):FC Tryz.prog 86 [(true,[.dat (.sl 145 (.pr .str .int)) c.1, .dat (.sl 9 .str) c.2.1, .dat (.sl 179 (.pr .int (.pr .int (.pr .bool .int)))) c.2.2])] [] 0 (XZ 129 (.pr (.pr (.pr .int .bool) (.pr .int .bool)) (.pr (.sl 145 (.pr .str .int)) (.pr (.sl 9 .str) (.sl 179 (.pr .int (.pr .int (.pr .bool .int))))))) (Ve c (QY c))):=by
 have hs8:=hs.sigs.2.2
 have hll:=WA (k:=c.1.length)
 have hcf:=QbB (c:=c) hs8
 refine QQ Tryz.func86 rfl rfl Tryz.ntmps86 fun O_ hO w0_ N0_ X_ h0_ f0_=> ?_
 refine w_ ?_
 refine lc (Qr 0 (Qb rfl) rfl rfl (Fresh.of rfl) (nlr rfl)) ?_
 iterate 3 refine w_ ?_
 refine lc (Qk 1 (e:=(.pr (.pr (.pr .int .bool) (.pr .int .bool)) (.pr (.sl 145 (.pr .str .int)) (.pr (.sl 9 .str) (.sl 179 (.pr .int (.pr .int (.pr .bool .int)))))))) QbL XX UV rfl rfl (List.all_eq_true.1 rfl) ⟨rfl,rfl⟩ (by decide) rfl rfl (Fresh.of rfl) (nlr rfl)) ?_
 iterate 5 refine w_ ?_
 refine lc (Qh (Ux c (by omega)).frozen QcD ⟨_,_,rfl,(Qb rfl),rfl⟩ rfl rfl)<|AL.fact (QB (x:= .tmp 12) (Qa rfl)) fun hl1=> ?_
 iterate 4 refine w_ ?_
 refine Qy (fun m_ s_=>∃(k:Nat),k≤(Zf c.1.length).length∧m_=(Zf c.1.length).length - k∧s_=⟨[(1,lP 0 0),(2,lf (.val (.slice none 0 0))),(3,lR 2),(12,lf (.dat (.sl 61 (.pr .int .bool)) (Zf c.1.length))),(13,lI ((Zf c.1.length).length:Int)),(14,lI (k:Int))],[(0,some (.box 59 [.dat (.sl 145 (.pr .str .int)) c.1, .dat (.sl 9 .str) c.2.1, .dat (.sl 179 (.pr .int (.pr .int (.pr .bool .int)))) c.2.2])),(2,some (.arr 129 (.pr (.pr (.pr .int .bool) (.pr .int .bool)) (.pr (.sl 145 (.pr .str .int)) (.pr (.sl 9 .str) (.sl 179 (.pr .int (.pr .int (.pr .bool .int))))))) (Ve c (Jm c (Zf c.1.length) ((Zf c.1.length).take k)))))]⟩) ⟨0,Nat.zero_le _,rfl,rfl⟩ ?_ ?_
 · exact Wk.of [(0,0),(2,1)] rfl ⟨rfl,rfl,rfl,rfl,rfl,rfl,trivial⟩ ⟨rfl,(Qv (rfl)),trivial⟩ rfl rfl
 rintro m_ s_ ⟨k,hk2,hm3,rfl⟩
 have htk:((Zf c.1.length).take k).length≤16:=by simp only[List.length_take]; omega
 have hck:=hcf _ htk
 have hwl:=Qai (c:=c) (Jm c (Zf c.1.length) ((Zf c.1.length).take k))
 iterate 4 refine w_ ?_
 cases hb4:(decide ((k:Int) < ((Zf c.1.length).length:Int)))
 ·have hb4':=of_decide_eq_false hb4
  refine w_ ?_
  refine QA ?_
  refine (?_:AC _ _ _ _ _)
  iterate 4 refine w_ ?_
  refine Qe ?_
  subst hO
  refine ZC (e:=(.pr (.pr (.pr .int .bool) (.pr .int .bool)) (.pr (.sl 145 (.pr .str .int)) (.pr (.sl 9 .str) (.sl 179 (.pr .int (.pr .int (.pr .bool .int)))))))) (xs:=(Ve c (Jm c (Zf c.1.length) ((Zf c.1.length).take k)))) (Qd rfl (Qc rfl)) rfl ?_
  (rw[Zh (by omega)]; done)
 ·have hb4':=of_decide_eq_true hb4
  iterate 5 refine w_ ?_
  obtain ⟨a,hx6⟩:∃z,(Zf c.1.length)[k]? =some z:=⟨_,List.getElem?_eq_getElem (by omega)⟩
  refine lc (Qm (Qa rfl) (Qa rfl) U3 Xt rfl (by omega) hx6) ?_
  refine w_ ?_
  refine lc (Qw 3 (.pr .int .bool) U0 rfl rfl (Fresh.of rfl) (nlr rfl))<|lc (Qf (Qa rfl) rfl (Qb rfl) rfl Xt rfl) ?_
  iterate 3 refine w_ ?_
  refine lc (Qh (Ux c (by omega)).frozen QcD ⟨_,_,rfl,(Qb rfl),rfl⟩ rfl rfl)<|AL.fact (QB (x:= .tmp 19) (Qa rfl)) fun hl7=> ?_
  iterate 4 refine w_ ?_
  refine Qy (fun m_ s_=>∃(i:Nat),i≤(Zf c.1.length).length∧m_=(Zf c.1.length).length - i∧s_=⟨[(1,lP 0 0),(2,lf (.val (.slice none 0 0))),(3,lR 4),(5,lP 3 0),(12,lf (.dat (.sl 61 (.pr .int .bool)) (Zf c.1.length))),(13,lI ((Zf c.1.length).length:Int)),(14,lI (k:Int)),(15,lB true),(16,lf (.elt (.pr .int .bool) a 0)),(17,ag [dI a.1,dB a.2]),(18,ag [.dat (.sl 145 (.pr .str .int)) c.1, .dat (.sl 9 .str) c.2.1, .dat (.sl 179 (.pr .int (.pr .int (.pr .bool .int)))) c.2.2]),(19,lf (.dat (.sl 61 (.pr .int .bool)) (Zf c.1.length))),(20,lI ((Zf c.1.length).length:Int)),(21,lI (i:Int))],[(0,some (.box 59 [.dat (.sl 145 (.pr .str .int)) c.1, .dat (.sl 9 .str) c.2.1, .dat (.sl 179 (.pr .int (.pr .int (.pr .bool .int)))) c.2.2])),(3,some (.box 61 [dI a.1,dB a.2])),(4,some (.arr 129 (.pr (.pr (.pr .int .bool) (.pr .int .bool)) (.pr (.sl 145 (.pr .str .int)) (.pr (.sl 9 .str) (.sl 179 (.pr .int (.pr .int (.pr .bool .int))))))) (Ve c (Jm c (Zf c.1.length) ((Zf c.1.length).take k))++Ve c (UK c a ((Zf c.1.length).take i)))))]⟩) ⟨0,Nat.zero_le _,rfl,rfl⟩ ?_ ?_
  · exact Wk.of [(0,0),(3,3),(4,2)] rfl ⟨rfl,rfl,rfl,rfl,rfl,rfl,rfl,rfl,rfl,rfl,rfl,rfl,rfl,rfl,trivial⟩ ⟨rfl,rfl,(Qv ((List.append_nil _).symm)),trivial⟩ rfl rfl
  rintro m_ s_ ⟨i,hk8,hm9,rfl⟩
  have hwr:=Qai (c:=c) (UK c a ((Zf c.1.length).take i))
  have hrl:=QfC (c:=c) (a:=a) (L:=(Zf c.1.length).take i)
  have hti:((Zf c.1.length).take i).length≤16:=by simp only[List.length_take]; omega
  iterate 4 refine w_ ?_
  cases hb10:(decide ((i:Int) < ((Zf c.1.length).length:Int)))
  ·have hb10':=of_decide_eq_false hb10
   refine w_ ?_
   refine QA ?_
   refine (?_:AC _ _ _ _ _)
   iterate 3 refine w_ ?_
   refine Qj<|QS ⟨k+1,by omega,rfl,rfl⟩ (by omega) ?_
   exact Wk.of [(0,0),(2,4)] rfl ⟨rfl,rfl,rfl,rfl,rfl,rfl,trivial⟩ ⟨rfl,(Qv ((by rw[Zh (l:=Zf c.1.length) (k:=i) (by omega),← QfH hx6,Ve,Ve,Ve,List.map_append]))),trivial⟩ rfl rfl
  ·have hb10':=of_decide_eq_true hb10
   iterate 5 refine w_ ?_
   obtain ⟨b,hx12⟩:∃z,(Zf c.1.length)[i]? =some z:=⟨_,List.getElem?_eq_getElem (by omega)⟩
   refine lc (Qm (Qa rfl) (Qa rfl) U3 Xt rfl (by omega) hx12) ?_
   refine w_ ?_
   refine lc (Qw 5 (.pr .int .bool) U0 rfl rfl (Fresh.of rfl) (nlr rfl))<|lc (Qf (Qa rfl) rfl (Qb rfl) rfl Xt rfl) ?_
   iterate 5 refine w_ ?_
   refine lc (KU JL Jy (Qb rfl) (Qb rfl) (p:=a) (q:=b) rfl rfl rfl) ?_
   refine w_ ?_
   cases hb13:(Ty.beq (.pr .int .bool) a b)
   ·iterate 6 refine w_ ?_
    refine lc (QC QeZ ⟨_,_,rfl,(Qb rfl),⟨_,_,rfl,(Qb rfl),rfl⟩⟩ (List.all_eq_true.1 rfl) rfl rfl)<|lc (Ya 6 (Qdx c (a,b) hs) Qlj ⟨_,_,rfl,(Qb rfl),⟨_,_,rfl,(Qb rfl),rfl⟩⟩ rfl rfl ⟨Fresh.of rfl,Fresh.of rfl,Fresh.of rfl,trivial⟩ (nlr rfl)) ?_
    iterate 3 refine w_ ?_
    refine lc (Qw 9 (.pr (.sl 145 (.pr .str .int)) (.pr (.sl 9 .str) (.sl 179 (.pr .int (.pr .int (.pr .bool .int)))))) YB rfl rfl (Fresh.of rfl) (nlr rfl))<|lc (Qf (Qa rfl) rfl (Qb rfl) rfl QK rfl) ?_
    iterate 5 refine w_ ?_
    cases hb14:((ZE c (a,b)).2)
    ·refine w_ ?_
     refine AC.skip ?_
     refine (?_:AC _ _ _ _ _)
     iterate 3 refine w_ ?_
     refine Qj<|QS ⟨i+1,by omega,rfl,rfl⟩ (by omega) ?_
     exact Wk.of [(0,0),(3,3),(4,4)] rfl ⟨rfl,rfl,rfl,rfl,rfl,rfl,rfl,rfl,rfl,rfl,rfl,rfl,rfl,rfl,trivial⟩ ⟨rfl,rfl,(Qv (by first | exact Qdk hx12 (by assumption) (by assumption) | rw[K2 hx12 (by assumption)] | rw[K9 hx12 (by assumption)])),trivial⟩ rfl rfl
    ·iterate 5 refine w_ ?_
     refine lc (QC QeZ ⟨_,_,rfl,(Qb rfl),⟨_,_,rfl,(Qb rfl),rfl⟩⟩ (List.all_eq_true.1 rfl) rfl rfl) ?_
     refine w_ ?_
     refine lc (QC QjS ⟨_,_,rfl,(Qb rfl),⟨_,_,rfl,(Qb rfl),rfl⟩⟩ (List.all_eq_true.1 rfl) rfl rfl)<|lc (Qk 10 (e:=(.pr (.pr (.pr .int .bool) (.pr .int .bool)) (.pr (.sl 145 (.pr .str .int)) (.pr (.sl 9 .str) (.sl 179 (.pr .int (.pr .int (.pr .bool .int)))))))) QbL XX UV rfl ⟨_,_,rfl,(Qb rfl),rfl⟩ (List.all_eq_true.1 rfl) ⟨_,_,_,_,rfl,⟨[dI a.1,dB a.2,dI b.1,dB b.2],[.ref 6, .ref 7, .ref 8],_,_,_,_,rfl,rfl,⟨[dI a.1,dB a.2],[dI b.1,dB b.2],_,_,_,_,rfl,rfl,⟨[dI a.1],[dB a.2],_,_,_,_,rfl,rfl,⟨rfl,rfl⟩,⟨rfl,rfl⟩,rfl⟩,⟨[dI b.1],[dB b.2],_,_,_,_,rfl,rfl,⟨rfl,rfl⟩,⟨rfl,rfl⟩,rfl⟩,rfl⟩,⟨[.ref 6],[.ref 7, .ref 8],_,_,_,_,rfl,rfl,(.inl ⟨_,rfl,rfl,rfl⟩),⟨[.ref 7],[.ref 8],_,_,_,_,rfl,rfl,(.inl ⟨_,rfl,rfl,rfl⟩),(.inl ⟨_,rfl,rfl,rfl⟩),rfl⟩,rfl⟩,rfl⟩,⟨rfl,rfl⟩,rfl⟩ (by decide) rfl rfl (Fresh.of rfl) (nlr rfl))<|lc (Q0 11 (Qa rfl) rfl (Qa rfl) rfl rfl QbL QnE (by first | omega | (simp only[List.length_append,List.length_map,List.length_take,List.length_cons,List.length_nil]; omega) | (simp only[List.length_append,List.length_drop,List.length_take,List.length_cons,List.length_nil]; omega)) rfl (Fresh.of rfl) (nlr rfl)) ?_
     refine w_ ?_
     refine Qj ?_
     refine (?_:AC _ _ _ _ _)
     iterate 3 refine w_ ?_
     refine Qj<|QS ⟨i+1,by omega,rfl,rfl⟩ (by omega) ?_
     exact Wk.of [(0,0),(3,3),(4,11)] rfl ⟨rfl,rfl,rfl,rfl,rfl,rfl,rfl,rfl,rfl,rfl,rfl,rfl,rfl,rfl,trivial⟩ ⟨rfl,rfl,(Qv (by first | exact Qdk hx12 (by assumption) (by assumption) | rw[K2 hx12 (by assumption)] | rw[K9 hx12 (by assumption)])),trivial⟩ rfl rfl
   ·refine w_ ?_
    refine QA ?_
    refine (?_:AC _ _ _ _ _)
    iterate 3 refine w_ ?_
    refine Qj<|QS ⟨i+1,by omega,rfl,rfl⟩ (by omega) ?_
    exact Wk.of [(0,0),(3,3),(4,4)] rfl ⟨rfl,rfl,rfl,rfl,rfl,rfl,rfl,rfl,rfl,rfl,rfl,rfl,rfl,rfl,trivial⟩ ⟨rfl,rfl,(Qv (by first | exact Qdk hx12 (by assumption) (by assumption) | rw[K2 hx12 (by assumption)] | rw[K9 hx12 (by assumption)])),trivial⟩ rfl rfl
theorem JB (c:(List (ByteArray×Int))×List ByteArray×(List (Int×Int×Bool×Int)))[∀c,Decidable (SgOk c)][∀s,Decidable (ZZ s)](hs:SgOk c):FC Tryz.prog 85 [(true,[.dat (.sl 145 (.pr .str .int)) c.1, .dat (.sl 9 .str) c.2.1, .dat (.sl 179 (.pr .int (.pr .int (.pr .bool .int)))) c.2.2])] [] 0 (XZ 63 (.pr (.pr .int .bool) (.pr .int .bool)) (QY c)):=by
 have hs8:=hs.sigs.2.2
 have hll:=WA (k:=c.1.length)
 have hcf:=QbB (c:=c) hs8
 refine QQ Tryz.func85 rfl rfl Tryz.ntmps85 fun O_ hO w0_ N0_ X_ h0_ f0_=> ?_
 refine w_ ?_
 refine lc (Qr 0 (Qb rfl) rfl rfl (Fresh.of rfl) (nlr rfl)) ?_
 iterate 8 refine w_ ?_
 refine lc (Qh (VT c (by omega)).frozen QcL ⟨_,_,rfl,(Qb rfl),rfl⟩ rfl rfl)<|AL.fact (QB (x:= .tmp 11) (Qa rfl)) fun hl1=> ?_
 iterate 4 refine w_ ?_
 refine AC.wk (Wk.nilS 1 3 63 (.pr (.pr .int .bool) (.pr .int .bool)) rfl (Fresh.of rfl) (nlr rfl)) ?_
 refine Qy (fun m_ s_=>∃(k:Nat),k≤(Zf c.1.length).length∧m_=(Zf c.1.length).length - k∧s_=⟨[(1,lP 0 0),(2,lf (.val (.slice none 0 0))),(3,lR 2),(11,lf (.dat (.sl 61 (.pr .int .bool)) (Zf c.1.length))),(12,lI ((Zf c.1.length).length:Int)),(13,lI (k:Int))],[(0,some (.box 59 [.dat (.sl 145 (.pr .str .int)) c.1, .dat (.sl 9 .str) c.2.1, .dat (.sl 179 (.pr .int (.pr .int (.pr .bool .int)))) c.2.2])),(2,some (.arr 63 (.pr (.pr .int .bool) (.pr .int .bool)) (Jm c (Zf c.1.length) ((Zf c.1.length).take k))))]⟩) ⟨0,Nat.zero_le _,rfl,rfl⟩ ?_ ?_
 · exact Wk.of [(0,0),(2,1)] rfl ⟨rfl,rfl,rfl,rfl,rfl,rfl,trivial⟩ ⟨rfl,(Qv (rfl)),trivial⟩ rfl rfl
 rintro m_ s_ ⟨k,hk2,hm3,rfl⟩
 have htk:((Zf c.1.length).take k).length≤16:=by simp only[List.length_take]; omega
 have hck:=hcf _ htk
 iterate 4 refine w_ ?_
 cases hb4:(decide ((k:Int) < ((Zf c.1.length).length:Int)))
 ·have hb4':=of_decide_eq_false hb4
  refine w_ ?_
  refine QA ?_
  refine (?_:AC _ _ _ _ _)
  iterate 4 refine w_ ?_
  refine Qe ?_
  subst hO
  refine ZC (e:=(.pr (.pr .int .bool) (.pr .int .bool))) (xs:=(Jm c (Zf c.1.length) ((Zf c.1.length).take k))) (Qd rfl (Qc rfl)) rfl ?_
  (rw[Zh (by omega)]; done)
 ·have hb4':=of_decide_eq_true hb4
  iterate 5 refine w_ ?_
  obtain ⟨a,hx6⟩:∃z,(Zf c.1.length)[k]? =some z:=⟨_,List.getElem?_eq_getElem (by omega)⟩
  refine lc (Qm (Qa rfl) (Qa rfl) U3 Xt rfl (by omega) hx6) ?_
  refine w_ ?_
  refine lc (Qw 3 (.pr .int .bool) U0 rfl rfl (Fresh.of rfl) (nlr rfl))<|lc (Qf (Qa rfl) rfl (Qb rfl) rfl Xt rfl) ?_
  iterate 3 refine w_ ?_
  refine lc (Qh (VT c (by omega)).frozen QcL ⟨_,_,rfl,(Qb rfl),rfl⟩ rfl rfl)<|AL.fact (QB (x:= .tmp 18) (Qa rfl)) fun hl7=> ?_
  iterate 4 refine w_ ?_
  refine Qy (fun m_ s_=>∃(i:Nat),i≤(Zf c.1.length).length∧m_=(Zf c.1.length).length - i∧s_=⟨[(1,lP 0 0),(2,lf (.val (.slice none 0 0))),(3,lR 4),(5,lP 3 0),(11,lf (.dat (.sl 61 (.pr .int .bool)) (Zf c.1.length))),(12,lI ((Zf c.1.length).length:Int)),(13,lI (k:Int)),(14,lB true),(15,lf (.elt (.pr .int .bool) a 0)),(16,ag [dI a.1,dB a.2]),(17,ag [.dat (.sl 145 (.pr .str .int)) c.1, .dat (.sl 9 .str) c.2.1, .dat (.sl 179 (.pr .int (.pr .int (.pr .bool .int)))) c.2.2]),(18,lf (.dat (.sl 61 (.pr .int .bool)) (Zf c.1.length))),(19,lI ((Zf c.1.length).length:Int)),(20,lI (i:Int))],[(0,some (.box 59 [.dat (.sl 145 (.pr .str .int)) c.1, .dat (.sl 9 .str) c.2.1, .dat (.sl 179 (.pr .int (.pr .int (.pr .bool .int)))) c.2.2])),(3,some (.box 61 [dI a.1,dB a.2])),(4,some (.arr 63 (.pr (.pr .int .bool) (.pr .int .bool)) (Jm c (Zf c.1.length) ((Zf c.1.length).take k)++UK c a ((Zf c.1.length).take i))))]⟩) ⟨0,Nat.zero_le _,rfl,rfl⟩ ?_ ?_
  · exact Wk.of [(0,0),(3,3),(4,2)] rfl ⟨rfl,rfl,rfl,rfl,rfl,rfl,rfl,rfl,rfl,rfl,rfl,rfl,rfl,rfl,trivial⟩ ⟨rfl,rfl,(Qv ((List.append_nil _).symm)),trivial⟩ rfl rfl
  rintro m_ s_ ⟨i,hk8,hm9,rfl⟩
  have hrl:=QfC (c:=c) (a:=a) (L:=(Zf c.1.length).take i)
  have hti:((Zf c.1.length).take i).length≤16:=by simp only[List.length_take]; omega
  iterate 4 refine w_ ?_
  cases hb10:(decide ((i:Int) < ((Zf c.1.length).length:Int)))
  ·have hb10':=of_decide_eq_false hb10
   refine w_ ?_
   refine QA ?_
   refine (?_:AC _ _ _ _ _)
   iterate 3 refine w_ ?_
   refine Qj<|QS ⟨k+1,by omega,rfl,rfl⟩ (by omega) ?_
   exact Wk.of [(0,0),(2,4)] rfl ⟨rfl,rfl,rfl,rfl,rfl,rfl,trivial⟩ ⟨rfl,(Qv ((by rw[Zh (l:=Zf c.1.length) (k:=i) (by omega),QfH hx6]))),trivial⟩ rfl rfl
  ·have hb10':=of_decide_eq_true hb10
   iterate 5 refine w_ ?_
   obtain ⟨b,hx12⟩:∃z,(Zf c.1.length)[i]? =some z:=⟨_,List.getElem?_eq_getElem (by omega)⟩
   refine lc (Qm (Qa rfl) (Qa rfl) U3 Xt rfl (by omega) hx12) ?_
   refine w_ ?_
   refine lc (Qw 5 (.pr .int .bool) U0 rfl rfl (Fresh.of rfl) (nlr rfl))<|lc (Qf (Qa rfl) rfl (Qb rfl) rfl Xt rfl) ?_
   iterate 5 refine w_ ?_
   refine lc (KU JL Jy (Qb rfl) (Qb rfl) (p:=a) (q:=b) rfl rfl rfl) ?_
   refine w_ ?_
   cases hb13:(Ty.beq (.pr .int .bool) a b)
   ·iterate 6 refine w_ ?_
    refine lc (QC QeZ ⟨_,_,rfl,(Qb rfl),⟨_,_,rfl,(Qb rfl),rfl⟩⟩ (List.all_eq_true.1 rfl) rfl rfl)<|lc (Ya 6 (W7 c (a,b) hs) Qak ⟨_,_,rfl,(Qb rfl),⟨_,_,rfl,(Qb rfl),rfl⟩⟩ rfl rfl ⟨Fresh.of rfl,Fresh.of rfl,Fresh.of rfl,trivial⟩ (nlr rfl)) ?_
    iterate 3 refine w_ ?_
    refine lc (Qw 9 (.pr (.sl 145 (.pr .str .int)) (.pr (.sl 9 .str) (.sl 179 (.pr .int (.pr .int (.pr .bool .int)))))) YB rfl rfl (Fresh.of rfl) (nlr rfl))<|lc (Qf (Qa rfl) rfl (Qb rfl) rfl QK rfl) ?_
    iterate 5 refine w_ ?_
    cases hb14:((ZE c (a,b)).2)
    ·refine w_ ?_
     refine AC.skip ?_
     refine (?_:AC _ _ _ _ _)
     iterate 3 refine w_ ?_
     refine Qj<|QS ⟨i+1,by omega,rfl,rfl⟩ (by omega) ?_
     exact Wk.of [(0,0),(3,3),(4,4)] rfl ⟨rfl,rfl,rfl,rfl,rfl,rfl,rfl,rfl,rfl,rfl,rfl,rfl,rfl,rfl,trivial⟩ ⟨rfl,rfl,(Qv (by first | rw[List.append_assoc,Qbw hx12 (by assumption) (by assumption)] | rw[K2 hx12 (by assumption)] | rw[K9 hx12 (by assumption)])),trivial⟩ rfl rfl
    ·iterate 5 refine w_ ?_
     refine lc (QC QeZ ⟨_,_,rfl,(Qb rfl),⟨_,_,rfl,(Qb rfl),rfl⟩⟩ (List.all_eq_true.1 rfl) rfl rfl)<|lc (Qk 10 (e:=(.pr (.pr .int .bool) (.pr .int .bool))) Xk Yt U1 rfl ⟨_,_,rfl,(Qb rfl),rfl⟩ (List.all_eq_true.1 rfl) ⟨_,_,_,_,rfl,⟨[dI a.1,dB a.2],[dI b.1,dB b.2],_,_,_,_,rfl,rfl,⟨[dI a.1],[dB a.2],_,_,_,_,rfl,rfl,⟨rfl,rfl⟩,⟨rfl,rfl⟩,rfl⟩,⟨[dI b.1],[dB b.2],_,_,_,_,rfl,rfl,⟨rfl,rfl⟩,⟨rfl,rfl⟩,rfl⟩,rfl⟩,⟨rfl,rfl⟩,rfl⟩ (by decide) rfl rfl (Fresh.of rfl) (nlr rfl))<|lc (Q0 11 (Qa rfl) rfl (Qa rfl) rfl rfl Xk Qhq (by first | omega | (simp only[List.length_append,List.length_map,List.length_take,List.length_cons,List.length_nil]; omega) | (simp only[List.length_append,List.length_drop,List.length_take,List.length_cons,List.length_nil]; omega)) rfl (Fresh.of rfl) (nlr rfl)) ?_
     refine w_ ?_
     refine Qj ?_
     refine (?_:AC _ _ _ _ _)
     iterate 3 refine w_ ?_
     refine Qj<|QS ⟨i+1,by omega,rfl,rfl⟩ (by omega) ?_
     exact Wk.of [(0,0),(3,3),(4,11)] rfl ⟨rfl,rfl,rfl,rfl,rfl,rfl,rfl,rfl,rfl,rfl,rfl,rfl,rfl,rfl,trivial⟩ ⟨rfl,rfl,(Qv (by first | rw[List.append_assoc,Qbw hx12 (by assumption) (by assumption)] | rw[K2 hx12 (by assumption)] | rw[K9 hx12 (by assumption)])),trivial⟩ rfl rfl
   ·refine w_ ?_
    refine QA ?_
    refine (?_:AC _ _ _ _ _)
    iterate 3 refine w_ ?_
    refine Qj<|QS ⟨i+1,by omega,rfl,rfl⟩ (by omega) ?_
    exact Wk.of [(0,0),(3,3),(4,4)] rfl ⟨rfl,rfl,rfl,rfl,rfl,rfl,rfl,rfl,rfl,rfl,rfl,rfl,rfl,rfl,trivial⟩ ⟨rfl,rfl,(Qv (by first | rw[List.append_assoc,Qbw hx12 (by assumption) (by assumption)] | rw[K2 hx12 (by assumption)] | rw[K9 hx12 (by assumption)])),trivial⟩ rfl rfl
theorem Qbt (c:(List (ByteArray×Int))×List ByteArray×(List (Int×Int×Bool×Int)))[∀c,Decidable (SgOk c)][∀s,Decidable (ZZ s)](hs:SgOk c):FC Tryz.prog 81 [(true,[.dat (.sl 145 (.pr .str .int)) c.1, .dat (.sl 9 .str) c.2.1, .dat (.sl 179 (.pr .int (.pr .int (.pr .bool .int)))) c.2.2])] [] 0 (Zy (PV.tup [(true,[dI (((Zu c (QY c)).1).1),dB (((Zu c (QY c)).1).2),dI (((Zu c (QY c)).2).1),dB (((Zu c (QY c)).2).2)]),(false,[dB ((Zm c (QY c)).isSome)])])):=by
 have hs8:=hs.sigs.2.2
 have hll:=WA (k:=c.1.length)
 have hcf:=QbB (c:=c) hs8
 have hcl:(QY c).length≤256:=hcf (Zf c.1.length) (by omega)
 refine QQ Tryz.func81 rfl rfl Tryz.ntmps81 fun O_ hO w0_ N0_ X_ h0_ f0_=> ?_
 refine w_ ?_
 refine lc (Qr 0 (Qb rfl) rfl rfl (Fresh.of rfl) (nlr rfl))<|lc (Qw 1 (.pr (.pr .int .bool) (.pr .int .bool)) U1 rfl rfl (Fresh.of rfl) (nlr rfl)) ?_
 iterate 3 refine w_ ?_
 refine lc (Qw 2 (.pr (.pr .int .bool) (.pr .int .bool)) U1 rfl rfl (Fresh.of rfl) (nlr rfl)) ?_
 iterate 8 refine w_ ?_
 refine lc (Qh (JB c hs).frozen Qle ⟨_,_,rfl,(Qb rfl),rfl⟩ rfl rfl)<|AL.fact (QB (x:= .tmp 13) (Qa rfl)) fun hl1=> ?_
 iterate 4 refine w_ ?_
 refine Qy (fun m_ s_=>∃(k:Nat) (bx:(Int×Bool)×(Int×Bool)) (few:Int) (st:Int),k≤(QY c).length∧m_=(QY c).length - k∧(bx=Zu c ((QY c).take k)∧few=Vc c ((QY c).take k)∧st=Kj c ((QY c).take k))∧s_=⟨[(1,lP 0 0),(2,lP 1 0),(3,lB false),(4,lP 2 0),(5,lI few),(6,lI st),(13,lf (.dat (.sl 63 (.pr (.pr .int .bool) (.pr .int .bool))) (QY c))),(14,lI ((QY c).length:Int)),(15,lI (k:Int))],[(0,some (.box 59 [.dat (.sl 145 (.pr .str .int)) c.1, .dat (.sl 9 .str) c.2.1, .dat (.sl 179 (.pr .int (.pr .int (.pr .bool .int)))) c.2.2])),(1,some (.box 63 [dI 0,dB false,dI 0,dB false])),(2,some (.box 63 [dI bx.1.1,dB bx.1.2,dI bx.2.1,dB bx.2.2]))]⟩) ⟨0,((0,false),(0,false)),(-1),0,Nat.zero_le _,rfl,⟨rfl,rfl,rfl⟩,rfl⟩ ?_ ?_
 · exact Wk.of [(0,0),(1,1),(2,2)] rfl ⟨rfl,rfl,rfl,rfl,rfl,rfl,rfl,rfl,rfl,trivial⟩ ⟨rfl,rfl,rfl,trivial⟩ rfl rfl
 rintro m_ s_ ⟨k,bx,few,st,hk2,hm3,hB,rfl⟩
 iterate 4 refine w_ ?_
 cases hb4:(decide ((k:Int) < ((QY c).length:Int)))
 ·have hb4':=of_decide_eq_false hb4
  refine w_ ?_
  refine QA ?_
  refine (?_:AC _ _ _ _ _)
  iterate 4 refine w_ ?_
  refine lc (Qf (Qa rfl) rfl (Qb rfl) rfl Yt rfl) ?_
  iterate 2 refine w_ ?_
  refine Qe ?_
  subst hO
  have e5:(bx.1.1:Int)=(((Zu c (QY c)).1).1):=by
   (rw[Zh (by omega)] at hB; first | rw[hB.1] | (rw[hB.2.1]; exact KK))
  have e6:(bx.1.2:Bool)=(((Zu c (QY c)).1).2):=by
   (rw[Zh (by omega)] at hB; first | rw[hB.1] | (rw[hB.2.1]; exact KK))
  have e7:(bx.2.1:Int)=(((Zu c (QY c)).2).1):=by
   (rw[Zh (by omega)] at hB; first | rw[hB.1] | (rw[hB.2.1]; exact KK))
  have e8:(bx.2.2:Bool)=(((Zu c (QY c)).2).2):=by
   (rw[Zh (by omega)] at hB; first | rw[hB.1] | (rw[hB.2.1]; exact KK))
  have e9:(decide (0≤few):Bool)=((Zm c (QY c)).isSome):=by
   (rw[Zh (by omega)] at hB; first | rw[hB.1] | (rw[hB.2.1]; exact KK))
  exact Qg (Z8 rfl (Zk rfl rfl Yt rfl) (Qc rfl)) ((((((congrArg (fun z_=>PV.tup [(true,[dI z_,dB bx.1.2,dI bx.2.1,dB bx.2.2]),(false,[dB (decide (0≤few))])]) e5)).trans (congrArg (fun z_=>PV.tup [(true,[dI (((Zu c (QY c)).1).1),dB z_,dI bx.2.1,dB bx.2.2]),(false,[dB (decide (0≤few))])]) e6)).trans (congrArg (fun z_=>PV.tup [(true,[dI (((Zu c (QY c)).1).1),dB (((Zu c (QY c)).1).2),dI z_,dB bx.2.2]),(false,[dB (decide (0≤few))])]) e7)).trans (congrArg (fun z_=>PV.tup [(true,[dI (((Zu c (QY c)).1).1),dB (((Zu c (QY c)).1).2),dI (((Zu c (QY c)).2).1),dB z_]),(false,[dB (decide (0≤few))])]) e8)).trans (congrArg (fun z_=>PV.tup [(true,[dI (((Zu c (QY c)).1).1),dB (((Zu c (QY c)).1).2),dI (((Zu c (QY c)).2).1),dB (((Zu c (QY c)).2).2)]),(false,[dB z_])]) e9)) rfl
 ·have hb4':=of_decide_eq_true hb4
  iterate 5 refine w_ ?_
  obtain ⟨x,hx11⟩:∃z,(QY c)[k]? =some z:=⟨_,List.getElem?_eq_getElem (by omega)⟩
  have hxm:=List.mem_of_getElem? hx11
  refine lc (Qm (Qa rfl) (Qa rfl) Xk Yt rfl (by omega) hx11) ?_
  refine w_ ?_
  refine lc (Qw 3 (.pr (.pr .int .bool) (.pr .int .bool)) U1 rfl rfl (Fresh.of rfl) (nlr rfl))<|lc (Qf (Qa rfl) rfl (Qb rfl) rfl Yt rfl) ?_
  iterate 4 refine w_ ?_
  refine lc (Qh (Wu c x) Qep ⟨_,_,rfl,(Qb rfl),⟨_,_,rfl,(Qb rfl),rfl⟩⟩ rfl rfl) ?_
  iterate 12 refine w_ ?_
  cases hb12:(decide (few < 0))
  ·have hb12':=of_decide_eq_false hb12
   iterate 5 refine w_ ?_
   cases hb13:(decide ((YR c x) < few))
   ·have hb13':=of_decide_eq_false hb13
    iterate 4 refine w_ ?_
    cases hb14:(decide ((YR c x)=few))
    ·have hb14':=of_decide_eq_false hb14
     iterate 7 refine w_ ?_
     refine AC.skip ?_
     refine (?_:AC _ _ _ _ _)
     iterate 3 refine w_ ?_
     refine Qj<|QS ⟨k+1,bx,few,st,by omega,rfl,(by exact Qjk hs hxm hx11 hB (by assumption) (by assumption) (fun g=>absurd g.1 (by assumption))),rfl⟩ (by omega) ?_
     exact Wk.of [(0,0),(1,1),(2,2)] rfl ⟨rfl,rfl,rfl,rfl,rfl,rfl,rfl,rfl,rfl,trivial⟩ ⟨rfl,rfl,rfl,trivial⟩ rfl rfl
    ·have hb14':=of_decide_eq_true hb14
     iterate 6 refine w_ ?_
     cases hb15:(decide ((Ww c x) < st))
     ·have hb15':=of_decide_eq_false hb15
      refine w_ ?_
      refine AC.skip ?_
      refine (?_:AC _ _ _ _ _)
      iterate 3 refine w_ ?_
      refine Qj<|QS ⟨k+1,bx,few,st,by omega,rfl,(by exact Qjk hs hxm hx11 hB (by assumption) (by assumption) (fun g=>absurd g.2 (by assumption))),rfl⟩ (by omega) ?_
      exact Wk.of [(0,0),(1,1),(2,2)] rfl ⟨rfl,rfl,rfl,rfl,rfl,rfl,rfl,rfl,rfl,trivial⟩ ⟨rfl,rfl,rfl,trivial⟩ rfl rfl
     ·have hb15':=of_decide_eq_true hb15
      iterate 3 refine w_ ?_
      refine lc (Qf (Qa rfl) rfl (Qb rfl) rfl Yt rfl) ?_
      iterate 8 refine w_ ?_
      refine Qj ?_
      refine (?_:AC _ _ _ _ _)
      iterate 3 refine w_ ?_
      refine Qj<|QS ⟨k+1,x,(YR c x),(Ww c x),by omega,rfl,(by exact QeM hs hxm hx11 hB (.inr (.inr ⟨by assumption,by assumption⟩))),rfl⟩ (by omega) ?_
      exact Wk.of [(0,0),(1,1),(2,2)] rfl ⟨rfl,rfl,rfl,rfl,rfl,rfl,rfl,rfl,rfl,trivial⟩ ⟨rfl,rfl,rfl,trivial⟩ rfl rfl
   ·have hb13':=of_decide_eq_true hb13
    iterate 4 refine w_ ?_
    refine Qo rfl rfl rfl ?_ rfl
    refine Qo rfl rfl rfl ?_ rfl
    refine Qo rfl rfl rfl ?_ rfl
    iterate 6 refine w_ ?_
    refine lc (Qf (Qa rfl) rfl (Qb rfl) rfl Yt rfl) ?_
    iterate 8 refine w_ ?_
    refine Qj ?_
    refine (?_:AC _ _ _ _ _)
    iterate 3 refine w_ ?_
    refine Qj<|QS ⟨k+1,x,(YR c x),(Ww c x),by omega,rfl,(by exact QeM hs hxm hx11 hB (.inr (.inl (by assumption)))),rfl⟩ (by omega) ?_
    exact Wk.of [(0,0),(1,1),(2,2)] rfl ⟨rfl,rfl,rfl,rfl,rfl,rfl,rfl,rfl,rfl,trivial⟩ ⟨rfl,rfl,rfl,trivial⟩ rfl rfl
  ·have hb12':=of_decide_eq_true hb12
   iterate 9 refine w_ ?_
   refine Qo rfl rfl rfl ?_ rfl
   refine Qo rfl rfl rfl ?_ rfl
   refine Qo rfl rfl rfl ?_ rfl
   iterate 6 refine w_ ?_
   refine lc (Qf (Qa rfl) rfl (Qb rfl) rfl Yt rfl) ?_
   iterate 8 refine w_ ?_
   refine Qj ?_
   refine (?_:AC _ _ _ _ _)
   iterate 3 refine w_ ?_
   refine Qj<|QS ⟨k+1,x,(YR c x),(Ww c x),by omega,rfl,(by exact QeM hs hxm hx11 hB (.inl (by assumption))),rfl⟩ (by omega) ?_
   exact Wk.of [(0,0),(1,1),(2,2)] rfl ⟨rfl,rfl,rfl,rfl,rfl,rfl,rfl,rfl,rfl,trivial⟩ ⟨rfl,rfl,rfl,trivial⟩ rfl rfl
end Go.Proofs.YtnakmhfjafecpaaGreat
namespace Go.Proofs.YtnakmhfjafecpaaGreat
open Go.RowKit
attribute [local irreducible] TF
abbrev Y5:Type:=Xj×Xj
abbrev QoZ:Ty:= .pr Qfl Qfl
abbrev Qpj:Ty:= .pr Qg9 Qg9
end Go.Proofs.YtnakmhfjafecpaaGreat
