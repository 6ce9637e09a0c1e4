/- Walks over abstract states: the candidate insertions and the best one, both sides. -/
import Derived.Test.YtnakmhfjafecpaaGreatUh
import Derived.Test.YtnakmhfjafecpaaGreatAz
set_option linter.unusedSimpArgs false
set_option linter.unusedVariables false
set_option linter.unusedSectionVars false
namespace Go.Proofs.YtnakmhfjafecpaaGreat
open Go.RowKit
set_option maxRecDepth 100000
set_option maxHeartbeats 4000000
abbrev YM:=(Int×Bool)×Int×Bool
def Zc (k:Nat):List (Int×Bool):=(List.range k).flatMap fun i=>[(((i:Nat):Int),false),(((i:Nat):Int),true)]
section
variable {k:Nat}
theorem Xz:(Zc k).length=2*k:=by
  unfold Zc
  induction k with
  | zero=>rfl
  | succ k ih=>rw[List.range_succ,List.flatMap_append,List.length_append,ih]; simp; omega
theorem QbY:Zc k++[(((k:Nat):Int),false),(((k:Nat):Int),true)]=Zc (k+1):=by
  unfold Zc
  rw[List.range_succ,List.flatMap_append]; simp
end
section
variable [∀c,Decidable (SgOk c)][∀s,Decidable (ZL s)]{c:DSg}{a b:Int×Bool}{i j k n:Nat}{x:YM}{L:List (Int×Bool)}
def isX (c:DSg)(a b:Int×Bool):Bool:= !decide (a=b)&&(Zp c (a,b)).2
def UJ (c:DSg)(a:Int×Bool)(l:List (Int×Bool)):List YM:=(l.filter fun b=>isX c a b).map fun b=>(a,b)
def Jg (c:DSg)(L l:List (Int×Bool)):List YM:=l.flatMap fun a=>UJ c a L
abbrev QS (c:DSg):List YM:=Jg c (Zc c.1.length) (Zc c.1.length)
abbrev YV (c:DSg)(l:List YM):List (YM×DSg):=l.map fun x=>(x,(Zp c x).1)
theorem KY (hx:L[i]? =some b)(h:Ty.beq (.pr .int .bool) a b=true):UJ c a (L.take i)=UJ c a (L.take (i+1)):=by
  rw[Ql8,decide_eq_true_eq] at h
  unfold UJ
  rw[Q8 hx,List.filter_append,List.map_append]; simp[isX,h]
theorem KX (hx:L[i]? =some b)(h:(Zp c (a,b)).2=false):UJ c a (L.take i)=UJ c a (L.take (i+1)):=by
  unfold UJ
  rw[Q8 hx,List.filter_append,List.map_append]; simp[isX,h]
theorem Qbs (hx:L[i]? =some b)(h1:Ty.beq (.pr .int .bool) a b=false)(h:(Zp c (a,b)).2=true):UJ c a (L.take i)++[(a,b)]=UJ c a (L.take (i+1)):=by
  rw[Ql8,decide_eq_false_iff_not] at h1
  unfold UJ
  rw[Q8 hx,List.filter_append,List.map_append]; simp[isX,h,h1]
theorem QfE (hx:L[k]? =some a):Jg c L (L.take k)++UJ c a L=Jg c L (L.take (k+1)):=by
  unfold Jg
  rw[Q8 hx,List.flatMap_append]; simp
theorem Qeu:(UJ c a L).length≤L.length:=by unfold UJ; rw[List.length_map]; exact List.length_filter_le ..
theorem QnY {l:List (Int×Bool)}:(Jg c L l).length≤l.length*L.length:=by
  unfold Jg
  induction l with
  | nil=>simp
  | cons a l ih=>
    rw[List.flatMap_cons,List.length_append,List.length_cons,Nat.succ_mul]
    have:=Qeu (c:=c) (a:=a) (L:=L)
    omega
theorem Ja (h:c.1.length≤8)(l:List (Int×Bool))(hl:l.length≤16):(Jg c (Zc c.1.length) l).length≤256:=by
  have h1:=QnY (c:=c) (L:=Zc c.1.length) (l:=l)
  rw[Xz] at h1
  have:l.length*(2*c.1.length)≤16*16:=Nat.mul_le_mul hl (by omega)
  omega
theorem Qnm (h:x∈Jg c L L):(x.1∈L∧x.2∈L)∧¬x.1=x.2∧(Zp c x).2=true:=by
  unfold Jg at h
  obtain ⟨a,ha,h⟩:=List.mem_flatMap.1 h
  unfold UJ at h
  obtain ⟨b,hb,rfl⟩:=List.mem_map.1 h
  rw[List.mem_filter] at hb
  have h2:=hb.2
  unfold isX at h2
  simp only[Bool.and_eq_true,Bool.not_eq_true',decide_eq_false_iff_not] at h2
  exact ⟨⟨ha,hb.1⟩,h2.1,h2.2⟩
theorem Qf8 (h:b∈Zc k):0≤b.1∧b.1≤(k:Int) - 1:=by
  unfold Zc at h
  obtain ⟨i,hi,h⟩:=List.mem_flatMap.1 h
  rw[List.mem_range] at hi
  simp only[List.mem_cons,List.not_mem_nil,or_false] at h
  rcases h with rfl | rfl <;> (simp only; omega)
theorem Qjk (hs:SgOk c)(h:x∈QS c):V3 c x∧(Zp c x).2=true:=by
  obtain ⟨⟨h1,h2⟩,h3,h4⟩:=Qnm h
  exact ⟨⟨⟨⟨hs,Qf8 h1⟩,Qf8 h2⟩,h3⟩,h4⟩
theorem KZ (l:List YM):(YV c l).length=l.length:=List.length_map ..
theorem Qgt {l:List YM}{y:YM×DSg}(h:(YV c l)[i]? =some y):∃x,l[i]? =some x∧y=(x,(Zp c x).1):=by
  simp only[List.getElem?_map,Option.map_eq_some_iff] at h
  obtain ⟨x,h1,h2⟩:=h
  exact ⟨x,h1,h2.symm⟩
def QbK (c:DSg)(x:YM):Int:=((YW (Zp c x).1).length:Int)
def Qkz (c:DSg)(x:YM):Int:=((Zp c x).1.2.1.length:Int)
def Qpp (c:DSg)(m:Option YM)(x:YM):Option YM:=match m with
  | none=>some x
  | some y=>if QbK c x < QbK c y∨(QbK c x=QbK c y∧Qkz c x < Qkz c y) then some x else some y
def oC (c:DSg):Option YM→YM×DSg
  | some x=>(x,(Zp c x).1)
  | none=>(((0,false),0,false),([],[],[]))
def oF (c:DSg)(d:Int):Option YM→Int
  | some x=>QbK c x
  | none=>d
def oS (c:DSg):Option YM→Int
  | some x=>Qkz c x
  | none=>0
def Zm (c:DSg)(l:List YM):Option YM:=l.foldl (Qpp c) none
def Yb (c:DSg)(l:List YM):YM:=(Zm c l).getD ((0,false),0,false)
def Zh (c:DSg)(l:List YM):YM×DSg:=oC c (Zm c l)
def WL (c:DSg)(l:List YM):Int:=oF c 0 (Zm c l)
def W2 (c:DSg)(l:List YM):Int:=oF c (-1) (Zm c l)
def Kf (c:DSg)(l:List YM):Int:=oS c (Zm c l)
theorem Qb8 {l:List YM}(hx:l[k]? =some x):Zm c (l.take (k+1))=Qpp c (Zm c (l.take k)) x:=by
  unfold Zm
  rw[Q8 hx,List.foldl_append]; rfl
theorem QiZ (x:YM):0≤QbK c x:=Int.natCast_nonneg _
theorem Qd3 {l:List YM}:W2 c l < 0↔Zm c l=none:=by
  unfold W2
  cases h:Zm c l with
  | none=>simp[oF]
  | some y=>have:=QiZ (c:=c) y; simp[oF]; omega
theorem Hc {l:List YM}(hx:l[k]? =some x)(h:Zm c (l.take k)=none∨QbK c x < WL c (l.take k)∨(QbK c x=WL c (l.take k)∧Qkz c x < Kf c (l.take k))):Zm c (l.take (k+1))=some x:=by
  rw[Qb8 hx]
  unfold WL Kf at h
  cases hb:Zm c (l.take k) with
  | none=>rfl
  | some y=>
    rw[hb] at h
    exact if_pos (h.resolve_left (by simp))
theorem QfN {l:List YM}(hx:l[k]? =some x)(h0:¬Zm c (l.take k)=none)(h:¬(QbK c x < WL c (l.take k)∨(QbK c x=WL c (l.take k)∧Qkz c x < Kf c (l.take k)))):Zm c (l.take (k+1))=Zm c (l.take k):=by
  rw[Qb8 hx]
  unfold WL Kf at h
  cases hb:Zm c (l.take k) with
  | none=>exact absurd hb h0
  | some y=>
    rw[hb] at h
    exact if_neg h
theorem Hp {l:List YM}{m:Option YM}(h:Zm c l=m):Yb c l=m.getD ((0,false),0,false)∧Zh c l=oC c m∧WL c l=oF c 0 m∧W2 c l=oF c (-1) m∧Kf c l=oS c m:=by
  subst h; exact ⟨rfl,rfl,rfl,rfl,rfl⟩
theorem Qja {l:List YM}(h:¬W2 c l < 0):WL c l=W2 c l:=by
  unfold W2 at h
  unfold WL W2
  cases hb:Zm c l with
  | none=>rw[hb] at h; simp[oF] at h
  | some y=>rfl
theorem Qj2 {l:List YM}(h:¬Zm c l=none):((Zh c l).2.2.1.length:Int)=Kf c l:=by
  unfold Zh Kf
  cases hb:Zm c l with
  | none=>exact absurd hb h
  | some y=>rfl
theorem Qbt {l:List YM}:(Zh c l).1=Yb c l:=by
  unfold Zh Yb
  cases hb:Zm c l <;> rfl
theorem QgT (hs:SgOk c)(h:x∈QS c):ZB c x=QbK c x∧Z4 c x=Qkz c x∧YB c x=true:=by
  obtain ⟨h1,h2⟩:=Qjk hs h
  have h3:=J7 h1 h2
  exact ⟨if_pos h3,if_pos h3,h3⟩
theorem Qk8 (hs:SgOk c)(h:x∈QS c):SgOk (Zp c x).1:=Qg4 (Qjk hs h).2
def ZN (c:DSg):YM:=if SgOk c then Yb c (QS c) else ((0,false),0,false)
def Qbi (c:DSg):Bool:=decide (SgOk c)&&(Zm c (QS c)).isSome
theorem V0 (h:¬SgOk c):ZN c=((0,false),0,false)∧Qbi c=false:=⟨if_neg h,by unfold Qbi; rw[decide_eq_false h]; rfl⟩
theorem WC (h:SgOk c):ZN c=Yb c (QS c)∧Qbi c=(Zm c (QS c)).isSome:=⟨if_pos h,by unfold Qbi; rw[decide_eq_true h]; rfl⟩
section
variable {l:List YM}{y cand:YM×DSg}{few st:Int}{fnd:Bool}{bx:YM}
theorem QeS (hx:l[k]? =some x)(hy:y=(x,(Zp c x).1))(hB:cand=Zh c (l.take k)∧few=WL c (l.take k)∧fnd=(Zm c (l.take k)).isSome)
    (h:fnd=false∨((YW y.2).length:Int) < few∨(((YW y.2).length:Int)=few∧(y.2.2.1.length:Int) < (cand.2.2.1.length:Int))):
    y=Zh c (l.take (k+1))∧((YW y.2).length:Int)=WL c (l.take (k+1))∧true=(Zm c (l.take (k+1))).isSome:=by
  obtain ⟨h1,h2,h3⟩:=hB
  subst hy
  have hn:Zm c (l.take (k+1))=some x:=by
    by_cases h0:Zm c (l.take k)=none
    · exact Hc hx (.inl h0)
    · refine Hc hx (.inr ?_)
      rw[h2,h1,Qj2 h0] at h
      rcases h with h | h
      · rw [h3] at h; cases hb : Zm c (l.take k) with
        | none=>exact absurd hb h0
        | some z=>rw[hb] at h; cases h
      · exact h
  obtain ⟨_,e2,e3,_,_⟩:=Hp hn
  exact ⟨e2.symm,e3.symm,by rw[hn]; rfl⟩
theorem Qjl (hx:l[k]? =some x)(hy:y=(x,(Zp c x).1))(hB:cand=Zh c (l.take k)∧few=WL c (l.take k)∧fnd=(Zm c (l.take k)).isSome)
    (h0:fnd=true) (h1:¬((YW y.2).length:Int) < few) (h2:¬(((YW y.2).length:Int)=few∧(y.2.2.1.length:Int) < (cand.2.2.1.length:Int))):
    cand=Zh c (l.take (k+1))∧few=WL c (l.take (k+1))∧true=(Zm c (l.take (k+1))).isSome:=by
  obtain ⟨g1,g2,g3⟩:=hB
  subst hy
  have hne:¬Zm c (l.take k)=none:=fun h=>by rw[g3,h] at h0; cases h0
  have hn:Zm c (l.take (k+1))=Zm c (l.take k):=QfN hx hne fun h=>by
    rw[g2] at h1 h2
    rw[g1,Qj2 hne] at h2
    rcases h with h | h
    · exact h1 h
    · exact h2 h
  obtain ⟨_,e2,e3,_,_⟩:=Hp hn
  refine ⟨g1.trans ?_,g2.trans ?_,by rw[hn,← g3,h0]⟩
  · rw[e2]; rfl
  · rw[e3]; rfl
theorem Qft (hs:SgOk c)(hm:x∈QS c)(hx:l[k]? =some x)(hB:bx=Yb c (l.take k)∧few=W2 c (l.take k)∧st=Kf c (l.take k))
    (h:few < 0∨ZB c x < few∨(ZB c x=few∧Z4 c x < st)):x=Yb c (l.take (k+1))∧ZB c x=W2 c (l.take (k+1))∧Z4 c x=Kf c (l.take (k+1)):=by
  obtain ⟨h1,h2,h3⟩:=hB
  obtain ⟨c1,c2,_⟩:=QgT hs hm
  rw[c1,c2] at h ⊢
  have hn:Zm c (l.take (k+1))=some x:=by
    by_cases h0:Zm c (l.take k)=none
    · exact Hc hx (.inl h0)
    · have hM : ¬ W2 c (l.take k) < 0 := fun h => h0 (Qd3.1 h)
      refine Hc hx (.inr ?_)
      rw[Qja hM]
      rw[h2,h3] at h
      exact h.resolve_left hM
  obtain ⟨e1,_,_,e4,e5⟩:=Hp hn
  exact ⟨e1.symm,e4.symm,e5.symm⟩
theorem QjH (hs:SgOk c)(hm:x∈QS c)(hx:l[k]? =some x)(hB:bx=Yb c (l.take k)∧few=W2 c (l.take k)∧st=Kf c (l.take k))
    (h0:¬few < 0) (h1:¬ZB c x < few) (h2':¬(ZB c x=few∧Z4 c x < st)):bx=Yb c (l.take (k+1))∧few=W2 c (l.take (k+1))∧st=Kf c (l.take (k+1)):=by
  obtain ⟨g1,g2,g3⟩:=hB
  obtain ⟨c1,c2,_⟩:=QgT hs hm
  rw[c1] at h1
  rw[c1,c2] at h2'
  have hne:¬Zm c (l.take k)=none:=fun h=>by rw[g2] at h0; exact h0 (Qd3.2 h)
  have hn:Zm c (l.take (k+1))=Zm c (l.take k):=QfN hx hne fun h=>by
    rw[Qja (by rw[← g2]; exact h0),← g2,← g3] at h
    rcases h with h | h
    · exact h1 h
    · exact h2' h
  obtain ⟨e1,_,_,e4,e5⟩:=Hp hn
  refine ⟨g1.trans ?_,g2.trans ?_,g3.trans ?_⟩
  · rw[e1]; rfl
  · rw[e4]; rfl
  · rw[e5]; rfl
theorem KA:decide (0≤W2 c l)=(Zm c l).isSome:=by
  cases h:Zm c l with
  | none=>unfold W2; rw[h]; rfl
  | some y=>unfold W2; rw[h]; exact decide_eq_true (QiZ y)
theorem Qb6 {P:List (YM×DSg)}(hx:L[i]? =some b)(h1:Ty.beq (.pr .int .bool) a b=false)(h:(Zp c (a,b)).2=true):(P++YV c (UJ c a (L.take i)))++[((a,b),(Zp c (a,b)).1)]=P++YV c (UJ c a (L.take (i+1))):=by
  rw[← Qbs hx h1 h,YV,YV,List.map_append,List.append_assoc]; rfl
end
end
theorem Up (c:(List (ByteArray×Int))×List ByteArray×(List (Int×Int×Bool×Int)))(hl:c.1.length≤100000):FC Tryz.prog 162 [(true,[.dat (.sl 145 (.pr .str .int)) c.1, .dat (.sl 9 .str) c.2.1, .dat (.sl 179 (.pr .int (.pr .int (.pr .bool .int)))) c.2.2])] [] 0 (X8 61 (.pr .int .bool) (Zc c.1.length)):=by
 refine QM Tryz.func162 rfl rfl Tryz.ntmps162 fun O_ hO w0_ N0_ X_ h0_ f0_=> ?_
 refine w_ ?_
 refine lc (Qo 0 (Qb rfl) rfl rfl (Fresh.of rfl) (nlr rfl)) ?_
 iterate 3 refine w_ ?_
 refine lc (Ql 1 (e:=(.pr .int .bool)) UW YI Vy rfl rfl (List.all_eq_true.1 rfl) ⟨rfl,rfl⟩ (by decide) rfl rfl (Fresh.of rfl) (nlr rfl)) ?_
 iterate 6 refine w_ ?_
 refine AL.fact (Qy (x:= .tmp 7) (Qa rfl)) fun hl1=> ?_
 iterate 4 refine w_ ?_
 refine Qx (fun m_ s_=>∃(k:Nat),k≤c.1.length∧m_=c.1.length - k∧s_=⟨[(2,lf (.val (.slice none 0 0))),(3,lR 2),(8,lI (c.1.length:Int)),(9,lI (k:Int))],[(2,some (.arr 61 (.pr .int .bool) (Zc k)))]⟩) ⟨0,Nat.zero_le _,rfl,rfl⟩ ?_ ?_
 · exact Wk.of [(2,1)] rfl ⟨rfl,rfl,rfl,rfl,trivial⟩ ⟨(QA (rfl)),trivial⟩ rfl rfl
 rintro m_ s_ ⟨k,hk2,hm3,rfl⟩
 have hll:=Xz (k:=k)
 iterate 4 refine w_ ?_
 cases hb4:(decide ((k:Int) < (c.1.length:Int)))
 ·have hb4':=of_decide_eq_false hb4
  refine w_ ?_
  refine QC ?_
  refine (?_:AC _ _ _ _ _)
  iterate 4 refine w_ ?_
  refine Qd ?_
  subst hO
  refine ZC (e:=(.pr .int .bool)) (xs:=(Zc k)) (Qe rfl (Qc rfl)) rfl ?_
  (congr 1; omega)
 ·have hb4':=of_decide_eq_true hb4
  iterate 11 refine w_ ?_
  refine lc (QH WY ⟨_,_,rfl,(Qb rfl),⟨_,_,rfl,(Evl.ev QP),rfl⟩⟩ (List.all_eq_true.1 rfl) rfl rfl) ?_
  refine w_ ?_
  refine lc (QH WY ⟨_,_,rfl,(Qb rfl),⟨_,_,rfl,(Evl.ev QP),rfl⟩⟩ (List.all_eq_true.1 rfl) rfl rfl)<|lc (Ql 3 (e:=(.pr .int .bool)) UW YI Vy rfl ⟨_,_,rfl,(Qb rfl),⟨_,_,rfl,(Qb rfl),rfl⟩⟩ (List.all_eq_true.1 rfl) ⟨_,_,_,_,rfl,⟨[dI (k:Int)],[dB false],_,_,_,_,rfl,rfl,⟨rfl,rfl⟩,⟨rfl,rfl⟩,rfl⟩,⟨_,_,_,_,rfl,⟨[dI (k:Int)],[dB true],_,_,_,_,rfl,rfl,⟨rfl,rfl⟩,⟨rfl,rfl⟩,rfl⟩,⟨rfl,rfl⟩,rfl⟩,rfl⟩ (by decide) rfl rfl (Fresh.of rfl) (nlr rfl))<|lc (QY 4 (Qa rfl) rfl (Qa rfl) rfl rfl UW QlA (by first | omega | (simp only[List.length_append,List.length_map,List.length_take,List.length_cons,List.length_nil]; omega) | (simp only[List.length_append,List.length_drop,List.length_take,List.length_cons,List.length_nil]; omega)) rfl (Fresh.of rfl) (nlr rfl)) ?_
  refine w_ ?_
  refine Qj ?_
  refine (?_:AC _ _ _ _ _)
  iterate 3 refine w_ ?_
  refine Qj<|QR ⟨k+1,by omega,rfl,rfl⟩ (by omega) ?_
  exact Wk.of [(2,4)] rfl ⟨rfl,rfl,rfl,rfl,trivial⟩ ⟨(QA (QbY)),trivial⟩ rfl rfl
theorem VS (c:(List (ByteArray×Int))×List ByteArray×(List (Int×Int×Bool×Int)))(hl:c.1.length≤100000):FC Tryz.prog 161 [(true,[.dat (.sl 145 (.pr .str .int)) c.1, .dat (.sl 9 .str) c.2.1, .dat (.sl 179 (.pr .int (.pr .int (.pr .bool .int)))) c.2.2])] [] 0 (X8 61 (.pr .int .bool) (Zc c.1.length)):=by
 refine QM Tryz.func161 rfl rfl Tryz.ntmps161 fun O_ hO w0_ N0_ X_ h0_ f0_=> ?_
 refine w_ ?_
 refine lc (Qo 0 (Qb rfl) rfl rfl (Fresh.of rfl) (nlr rfl)) ?_
 iterate 9 refine w_ ?_
 refine AL.fact (Qy (x:= .tmp 6) (Qa rfl)) fun hl1=> ?_
 iterate 4 refine w_ ?_
 refine AC.wk (Wk.nilS 1 3 61 (.pr .int .bool) rfl (Fresh.of rfl) (nlr rfl)) ?_
 refine Qx (fun m_ s_=>∃(k:Nat),k≤c.1.length∧m_=c.1.length - k∧s_=⟨[(2,lf (.val (.slice none 0 0))),(3,lR 2),(7,lI (c.1.length:Int)),(8,lI (k:Int))],[(2,some (.arr 61 (.pr .int .bool) (Zc k)))]⟩) ⟨0,Nat.zero_le _,rfl,rfl⟩ ?_ ?_
 · exact Wk.of [(2,1)] rfl ⟨rfl,rfl,rfl,rfl,trivial⟩ ⟨(QA (rfl)),trivial⟩ rfl rfl
 rintro m_ s_ ⟨k,hk2,hm3,rfl⟩
 have hll:=Xz (k:=k)
 iterate 4 refine w_ ?_
 cases hb4:(decide ((k:Int) < (c.1.length:Int)))
 ·have hb4':=of_decide_eq_false hb4
  refine w_ ?_
  refine QC ?_
  refine (?_:AC _ _ _ _ _)
  iterate 4 refine w_ ?_
  refine Qd ?_
  subst hO
  refine ZC (e:=(.pr .int .bool)) (xs:=(Zc k)) (Qe rfl (Qc rfl)) rfl ?_
  (congr 1; omega)
 ·have hb4':=of_decide_eq_true hb4
  iterate 11 refine w_ ?_
  refine lc (QH WY ⟨_,_,rfl,(Qb rfl),rfl⟩ (List.all_eq_true.1 rfl) rfl rfl) ?_
  refine w_ ?_
  refine lc (QH WY ⟨_,_,rfl,(Qb rfl),⟨_,_,rfl,(Evl.ev QP),rfl⟩⟩ (List.all_eq_true.1 rfl) rfl rfl)<|lc (Ql 3 (e:=(.pr .int .bool)) UW YI Vy rfl ⟨_,_,rfl,(Qb rfl),⟨_,_,rfl,(Qb rfl),rfl⟩⟩ (List.all_eq_true.1 rfl) ⟨_,_,_,_,rfl,⟨[dI (k:Int)],[dB false],_,_,_,_,rfl,rfl,⟨rfl,rfl⟩,⟨rfl,rfl⟩,rfl⟩,⟨_,_,_,_,rfl,⟨[dI (k:Int)],[dB true],_,_,_,_,rfl,rfl,⟨rfl,rfl⟩,⟨rfl,rfl⟩,rfl⟩,⟨rfl,rfl⟩,rfl⟩,rfl⟩ (by decide) rfl rfl (Fresh.of rfl) (nlr rfl))<|lc (QY 4 (Qa rfl) rfl (Qa rfl) rfl rfl UW QlA (by first | omega | (simp only[List.length_append,List.length_map,List.length_take,List.length_cons,List.length_nil]; omega) | (simp only[List.length_append,List.length_drop,List.length_take,List.length_cons,List.length_nil]; omega)) rfl (Fresh.of rfl) (nlr rfl)) ?_
  refine w_ ?_
  refine Qj ?_
  refine (?_:AC _ _ _ _ _)
  iterate 3 refine w_ ?_
  refine Qj<|QR ⟨k+1,by omega,rfl,rfl⟩ (by omega) ?_
  exact Wk.of [(2,4)] rfl ⟨rfl,rfl,rfl,rfl,trivial⟩ ⟨(QA (QbY)),trivial⟩ rfl rfl
theorem Vx (c:(List (ByteArray×Int))×List ByteArray×(List (Int×Int×Bool×Int)))[∀c,Decidable (SgOk c)][∀s,Decidable (ZL s)](hs:SgOk c):FC Tryz.prog 86 [(true,[.dat (.sl 145 (.pr .str .int)) c.1, .dat (.sl 9 .str) c.2.1, .dat (.sl 179 (.pr .int (.pr .int (.pr .bool .int)))) c.2.2])] [] 0 (X8 129 (.pr (.pr (.pr .int .bool) (.pr .int .bool)) (.pr (.sl 145 (.pr .str .int)) (.pr (.sl 9 .str) (.sl 179 (.pr .int (.pr .int (.pr .bool .int))))))) (YV c (QS c))):=by
 have hs8:=hs.sigs.2.2
 have hll:=Xz (k:=c.1.length)
 have hcf:=Ja (c:=c) hs8
 refine QM Tryz.func86 rfl rfl Tryz.ntmps86 fun O_ hO w0_ N0_ X_ h0_ f0_=> ?_
 refine w_ ?_
 refine lc (Qo 0 (Qb rfl) rfl rfl (Fresh.of rfl) (nlr rfl)) ?_
 iterate 3 refine w_ ?_
 refine lc (Ql 1 (e:=(.pr (.pr (.pr .int .bool) (.pr .int .bool)) (.pr (.sl 145 (.pr .str .int)) (.pr (.sl 9 .str) (.sl 179 (.pr .int (.pr .int (.pr .bool .int)))))))) H1 Xy VH rfl rfl (List.all_eq_true.1 rfl) ⟨rfl,rfl⟩ (by decide) rfl rfl (Fresh.of rfl) (nlr rfl)) ?_
 iterate 5 refine w_ ?_
 refine lc (Qf (Up c (by omega)).frozen Qb4 ⟨_,_,rfl,(Qb rfl),rfl⟩ rfl rfl)<|AL.fact (Qy (x:= .tmp 12) (Qa rfl)) fun hl1=> ?_
 iterate 4 refine w_ ?_
 refine Qx (fun m_ s_=>∃(k:Nat),k≤(Zc c.1.length).length∧m_=(Zc c.1.length).length - k∧s_=⟨[(1,lP 0 0),(2,lf (.val (.slice none 0 0))),(3,lR 2),(12,lf (.dat (.sl 61 (.pr .int .bool)) (Zc c.1.length))),(13,lI ((Zc c.1.length).length:Int)),(14,lI (k:Int))],[(0,some (.box 59 [.dat (.sl 145 (.pr .str .int)) c.1, .dat (.sl 9 .str) c.2.1, .dat (.sl 179 (.pr .int (.pr .int (.pr .bool .int)))) c.2.2])),(2,some (.arr 129 (.pr (.pr (.pr .int .bool) (.pr .int .bool)) (.pr (.sl 145 (.pr .str .int)) (.pr (.sl 9 .str) (.sl 179 (.pr .int (.pr .int (.pr .bool .int))))))) (YV c (Jg c (Zc c.1.length) ((Zc c.1.length).take k)))))]⟩) ⟨0,Nat.zero_le _,rfl,rfl⟩ ?_ ?_
 · exact Wk.of [(0,0),(2,1)] rfl ⟨rfl,rfl,rfl,rfl,rfl,rfl,trivial⟩ ⟨rfl,(QA (rfl)),trivial⟩ rfl rfl
 rintro m_ s_ ⟨k,hk2,hm3,rfl⟩
 have htk:((Zc c.1.length).take k).length≤16:=by simp only[List.length_take]; omega
 have hck:=hcf _ htk
 have hwl:=KZ (c:=c) (Jg c (Zc c.1.length) ((Zc c.1.length).take k))
 iterate 4 refine w_ ?_
 cases hb4:(decide ((k:Int) < ((Zc c.1.length).length:Int)))
 ·have hb4':=of_decide_eq_false hb4
  refine w_ ?_
  refine QC ?_
  refine (?_:AC _ _ _ _ _)
  iterate 4 refine w_ ?_
  refine Qd ?_
  subst hO
  refine ZC (e:=(.pr (.pr (.pr .int .bool) (.pr .int .bool)) (.pr (.sl 145 (.pr .str .int)) (.pr (.sl 9 .str) (.sl 179 (.pr .int (.pr .int (.pr .bool .int)))))))) (xs:=(YV c (Jg c (Zc c.1.length) ((Zc c.1.length).take k)))) (Qe rfl (Qc rfl)) rfl ?_
  (rw[Zd (by omega)]; done)
 ·have hb4':=of_decide_eq_true hb4
  iterate 5 refine w_ ?_
  obtain ⟨a,hx6⟩:∃z,(Zc c.1.length)[k]? =some z:=⟨_,List.getElem?_eq_getElem (by omega)⟩
  refine lc (Qn (Qa rfl) (Qa rfl) UW YI rfl (by omega) hx6) ?_
  refine w_ ?_
  refine lc (Qt 3 (.pr .int .bool) Vy rfl rfl (Fresh.of rfl) (nlr rfl))<|lc (Qh (Qa rfl) rfl (Qb rfl) rfl YI rfl) ?_
  iterate 3 refine w_ ?_
  refine lc (Qf (Up c (by omega)).frozen Qb4 ⟨_,_,rfl,(Qb rfl),rfl⟩ rfl rfl)<|AL.fact (Qy (x:= .tmp 19) (Qa rfl)) fun hl7=> ?_
  iterate 4 refine w_ ?_
  refine Qx (fun m_ s_=>∃(i:Nat),i≤(Zc c.1.length).length∧m_=(Zc c.1.length).length - i∧s_=⟨[(1,lP 0 0),(2,lf (.val (.slice none 0 0))),(3,lR 4),(5,lP 3 0),(12,lf (.dat (.sl 61 (.pr .int .bool)) (Zc c.1.length))),(13,lI ((Zc c.1.length).length:Int)),(14,lI (k:Int)),(15,lB true),(16,lf (.elt (.pr .int .bool) a 0)),(17,ag [dI a.1,dB a.2]),(18,ag [.dat (.sl 145 (.pr .str .int)) c.1, .dat (.sl 9 .str) c.2.1, .dat (.sl 179 (.pr .int (.pr .int (.pr .bool .int)))) c.2.2]),(19,lf (.dat (.sl 61 (.pr .int .bool)) (Zc c.1.length))),(20,lI ((Zc c.1.length).length:Int)),(21,lI (i:Int))],[(0,some (.box 59 [.dat (.sl 145 (.pr .str .int)) c.1, .dat (.sl 9 .str) c.2.1, .dat (.sl 179 (.pr .int (.pr .int (.pr .bool .int)))) c.2.2])),(3,some (.box 61 [dI a.1,dB a.2])),(4,some (.arr 129 (.pr (.pr (.pr .int .bool) (.pr .int .bool)) (.pr (.sl 145 (.pr .str .int)) (.pr (.sl 9 .str) (.sl 179 (.pr .int (.pr .int (.pr .bool .int))))))) (YV c (Jg c (Zc c.1.length) ((Zc c.1.length).take k))++YV c (UJ c a ((Zc c.1.length).take i)))))]⟩) ⟨0,Nat.zero_le _,rfl,rfl⟩ ?_ ?_
  · exact Wk.of [(0,0),(3,3),(4,2)] rfl ⟨rfl,rfl,rfl,rfl,rfl,rfl,rfl,rfl,rfl,rfl,rfl,rfl,rfl,rfl,trivial⟩ ⟨rfl,rfl,(QA ((List.append_nil _).symm)),trivial⟩ rfl rfl
  rintro m_ s_ ⟨i,hk8,hm9,rfl⟩
  have hwr:=KZ (c:=c) (UJ c a ((Zc c.1.length).take i))
  have hrl:=Qeu (c:=c) (a:=a) (L:=(Zc c.1.length).take i)
  have hti:((Zc c.1.length).take i).length≤16:=by simp only[List.length_take]; omega
  iterate 4 refine w_ ?_
  cases hb10:(decide ((i:Int) < ((Zc c.1.length).length:Int)))
  ·have hb10':=of_decide_eq_false hb10
   refine w_ ?_
   refine QC ?_
   refine (?_:AC _ _ _ _ _)
   iterate 3 refine w_ ?_
   refine Qj<|QR ⟨k+1,by omega,rfl,rfl⟩ (by omega) ?_
   exact Wk.of [(0,0),(2,4)] rfl ⟨rfl,rfl,rfl,rfl,rfl,rfl,trivial⟩ ⟨rfl,(QA ((by rw[Zd (l:=Zc c.1.length) (k:=i) (by omega),← QfE hx6,YV,YV,YV,List.map_append]))),trivial⟩ rfl rfl
  ·have hb10':=of_decide_eq_true hb10
   iterate 5 refine w_ ?_
   obtain ⟨b,hx12⟩:∃z,(Zc c.1.length)[i]? =some z:=⟨_,List.getElem?_eq_getElem (by omega)⟩
   refine lc (Qn (Qa rfl) (Qa rfl) UW YI rfl (by omega) hx12) ?_
   refine w_ ?_
   refine lc (Qt 5 (.pr .int .bool) Vy rfl rfl (Fresh.of rfl) (nlr rfl))<|lc (Qh (Qa rfl) rfl (Qb rfl) rfl YI rfl) ?_
   iterate 5 refine w_ ?_
   refine lc (Uj KN KB (Qb rfl) (Qb rfl) (p:=a) (q:=b) rfl rfl rfl) ?_
   refine w_ ?_
   cases hb13:(Ty.beq (.pr .int .bool) a b)
   ·iterate 6 refine w_ ?_
    refine lc (QH QaL ⟨_,_,rfl,(Qb rfl),⟨_,_,rfl,(Qb rfl),rfl⟩⟩ (List.all_eq_true.1 rfl) rfl rfl)<|lc (Zu 6 (Jp c (a,b) hs) Qd1 ⟨_,_,rfl,(Qb rfl),⟨_,_,rfl,(Qb rfl),rfl⟩⟩ rfl rfl ⟨Fresh.of rfl,Fresh.of rfl,Fresh.of rfl,trivial⟩ (nlr rfl)) ?_
    iterate 3 refine w_ ?_
    refine lc (Qt 9 (.pr (.sl 145 (.pr .str .int)) (.pr (.sl 9 .str) (.sl 179 (.pr .int (.pr .int (.pr .bool .int)))))) Xd rfl rfl (Fresh.of rfl) (nlr rfl))<|lc (Qh (Qa rfl) rfl (Qb rfl) rfl QU rfl) ?_
    iterate 5 refine w_ ?_
    cases hb14:((Zp c (a,b)).2)
    ·refine w_ ?_
     refine AC.skip ?_
     refine (?_:AC _ _ _ _ _)
     iterate 3 refine w_ ?_
     refine Qj<|QR ⟨i+1,by omega,rfl,rfl⟩ (by omega) ?_
     exact Wk.of [(0,0),(3,3),(4,4)] rfl ⟨rfl,rfl,rfl,rfl,rfl,rfl,rfl,rfl,rfl,rfl,rfl,rfl,rfl,rfl,trivial⟩ ⟨rfl,rfl,(QA (by first | exact Qb6 hx12 (by assumption) (by assumption) | rw[KY hx12 (by assumption)] | rw[KX hx12 (by assumption)])),trivial⟩ rfl rfl
    ·iterate 5 refine w_ ?_
     refine lc (QH QaL ⟨_,_,rfl,(Qb rfl),⟨_,_,rfl,(Qb rfl),rfl⟩⟩ (List.all_eq_true.1 rfl) rfl rfl) ?_
     refine w_ ?_
     refine lc (QH Qjo ⟨_,_,rfl,(Qb rfl),⟨_,_,rfl,(Qb rfl),rfl⟩⟩ (List.all_eq_true.1 rfl) rfl rfl)<|lc (Ql 10 (e:=(.pr (.pr (.pr .int .bool) (.pr .int .bool)) (.pr (.sl 145 (.pr .str .int)) (.pr (.sl 9 .str) (.sl 179 (.pr .int (.pr .int (.pr .bool .int)))))))) H1 Xy VH rfl ⟨_,_,rfl,(Qb rfl),rfl⟩ (List.all_eq_true.1 rfl) ⟨_,_,_,_,rfl,⟨[dI a.1,dB a.2,dI b.1,dB b.2],[.ref 6, .ref 7, .ref 8],_,_,_,_,rfl,rfl,⟨[dI a.1,dB a.2],[dI b.1,dB b.2],_,_,_,_,rfl,rfl,⟨[dI a.1],[dB a.2],_,_,_,_,rfl,rfl,⟨rfl,rfl⟩,⟨rfl,rfl⟩,rfl⟩,⟨[dI b.1],[dB b.2],_,_,_,_,rfl,rfl,⟨rfl,rfl⟩,⟨rfl,rfl⟩,rfl⟩,rfl⟩,⟨[.ref 6],[.ref 7, .ref 8],_,_,_,_,rfl,rfl,(.inl ⟨_,rfl,rfl,rfl⟩),⟨[.ref 7],[.ref 8],_,_,_,_,rfl,rfl,(.inl ⟨_,rfl,rfl,rfl⟩),(.inl ⟨_,rfl,rfl,rfl⟩),rfl⟩,rfl⟩,rfl⟩,⟨rfl,rfl⟩,rfl⟩ (by decide) rfl rfl (Fresh.of rfl) (nlr rfl))<|lc (QY 11 (Qa rfl) rfl (Qa rfl) rfl rfl H1 Qns (by first | omega | (simp only[List.length_append,List.length_map,List.length_take,List.length_cons,List.length_nil]; omega) | (simp only[List.length_append,List.length_drop,List.length_take,List.length_cons,List.length_nil]; omega)) rfl (Fresh.of rfl) (nlr rfl)) ?_
     refine w_ ?_
     refine Qj ?_
     refine (?_:AC _ _ _ _ _)
     iterate 3 refine w_ ?_
     refine Qj<|QR ⟨i+1,by omega,rfl,rfl⟩ (by omega) ?_
     exact Wk.of [(0,0),(3,3),(4,11)] rfl ⟨rfl,rfl,rfl,rfl,rfl,rfl,rfl,rfl,rfl,rfl,rfl,rfl,rfl,rfl,trivial⟩ ⟨rfl,rfl,(QA (by first | exact Qb6 hx12 (by assumption) (by assumption) | rw[KY hx12 (by assumption)] | rw[KX hx12 (by assumption)])),trivial⟩ rfl rfl
   ·refine w_ ?_
    refine QC ?_
    refine (?_:AC _ _ _ _ _)
    iterate 3 refine w_ ?_
    refine Qj<|QR ⟨i+1,by omega,rfl,rfl⟩ (by omega) ?_
    exact Wk.of [(0,0),(3,3),(4,4)] rfl ⟨rfl,rfl,rfl,rfl,rfl,rfl,rfl,rfl,rfl,rfl,rfl,rfl,rfl,rfl,trivial⟩ ⟨rfl,rfl,(QA (by first | exact Qb6 hx12 (by assumption) (by assumption) | rw[KY hx12 (by assumption)] | rw[KX hx12 (by assumption)])),trivial⟩ rfl rfl
theorem Xh (c:(List (ByteArray×Int))×List ByteArray×(List (Int×Int×Bool×Int)))[∀c,Decidable (SgOk c)][∀s,Decidable (ZL s)]:FC Tryz.prog 30 [(true,[.dat (.sl 145 (.pr .str .int)) c.1, .dat (.sl 9 .str) c.2.1, .dat (.sl 179 (.pr .int (.pr .int (.pr .bool .int)))) c.2.2])] [] 0 (Is (PV.tup [(false,[.ref 0]),(false,[dB (decide (SgOk c))])]) [(0,some (.arr 63 (.pr (.pr .int .bool) (.pr .int .bool)) (if SgOk c then QS c else [])))]):=by
 refine QM Tryz.func30 rfl rfl Tryz.ntmps30 fun O_ hO w0_ N0_ X_ h0_ f0_=> ?_
 refine w_ ?_
 refine lc (Qo 0 (Qb rfl) rfl rfl (Fresh.of rfl) (nlr rfl)) ?_
 iterate 6 refine w_ ?_
 refine lc (Qf (ZM c) Um ⟨_,_,rfl,(Qb rfl),rfl⟩ rfl rfl) ?_
 iterate 2 refine w_ ?_
 cases hb1:(decide (SgOk c))
 ·have hb1':=of_decide_eq_false hb1
  iterate 5 refine w_ ?_
  refine AC.wk (Wk.nilS 1 2 63 (.pr (.pr .int .bool) (.pr .int .bool)) rfl (Fresh.of rfl) (nlr rfl))<|Qd ?_
  subst hO
  have e2:(false:Bool)=(decide (SgOk c)):=by
   (exact (decide_eq_false (by assumption)).symm)
  exact Q0 _ _ [(0,1)] (Zk rfl (Qc rfl) (Qc rfl)) ((congrArg (fun z_=>PV.tup [(false,[.ref 1]),(false,[dB z_])]) e2)) ⟨(QA (by (rw[if_neg (by assumption)]; done))),trivial⟩ rfl rfl
 ·have hb1':=of_decide_eq_true hb1
  iterate 2 refine w_ ?_
  refine XQ ?_
  have hs:SgOk c:=by assumption
  have hs8:=hs.sigs.2.2
  have hll:=Xz (k:=c.1.length)
  have hcf:=Ja (c:=c) hs8
  have hcl:(QS c).length≤256:=hcf (Zc c.1.length) (by omega)
  have hwl:=KZ (c:=c) (QS c)
  refine w_ ?_
  refine lc (Ql 2 (e:=(.pr (.pr .int .bool) (.pr .int .bool))) XF ZK Wu rfl rfl (List.all_eq_true.1 rfl) ⟨rfl,rfl⟩ (by decide) rfl rfl (Fresh.of rfl) (nlr rfl)) ?_
  iterate 5 refine w_ ?_
  refine lc (Qf (Vx c hs).frozen Qec ⟨_,_,rfl,(Qb rfl),rfl⟩ rfl rfl)<|AL.fact (Qy (x:= .tmp 12) (Qa rfl)) fun hl3=> ?_
  iterate 4 refine w_ ?_
  refine Qx (fun m_ s_=>∃(k:Nat),k≤(YV c (QS c)).length∧m_=(YV c (QS c)).length - k∧s_=⟨[(2,lf (.val (.slice none 0 0))),(3,lB false),(4,lR 3),(12,lf (.dat (.sl 129 (.pr (.pr (.pr .int .bool) (.pr .int .bool)) (.pr (.sl 145 (.pr .str .int)) (.pr (.sl 9 .str) (.sl 179 (.pr .int (.pr .int (.pr .bool .int)))))))) (YV c (QS c)))),(13,lI ((YV c (QS c)).length:Int)),(14,lI (k:Int))],[(3,some (.arr 63 (.pr (.pr .int .bool) (.pr .int .bool)) ((QS c).take k)))]⟩) ⟨0,Nat.zero_le _,rfl,rfl⟩ ?_ ?_
  · exact Wk.of [(3,2)] rfl ⟨rfl,rfl,rfl,rfl,rfl,rfl,trivial⟩ ⟨(QA (rfl)),trivial⟩ rfl rfl
  rintro m_ s_ ⟨k,hk4,hm5,rfl⟩
  have htk:((QS c).take k).length≤256:=by simp only[List.length_take]; omega
  iterate 4 refine w_ ?_
  cases hb6:(decide ((k:Int) < ((YV c (QS c)).length:Int)))
  ·have hb6':=of_decide_eq_false hb6
   refine w_ ?_
   refine QC ?_
   refine (?_:AC _ _ _ _ _)
   iterate 5 refine w_ ?_
   refine Qd ?_
   subst hO
   have e7:(true:Bool)=(decide (SgOk c)):=by
    (exact (decide_eq_true hs).symm)
   exact Q0 _ _ [(0,3)] (Zk rfl (Qc rfl) (Qc rfl)) ((congrArg (fun z_=>PV.tup [(false,[.ref 3]),(false,[dB z_])]) e7)) ⟨(QA (by (rw[if_pos hs,Zd (by omega)]; done))),trivial⟩ rfl rfl
  ·have hb6':=of_decide_eq_true hb6
   iterate 5 refine w_ ?_
   obtain ⟨z,hx9⟩:∃z,(YV c (QS c))[k]? =some z:=⟨_,List.getElem?_eq_getElem (by omega)⟩
   obtain ⟨xk,hxk,hzk⟩:=Qgt hx9
   refine lc (Qn (Qa rfl) (Qa rfl) H1 Xy rfl (by omega) hx9) ?_
   refine w_ ?_
   refine lc (Qt 4 (.pr (.pr (.pr .int .bool) (.pr .int .bool)) (.pr (.sl 145 (.pr .str .int)) (.pr (.sl 9 .str) (.sl 179 (.pr .int (.pr .int (.pr .bool .int))))))) VH rfl rfl (Fresh.of rfl) (nlr rfl))<|lc (Qh (Qa rfl) rfl (Qb rfl) rfl Xy rfl) ?_
   iterate 5 refine w_ ?_
   refine lc (Ql 5 (e:=(.pr (.pr .int .bool) (.pr .int .bool))) XF ZK Wu rfl ⟨_,_,rfl,(Qb rfl),rfl⟩ (List.all_eq_true.1 rfl) ⟨_,_,_,_,rfl,⟨[dI z.1.1.1,dB z.1.1.2],[dI z.1.2.1,dB z.1.2.2],_,_,_,_,rfl,rfl,⟨[dI z.1.1.1],[dB z.1.1.2],_,_,_,_,rfl,rfl,⟨rfl,rfl⟩,⟨rfl,rfl⟩,rfl⟩,⟨[dI z.1.2.1],[dB z.1.2.2],_,_,_,_,rfl,rfl,⟨rfl,rfl⟩,⟨rfl,rfl⟩,rfl⟩,rfl⟩,⟨rfl,rfl⟩,rfl⟩ (by decide) rfl rfl (Fresh.of rfl) (nlr rfl))<|lc (QY 6 (Qa rfl) rfl (Qa rfl) rfl rfl XF Qma (by first | omega | (simp only[List.length_append,List.length_map,List.length_take,List.length_cons,List.length_nil]; omega) | (simp only[List.length_append,List.length_drop,List.length_take,List.length_cons,List.length_nil]; omega)) rfl (Fresh.of rfl) (nlr rfl)) ?_
   refine w_ ?_
   refine Qj ?_
   refine (?_:AC _ _ _ _ _)
   iterate 3 refine w_ ?_
   refine Qj<|QR ⟨k+1,by omega,rfl,rfl⟩ (by omega) ?_
   exact Wk.of [(3,6)] rfl ⟨rfl,rfl,rfl,rfl,rfl,rfl,trivial⟩ ⟨(QA ((by rw[Q8 hxk,hzk]))),trivial⟩ rfl rfl
theorem Vt (c:(List (ByteArray×Int))×List ByteArray×(List (Int×Int×Bool×Int)))[∀c,Decidable (SgOk c)][∀s,Decidable (ZL s)](hs:SgOk c):FC Tryz.prog 85 [(true,[.dat (.sl 145 (.pr .str .int)) c.1, .dat (.sl 9 .str) c.2.1, .dat (.sl 179 (.pr .int (.pr .int (.pr .bool .int)))) c.2.2])] [] 0 (X8 63 (.pr (.pr .int .bool) (.pr .int .bool)) (QS c)):=by
 have hs8:=hs.sigs.2.2
 have hll:=Xz (k:=c.1.length)
 have hcf:=Ja (c:=c) hs8
 refine QM Tryz.func85 rfl rfl Tryz.ntmps85 fun O_ hO w0_ N0_ X_ h0_ f0_=> ?_
 refine w_ ?_
 refine lc (Qo 0 (Qb rfl) rfl rfl (Fresh.of rfl) (nlr rfl)) ?_
 iterate 8 refine w_ ?_
 refine lc (Qf (VS c (by omega)).frozen QcV ⟨_,_,rfl,(Qb rfl),rfl⟩ rfl rfl)<|AL.fact (Qy (x:= .tmp 11) (Qa rfl)) fun hl1=> ?_
 iterate 4 refine w_ ?_
 refine AC.wk (Wk.nilS 1 3 63 (.pr (.pr .int .bool) (.pr .int .bool)) rfl (Fresh.of rfl) (nlr rfl)) ?_
 refine Qx (fun m_ s_=>∃(k:Nat),k≤(Zc c.1.length).length∧m_=(Zc c.1.length).length - k∧s_=⟨[(1,lP 0 0),(2,lf (.val (.slice none 0 0))),(3,lR 2),(11,lf (.dat (.sl 61 (.pr .int .bool)) (Zc c.1.length))),(12,lI ((Zc c.1.length).length:Int)),(13,lI (k:Int))],[(0,some (.box 59 [.dat (.sl 145 (.pr .str .int)) c.1, .dat (.sl 9 .str) c.2.1, .dat (.sl 179 (.pr .int (.pr .int (.pr .bool .int)))) c.2.2])),(2,some (.arr 63 (.pr (.pr .int .bool) (.pr .int .bool)) (Jg c (Zc c.1.length) ((Zc c.1.length).take k))))]⟩) ⟨0,Nat.zero_le _,rfl,rfl⟩ ?_ ?_
 · exact Wk.of [(0,0),(2,1)] rfl ⟨rfl,rfl,rfl,rfl,rfl,rfl,trivial⟩ ⟨rfl,(QA (rfl)),trivial⟩ rfl rfl
 rintro m_ s_ ⟨k,hk2,hm3,rfl⟩
 have htk:((Zc c.1.length).take k).length≤16:=by simp only[List.length_take]; omega
 have hck:=hcf _ htk
 iterate 4 refine w_ ?_
 cases hb4:(decide ((k:Int) < ((Zc c.1.length).length:Int)))
 ·have hb4':=of_decide_eq_false hb4
  refine w_ ?_
  refine QC ?_
  refine (?_:AC _ _ _ _ _)
  iterate 4 refine w_ ?_
  refine Qd ?_
  subst hO
  refine ZC (e:=(.pr (.pr .int .bool) (.pr .int .bool))) (xs:=(Jg c (Zc c.1.length) ((Zc c.1.length).take k))) (Qe rfl (Qc rfl)) rfl ?_
  (rw[Zd (by omega)]; done)
 ·have hb4':=of_decide_eq_true hb4
  iterate 5 refine w_ ?_
  obtain ⟨a,hx6⟩:∃z,(Zc c.1.length)[k]? =some z:=⟨_,List.getElem?_eq_getElem (by omega)⟩
  refine lc (Qn (Qa rfl) (Qa rfl) UW YI rfl (by omega) hx6) ?_
  refine w_ ?_
  refine lc (Qt 3 (.pr .int .bool) Vy rfl rfl (Fresh.of rfl) (nlr rfl))<|lc (Qh (Qa rfl) rfl (Qb rfl) rfl YI rfl) ?_
  iterate 3 refine w_ ?_
  refine lc (Qf (VS c (by omega)).frozen QcV ⟨_,_,rfl,(Qb rfl),rfl⟩ rfl rfl)<|AL.fact (Qy (x:= .tmp 18) (Qa rfl)) fun hl7=> ?_
  iterate 4 refine w_ ?_
  refine Qx (fun m_ s_=>∃(i:Nat),i≤(Zc c.1.length).length∧m_=(Zc c.1.length).length - i∧s_=⟨[(1,lP 0 0),(2,lf (.val (.slice none 0 0))),(3,lR 4),(5,lP 3 0),(11,lf (.dat (.sl 61 (.pr .int .bool)) (Zc c.1.length))),(12,lI ((Zc c.1.length).length:Int)),(13,lI (k:Int)),(14,lB true),(15,lf (.elt (.pr .int .bool) a 0)),(16,ag [dI a.1,dB a.2]),(17,ag [.dat (.sl 145 (.pr .str .int)) c.1, .dat (.sl 9 .str) c.2.1, .dat (.sl 179 (.pr .int (.pr .int (.pr .bool .int)))) c.2.2]),(18,lf (.dat (.sl 61 (.pr .int .bool)) (Zc c.1.length))),(19,lI ((Zc c.1.length).length:Int)),(20,lI (i:Int))],[(0,some (.box 59 [.dat (.sl 145 (.pr .str .int)) c.1, .dat (.sl 9 .str) c.2.1, .dat (.sl 179 (.pr .int (.pr .int (.pr .bool .int)))) c.2.2])),(3,some (.box 61 [dI a.1,dB a.2])),(4,some (.arr 63 (.pr (.pr .int .bool) (.pr .int .bool)) (Jg c (Zc c.1.length) ((Zc c.1.length).take k)++UJ c a ((Zc c.1.length).take i))))]⟩) ⟨0,Nat.zero_le _,rfl,rfl⟩ ?_ ?_
  · exact Wk.of [(0,0),(3,3),(4,2)] rfl ⟨rfl,rfl,rfl,rfl,rfl,rfl,rfl,rfl,rfl,rfl,rfl,rfl,rfl,rfl,trivial⟩ ⟨rfl,rfl,(QA ((List.append_nil _).symm)),trivial⟩ rfl rfl
  rintro m_ s_ ⟨i,hk8,hm9,rfl⟩
  have hrl:=Qeu (c:=c) (a:=a) (L:=(Zc c.1.length).take i)
  have hti:((Zc c.1.length).take i).length≤16:=by simp only[List.length_take]; omega
  iterate 4 refine w_ ?_
  cases hb10:(decide ((i:Int) < ((Zc c.1.length).length:Int)))
  ·have hb10':=of_decide_eq_false hb10
   refine w_ ?_
   refine QC ?_
   refine (?_:AC _ _ _ _ _)
   iterate 3 refine w_ ?_
   refine Qj<|QR ⟨k+1,by omega,rfl,rfl⟩ (by omega) ?_
   exact Wk.of [(0,0),(2,4)] rfl ⟨rfl,rfl,rfl,rfl,rfl,rfl,trivial⟩ ⟨rfl,(QA ((by rw[Zd (l:=Zc c.1.length) (k:=i) (by omega),QfE hx6]))),trivial⟩ rfl rfl
  ·have hb10':=of_decide_eq_true hb10
   iterate 5 refine w_ ?_
   obtain ⟨b,hx12⟩:∃z,(Zc c.1.length)[i]? =some z:=⟨_,List.getElem?_eq_getElem (by omega)⟩
   refine lc (Qn (Qa rfl) (Qa rfl) UW YI rfl (by omega) hx12) ?_
   refine w_ ?_
   refine lc (Qt 5 (.pr .int .bool) Vy rfl rfl (Fresh.of rfl) (nlr rfl))<|lc (Qh (Qa rfl) rfl (Qb rfl) rfl YI rfl) ?_
   iterate 5 refine w_ ?_
   refine lc (Uj KN KB (Qb rfl) (Qb rfl) (p:=a) (q:=b) rfl rfl rfl) ?_
   refine w_ ?_
   cases hb13:(Ty.beq (.pr .int .bool) a b)
   ·iterate 6 refine w_ ?_
    refine lc (QH QaL ⟨_,_,rfl,(Qb rfl),⟨_,_,rfl,(Qb rfl),rfl⟩⟩ (List.all_eq_true.1 rfl) rfl rfl)<|lc (Zu 6 (U7 c (a,b) hs) Qes ⟨_,_,rfl,(Qb rfl),⟨_,_,rfl,(Qb rfl),rfl⟩⟩ rfl rfl ⟨Fresh.of rfl,Fresh.of rfl,Fresh.of rfl,trivial⟩ (nlr rfl)) ?_
    iterate 3 refine w_ ?_
    refine lc (Qt 9 (.pr (.sl 145 (.pr .str .int)) (.pr (.sl 9 .str) (.sl 179 (.pr .int (.pr .int (.pr .bool .int)))))) Xd rfl rfl (Fresh.of rfl) (nlr rfl))<|lc (Qh (Qa rfl) rfl (Qb rfl) rfl QU rfl) ?_
    iterate 5 refine w_ ?_
    cases hb14:((Zp c (a,b)).2)
    ·refine w_ ?_
     refine AC.skip ?_
     refine (?_:AC _ _ _ _ _)
     iterate 3 refine w_ ?_
     refine Qj<|QR ⟨i+1,by omega,rfl,rfl⟩ (by omega) ?_
     exact Wk.of [(0,0),(3,3),(4,4)] rfl ⟨rfl,rfl,rfl,rfl,rfl,rfl,rfl,rfl,rfl,rfl,rfl,rfl,rfl,rfl,trivial⟩ ⟨rfl,rfl,(QA (by first | rw[List.append_assoc,Qbs hx12 (by assumption) (by assumption)] | rw[KY hx12 (by assumption)] | rw[KX hx12 (by assumption)])),trivial⟩ rfl rfl
    ·iterate 5 refine w_ ?_
     refine lc (QH QaL ⟨_,_,rfl,(Qb rfl),⟨_,_,rfl,(Qb rfl),rfl⟩⟩ (List.all_eq_true.1 rfl) rfl rfl)<|lc (Ql 10 (e:=(.pr (.pr .int .bool) (.pr .int .bool))) XF ZK Wu rfl ⟨_,_,rfl,(Qb rfl),rfl⟩ (List.all_eq_true.1 rfl) ⟨_,_,_,_,rfl,⟨[dI a.1,dB a.2],[dI b.1,dB b.2],_,_,_,_,rfl,rfl,⟨[dI a.1],[dB a.2],_,_,_,_,rfl,rfl,⟨rfl,rfl⟩,⟨rfl,rfl⟩,rfl⟩,⟨[dI b.1],[dB b.2],_,_,_,_,rfl,rfl,⟨rfl,rfl⟩,⟨rfl,rfl⟩,rfl⟩,rfl⟩,⟨rfl,rfl⟩,rfl⟩ (by decide) rfl rfl (Fresh.of rfl) (nlr rfl))<|lc (QY 11 (Qa rfl) rfl (Qa rfl) rfl rfl XF Qma (by first | omega | (simp only[List.length_append,List.length_map,List.length_take,List.length_cons,List.length_nil]; omega) | (simp only[List.length_append,List.length_drop,List.length_take,List.length_cons,List.length_nil]; omega)) rfl (Fresh.of rfl) (nlr rfl)) ?_
     refine w_ ?_
     refine Qj ?_
     refine (?_:AC _ _ _ _ _)
     iterate 3 refine w_ ?_
     refine Qj<|QR ⟨i+1,by omega,rfl,rfl⟩ (by omega) ?_
     exact Wk.of [(0,0),(3,3),(4,11)] rfl ⟨rfl,rfl,rfl,rfl,rfl,rfl,rfl,rfl,rfl,rfl,rfl,rfl,rfl,rfl,trivial⟩ ⟨rfl,rfl,(QA (by first | rw[List.append_assoc,Qbs hx12 (by assumption) (by assumption)] | rw[KY hx12 (by assumption)] | rw[KX hx12 (by assumption)])),trivial⟩ rfl rfl
   ·refine w_ ?_
    refine QC ?_
    refine (?_:AC _ _ _ _ _)
    iterate 3 refine w_ ?_
    refine Qj<|QR ⟨i+1,by omega,rfl,rfl⟩ (by omega) ?_
    exact Wk.of [(0,0),(3,3),(4,4)] rfl ⟨rfl,rfl,rfl,rfl,rfl,rfl,rfl,rfl,rfl,rfl,rfl,rfl,rfl,rfl,trivial⟩ ⟨rfl,rfl,(QA (by first | rw[List.append_assoc,Qbs hx12 (by assumption) (by assumption)] | rw[KY hx12 (by assumption)] | rw[KX hx12 (by assumption)])),trivial⟩ rfl rfl
theorem Va (c:(List (ByteArray×Int))×List ByteArray×(List (Int×Int×Bool×Int)))[∀c,Decidable (SgOk c)][∀s,Decidable (ZL s)]:FC Tryz.prog 29 [(true,[.dat (.sl 145 (.pr .str .int)) c.1, .dat (.sl 9 .str) c.2.1, .dat (.sl 179 (.pr .int (.pr .int (.pr .bool .int)))) c.2.2])] [] 0 (Is (PV.tup [(false,[.ref 0]),(false,[dB (decide (SgOk c))])]) [(0,some (.arr 63 (.pr (.pr .int .bool) (.pr .int .bool)) (if SgOk c then QS c else [])))]):=by
 refine QM Tryz.func29 rfl rfl Tryz.ntmps29 fun O_ hO w0_ N0_ X_ h0_ f0_=> ?_
 refine w_ ?_
 refine lc (Qo 0 (Qb rfl) rfl rfl (Fresh.of rfl) (nlr rfl)) ?_
 iterate 6 refine w_ ?_
 refine lc (Qf (Yw c) Wv ⟨_,_,rfl,(Qb rfl),rfl⟩ rfl rfl) ?_
 iterate 2 refine w_ ?_
 cases hb1:(decide (SgOk c))
 ·have hb1':=of_decide_eq_false hb1
  iterate 5 refine w_ ?_
  refine AC.wk (Wk.nilS 1 2 63 (.pr (.pr .int .bool) (.pr .int .bool)) rfl (Fresh.of rfl) (nlr rfl))<|Qd ?_
  subst hO
  have e2:(false:Bool)=(decide (SgOk c)):=by
   (exact (decide_eq_false (by assumption)).symm)
  exact Q0 _ _ [(0,1)] (Zk rfl (Qc rfl) (Qc rfl)) ((congrArg (fun z_=>PV.tup [(false,[.ref 1]),(false,[dB z_])]) e2)) ⟨(QA (by (rw[if_neg (by assumption)]; done))),trivial⟩ rfl rfl
 ·have hb1':=of_decide_eq_true hb1
  iterate 4 refine w_ ?_
  refine lc (Y3 2 (Vt c (by assumption)) Qef ⟨_,_,rfl,(Qb rfl),rfl⟩ rfl (Fresh.of rfl) (nlr rfl)) ?_
  iterate 3 refine w_ ?_
  refine Qd ?_
  subst hO
  have e3:(true:Bool)=(decide (SgOk c)):=by
   (exact (decide_eq_true (by assumption)).symm)
  exact Q0 _ _ [(0,2)] (Zk rfl (Qc rfl) (Qc rfl)) ((congrArg (fun z_=>PV.tup [(false,[.ref 2]),(false,[dB z_])]) e3)) ⟨(QA (by (rw[if_pos (by assumption)]; done))),trivial⟩ rfl rfl
theorem Qfm (c:(List (ByteArray×Int))×List ByteArray×(List (Int×Int×Bool×Int)))[∀c,Decidable (SgOk c)][∀s,Decidable (ZL s)](hs:SgOk c):FC Tryz.prog 83 [(true,[.dat (.sl 145 (.pr .str .int)) c.1, .dat (.sl 9 .str) c.2.1, .dat (.sl 179 (.pr .int (.pr .int (.pr .bool .int)))) c.2.2])] [] 0 (Zo (PV.tup [(true,[dI ((((Zh c (QS c)).1).1).1),dB ((((Zh c (QS c)).1).1).2),dI ((((Zh c (QS c)).1).2).1),dB ((((Zh c (QS c)).1).2).2), .dat (.sl 145 (.pr .str .int)) (((Zh c (QS c)).2).1), .dat (.sl 9 .str) (((Zh c (QS c)).2).2.1), .dat (.sl 179 (.pr .int (.pr .int (.pr .bool .int)))) (((Zh c (QS c)).2).2.2)]),(false,[dI (WL c (QS c))]),(false,[dB ((Zm c (QS c)).isSome)])])):=by
 have hs8:=hs.sigs.2.2
 have hll:=Xz (k:=c.1.length)
 have hcf:=Ja (c:=c) hs8
 have hcl:(QS c).length≤256:=hcf (Zc c.1.length) (by omega)
 have hwl:=KZ (c:=c) (QS c)
 refine QM Tryz.func83 rfl rfl Tryz.ntmps83 fun O_ hO w0_ N0_ X_ h0_ f0_=> ?_
 refine w_ ?_
 refine lc (Qo 0 (Qb rfl) rfl rfl (Fresh.of rfl) (nlr rfl))<|lc (Qt 1 (.pr (.pr (.pr .int .bool) (.pr .int .bool)) (.pr (.sl 145 (.pr .str .int)) (.pr (.sl 9 .str) (.sl 179 (.pr .int (.pr .int (.pr .bool .int))))))) VH rfl rfl (Fresh.of rfl) (nlr rfl)) ?_
 iterate 4 refine w_ ?_
 refine lc (QH Qjo rfl (List.all_eq_true.1 rfl) rfl rfl)<|lc (Qt 2 (.pr (.pr (.pr .int .bool) (.pr .int .bool)) (.pr (.sl 145 (.pr .str .int)) (.pr (.sl 9 .str) (.sl 179 (.pr .int (.pr .int (.pr .bool .int))))))) VH rfl rfl (Fresh.of rfl) (nlr rfl))<|lc (Qh (Qa rfl) rfl (Qb rfl) rfl Xy rfl) ?_
 iterate 6 refine w_ ?_
 refine lc (Qf (Vx c hs).frozen Qec ⟨_,_,rfl,(Qb rfl),rfl⟩ rfl rfl)<|AL.fact (Qy (x:= .tmp 13) (Qa rfl)) fun hl1=> ?_
 iterate 4 refine w_ ?_
 refine AC.wk (QnQ (p:=2) [dI 0,dB false,dI 0,dB false, .dat (.sl 145 (.pr .str .int)) ([]), .dat (.sl 9 .str) ([]), .dat (.sl 179 (.pr .int (.pr .int (.pr .bool .int)))) ([])] rfl ⟨_,_,rfl, .inl rfl,⟨_,_,rfl, .inl rfl,⟨_,_,rfl, .inl rfl,⟨_,_,rfl, .inl rfl,⟨_,_,rfl, .inr ⟨_,_,rfl,rfl⟩,⟨_,_,rfl, .inr ⟨_,_,rfl,rfl⟩,⟨_,_,rfl, .inr ⟨_,_,rfl,rfl⟩,rfl⟩⟩⟩⟩⟩⟩⟩) ?_
 refine Qx (fun m_ s_=>∃(k:Nat) (cand:((Int×Bool)×(Int×Bool))×((List (ByteArray×Int))×List ByteArray×(List (Int×Int×Bool×Int)))) (few:Int) (fnd:Bool),k≤(YV c (QS c)).length∧m_=(YV c (QS c)).length - k∧(cand=Zh c ((QS c).take k)∧few=WL c ((QS c).take k)∧fnd=(Zm c ((QS c).take k)).isSome)∧s_=⟨[(2,lP 1 0),(3,lI 0),(4,lB false),(5,lP 2 0),(6,lI few),(7,lB fnd),(13,lf (.dat (.sl 129 (.pr (.pr (.pr .int .bool) (.pr .int .bool)) (.pr (.sl 145 (.pr .str .int)) (.pr (.sl 9 .str) (.sl 179 (.pr .int (.pr .int (.pr .bool .int)))))))) (YV c (QS c)))),(14,lI ((YV c (QS c)).length:Int)),(15,lI (k:Int))],[(1,some (.box 129 [dI 0,dB false,dI 0,dB false, .val (.slice none 0 0), .val (.slice none 0 0), .val (.slice none 0 0)])),(2,some (.box 129 [dI cand.1.1.1,dB cand.1.1.2,dI cand.1.2.1,dB cand.1.2.2, .dat (.sl 145 (.pr .str .int)) cand.2.1, .dat (.sl 9 .str) cand.2.2.1, .dat (.sl 179 (.pr .int (.pr .int (.pr .bool .int)))) cand.2.2.2]))]⟩) ⟨0,(((0,false),(0,false)),(([]:((.sl 145 (.pr .str .int)):Ty).Den),([]:((.sl 9 .str):Ty).Den),([]:((.sl 179 (.pr .int (.pr .int (.pr .bool .int)))):Ty).Den))),0,false,Nat.zero_le _,rfl,⟨rfl,rfl,rfl⟩,rfl⟩ ?_ ?_
 · exact Wk.of [(1,1),(2,2)] rfl ⟨rfl,rfl,rfl,rfl,rfl,rfl,rfl,rfl,rfl,trivial⟩ ⟨rfl,rfl,trivial⟩ rfl rfl
 rintro m_ s_ ⟨k,cand,few,fnd,hk2,hm3,hB,rfl⟩
 iterate 4 refine w_ ?_
 cases hb4:(decide ((k:Int) < ((YV c (QS c)).length:Int)))
 ·have hb4':=of_decide_eq_false hb4
  refine w_ ?_
  refine QC ?_
  refine (?_:AC _ _ _ _ _)
  iterate 4 refine w_ ?_
  refine lc (Qh (Qa rfl) rfl (Qb rfl) rfl Xy rfl) ?_
  iterate 3 refine w_ ?_
  refine Qd ?_
  subst hO
  have e5:(cand.1.1.1:Int)=((((Zh c (QS c)).1).1).1):=by
   (rw[Zd (by omega)] at hB; first | rw[hB.1] | rw[hB.2.1] | rw[hB.2.2])
  have e6:(cand.1.1.2:Bool)=((((Zh c (QS c)).1).1).2):=by
   (rw[Zd (by omega)] at hB; first | rw[hB.1] | rw[hB.2.1] | rw[hB.2.2])
  have e7:(cand.1.2.1:Int)=((((Zh c (QS c)).1).2).1):=by
   (rw[Zd (by omega)] at hB; first | rw[hB.1] | rw[hB.2.1] | rw[hB.2.2])
  have e8:(cand.1.2.2:Bool)=((((Zh c (QS c)).1).2).2):=by
   (rw[Zd (by omega)] at hB; first | rw[hB.1] | rw[hB.2.1] | rw[hB.2.2])
  have e9:(cand.2.1:((.sl 145 (.pr .str .int)):Ty).Den)=(((Zh c (QS c)).2).1):=by
   (rw[Zd (by omega)] at hB; first | rw[hB.1] | rw[hB.2.1] | rw[hB.2.2])
  have e10:(cand.2.2.1:((.sl 9 .str):Ty).Den)=(((Zh c (QS c)).2).2.1):=by
   (rw[Zd (by omega)] at hB; first | rw[hB.1] | rw[hB.2.1] | rw[hB.2.2])
  have e11:(cand.2.2.2:((.sl 179 (.pr .int (.pr .int (.pr .bool .int)))):Ty).Den)=(((Zh c (QS c)).2).2.2):=by
   (rw[Zd (by omega)] at hB; first | rw[hB.1] | rw[hB.2.1] | rw[hB.2.2])
  have e12:(few:Int)=(WL c (QS c)):=by
   (rw[Zd (by omega)] at hB; first | rw[hB.1] | rw[hB.2.1] | rw[hB.2.2])
  have e13:(fnd:Bool)=((Zm c (QS c)).isSome):=by
   (rw[Zd (by omega)] at hB; first | rw[hB.1] | rw[hB.2.1] | rw[hB.2.2])
  exact Qg (ZJ rfl (Zv rfl rfl Xy rfl) (Qc rfl) (Qc rfl)) ((((((((((congrArg (fun z_=>PV.tup [(true,[dI z_,dB cand.1.1.2,dI cand.1.2.1,dB cand.1.2.2, .dat (.sl 145 (.pr .str .int)) cand.2.1, .dat (.sl 9 .str) cand.2.2.1, .dat (.sl 179 (.pr .int (.pr .int (.pr .bool .int)))) cand.2.2.2]),(false,[dI few]),(false,[dB fnd])]) e5)).trans (congrArg (fun z_=>PV.tup [(true,[dI ((((Zh c (QS c)).1).1).1),dB z_,dI cand.1.2.1,dB cand.1.2.2, .dat (.sl 145 (.pr .str .int)) cand.2.1, .dat (.sl 9 .str) cand.2.2.1, .dat (.sl 179 (.pr .int (.pr .int (.pr .bool .int)))) cand.2.2.2]),(false,[dI few]),(false,[dB fnd])]) e6)).trans (congrArg (fun z_=>PV.tup [(true,[dI ((((Zh c (QS c)).1).1).1),dB ((((Zh c (QS c)).1).1).2),dI z_,dB cand.1.2.2, .dat (.sl 145 (.pr .str .int)) cand.2.1, .dat (.sl 9 .str) cand.2.2.1, .dat (.sl 179 (.pr .int (.pr .int (.pr .bool .int)))) cand.2.2.2]),(false,[dI few]),(false,[dB fnd])]) e7)).trans (congrArg (fun z_=>PV.tup [(true,[dI ((((Zh c (QS c)).1).1).1),dB ((((Zh c (QS c)).1).1).2),dI ((((Zh c (QS c)).1).2).1),dB z_, .dat (.sl 145 (.pr .str .int)) cand.2.1, .dat (.sl 9 .str) cand.2.2.1, .dat (.sl 179 (.pr .int (.pr .int (.pr .bool .int)))) cand.2.2.2]),(false,[dI few]),(false,[dB fnd])]) e8)).trans (congrArg (fun z_=>PV.tup [(true,[dI ((((Zh c (QS c)).1).1).1),dB ((((Zh c (QS c)).1).1).2),dI ((((Zh c (QS c)).1).2).1),dB ((((Zh c (QS c)).1).2).2), .dat (.sl 145 (.pr .str .int)) z_, .dat (.sl 9 .str) cand.2.2.1, .dat (.sl 179 (.pr .int (.pr .int (.pr .bool .int)))) cand.2.2.2]),(false,[dI few]),(false,[dB fnd])]) e9)).trans (congrArg (fun z_=>PV.tup [(true,[dI ((((Zh c (QS c)).1).1).1),dB ((((Zh c (QS c)).1).1).2),dI ((((Zh c (QS c)).1).2).1),dB ((((Zh c (QS c)).1).2).2), .dat (.sl 145 (.pr .str .int)) (((Zh c (QS c)).2).1), .dat (.sl 9 .str) z_, .dat (.sl 179 (.pr .int (.pr .int (.pr .bool .int)))) cand.2.2.2]),(false,[dI few]),(false,[dB fnd])]) e10)).trans (congrArg (fun z_=>PV.tup [(true,[dI ((((Zh c (QS c)).1).1).1),dB ((((Zh c (QS c)).1).1).2),dI ((((Zh c (QS c)).1).2).1),dB ((((Zh c (QS c)).1).2).2), .dat (.sl 145 (.pr .str .int)) (((Zh c (QS c)).2).1), .dat (.sl 9 .str) (((Zh c (QS c)).2).2.1), .dat (.sl 179 (.pr .int (.pr .int (.pr .bool .int)))) z_]),(false,[dI few]),(false,[dB fnd])]) e11)).trans (congrArg (fun z_=>PV.tup [(true,[dI ((((Zh c (QS c)).1).1).1),dB ((((Zh c (QS c)).1).1).2),dI ((((Zh c (QS c)).1).2).1),dB ((((Zh c (QS c)).1).2).2), .dat (.sl 145 (.pr .str .int)) (((Zh c (QS c)).2).1), .dat (.sl 9 .str) (((Zh c (QS c)).2).2.1), .dat (.sl 179 (.pr .int (.pr .int (.pr .bool .int)))) (((Zh c (QS c)).2).2.2)]),(false,[dI z_]),(false,[dB fnd])]) e12)).trans (congrArg (fun z_=>PV.tup [(true,[dI ((((Zh c (QS c)).1).1).1),dB ((((Zh c (QS c)).1).1).2),dI ((((Zh c (QS c)).1).2).1),dB ((((Zh c (QS c)).1).2).2), .dat (.sl 145 (.pr .str .int)) (((Zh c (QS c)).2).1), .dat (.sl 9 .str) (((Zh c (QS c)).2).2.1), .dat (.sl 179 (.pr .int (.pr .int (.pr .bool .int)))) (((Zh c (QS c)).2).2.2)]),(false,[dI (WL c (QS c))]),(false,[dB z_])]) e13)) rfl
 ·have hb4':=of_decide_eq_true hb4
  iterate 5 refine w_ ?_
  obtain ⟨z,hx15⟩:∃z,(YV c (QS c))[k]? =some z:=⟨_,List.getElem?_eq_getElem (by omega)⟩
  obtain ⟨xk,hxk,hzk⟩:=Qgt hx15
  refine lc (Qn (Qa rfl) (Qa rfl) H1 Xy rfl (by omega) hx15) ?_
  refine w_ ?_
  refine lc (Qt 3 (.pr (.pr (.pr .int .bool) (.pr .int .bool)) (.pr (.sl 145 (.pr .str .int)) (.pr (.sl 9 .str) (.sl 179 (.pr .int (.pr .int (.pr .bool .int))))))) VH rfl rfl (Fresh.of rfl) (nlr rfl))<|lc (Qh (Qa rfl) rfl (Qb rfl) rfl Xy rfl) ?_
  iterate 4 refine w_ ?_
  refine lc (Qf (VJ z.2 (by rw[hzk]; exact Qk8 hs (List.mem_of_getElem? hxk))) QdU ⟨_,_,rfl,(Qb rfl),rfl⟩ rfl rfl)<|AL.fact (Qy (x:= .tmp 21) (Qa rfl)) fun hl16=> ?_
  iterate 7 refine w_ ?_
  cases hb17:(fnd)
  ·iterate 9 refine w_ ?_
   refine Qp rfl rfl rfl ?_ rfl
   refine Qp rfl rfl rfl ?_ rfl
   refine Qp rfl rfl rfl ?_ rfl
   refine Qp rfl rfl rfl ?_ rfl
   refine Qp rfl rfl rfl ?_ rfl
   refine Qp rfl rfl rfl ?_ rfl
   refine Qp rfl rfl rfl ?_ rfl
   refine Qp rfl rfl rfl ?_ rfl
   refine Qp rfl rfl rfl ?_ rfl
   iterate 7 refine w_ ?_
   refine lc (Qh (Qa rfl) rfl (Qb rfl) rfl Xy rfl) ?_
   iterate 2 refine w_ ?_
   refine Qj ?_
   refine (?_:AC _ _ _ _ _)
   iterate 3 refine w_ ?_
   refine Qj<|QR ⟨k+1,z,((YW z.2).length:Int),true,by omega,rfl,(by exact QeS hxk hzk hB (.inl (by assumption))),rfl⟩ (by omega) ?_
   exact Wk.of [(1,1),(2,2)] rfl ⟨rfl,rfl,rfl,rfl,rfl,rfl,rfl,rfl,rfl,trivial⟩ ⟨rfl,rfl,trivial⟩ rfl rfl
  ·iterate 5 refine w_ ?_
   cases hb18:(decide (((YW z.2).length:Int) < few))
   ·have hb18':=of_decide_eq_false hb18
    iterate 4 refine w_ ?_
    cases hb19:(decide (((YW z.2).length:Int)=few))
    ·have hb19':=of_decide_eq_false hb19
     iterate 13 refine w_ ?_
     refine AC.skip ?_
     refine (?_:AC _ _ _ _ _)
     iterate 3 refine w_ ?_
     refine Qj<|QR ⟨k+1,cand,few,true,by omega,rfl,(by exact Qjl hxk hzk hB (by assumption) (by assumption) (fun g=>absurd g.1 (by assumption))),rfl⟩ (by omega) ?_
     exact Wk.of [(1,1),(2,2)] rfl ⟨rfl,rfl,rfl,rfl,rfl,rfl,rfl,rfl,rfl,trivial⟩ ⟨rfl,rfl,trivial⟩ rfl rfl
    ·have hb19':=of_decide_eq_true hb19
     iterate 3 refine w_ ?_
     refine AL.fact (Qy (x:= .tmp 37) (Qa rfl)) fun hl20=> ?_
     iterate 4 refine w_ ?_
     refine AL.fact (Qy (x:= .tmp 41) (Qa rfl)) fun hl21=> ?_
     iterate 5 refine w_ ?_
     cases hb22:(decide ((z.2.2.1.length:Int) < (cand.2.2.1.length:Int)))
     ·have hb22':=of_decide_eq_false hb22
      refine w_ ?_
      refine AC.skip ?_
      refine (?_:AC _ _ _ _ _)
      iterate 3 refine w_ ?_
      refine Qj<|QR ⟨k+1,cand,few,true,by omega,rfl,(by exact Qjl hxk hzk hB (by assumption) (by assumption) (fun g=>absurd g.2 (by assumption))),rfl⟩ (by omega) ?_
      exact Wk.of [(1,1),(2,2)] rfl ⟨rfl,rfl,rfl,rfl,rfl,rfl,rfl,rfl,rfl,trivial⟩ ⟨rfl,rfl,trivial⟩ rfl rfl
     ·have hb22':=of_decide_eq_true hb22
      iterate 4 refine w_ ?_
      refine lc (Qh (Qa rfl) rfl (Qb rfl) rfl Xy rfl) ?_
      iterate 2 refine w_ ?_
      refine Qj ?_
      refine (?_:AC _ _ _ _ _)
      iterate 3 refine w_ ?_
      refine Qj<|QR ⟨k+1,z,((YW z.2).length:Int),true,by omega,rfl,(by exact QeS hxk hzk hB (.inr (.inr ⟨by assumption,by assumption⟩))),rfl⟩ (by omega) ?_
      exact Wk.of [(1,1),(2,2)] rfl ⟨rfl,rfl,rfl,rfl,rfl,rfl,rfl,rfl,rfl,trivial⟩ ⟨rfl,rfl,trivial⟩ rfl rfl
   ·have hb18':=of_decide_eq_true hb18
    iterate 4 refine w_ ?_
    refine Qp rfl rfl rfl ?_ rfl
    refine Qp rfl rfl rfl ?_ rfl
    refine Qp rfl rfl rfl ?_ rfl
    refine Qp rfl rfl rfl ?_ rfl
    refine Qp rfl rfl rfl ?_ rfl
    refine Qp rfl rfl rfl ?_ rfl
    refine Qp rfl rfl rfl ?_ rfl
    refine Qp rfl rfl rfl ?_ rfl
    refine Qp rfl rfl rfl ?_ rfl
    iterate 7 refine w_ ?_
    refine lc (Qh (Qa rfl) rfl (Qb rfl) rfl Xy rfl) ?_
    iterate 2 refine w_ ?_
    refine Qj ?_
    refine (?_:AC _ _ _ _ _)
    iterate 3 refine w_ ?_
    refine Qj<|QR ⟨k+1,z,((YW z.2).length:Int),true,by omega,rfl,(by exact QeS hxk hzk hB (.inr (.inl (by assumption)))),rfl⟩ (by omega) ?_
    exact Wk.of [(1,1),(2,2)] rfl ⟨rfl,rfl,rfl,rfl,rfl,rfl,rfl,rfl,rfl,trivial⟩ ⟨rfl,rfl,trivial⟩ rfl rfl
theorem Ko (c:(List (ByteArray×Int))×List ByteArray×(List (Int×Int×Bool×Int)))[∀c,Decidable (SgOk c)][∀s,Decidable (ZL s)]:FC Tryz.prog 27 [(true,[.dat (.sl 145 (.pr .str .int)) c.1, .dat (.sl 9 .str) c.2.1, .dat (.sl 179 (.pr .int (.pr .int (.pr .bool .int)))) c.2.2])] [] 0 (Zo (PV.tup [(true,[dI (((ZN c).1).1),dB (((ZN c).1).2),dI (((ZN c).2).1),dB (((ZN c).2).2)]),(false,[dB (Qbi c)])])):=by
 refine QM Tryz.func27 rfl rfl Tryz.ntmps27 fun O_ hO w0_ N0_ X_ h0_ f0_=> ?_
 refine w_ ?_
 refine lc (Qo 0 (Qb rfl) rfl rfl (Fresh.of rfl) (nlr rfl))<|lc (Qt 1 (.pr (.pr .int .bool) (.pr .int .bool)) Wu rfl rfl (Fresh.of rfl) (nlr rfl)) ?_
 iterate 5 refine w_ ?_
 refine lc (Qf (ZM c) Um ⟨_,_,rfl,(Qb rfl),rfl⟩ rfl rfl) ?_
 iterate 2 refine w_ ?_
 cases hb1:(decide (SgOk c))
 ·have hb1':=of_decide_eq_false hb1
  iterate 2 refine w_ ?_
  refine lc (QH QaL rfl (List.all_eq_true.1 rfl) rfl rfl)<|lc (Qh (Qa rfl) rfl (Qb rfl) rfl ZK rfl) ?_
  iterate 2 refine w_ ?_
  refine Qd ?_
  subst hO
  have e2:(0:Int)=(((ZN c).1).1):=by
   (rw[(V0 (by assumption)).1]; done)
  have e3:(false:Bool)=(((ZN c).1).2):=by
   (rw[(V0 (by assumption)).1]; done)
  have e4:(0:Int)=(((ZN c).2).1):=by
   (rw[(V0 (by assumption)).1]; done)
  have e5:(false:Bool)=(((ZN c).2).2):=by
   (rw[(V0 (by assumption)).1]; done)
  have e6:(false:Bool)=(Qbi c):=by
   (rw[(V0 (by assumption)).2]; done)
  exact Qg (Zk rfl (Zv rfl rfl ZK rfl) (Qc rfl)) ((((((congrArg (fun z_=>PV.tup [(true,[dI z_,dB false,dI 0,dB false]),(false,[dB false])]) e2)).trans (congrArg (fun z_=>PV.tup [(true,[dI (((ZN c).1).1),dB z_,dI 0,dB false]),(false,[dB false])]) e3)).trans (congrArg (fun z_=>PV.tup [(true,[dI (((ZN c).1).1),dB (((ZN c).1).2),dI z_,dB false]),(false,[dB false])]) e4)).trans (congrArg (fun z_=>PV.tup [(true,[dI (((ZN c).1).1),dB (((ZN c).1).2),dI (((ZN c).2).1),dB z_]),(false,[dB false])]) e5)).trans (congrArg (fun z_=>PV.tup [(true,[dI (((ZN c).1).1),dB (((ZN c).1).2),dI (((ZN c).2).1),dB (((ZN c).2).2)]),(false,[dB z_])]) e6)) rfl
 ·have hb1':=of_decide_eq_true hb1
  iterate 4 refine w_ ?_
  refine lc (Qf (Qfm c (by assumption)) Qku ⟨_,_,rfl,(Qb rfl),rfl⟩ rfl rfl) ?_
  iterate 4 refine w_ ?_
  refine lc (Qt 2 (.pr (.pr (.pr .int .bool) (.pr .int .bool)) (.pr (.sl 145 (.pr .str .int)) (.pr (.sl 9 .str) (.sl 179 (.pr .int (.pr .int (.pr .bool .int))))))) VH rfl rfl (Fresh.of rfl) (nlr rfl))<|lc (Qh (Qa rfl) rfl (Qb rfl) rfl Xy rfl) ?_
  iterate 7 refine w_ ?_
  refine lc (Qh (Qa rfl) rfl (Qb rfl) rfl ZK rfl) ?_
  iterate 2 refine w_ ?_
  refine Qd ?_
  subst hO
  have e7:((((Zh c (QS c)).1).1).1:Int)=(((ZN c).1).1):=by
   (rw[(WC (by assumption)).1,← Qbt]; done)
  have e8:((((Zh c (QS c)).1).1).2:Bool)=(((ZN c).1).2):=by
   (rw[(WC (by assumption)).1,← Qbt]; done)
  have e9:((((Zh c (QS c)).1).2).1:Int)=(((ZN c).2).1):=by
   (rw[(WC (by assumption)).1,← Qbt]; done)
  have e10:((((Zh c (QS c)).1).2).2:Bool)=(((ZN c).2).2):=by
   (rw[(WC (by assumption)).1,← Qbt]; done)
  have e11:((Zm c (QS c)).isSome:Bool)=(Qbi c):=by
   (rw[(WC (by assumption)).2]; done)
  exact Qg (Zk rfl (Zv rfl rfl ZK rfl) (Qc rfl)) ((((((congrArg (fun z_=>PV.tup [(true,[dI z_,dB ((((Zh c (QS c)).1).1).2),dI ((((Zh c (QS c)).1).2).1),dB ((((Zh c (QS c)).1).2).2)]),(false,[dB ((Zm c (QS c)).isSome)])]) e7)).trans (congrArg (fun z_=>PV.tup [(true,[dI (((ZN c).1).1),dB z_,dI ((((Zh c (QS c)).1).2).1),dB ((((Zh c (QS c)).1).2).2)]),(false,[dB ((Zm c (QS c)).isSome)])]) e8)).trans (congrArg (fun z_=>PV.tup [(true,[dI (((ZN c).1).1),dB (((ZN c).1).2),dI z_,dB ((((Zh c (QS c)).1).2).2)]),(false,[dB ((Zm c (QS c)).isSome)])]) e9)).trans (congrArg (fun z_=>PV.tup [(true,[dI (((ZN c).1).1),dB (((ZN c).1).2),dI (((ZN c).2).1),dB z_]),(false,[dB ((Zm c (QS c)).isSome)])]) e10)).trans (congrArg (fun z_=>PV.tup [(true,[dI (((ZN c).1).1),dB (((ZN c).1).2),dI (((ZN c).2).1),dB (((ZN c).2).2)]),(false,[dB z_])]) e11)) rfl
theorem Qbj (c:(List (ByteArray×Int))×List ByteArray×(List (Int×Int×Bool×Int)))[∀c,Decidable (SgOk c)][∀s,Decidable (ZL s)](hs:SgOk c):FC Tryz.prog 81 [(true,[.dat (.sl 145 (.pr .str .int)) c.1, .dat (.sl 9 .str) c.2.1, .dat (.sl 179 (.pr .int (.pr .int (.pr .bool .int)))) c.2.2])] [] 0 (Zo (PV.tup [(true,[dI (((Yb c (QS c)).1).1),dB (((Yb c (QS c)).1).2),dI (((Yb c (QS c)).2).1),dB (((Yb c (QS c)).2).2)]),(false,[dB ((Zm c (QS c)).isSome)])])):=by
 have hs8:=hs.sigs.2.2
 have hll:=Xz (k:=c.1.length)
 have hcf:=Ja (c:=c) hs8
 have hcl:(QS c).length≤256:=hcf (Zc c.1.length) (by omega)
 refine QM Tryz.func81 rfl rfl Tryz.ntmps81 fun O_ hO w0_ N0_ X_ h0_ f0_=> ?_
 refine w_ ?_
 refine lc (Qo 0 (Qb rfl) rfl rfl (Fresh.of rfl) (nlr rfl))<|lc (Qt 1 (.pr (.pr .int .bool) (.pr .int .bool)) Wu rfl rfl (Fresh.of rfl) (nlr rfl)) ?_
 iterate 3 refine w_ ?_
 refine lc (Qt 2 (.pr (.pr .int .bool) (.pr .int .bool)) Wu rfl rfl (Fresh.of rfl) (nlr rfl)) ?_
 iterate 8 refine w_ ?_
 refine lc (Qf (Vt c hs).frozen Qef ⟨_,_,rfl,(Qb rfl),rfl⟩ rfl rfl)<|AL.fact (Qy (x:= .tmp 13) (Qa rfl)) fun hl1=> ?_
 iterate 4 refine w_ ?_
 refine Qx (fun m_ s_=>∃(k:Nat) (bx:(Int×Bool)×(Int×Bool)) (few:Int) (st:Int),k≤(QS c).length∧m_=(QS c).length - k∧(bx=Yb c ((QS c).take k)∧few=W2 c ((QS c).take k)∧st=Kf c ((QS c).take k))∧s_=⟨[(1,lP 0 0),(2,lP 1 0),(3,lB false),(4,lP 2 0),(5,lI few),(6,lI st),(13,lf (.dat (.sl 63 (.pr (.pr .int .bool) (.pr .int .bool))) (QS c))),(14,lI ((QS c).length:Int)),(15,lI (k:Int))],[(0,some (.box 59 [.dat (.sl 145 (.pr .str .int)) c.1, .dat (.sl 9 .str) c.2.1, .dat (.sl 179 (.pr .int (.pr .int (.pr .bool .int)))) c.2.2])),(1,some (.box 63 [dI 0,dB false,dI 0,dB false])),(2,some (.box 63 [dI bx.1.1,dB bx.1.2,dI bx.2.1,dB bx.2.2]))]⟩) ⟨0,((0,false),(0,false)),(-1),0,Nat.zero_le _,rfl,⟨rfl,rfl,rfl⟩,rfl⟩ ?_ ?_
 · exact Wk.of [(0,0),(1,1),(2,2)] rfl ⟨rfl,rfl,rfl,rfl,rfl,rfl,rfl,rfl,rfl,trivial⟩ ⟨rfl,rfl,rfl,trivial⟩ rfl rfl
 rintro m_ s_ ⟨k,bx,few,st,hk2,hm3,hB,rfl⟩
 iterate 4 refine w_ ?_
 cases hb4:(decide ((k:Int) < ((QS c).length:Int)))
 ·have hb4':=of_decide_eq_false hb4
  refine w_ ?_
  refine QC ?_
  refine (?_:AC _ _ _ _ _)
  iterate 4 refine w_ ?_
  refine lc (Qh (Qa rfl) rfl (Qb rfl) rfl ZK rfl) ?_
  iterate 2 refine w_ ?_
  refine Qd ?_
  subst hO
  have e5:(bx.1.1:Int)=(((Yb c (QS c)).1).1):=by
   (rw[Zd (by omega)] at hB; first | rw[hB.1] | (rw[hB.2.1]; exact KA))
  have e6:(bx.1.2:Bool)=(((Yb c (QS c)).1).2):=by
   (rw[Zd (by omega)] at hB; first | rw[hB.1] | (rw[hB.2.1]; exact KA))
  have e7:(bx.2.1:Int)=(((Yb c (QS c)).2).1):=by
   (rw[Zd (by omega)] at hB; first | rw[hB.1] | (rw[hB.2.1]; exact KA))
  have e8:(bx.2.2:Bool)=(((Yb c (QS c)).2).2):=by
   (rw[Zd (by omega)] at hB; first | rw[hB.1] | (rw[hB.2.1]; exact KA))
  have e9:(decide (0≤few):Bool)=((Zm c (QS c)).isSome):=by
   (rw[Zd (by omega)] at hB; first | rw[hB.1] | (rw[hB.2.1]; exact KA))
  exact Qg (Zk rfl (Zv rfl rfl ZK rfl) (Qc rfl)) ((((((congrArg (fun z_=>PV.tup [(true,[dI z_,dB bx.1.2,dI bx.2.1,dB bx.2.2]),(false,[dB (decide (0≤few))])]) e5)).trans (congrArg (fun z_=>PV.tup [(true,[dI (((Yb c (QS c)).1).1),dB z_,dI bx.2.1,dB bx.2.2]),(false,[dB (decide (0≤few))])]) e6)).trans (congrArg (fun z_=>PV.tup [(true,[dI (((Yb c (QS c)).1).1),dB (((Yb c (QS c)).1).2),dI z_,dB bx.2.2]),(false,[dB (decide (0≤few))])]) e7)).trans (congrArg (fun z_=>PV.tup [(true,[dI (((Yb c (QS c)).1).1),dB (((Yb c (QS c)).1).2),dI (((Yb c (QS c)).2).1),dB z_]),(false,[dB (decide (0≤few))])]) e8)).trans (congrArg (fun z_=>PV.tup [(true,[dI (((Yb c (QS c)).1).1),dB (((Yb c (QS c)).1).2),dI (((Yb c (QS c)).2).1),dB (((Yb c (QS c)).2).2)]),(false,[dB z_])]) e9)) rfl
 ·have hb4':=of_decide_eq_true hb4
  iterate 5 refine w_ ?_
  obtain ⟨x,hx11⟩:∃z,(QS c)[k]? =some z:=⟨_,List.getElem?_eq_getElem (by omega)⟩
  have hxm:=List.mem_of_getElem? hx11
  refine lc (Qn (Qa rfl) (Qa rfl) XF ZK rfl (by omega) hx11) ?_
  refine w_ ?_
  refine lc (Qt 3 (.pr (.pr .int .bool) (.pr .int .bool)) Wu rfl rfl (Fresh.of rfl) (nlr rfl))<|lc (Qh (Qa rfl) rfl (Qb rfl) rfl ZK rfl) ?_
  iterate 4 refine w_ ?_
  refine lc (Qf (Wn c x) QdR ⟨_,_,rfl,(Qb rfl),⟨_,_,rfl,(Qb rfl),rfl⟩⟩ rfl rfl) ?_
  iterate 12 refine w_ ?_
  cases hb12:(decide (few < 0))
  ·have hb12':=of_decide_eq_false hb12
   iterate 5 refine w_ ?_
   cases hb13:(decide ((ZB c x) < few))
   ·have hb13':=of_decide_eq_false hb13
    iterate 4 refine w_ ?_
    cases hb14:(decide ((ZB c x)=few))
    ·have hb14':=of_decide_eq_false hb14
     iterate 7 refine w_ ?_
     refine AC.skip ?_
     refine (?_:AC _ _ _ _ _)
     iterate 3 refine w_ ?_
     refine Qj<|QR ⟨k+1,bx,few,st,by omega,rfl,(by exact QjH hs hxm hx11 hB (by assumption) (by assumption) (fun g=>absurd g.1 (by assumption))),rfl⟩ (by omega) ?_
     exact Wk.of [(0,0),(1,1),(2,2)] rfl ⟨rfl,rfl,rfl,rfl,rfl,rfl,rfl,rfl,rfl,trivial⟩ ⟨rfl,rfl,rfl,trivial⟩ rfl rfl
    ·have hb14':=of_decide_eq_true hb14
     iterate 6 refine w_ ?_
     cases hb15:(decide ((Z4 c x) < st))
     ·have hb15':=of_decide_eq_false hb15
      refine w_ ?_
      refine AC.skip ?_
      refine (?_:AC _ _ _ _ _)
      iterate 3 refine w_ ?_
      refine Qj<|QR ⟨k+1,bx,few,st,by omega,rfl,(by exact QjH hs hxm hx11 hB (by assumption) (by assumption) (fun g=>absurd g.2 (by assumption))),rfl⟩ (by omega) ?_
      exact Wk.of [(0,0),(1,1),(2,2)] rfl ⟨rfl,rfl,rfl,rfl,rfl,rfl,rfl,rfl,rfl,trivial⟩ ⟨rfl,rfl,rfl,trivial⟩ rfl rfl
     ·have hb15':=of_decide_eq_true hb15
      iterate 3 refine w_ ?_
      refine lc (Qh (Qa rfl) rfl (Qb rfl) rfl ZK rfl) ?_
      iterate 8 refine w_ ?_
      refine Qj ?_
      refine (?_:AC _ _ _ _ _)
      iterate 3 refine w_ ?_
      refine Qj<|QR ⟨k+1,x,(ZB c x),(Z4 c x),by omega,rfl,(by exact Qft hs hxm hx11 hB (.inr (.inr ⟨by assumption,by assumption⟩))),rfl⟩ (by omega) ?_
      exact Wk.of [(0,0),(1,1),(2,2)] rfl ⟨rfl,rfl,rfl,rfl,rfl,rfl,rfl,rfl,rfl,trivial⟩ ⟨rfl,rfl,rfl,trivial⟩ rfl rfl
   ·have hb13':=of_decide_eq_true hb13
    iterate 4 refine w_ ?_
    refine Qp rfl rfl rfl ?_ rfl
    refine Qp rfl rfl rfl ?_ rfl
    refine Qp rfl rfl rfl ?_ rfl
    iterate 6 refine w_ ?_
    refine lc (Qh (Qa rfl) rfl (Qb rfl) rfl ZK rfl) ?_
    iterate 8 refine w_ ?_
    refine Qj ?_
    refine (?_:AC _ _ _ _ _)
    iterate 3 refine w_ ?_
    refine Qj<|QR ⟨k+1,x,(ZB c x),(Z4 c x),by omega,rfl,(by exact Qft hs hxm hx11 hB (.inr (.inl (by assumption)))),rfl⟩ (by omega) ?_
    exact Wk.of [(0,0),(1,1),(2,2)] rfl ⟨rfl,rfl,rfl,rfl,rfl,rfl,rfl,rfl,rfl,trivial⟩ ⟨rfl,rfl,rfl,trivial⟩ rfl rfl
  ·have hb12':=of_decide_eq_true hb12
   iterate 9 refine w_ ?_
   refine Qp rfl rfl rfl ?_ rfl
   refine Qp rfl rfl rfl ?_ rfl
   refine Qp rfl rfl rfl ?_ rfl
   iterate 6 refine w_ ?_
   refine lc (Qh (Qa rfl) rfl (Qb rfl) rfl ZK rfl) ?_
   iterate 8 refine w_ ?_
   refine Qj ?_
   refine (?_:AC _ _ _ _ _)
   iterate 3 refine w_ ?_
   refine Qj<|QR ⟨k+1,x,(ZB c x),(Z4 c x),by omega,rfl,(by exact Qft hs hxm hx11 hB (.inl (by assumption))),rfl⟩ (by omega) ?_
   exact Wk.of [(0,0),(1,1),(2,2)] rfl ⟨rfl,rfl,rfl,rfl,rfl,rfl,rfl,rfl,rfl,trivial⟩ ⟨rfl,rfl,rfl,trivial⟩ rfl rfl
theorem Km (c:(List (ByteArray×Int))×List ByteArray×(List (Int×Int×Bool×Int)))[∀c,Decidable (SgOk c)][∀s,Decidable (ZL s)]:FC Tryz.prog 26 [(true,[.dat (.sl 145 (.pr .str .int)) c.1, .dat (.sl 9 .str) c.2.1, .dat (.sl 179 (.pr .int (.pr .int (.pr .bool .int)))) c.2.2])] [] 0 (Zo (PV.tup [(true,[dI (((ZN c).1).1),dB (((ZN c).1).2),dI (((ZN c).2).1),dB (((ZN c).2).2)]),(false,[dB (Qbi c)])])):=by
 refine QM Tryz.func26 rfl rfl Tryz.ntmps26 fun O_ hO w0_ N0_ X_ h0_ f0_=> ?_
 refine w_ ?_
 refine lc (Qo 0 (Qb rfl) rfl rfl (Fresh.of rfl) (nlr rfl))<|lc (Qt 1 (.pr (.pr .int .bool) (.pr .int .bool)) Wu rfl rfl (Fresh.of rfl) (nlr rfl)) ?_
 iterate 5 refine w_ ?_
 refine lc (Qf (Yw c) Wv ⟨_,_,rfl,(Qb rfl),rfl⟩ rfl rfl) ?_
 iterate 2 refine w_ ?_
 cases hb1:(decide (SgOk c))
 ·have hb1':=of_decide_eq_false hb1
  iterate 2 refine w_ ?_
  refine lc (QH QaL rfl (List.all_eq_true.1 rfl) rfl rfl)<|lc (Qh (Qa rfl) rfl (Qb rfl) rfl ZK rfl) ?_
  iterate 2 refine w_ ?_
  refine Qd ?_
  subst hO
  have e2:(0:Int)=(((ZN c).1).1):=by
   (rw[(V0 (by assumption)).1]; done)
  have e3:(false:Bool)=(((ZN c).1).2):=by
   (rw[(V0 (by assumption)).1]; done)
  have e4:(0:Int)=(((ZN c).2).1):=by
   (rw[(V0 (by assumption)).1]; done)
  have e5:(false:Bool)=(((ZN c).2).2):=by
   (rw[(V0 (by assumption)).1]; done)
  have e6:(false:Bool)=(Qbi c):=by
   (rw[(V0 (by assumption)).2]; done)
  exact Qg (Zk rfl (Zv rfl rfl ZK rfl) (Qc rfl)) ((((((congrArg (fun z_=>PV.tup [(true,[dI z_,dB false,dI 0,dB false]),(false,[dB false])]) e2)).trans (congrArg (fun z_=>PV.tup [(true,[dI (((ZN c).1).1),dB z_,dI 0,dB false]),(false,[dB false])]) e3)).trans (congrArg (fun z_=>PV.tup [(true,[dI (((ZN c).1).1),dB (((ZN c).1).2),dI z_,dB false]),(false,[dB false])]) e4)).trans (congrArg (fun z_=>PV.tup [(true,[dI (((ZN c).1).1),dB (((ZN c).1).2),dI (((ZN c).2).1),dB z_]),(false,[dB false])]) e5)).trans (congrArg (fun z_=>PV.tup [(true,[dI (((ZN c).1).1),dB (((ZN c).1).2),dI (((ZN c).2).1),dB (((ZN c).2).2)]),(false,[dB z_])]) e6)) rfl
 ·have hb1':=of_decide_eq_true hb1
  iterate 4 refine w_ ?_
  refine lc (Qf (Qbj c (by assumption)) Qk1 ⟨_,_,rfl,(Qb rfl),rfl⟩ rfl rfl) ?_
  iterate 2 refine w_ ?_
  refine lc (Qh (Qa rfl) rfl (Qb rfl) rfl ZK rfl) ?_
  iterate 2 refine w_ ?_
  refine Qd ?_
  subst hO
  have e7:(((Yb c (QS c)).1).1:Int)=(((ZN c).1).1):=by
   (rw[(WC (by assumption)).1]; done)
  have e8:(((Yb c (QS c)).1).2:Bool)=(((ZN c).1).2):=by
   (rw[(WC (by assumption)).1]; done)
  have e9:(((Yb c (QS c)).2).1:Int)=(((ZN c).2).1):=by
   (rw[(WC (by assumption)).1]; done)
  have e10:(((Yb c (QS c)).2).2:Bool)=(((ZN c).2).2):=by
   (rw[(WC (by assumption)).1]; done)
  have e11:((Zm c (QS c)).isSome:Bool)=(Qbi c):=by
   (rw[(WC (by assumption)).2]; done)
  exact Qg (Zk rfl (Zv rfl rfl ZK rfl) (Qc rfl)) ((((((congrArg (fun z_=>PV.tup [(true,[dI z_,dB (((Yb c (QS c)).1).2),dI (((Yb c (QS c)).2).1),dB (((Yb c (QS c)).2).2)]),(false,[dB ((Zm c (QS c)).isSome)])]) e7)).trans (congrArg (fun z_=>PV.tup [(true,[dI (((ZN c).1).1),dB z_,dI (((Yb c (QS c)).2).1),dB (((Yb c (QS c)).2).2)]),(false,[dB ((Zm c (QS c)).isSome)])]) e8)).trans (congrArg (fun z_=>PV.tup [(true,[dI (((ZN c).1).1),dB (((ZN c).1).2),dI z_,dB (((Yb c (QS c)).2).2)]),(false,[dB ((Zm c (QS c)).isSome)])]) e9)).trans (congrArg (fun z_=>PV.tup [(true,[dI (((ZN c).1).1),dB (((ZN c).1).2),dI (((ZN c).2).1),dB z_]),(false,[dB ((Zm c (QS c)).isSome)])]) e10)).trans (congrArg (fun z_=>PV.tup [(true,[dI (((ZN c).1).1),dB (((ZN c).1).2),dI (((ZN c).2).1),dB (((ZN c).2).2)]),(false,[dB z_])]) e11)) rfl
end Go.Proofs.YtnakmhfjafecpaaGreat
