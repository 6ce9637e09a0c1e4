/- Walks over abstract states: firing. -/
import Derived.Test.YtjaadeknhofhpaaGreatWb
import Derived.Test.YtjaadeknhofhpaaGreatWa
set_option linter.unusedSimpArgs false
set_option linter.unusedVariables false
set_option linter.unusedSectionVars false
namespace Go.Proofs.YtjaadeknhofhpaaGreat
open Go.RowKit
set_option maxRecDepth 100000
set_option maxHeartbeats 4000000
def bAt (m:ByteArray)(p:Int):UInt8:=(m[p.toNat]?).getD 0
theorem Qhj {m:ByteArray}{p:Int}{c:UInt8}(h:m[p.toNat]? =some c):bAt m p=c:=by unfold bAt; rw[h]; rfl
theorem Qe5 (m:ByteArray):m.toList.length=m.size:=by simp[bW]
def ZN {α:Type _}(f:α→Bool)(l:List α):Int:=match l.findIdx? f with | some i=>i | none=> -1
def NoneTo {α:Type _}(f:α→Bool)(l:List α)(k:Nat):Prop:=∀j,j < k→∀x,l[j]? =some x→f x=false
section
variable {α:Type _}{f:α→Bool}{l:List α}{k:Nat}{x:α}
theorem NoneTo.zero:NoneTo f l 0:=fun j hj=>absurd hj (bK j)
theorem NoneTo.step (h:NoneTo f l k)(hx:l[k]? =some x)(hf:f x=false):NoneTo f l (k+1):=fun j hj y hy=>by
  by_cases e:j=k
  · subst e; rw[hx] at hy; cases hy; exact hf
  · exact h j (by omega) y hy
theorem NoneTo.at (h:NoneTo f l k)(hx:l[k]? =some x)(hf:f x=true):ZN f l=k:=by
  obtain ⟨h1,h2⟩:=au.1 hx
  have:l.findIdx? f=some k:=bO.2 ⟨h1,by rw[h2]; exact hf,fun j hj=>by
    have:=h j hj _ (ap (by omega))
    simp[this]⟩
  unfold ZN
  rw[this]
theorem NoneTo.no (h:NoneTo f l k)(hk:l.length≤k):ZN f l= -1:=by
  have:l.findIdx? f=none:=List.findIdx?_eq_none_iff.2 fun x hx=>by
    obtain ⟨j,hj⟩:=aS.1 hx
    have:=(au.1 hj).1
    exact h j (by omega) x hj
  unfold ZN
  rw[this]
theorem NoneTo.any_no (h:NoneTo f l k)(hk:l.length≤k):l.any f=false:=cr.2 fun x hx=>by
  obtain ⟨j,hj⟩:=aS.1 hx
  have:=(au.1 hj).1
  simp[h j (by omega) x hj]
theorem Qpe (hx:l[k]? =some x)(hf:f x=true):l.any f=true:=bm.2 ⟨x,ai hx,hf⟩
theorem Vx (f:α→Bool)(l:List α):decide (0≤ZN f l)=l.any f:=by
  unfold ZN
  cases h:l.findIdx? f with
  | none=>
    have:=List.findIdx?_eq_none_iff.1 h
    rw[bY]
    simp only[bm,aN]
    constructor
    · intro h; omega
    · rintro ⟨x,hx,hf⟩; rw[this x hx] at hf; cases hf
  | some i=>
    obtain ⟨h1,h2,_⟩:=bO.1 h
    have:l.any f=true:=bm.2 ⟨_,cR h1,h2⟩
    rw[this]
    simp
def Xs (f:α→Bool)(l:List α):Nat→List Int
  | 0=>[]
  | k+1=>Xs f l k++(match l[k]? with | some x=>if f x then [(k:Int)] else [] | none=>[])
theorem Qb4 (hx:l[k]? =some x)(hf:f x=true):Xs f l k++[(k:Int)]=Xs f l (k+1):=by simp[Xs,hx,hf]
theorem Qey (hx:l[k]? =some x)(hf:f x=false):Xs f l k=Xs f l (k+1):=by simp[Xs,hx,hf]
theorem Qca (f:α→Bool)(l:List α)(k:Nat):(Xs f l k).length≤k:=by
  induction k with
  | zero=>simp[Xs]
  | succ k ih=>
    simp only[Xs,aa]
    split
    · split <;> simp <;> omega
    · simp; omega
theorem QbT {f:α→Bool}{l:List α}{k:Nat}{t:Int}(h:t∈Xs f l k):∃x,0≤t∧t < l.length∧t < k∧l[t.toNat]? =some x∧f x=true:=by
  induction k with
  | zero=>simp[Xs] at h
  | succ k ih=>
    simp only[Xs,aJ] at h
    rcases h with h | h
    · obtain ⟨x,h1,h2,h3,h4⟩:=ih h; exact ⟨x,h1,h2,by omega,h4⟩
    · cases hx : l[k]? with
      | none=>rw[hx] at h; simp at h
      | some x=>
        rw[hx] at h
        cases hf:f x with
        | false=>simp[hf] at h
        | true=>
          simp only[hf,if_true,aM] at h
          subst h
          have:=(au.1 hx).1
          exact ⟨x,by omega,by omega,by omega,by simpa using hx,hf⟩
theorem YC {l:List α}{k:Nat}{x:α}(hx:l[k]? =some x):l.drop k=x :: l.drop (k+1):=by
  obtain ⟨h1,h2⟩:=au.1 hx
  rw[bL h1,h2]
end
def U4 (m:ByteArray)(ps:List Int):Prop:=∀p∈ps,(0≤p∧p < m.size)∧(bAt m p=48∨bAt m p=49)
def enb (m:ByteArray)(t:QW):Bool:= !t.1.any fun p=>decide (bAt m p=48)
def Zl (n:Xj)(m:ByteArray):List Int:=Xs (enb m) n.2 n.2.length
def clr (l:List UInt8):List Int→List UInt8
  | []=>l
  | p :: ps=>clr (l.set p.toNat 48) ps
def K6 (l:List UInt8):List Int→Option (List UInt8)
  | []=>some l
  | p :: ps=>if l[p.toNat]? =some 49 then none else K6 (l.set p.toNat 49) ps
def KU (m:ByteArray)(t:QW):ByteArray×Bool:=match K6 (clr m.toList t.1) t.2 with
  | none=>(⟨#[]⟩,false)
  | some l=>(⟨l.toArray⟩,true)
def Ym (n:Xj)(m:ByteArray)(t:Int):ByteArray×Bool:=match n.2[t.toNat]? with
  | none=>(⟨#[]⟩,false)
  | some x=>KU m x
def Yy (n:Xj)(m:ByteArray)(t:Int):ByteArray×Bool:=if 0≤t then (match n.2[t.toNat]? with
  | none=>(⟨#[]⟩,false)
  | some x=>if enb m x then KU m x else (⟨#[]⟩,false)) else (⟨#[]⟩,false)
section
variable {n:Xj}{m:ByteArray}{t:Int}{x:QW}{l:List UInt8}{ps:List Int}{k:Nat}{p:Int}
theorem QhH (hx:ps[k]? =some p):clr l (ps.drop k)=clr (l.set p.toNat 48) (ps.drop (k+1)):=by rw[YC hx,clr]
theorem QlZ (h:ps.length≤k):clr l (ps.drop k)=l:=by rw[bk h,clr]
theorem Qgy (hx:ps[k]? =some p){c:UInt8}(hc:l[p.toNat]? =some c)(hn:decide (c=49)=false):K6 l (ps.drop k)=K6 (l.set p.toNat 49) (ps.drop (k+1)):=by
  rw[YC hx,K6,if_neg]
  rw[hc]
  intro h
  cases h
  simp at hn
theorem Qc8 (hx:ps[k]? =some p){c:UInt8}(hc:l[p.toNat]? =some c)(hn:decide (c=49)=true):K6 l (ps.drop k)=none:=by
  rw[YC hx,K6,if_pos]
  rw[hc,a8 hn]
theorem Qa1 (h:ps.length≤k):K6 l (ps.drop k)=some l:=by rw[bk h,K6]
theorem QpR (l:List UInt8)(ps:List Int):(clr l ps).length=l.length:=by
  induction ps generalizing l with
  | nil=>rfl
  | cons p ps ih=>rw[clr,ih,aq]
theorem Hn (h:K6 (clr m.toList x.1) x.2=none):KU m x=(⟨#[]⟩,false):=by unfold KU; rw[h]
theorem KY (h:K6 (clr m.toList x.1) x.2=some l):KU m x=(⟨l.toArray⟩,true):=by unfold KU; rw[h]
theorem Qbp (hx:n.2[t.toNat]? =some x):Ym n m t=KU m x:=by unfold Ym; rw[hx]
theorem Qbl (hx:n.2[t.toNat]? =some x)(h0:0≤t)(he:enb m x=true):Yy n m t=KU m x:=by
  unfold Yy; rw[if_pos h0,hx]
  show (if enb m x then _ else _)=_
  rw[if_pos he]
theorem Qgh (hx:n.2[t.toNat]? =some x)(he:enb m x=false):Yy n m t=(⟨#[]⟩,false):=by
  unfold Yy; rw[hx]
  show (if 0≤t then (if enb m x then _ else _) else _)=_
  rw[if_neg (show¬enb m x=true by rw[he]; decide),ite_self]
theorem Qgj (h:¬(0≤t∧t≤(n.2.length:Int) - 1)):Yy n m t=(⟨#[]⟩,false):=by
  unfold Yy
  by_cases h0:0≤t
  · rw[if_pos h0,bB (by omega)]
  · rw[if_neg h0]
theorem QqF (h0:0≤t)(hx:n.2[t.toNat]? =some x)(he:enb m x=true):Yy n m t=Ym n m t:=by rw[Qbl hx h0 he,Qbp hx]
def Qag (n:Xj)(m:ByteArray)(t:Int):Bool:=match n.2[t.toNat]? with
  | some x=>enb m x
  | none=>false
theorem Qc6 (hx:n.2[t.toNat]? =some x):Qag n m t=enb m x:=by unfold Qag; rw[hx]
theorem Qoj (h:U4 m x.1):enb m x=true↔∀p∈x.1,bAt m p=49:=by
  unfold enb
  simp only[bS,cr,aN]
  constructor
  · intro k p hp
    rcases (h p hp).2 with h1 | h1
    · exact absurd h1 (k p hp)
    · exact h1
  · intro k p hp h1
    rw[k p hp] at h1
    exact absurd h1 (by decide)
theorem QjE {c:UInt8}(hA:∀j,j < k→∀y,ps[j]? =some y→bAt m y=49)(hx:ps[k]? =some p)(hc:m[p.toNat]? =some c)(hb:(!decide (c=49))=false):∀j,j < k+1→∀y,ps[j]? =some y→bAt m y=49:=fun j hj y hy=>by
  by_cases e:j=k
  · subst e; rw [hx] at hy; cases hy
    rw[Qhj hc]
    simpa using hb
  · exact hA j (by omega) y hy
theorem QoX {c:UInt8}(hn:n.2[t.toNat]? =some x)(hp:U4 m x.1)(hx:x.1[k]? =some p)(hc:m[p.toNat]? =some c)(hb:(!decide (c=49))=true):Qag n m t=false:=by
  rw[Qc6 hn,cv]
  intro h
  have:=(Qoj hp).1 h p (ai hx)
  rw[Qhj hc] at this
  simp[this] at hb
theorem QmN (hn:n.2[t.toNat]? =some x)(hp:U4 m x.1)(hA:∀j,j < k→∀y,x.1[j]? =some y→bAt m y=49)(hk:x.1.length≤k):Qag n m t=true:=by
  rw[Qc6 hn]
  refine (Qoj hp).2 fun p h=> ?_
  obtain ⟨j,hj⟩:=aS.1 h
  have:=(au.1 hj).1
  exact hA j (by omega) p hj
theorem QeX (hk:k < n.2.length)(h:Qag n m (k:Int)=true):Xs (enb m) n.2 k++[(k:Int)]=Xs (enb m) n.2 (k+1):=by
  have hx:=ap hk
  rw[Qc6 (t:=(k:Int)) (show n.2[((k:Int)).toNat]? =some _ from hx)] at h
  exact Qb4 hx h
theorem QfU (hk:k < n.2.length)(h:Qag n m (k:Int)=false):Xs (enb m) n.2 k=Xs (enb m) n.2 (k+1):=by
  have hx:=ap hk
  rw[Qc6 (t:=(k:Int)) (show n.2[((k:Int)).toNat]? =some _ from hx)] at h
  exact Qey hx h
end
theorem H1 (p:Int)(mark:ByteArray)(h0:0≤p)(h1:p < (mark.size:Int)):FC Tryz.prog 351 [(false,[dI p]),(false,[.ptr 0 0])] [(0,some (.box 9 [dS mark]))] 1 (Is (lB (decide (bAt mark p=48))) [(0,some (.box 9 [dS mark]))]):=by
 refine QO Tryz.func351 rfl rfl Tryz.ntmps351 fun O_ hO w0_ N0_ X_ h0_ f0_=> ?_
 refine AC.fact (QC (x:= .tmp 0) (Qa rfl)) fun hi1=> ?_
 iterate 6 refine w_ ?_
 obtain ⟨c2,hc3⟩:=gs mark ((p).toNat)
 refine lc (ZY (Qa rfl) (Qa rfl) rfl ZS (by omega) hc3)<|lc (Z7 (Qa rfl) (ZJ 48 rfl) rfl) ?_
 iterate 3 refine w_ ?_
 subst hO
 have e4:(decide (c2=48):Bool)=(decide (bAt mark p=48)):=by
  rw[Qhj ‹_›]
 exact QD _ _ [(0,0)] (Qg rfl (Qd rfl)) (by rw[e4] <;> rfl) ⟨rfl,trivial⟩ rfl rfl
theorem VQ (s:List Int)(mark:ByteArray)(hp:∀p∈s,0≤p∧p < (mark.size:Int)):FC Tryz.prog 248 [(false,[.dat Qs s]),(false,[.clo 351 [0]])] [(0,some (.box 9 [dS mark]))] 1 (Is (lI (ZN (fun p=>decide (bAt mark p=48)) s)) [(0,some (.box 9 [dS mark]))]):=by
 refine QO Tryz.func248 rfl rfl Tryz.ntmps248 fun O_ hO w0_ N0_ X_ h0_ f0_=> ?_
 iterate 6 refine w_ ?_
 refine AL.fact (Qo (x:= .tmp 6) (Qa rfl)) fun hl1=> ?_
 iterate 4 refine w_ ?_
 refine Qu (fun m_ s_=>∃(k:Nat),k≤s.length∧m_=s.length - k∧(NoneTo (fun p=>decide (bAt mark p=48)) s k)∧s_=⟨[(0,lf (.dat Qs s)),(1,lf (.clo 351 [0])),(7,lI (s.length:Int)),(8,lI (k:Int))],[(0,some (.box 9 [dS mark]))]⟩) ⟨0,aw _,rfl,NoneTo.zero,rfl⟩ ?_ ?_
 exact wo [(0,0)]
 rintro m_ s_ ⟨k,hk2,hm3,hno,rfl⟩
 iterate 4 refine w_ ?_
 cases hb4:(decide ((k:Int) < (s.length:Int)))
 have hb4':=a7 hb4
 iterate 7 refine w_ ?_
 subst hO
 have e5:((-1):Int)=(ZN (fun p=>decide (bAt mark p=48)) s):=by
  first | exact (hno.no (by omega)).symm
 exact QD _ _ [(0,0)] (Qg rfl (Qd rfl)) (by rw[← e5] <;> rfl) ⟨rfl,trivial⟩ rfl rfl
 have hb4':=a8 hb4
 iterate 12 refine w_ ?_
 obtain ⟨x6,hx7⟩:=gx s k
 refine lc (Qh (Qa rfl) (Qa rfl) QN QL rfl (by omega) hx7) ?_
 refine w_ ?_
 refine AL.fact (QC (x:= .tmp 15) (Qa rfl)) fun hi8=>lc (Wh (args0:=[(false,[dI x6])]) (caps:=[0]) 1 [(0,0)] (H1 x6 mark (hp _ (ai hx7)).1 (hp _ (ai hx7)).2) Qjb rfl (Qa rfl) rfl rfl ⟨_,_,rfl,(Qb rfl),rfl⟩ ⟨rfl,trivial⟩ rfl ⟨trivial,trivial⟩ (nlr rfl)) ?_
 refine w_ ?_
 cases hb9:(decide (bAt mark x6=48))
 have hb9':=a7 hb9
 iterate 6 refine w_ ?_
 refine Qm<|QV ⟨k+1,by omega,rfl,hno.step hx7 ‹_›,rfl⟩ (by omega) ?_
 exact wo [(0,0)]
 have hb9':=a8 hb9
 iterate 6 refine w_ ?_
 subst hO
 have e10:((k:Int):Int)=(ZN (fun p=>decide (bAt mark p=48)) s):=by
  exact (hno.at hx7 ‹_›).symm
 exact QD _ _ [(0,0)] (Qg rfl (Qd rfl)) (by rw[e10] <;> rfl) ⟨rfl,trivial⟩ rfl rfl
theorem Vf (s:List Int)(mark:ByteArray)(hp:∀p∈s,0≤p∧p < (mark.size:Int)):FC Tryz.prog 142 [(false,[.dat Qs s]),(false,[.clo 351 [0]])] [(0,some (.box 9 [dS mark]))] 1 (Is (lB (s.any (fun p=>decide (bAt mark p=48)))) [(0,some (.box 9 [dS mark]))]):=by
 refine QO Tryz.func142 rfl rfl Tryz.ntmps142 fun O_ hO w0_ N0_ X_ h0_ f0_=> ?_
 iterate 6 refine w_ ?_
 refine lc (QK 1 [(0,0)] (VQ s mark hp) QaG ⟨_,_,rfl,(Qb rfl),⟨_,_,rfl,(Qb rfl),rfl⟩⟩ ⟨rfl,trivial⟩ rfl ⟨trivial,trivial⟩ (nlr rfl)) ?_
 iterate 4 refine w_ ?_
 subst hO
 have e1:(decide (0≤(ZN (fun p=>decide (bAt mark p=48)) s)):Bool)=(s.any (fun p=>decide (bAt mark p=48))):=by
  exact Vx _ _
 exact QD _ _ [(0,0)] (Qg rfl (Qd rfl)) (by rw[e1] <;> rfl) ⟨rfl,trivial⟩ rfl rfl
theorem UW (t:List Int×List Int)(mark:ByteArray)(hp:U4 mark t.1):FC Tryz.prog 294 [(true,[.dat Qs t.1, .dat Qs t.2]),(false,[dS mark])] [] 0 (Yj (lB (enb mark t))):=by
 refine QO Tryz.func294 rfl rfl Tryz.ntmps294 fun O_ hO w0_ N0_ X_ h0_ f0_=> ?_
 refine w_ ?_
 refine lc (Qy 0 (Qb rfl) rfl rfl (Fresh.of rfl) (nlr rfl))<|lc (Qy 1 (Qb rfl) rfl rfl (Fresh.of rfl) (nlr rfl)) ?_
 iterate 5 refine w_ ?_
 refine lc (Xz ⟨_,_,rfl,(Qa rfl),rfl,rfl⟩ rfl)<|lc (QK 2 [(0,1)] (Vf t.1 mark (fun p h=>(hp p h).1)) QaB ⟨_,_,rfl,(Qb rfl),⟨_,_,rfl,(Qb rfl),rfl⟩⟩ ⟨rfl,trivial⟩ rfl ⟨trivial,trivial⟩ (nlr rfl)) ?_
 iterate 4 refine w_ ?_
 subst hO
 have e1:(!(t.1.any (fun p=>decide (bAt mark p=48))):Bool)=(enb mark t):=by
  rfl
 exact Qi (Qg rfl (Qd rfl)) (by rw[e1] <;> rfl) rfl
theorem Jj (n:Int×(List (List Int×List Int)))(mark:ByteArray)(hnb:∀t∈n.2,U4 mark t.1∧U4 mark t.2)(hnl:n.2.length≤2000000):FC Tryz.prog 224 [(true,[dI n.1, .dat QZ n.2]),(false,[dS mark])] [] 0 (Uz 3 .int (Zl n mark)):=by
 refine QO Tryz.func224 rfl rfl Tryz.ntmps224 fun O_ hO w0_ N0_ X_ h0_ f0_=> ?_
 refine AC.fact (QI (x:= .tmp 0) (i:=0) (Qb rfl) rfl) fun hi1=> ?_
 refine w_ ?_
 refine lc (Qy 0 (Qb rfl) rfl rfl (Fresh.of rfl) (nlr rfl)) ?_
 iterate 3 refine w_ ?_
 refine lc (Qf 1 (e:= .int) QN QL Yu rfl rfl (ae.1 rfl) ⟨rfl,rfl⟩ (by decide) rfl rfl (Fresh.of rfl) (nlr rfl)) ?_
 iterate 6 refine w_ ?_
 refine AL.fact (Qo (x:= .tmp 10) (Qa rfl)) fun hl2=> ?_
 iterate 4 refine w_ ?_
 refine Qu (fun m_ s_=>∃(k:Nat),k≤n.2.length∧m_=n.2.length - k∧s_=⟨[(1,lf (dS mark)),(4,lf (.val (.slice none 0 0))),(5,lR 2),(10,lf (.dat QZ n.2)),(11,lI (n.2.length:Int)),(12,lI (k:Int))],[(2,some (.arr 3 .int (Xs (enb mark) n.2 k)))]⟩) ⟨0,aw _,rfl,rfl⟩ ?_ ?_
 exact wp [(2,1)] ⟨(Qp (by first | rfl | simp)),trivial⟩
 rintro m_ s_ ⟨k,hk3,hm4,rfl⟩
 have hpk:=Qca (enb mark) n.2 k
 iterate 4 refine w_ ?_
 cases hb5:(decide ((k:Int) < (n.2.length:Int)))
 have hb5':=a7 hb5
 iterate 8 refine w_ ?_
 subst hO
 refine Z3 (e:= .int) (xs:=(Xs (enb mark) n.2 k)) (Qg rfl (Qd rfl)) rfl ?_
 rw[show k=n.2.length by omega]; rfl
 have hb5':=a8 hb5
 iterate 6 refine w_ ?_
 obtain ⟨x6,hx7⟩:=gx n.2 k
 refine lc (Qh (Qa rfl) (Qa rfl) Zw Zn rfl (by omega) hx7) ?_
 refine w_ ?_
 refine lc (Qj 3 QS We rfl rfl (Fresh.of rfl) (nlr rfl)) ?_
 refine w_ ?_
 refine lc (Qc (Qa rfl) rfl (Qb rfl) rfl Zn rfl) ?_
 iterate 4 refine w_ ?_
 refine lc (Ql (UW x6 mark (hnb _ (ai hx7)).1) QeR ⟨_,_,rfl,(Qb rfl),⟨_,_,rfl,(Qb rfl),rfl⟩⟩ rfl rfl) ?_
 refine w_ ?_
 cases hb8:(enb mark x6)
 iterate 6 refine w_ ?_
 refine Qm<|QV ⟨k+1,by omega,rfl,rfl⟩ (by omega) ?_
 exact wp [(2,2)] ⟨(Qp (by first | exact Qb4 hx7 ‹_› | exact Qey hx7 ‹_›)),trivial⟩
 iterate 4 refine w_ ?_
 refine lc (Qf 4 (e:= .int) QN QL Yu rfl ⟨_,_,rfl,(Qb rfl),rfl⟩ (ae.1 rfl) ⟨_,_,_,_,rfl,⟨rfl,rfl⟩,⟨rfl,rfl⟩,rfl⟩ (by decide) rfl rfl (Fresh.of rfl) (nlr rfl))<|lc (QH 5 (Qa rfl) rfl (Qa rfl) rfl rfl QN Wd (by first | omega | (simp only[aa,av,ab,ah,aj]; omega) | (simp only[aa,ay,ab,ah,aj]; omega)) rfl (Fresh.of rfl) (nlr rfl)) ?_
 refine w_ ?_
 refine Qm ?_
 iterate 4 refine w_ ?_
 refine Qm<|QV ⟨k+1,by omega,rfl,rfl⟩ (by omega) ?_
 exact wp [(2,5)] ⟨(Qp (by first | exact Qb4 hx7 ‹_› | exact Qey hx7 ‹_›)),trivial⟩
theorem Qhe (n:Int×(List (List Int×List Int)))(mark:ByteArray)(t:Int)(hnb:∀t∈n.2,U4 mark t.1∧U4 mark t.2)(hnl:n.2.length≤2000000):FC Tryz.prog 349 [(true,[dI n.1, .dat QZ n.2]),(false,[dS mark]),(false,[dI t])] [] 0 (Yj (PV.tup [(false,[dS ((Yy n mark t).1)]),(false,[dB ((Yy n mark t).2)])])):=by
 have hml:=Qe5 mark
 refine QO Tryz.func349 rfl rfl Tryz.ntmps349 fun O_ hO w0_ N0_ X_ h0_ f0_=> ?_
 refine AC.fact (QI (x:= .tmp 0) (i:=0) (Qb rfl) rfl) fun hi1=>AC.fact (QC (x:= .tmp 2) (Qa rfl)) fun hi2=> ?_
 refine w_ ?_
 refine lc (Qy 0 (Qb rfl) rfl rfl (Fresh.of rfl) (nlr rfl)) ?_
 iterate 8 refine w_ ?_
 refine AL.fact (Qo (x:= .tmp 15) (Qa rfl)) fun hl3=> ?_
 iterate 2 refine w_ ?_
 refine lc (Ql (YP t 0 ((n.2.length:Int) - 1)) W9 ⟨_,_,rfl,(Qb rfl),⟨_,_,rfl,(Evl.ev (Qv rfl)),⟨_,_,rfl,(Qb rfl),rfl⟩⟩⟩ rfl rfl) ?_
 iterate 2 refine w_ ?_
 cases hb4:(decide (0≤t∧t≤((n.2.length:Int) - 1)))
 have hb4':=a7 hb4
 iterate 16 refine w_ ?_
 subst hO
 have e5:((⟨#[]⟩:ByteArray):ByteArray)=((Yy n mark t).1):=by
  (rw[Qgj (by omega)]; done)
 have e6:(false:Bool)=((Yy n mark t).2):=by
  (rw[Qgj (by omega)]; done)
 exact Qi (QB rfl (Qd rfl) (Qd rfl)) (by rw[e5,← e6] <;> rfl) rfl
 have hb4':=a8 hb4
 iterate 3 refine w_ ?_
 obtain ⟨x,hx8⟩:=gx n.2 ((t).toNat)
 have hx1:=(hnb _ (ai hx8)).1
 have hx2:=(hnb _ (ai hx8)).2
 refine lgy rfl rfl (Qh (Qa rfl) (Qa rfl) Zw Zn rfl (by omega) hx8) ?_
 iterate 2 refine w_ ?_
 refine lgy rfl rfl (Ql (UW x mark hx1) QeR ⟨_,_,rfl,(Qb rfl),⟨_,_,rfl,(Qb rfl),rfl⟩⟩ rfl rfl) ?_
 iterate 3 refine w_ ?_
 cases hb9:(enb mark x)
 iterate 6 refine w_ ?_
 subst hO
 have e10:((⟨#[]⟩:ByteArray):ByteArray)=((Yy n mark t).1):=by
  (rw[Qgh ‹_› ‹_›]; done)
 have e11:(false:Bool)=((Yy n mark t).2):=by
  (rw[Qgh ‹_› ‹_›]; done)
 exact Qi (QB rfl (Qd rfl) (Qd rfl)) (by rw[e10,← e11] <;> rfl) rfl
 iterate 4 refine w_ ?_
 refine lc (Qbn 1 (Qa rfl) ZS Ze JA rfl (Fresh.of rfl) (nlr rfl)) ?_
 iterate 7 refine w_ ?_
 refine lc (Qh (Qa rfl) (Qa rfl) Zw Zn rfl (by omega) hx8) ?_
 iterate 2 refine w_ ?_
 refine AL.fact (Qo (x:= .tmp 37) (Qa rfl)) fun hl12=> ?_
 iterate 4 refine w_ ?_
 refine Qu (fun m_ s_=>∃(k:Nat) (l:List UInt8),k≤x.1.length∧m_=x.1.length - k∧(clr mark.toList x.1=clr l (x.1.drop k))∧(l.length=mark.toList.length)∧s_=⟨[(2,lI t),(3,lP 0 0),(6,lf (dS (⟨#[]⟩:ByteArray))),(7,lB false),(8,lR 2),(37,lf (.dat Qs x.1)),(38,lI (x.1.length:Int)),(39,lI (k:Int))],[(0,some (.box 25 [dI n.1, .dat QZ n.2])),(2,some (.bys 5 l))]⟩) ⟨0,mark.toList,aw _,rfl,rfl,rfl,rfl⟩ ?_ ?_
 exact wo [(0,0),(2,1)]
 rintro m_ s_ ⟨k,l,hk13,hm14,hA,hL,rfl⟩
 iterate 4 refine w_ ?_
 cases hb15:(decide ((k:Int) < (x.1.length:Int)))
 have hb15':=a7 hb15
 iterate 8 refine w_ ?_
 refine lc (Qh (Qa rfl) (Qa rfl) Zw Zn rfl (by omega) hx8) ?_
 iterate 2 refine w_ ?_
 refine AL.fact (Qo (x:= .tmp 52) (Qa rfl)) fun hl16=> ?_
 iterate 4 refine w_ ?_
 refine Qu (fun m_ s_=>∃(i:Nat) (l2:List UInt8),i≤x.2.length∧m_=x.2.length - i∧(K6 (clr mark.toList x.1) x.2=K6 l2 (x.2.drop i))∧(l2.length=mark.toList.length)∧s_=⟨[(8,lR 3),(52,lf (.dat Qs x.2)),(53,lI (x.2.length:Int)),(54,lI (i:Int))],[(3,some (.bys 5 l2))]⟩) ⟨0,l,aw _,rfl,by rw[hA,QlZ (by omega)]; rfl,hL,rfl⟩ ?_ ?_
 exact wo [(3,2)]
 rintro m_ s_ ⟨i,l2,hk17,hm18,hA2,hL2,rfl⟩
 iterate 4 refine w_ ?_
 cases hb19:(decide ((i:Int) < (x.2.length:Int)))
 have hb19':=a7 hb19
 iterate 5 refine w_ ?_
 refine lc (Xp (ys:=l2) (QhL (Qa rfl) rfl) Ze JA ZS rfl) ?_
 iterate 4 refine w_ ?_
 subst hO
 have e20:((⟨(l2).toArray⟩:ByteArray):ByteArray)=((Yy n mark t).1):=by
  (rw[Qbl (x:=x) ‹_› (by omega) ‹_›,KY (hA2.trans (Qa1 (by omega)))]; done)
 have e21:(true:Bool)=((Yy n mark t).2):=by
  (rw[Qbl (x:=x) ‹_› (by omega) ‹_›,KY (hA2.trans (Qa1 (by omega)))]; done)
 exact Qi (QB rfl (Qd rfl) (Qd rfl)) (by rw[e20,← e21] <;> rfl) rfl
 have hb19':=a8 hb19
 iterate 5 refine w_ ?_
 obtain ⟨x22,hx23⟩:=gx x.2 i
 have hrx22:=(hx2 _ (ai hx23)).1
 refine lc (Qh (Qa rfl) (Qa rfl) QN QL rfl (by omega) hx23) ?_
 refine w_ ?_
 refine AL.fact (QC (x:= .tmp 57) (Qa rfl)) fun hi24=> ?_
 iterate 6 refine w_ ?_
 refine lc (Wo (Qa rfl) rfl (Qa rfl) Ze Q2 rfl (by omega) (by first | omega | (simp only[aq]; omega))) ?_
 obtain ⟨x25,hx26⟩:=gx l2 ((x22).toNat)
 refine lc (Qd8 (Qa rfl) rfl hx26 Q2 rfl)<|lc (Z7 (Qa rfl) (ZJ 49 rfl) rfl) ?_
 refine w_ ?_
 cases hb27:(decide (x25=49))
 have hb27':=a7 hb27
 iterate 5 refine w_ ?_
 refine lc (Wo (Qa rfl) rfl (Qa rfl) Ze Q2 rfl (by omega) (by first | omega | (simp only[aq]; omega)))<|lc (UK (Qa rfl) rfl (by first | omega | (simp only[aq]; omega)) (ZJ 49 rfl) Q2)<|Qm ?_
 iterate 4 refine w_ ?_
 refine Qm<|QV ⟨i+1,(l2.set ((x22).toNat) 49),by omega,rfl,hA2.trans (Qgy hx23 hx26 ‹_›),by rw[aq]; exact hL2,rfl⟩ (by omega) ?_
 exact wp [(3,3)] ⟨(QqO (by first | rfl | simp)),trivial⟩
 have hb27':=a8 hb27
 iterate 6 refine w_ ?_
 subst hO
 have e28:((⟨#[]⟩:ByteArray):ByteArray)=((Yy n mark t).1):=by
  (rw[Qbl (x:=x) ‹_› (by omega) ‹_›,Hn (hA2.trans (Qc8 hx23 hx26 ‹_›))]; done)
 have e29:(false:Bool)=((Yy n mark t).2):=by
  (rw[Qbl (x:=x) ‹_› (by omega) ‹_›,Hn (hA2.trans (Qc8 hx23 hx26 ‹_›))]; done)
 exact Qi (QB rfl (Qd rfl) (Qd rfl)) (by rw[e28,← e29] <;> rfl) rfl
 have hb15':=a8 hb15
 iterate 5 refine w_ ?_
 obtain ⟨x30,hx31⟩:=gx x.1 k
 have hrx30:=(hx1 _ (ai hx31)).1
 refine lc (Qh (Qa rfl) (Qa rfl) QN QL rfl (by omega) hx31) ?_
 refine w_ ?_
 refine AL.fact (QC (x:= .tmp 42) (Qa rfl)) fun hi32=> ?_
 iterate 5 refine w_ ?_
 refine lc (Wo (Qa rfl) rfl (Qa rfl) Ze Q2 rfl (by omega) (by first | omega | (simp only[aq]; omega)))<|lc (UK (Qa rfl) rfl (by first | omega | (simp only[aq]; omega)) (ZJ 48 rfl) Q2)<|Qm ?_
 iterate 4 refine w_ ?_
 refine Qm<|QV ⟨k+1,(l.set ((x30).toNat) 48),by omega,rfl,hA.trans (QhH hx31),by rw[aq]; exact hL,rfl⟩ (by omega) ?_
 exact wp [(0,0),(2,2)] ⟨rfl,(QqO (by first | rfl | simp)),trivial⟩
theorem QdP (n:Int×(List (List Int×List Int)))(mark:ByteArray)(t:Int)(hnb:∀t∈n.2,U4 mark t.1∧U4 mark t.2)(ht:0≤t∧t < (n.2.length:Int)):FC Tryz.prog 307 [(true,[dI n.1, .dat QZ n.2]),(false,[dS mark]),(false,[dI t])] [] 0 (Yj (PV.tup [(false,[dS ((Ym n mark t).1)]),(false,[dB ((Ym n mark t).2)])])):=by
 have hml:=Qe5 mark
 refine QO Tryz.func307 rfl rfl Tryz.ntmps307 fun O_ hO w0_ N0_ X_ h0_ f0_=> ?_
 refine AC.fact (QI (x:= .tmp 0) (i:=0) (Qb rfl) rfl) fun hi1=>AC.fact (QC (x:= .tmp 2) (Qa rfl)) fun hi2=> ?_
 refine w_ ?_
 refine lc (Qy 0 (Qb rfl) rfl rfl (Fresh.of rfl) (nlr rfl)) ?_
 iterate 5 refine w_ ?_
 refine lc (Qbn 1 (Qa rfl) ZS Ze JA rfl (Fresh.of rfl) (nlr rfl)) ?_
 iterate 7 refine w_ ?_
 obtain ⟨x,hx4⟩:=gx n.2 ((t).toNat)
 have hx1:=(hnb _ (ai hx4)).1
 have hx2:=(hnb _ (ai hx4)).2
 refine lc (Qh (Qa rfl) (Qa rfl) Zw Zn rfl (by omega) hx4) ?_
 iterate 2 refine w_ ?_
 refine AL.fact (Qo (x:= .tmp 20) (Qa rfl)) fun hl5=> ?_
 iterate 4 refine w_ ?_
 refine Qu (fun m_ s_=>∃(k:Nat) (l:List UInt8),k≤x.1.length∧m_=x.1.length - k∧(clr mark.toList x.1=clr l (x.1.drop k))∧(l.length=mark.toList.length)∧s_=⟨[(2,lI t),(3,lP 0 0),(6,lf (dS (⟨#[]⟩:ByteArray))),(7,lB false),(8,lR 2),(20,lf (.dat Qs x.1)),(21,lI (x.1.length:Int)),(22,lI (k:Int))],[(0,some (.box 25 [dI n.1, .dat QZ n.2])),(2,some (.bys 5 l))]⟩) ⟨0,mark.toList,aw _,rfl,rfl,rfl,rfl⟩ ?_ ?_
 exact wo [(0,0),(2,1)]
 rintro m_ s_ ⟨k,l,hk6,hm7,hA,hL,rfl⟩
 iterate 4 refine w_ ?_
 cases hb8:(decide ((k:Int) < (x.1.length:Int)))
 have hb8':=a7 hb8
 iterate 8 refine w_ ?_
 refine lc (Qh (Qa rfl) (Qa rfl) Zw Zn rfl (by omega) hx4) ?_
 iterate 2 refine w_ ?_
 refine AL.fact (Qo (x:= .tmp 35) (Qa rfl)) fun hl9=> ?_
 iterate 4 refine w_ ?_
 refine Qu (fun m_ s_=>∃(i:Nat) (l2:List UInt8),i≤x.2.length∧m_=x.2.length - i∧(K6 (clr mark.toList x.1) x.2=K6 l2 (x.2.drop i))∧(l2.length=mark.toList.length)∧s_=⟨[(8,lR 3),(35,lf (.dat Qs x.2)),(36,lI (x.2.length:Int)),(37,lI (i:Int))],[(3,some (.bys 5 l2))]⟩) ⟨0,l,aw _,rfl,by rw[hA,QlZ (by omega)]; rfl,hL,rfl⟩ ?_ ?_
 exact wo [(3,2)]
 rintro m_ s_ ⟨i,l2,hk10,hm11,hA2,hL2,rfl⟩
 iterate 4 refine w_ ?_
 cases hb12:(decide ((i:Int) < (x.2.length:Int)))
 have hb12':=a7 hb12
 iterate 5 refine w_ ?_
 refine lc (Xp (ys:=l2) (QhL (Qa rfl) rfl) Ze JA ZS rfl) ?_
 iterate 4 refine w_ ?_
 subst hO
 have e13:((⟨(l2).toArray⟩:ByteArray):ByteArray)=((Ym n mark t).1):=by
  first | (rw[Qbp (x:=x) ‹_›,KY (hA2.trans (Qa1 (by omega)))]; done)
 have e14:(true:Bool)=((Ym n mark t).2):=by
  first | (rw[Qbp (x:=x) ‹_›,KY (hA2.trans (Qa1 (by omega)))]; done)
 exact Qi (QB rfl (Qd rfl) (Qd rfl)) (by rw[e13,← e14] <;> rfl) rfl
 have hb12':=a8 hb12
 iterate 5 refine w_ ?_
 obtain ⟨x15,hx16⟩:=gx x.2 i
 have hrx15:=(hx2 _ (ai hx16)).1
 refine lc (Qh (Qa rfl) (Qa rfl) QN QL rfl (by omega) hx16) ?_
 refine w_ ?_
 refine AL.fact (QC (x:= .tmp 40) (Qa rfl)) fun hi17=> ?_
 iterate 6 refine w_ ?_
 refine lc (Wo (Qa rfl) rfl (Qa rfl) Ze Q2 rfl (by omega) (by first | omega | (simp only[aq]; omega))) ?_
 obtain ⟨x18,hx19⟩:=gx l2 ((x15).toNat)
 refine lc (Qd8 (Qa rfl) rfl hx19 Q2 rfl)<|lc (Z7 (Qa rfl) (ZJ 49 rfl) rfl) ?_
 refine w_ ?_
 cases hb20:(decide (x18=49))
 have hb20':=a7 hb20
 iterate 5 refine w_ ?_
 refine lc (Wo (Qa rfl) rfl (Qa rfl) Ze Q2 rfl (by omega) (by first | omega | (simp only[aq]; omega)))<|lc (UK (Qa rfl) rfl (by first | omega | (simp only[aq]; omega)) (ZJ 49 rfl) Q2)<|Qm ?_
 iterate 4 refine w_ ?_
 refine Qm<|QV ⟨i+1,(l2.set ((x15).toNat) 49),by omega,rfl,hA2.trans (Qgy hx16 hx19 ‹_›),by rw[aq]; exact hL2,rfl⟩ (by omega) ?_
 exact wp [(3,3)] ⟨(QqO (by first | rfl | simp)),trivial⟩
 have hb20':=a8 hb20
 iterate 6 refine w_ ?_
 subst hO
 have e21:((⟨#[]⟩:ByteArray):ByteArray)=((Ym n mark t).1):=by
  (rw[Qbp (x:=x) ‹_›,Hn (hA2.trans (Qc8 hx16 hx19 ‹_›))]; done)
 have e22:(false:Bool)=((Ym n mark t).2):=by
  (rw[Qbp (x:=x) ‹_›,Hn (hA2.trans (Qc8 hx16 hx19 ‹_›))]; done)
 exact Qi (QB rfl (Qd rfl) (Qd rfl)) (by rw[e21,← e22] <;> rfl) rfl
 have hb8':=a8 hb8
 iterate 5 refine w_ ?_
 obtain ⟨x23,hx24⟩:=gx x.1 k
 have hrx23:=(hx1 _ (ai hx24)).1
 refine lc (Qh (Qa rfl) (Qa rfl) QN QL rfl (by omega) hx24) ?_
 refine w_ ?_
 refine AL.fact (QC (x:= .tmp 25) (Qa rfl)) fun hi25=> ?_
 iterate 5 refine w_ ?_
 refine lc (Wo (Qa rfl) rfl (Qa rfl) Ze Q2 rfl (by omega) (by first | omega | (simp only[aq]; omega)))<|lc (UK (Qa rfl) rfl (by first | omega | (simp only[aq]; omega)) (ZJ 48 rfl) Q2)<|Qm ?_
 iterate 4 refine w_ ?_
 refine Qm<|QV ⟨k+1,(l.set ((x23).toNat) 48),by omega,rfl,hA.trans (QhH hx24),by rw[aq]; exact hL,rfl⟩ (by omega) ?_
 exact wp [(0,0),(2,2)] ⟨rfl,(QqO (by first | rfl | simp)),trivial⟩
theorem QcE (n:Int×(List (List Int×List Int)))(mark:ByteArray)(t:Int)(hnb:∀t∈n.2,U4 mark t.1∧U4 mark t.2)(ht:0≤t∧t < (n.2.length:Int)):FC Tryz.prog 309 [(true,[dI n.1, .dat QZ n.2]),(false,[dS mark]),(false,[dI t])] [] 0 (Yj (lB (Qag n mark t))):=by
 refine QO Tryz.func309 rfl rfl Tryz.ntmps309 fun O_ hO w0_ N0_ X_ h0_ f0_=> ?_
 refine AC.fact (QI (x:= .tmp 0) (i:=0) (Qb rfl) rfl) fun hi1=>AC.fact (QC (x:= .tmp 2) (Qa rfl)) fun hi2=> ?_
 refine w_ ?_
 refine lc (Qy 0 (Qb rfl) rfl rfl (Fresh.of rfl) (nlr rfl)) ?_
 iterate 7 refine w_ ?_
 obtain ⟨x,hx4⟩:=gx n.2 ((t).toNat)
 have hx1:=(hnb _ (ai hx4)).1
 refine lc (Qh (Qa rfl) (Qa rfl) Zw Zn rfl (by omega) hx4) ?_
 iterate 2 refine w_ ?_
 refine AL.fact (Qo (x:= .tmp 14) (Qa rfl)) fun hl5=> ?_
 iterate 4 refine w_ ?_
 refine Qu (fun m_ s_=>∃(k:Nat),k≤x.1.length∧m_=x.1.length - k∧(∀j,j < k→∀y,x.1[j]? =some y→bAt mark y=49)∧s_=⟨[(1,lf (dS mark)),(14,lf (.dat Qs x.1)),(15,lI (x.1.length:Int)),(16,lI (k:Int))],[]⟩) ⟨0,aw _,rfl,fun j hj=>absurd hj (bK j),rfl⟩ ?_ ?_
 exact wo []
 rintro m_ s_ ⟨k,hk6,hm7,hA,rfl⟩
 iterate 4 refine w_ ?_
 cases hb8:(decide ((k:Int) < (x.1.length:Int)))
 have hb8':=a7 hb8
 iterate 7 refine w_ ?_
 subst hO
 have e9:(true:Bool)=(Qag n mark t):=by
  first | exact (QmN ‹_› hx1 hA (by omega)).symm
 exact Qi (Qg rfl (Qd rfl)) (by rw[← e9] <;> rfl) rfl
 have hb8':=a8 hb8
 iterate 5 refine w_ ?_
 obtain ⟨x10,hx11⟩:=gx x.1 k
 have hrx10:=(hx1 _ (ai hx11)).1
 refine lc (Qh (Qa rfl) (Qa rfl) QN QL rfl (by omega) hx11) ?_
 refine w_ ?_
 refine AL.fact (QC (x:= .tmp 19) (Qa rfl)) fun hi12=> ?_
 iterate 5 refine w_ ?_
 obtain ⟨c13,hc14⟩:=gs mark ((x10).toNat)
 refine lc (ZY (Qa rfl) (Qa rfl) rfl ZS (by omega) hc14)<|lc (YU (Qa rfl) (ZJ 49 rfl) rfl) ?_
 refine w_ ?_
 cases hb15:(!decide (c13=49))
 have hb15':(c13=49):=Zm hb15
 iterate 6 refine w_ ?_
 refine Qm<|QV ⟨k+1,by omega,rfl,QjE hA hx11 ‹_› ‹_›,rfl⟩ (by omega) ?_
 exact wo []
 have hb15':¬(c13=49):=Zx hb15
 iterate 5 refine w_ ?_
 subst hO
 have e16:(false:Bool)=(Qag n mark t):=by
  exact (QoX ‹_› hx1 hx11 ‹_› ‹_›).symm
 exact Qi (Qg rfl (Qd rfl)) (by rw[← e16] <;> rfl) rfl
theorem UJ (n:Int×(List (List Int×List Int)))(mark:ByteArray)(hnb:∀t∈n.2,U4 mark t.1∧U4 mark t.2)(hnl:n.2.length≤2000000):FC Tryz.prog 231 [(true,[dI n.1, .dat QZ n.2]),(false,[dS mark])] [] 0 (Uz 3 .int (Zl n mark)):=by
 refine QO Tryz.func231 rfl rfl Tryz.ntmps231 fun O_ hO w0_ N0_ X_ h0_ f0_=> ?_
 refine AC.fact (QI (x:= .tmp 0) (i:=0) (Qb rfl) rfl) fun hi1=> ?_
 refine w_ ?_
 refine lc (Qy 0 (Qb rfl) rfl rfl (Fresh.of rfl) (nlr rfl)) ?_
 iterate 9 refine w_ ?_
 refine AL.fact (Qo (x:= .tmp 8) (Qa rfl)) fun hl2=> ?_
 iterate 4 refine w_ ?_
 refine AC.wk (Wk.nilS 1 5 3 .int rfl (Fresh.of rfl) (nlr rfl)) ?_
 refine Qu (fun m_ s_=>∃(k:Nat),k≤n.2.length∧m_=n.2.length - k∧s_=⟨[(1,lf (dS mark)),(2,lP 0 0),(4,lf (.val (.slice none 0 0))),(5,lR 2),(9,lI (n.2.length:Int)),(10,lI (k:Int))],[(0,some (.box 25 [dI n.1, .dat QZ n.2])),(2,some (.arr 3 .int (Xs (enb mark) n.2 k)))]⟩) ⟨0,aw _,rfl,rfl⟩ ?_ ?_
 exact wp [(0,0),(2,1)] ⟨rfl,(Qp (by first | rfl | simp)),trivial⟩
 rintro m_ s_ ⟨k,hk3,hm4,rfl⟩
 have hpk:=Qca (enb mark) n.2 k
 iterate 4 refine w_ ?_
 cases hb5:(decide ((k:Int) < (n.2.length:Int)))
 have hb5':=a7 hb5
 iterate 8 refine w_ ?_
 subst hO
 refine Z3 (e:= .int) (xs:=(Xs (enb mark) n.2 k)) (Qg rfl (Qd rfl)) rfl ?_
 rw[show k=n.2.length by omega]; rfl
 have hb5':=a8 hb5
 iterate 12 refine w_ ?_
 refine lc (Ql (QcE n mark (k:Int) hnb (by omega)) Qjf ⟨_,_,rfl,(Qb rfl),⟨_,_,rfl,(Qb rfl),⟨_,_,rfl,(Qb rfl),rfl⟩⟩⟩ rfl rfl) ?_
 refine w_ ?_
 cases hb6:(Qag n mark (k:Int))
 iterate 6 refine w_ ?_
 refine Qm<|QV ⟨k+1,by omega,rfl,rfl⟩ (by omega) ?_
 exact wp [(0,0),(2,2)] ⟨rfl,(Qp (by first | exact QeX (by omega) ‹_› | exact QfU (by omega) ‹_›)),trivial⟩
 iterate 4 refine w_ ?_
 refine lc (Qf 3 (e:= .int) QN QL Yu rfl ⟨_,_,rfl,(Qb rfl),rfl⟩ (ae.1 rfl) ⟨_,_,_,_,rfl,⟨rfl,rfl⟩,⟨rfl,rfl⟩,rfl⟩ (by decide) rfl rfl (Fresh.of rfl) (nlr rfl))<|lc (QH 4 (Qa rfl) rfl (Qa rfl) rfl rfl QN Wd (by first | omega | (simp only[aa,av,ab,ah,aj]; omega) | (simp only[aa,ay,ab,ah,aj]; omega)) rfl (Fresh.of rfl) (nlr rfl)) ?_
 refine w_ ?_
 refine Qm ?_
 iterate 4 refine w_ ?_
 refine Qm<|QV ⟨k+1,by omega,rfl,rfl⟩ (by omega) ?_
 exact wp [(0,0),(2,4)] ⟨rfl,(Qp (by first | exact QeX (by omega) ‹_› | exact QfU (by omega) ‹_›)),trivial⟩
end Go.Proofs.YtjaadeknhofhpaaGreat
