/- Walks over abstract states: labelled arcs, the values of a signal. -/
import Derived.Test.YtjaadeknhofhpaaGreatWk
set_option linter.unusedSimpArgs false
set_option linter.unusedVariables false
set_option linter.unusedSectionVars false
namespace Go.Proofs.YtjaadeknhofhpaaGreat
open Go.RowKit
set_option maxRecDepth 100000
set_option maxHeartbeats 4000000
abbrev DMv:=Int×Int×Int
abbrev DAr:=Int×Int×Bool×Int
def Qd7 (ls:List ZD)(t:Int):ZD:=(ls[t.toNat]?).getD (0,false)
theorem Qdm {ls:List ZD}{t:Int}{y:ZD}(h:ls[t.toNat]? =some y):Qd7 ls t=y:=by unfold Qd7; rw[h]; rfl
def Qel (ls:List ZD)(m:DMv):DAr:=(m.1,(Qd7 ls m.2.1).1,(Qd7 ls m.2.1).2,m.2.2)
def Q1 (ls:List ZD)(ms:List DMv):List DAr:=ms.map (Qel ls)
def bv (l:List UInt8)(i:Nat):UInt8:=(l[i]?).getD 0
theorem YT {l:List UInt8}{i:Nat}{c:UInt8}(h:l[i]? =some c):bv l i=c:=by unfold bv; rw[h]; rfl
def agr (vs:List UInt8)(i j:Nat):List UInt8×Bool×Bool:=
  if bv vs i=bv vs j then (vs,true,false) else if bv vs i=0 then (vs.set i (bv vs j),true,true) else if bv vs j=0 then (vs.set j (bv vs i),true,true) else (vs,false,false)
def agb (vs:List UInt8)(i:Nat)(c:UInt8):List UInt8×Bool×Bool:=
  if bv vs i=c then (vs,true,false) else if bv vs i=0 then (vs.set i c,true,true) else (vs,false,false)
section
variable {vs vs':List UInt8}{i j k:Nat}{a b c:UInt8}
theorem WN (h1:vs[i]? =some a)(h2:vs[j]? =some b):agr vs i j=if a=b then (vs,true,false) else if a=0 then (vs.set i b,true,true) else if b=0 then (vs.set j a,true,true) else (vs,false,false):=by
  unfold agr; rw[YT h1,YT h2]
theorem VH (h1:vs[i]? =some a):agb vs i c=if a=c then (vs,true,false) else if a=0 then (vs.set i c,true,true) else (vs,false,false):=by
  unfold agb; rw[YT h1]
theorem Qg8 (vs:List UInt8)(i j:Nat):(agr vs i j).1.length=vs.length:=by
  unfold agr; split <;> try rfl
  split <;> try simp
  split <;> simp
theorem Vl (vs:List UInt8)(i:Nat)(c:UInt8):(agb vs i c).1.length=vs.length:=by
  unfold agb; split <;> try rfl
  split <;> simp
def Yx (vs:List UInt8):Nat:=(vs.filter fun c=>c=0).length
theorem QhO (n:Nat):Yx (List.replicate n 0)=n:=by simp[Yx]
theorem Qdy {l:List UInt8}(h:l[i]? =some 0)(hc:c≠0):Yx (l.set i c)+1=Yx l:=by
  induction l generalizing i with
  | nil=>simp at h
  | cons x l ih=>
    cases i with
    | zero=>
      simp only[bh,bd] at h
      subst h
      simp[Yx,hc]
    | succ i=>
      have:=ih (i:=i) (by simpa using h)
      simp only[Yx,co,d8] at this ⊢
      split <;> simp_all
theorem Qqb (h1:i < vs.length)(h2:j < vs.length):Yx (agr vs i j).1≤Yx vs∧((agr vs i j).2.2=true→Yx (agr vs i j).1 < Yx vs)∧((agr vs i j).2.1=true→(agr vs i j).2.2=false→(agr vs i j).1=vs):=by
  have e1:=ap h1
  have e2:=ap h2
  rw[WN e1 e2]
  split
  · simp
  · rename_i h3
    split
    · rename_i h4
      rw[h4] at e1 h3
      have:=Qdy e1 (c:=vs[j]) (fun h=>h3 h.symm)
      simp; omega
    · rename_i h4
      split
      · rename_i h5
        rw[h5] at e2
        have:=Qdy e2 h4
        simp; omega
      · simp
theorem Qlt (h1:i < vs.length)(hc:c≠0):Yx (agb vs i c).1≤Yx vs∧((agb vs i c).2.2=true→Yx (agb vs i c).1 < Yx vs)∧((agb vs i c).2.1=true→(agb vs i c).2.2=false→(agb vs i c).1=vs):=by
  have e1:=ap h1
  rw[VH e1]
  split
  · simp
  · split
    · rename_i h4
      rw[h4] at e1
      have:=Qdy e1 hc
      simp; omega
    · simp
end
def XI (sig:Int)(a:DAr)(vs:List UInt8):Option (List UInt8×Bool):=
  if a.2.1=sig then
    (if (agb vs a.1.toNat (if (!a.2.2.1)=true then 49 else 48)).2.1=true∧(agb (agb vs a.1.toNat (if (!a.2.2.1)=true then 49 else 48)).1 a.2.2.2.toNat (if a.2.2.1=true then 49 else 48)).2.1=true then
      some ((agb (agb vs a.1.toNat (if (!a.2.2.1)=true then 49 else 48)).1 a.2.2.2.toNat (if a.2.2.1=true then 49 else 48)).1,(agb vs a.1.toNat (if (!a.2.2.1)=true then 49 else 48)).2.2||(agb (agb vs a.1.toNat (if (!a.2.2.1)=true then 49 else 48)).1 a.2.2.2.toNat (if a.2.2.1=true then 49 else 48)).2.2)
    else none)
  else if (agr vs a.1.toNat a.2.2.2.toNat).2.1=true then some ((agr vs a.1.toNat a.2.2.2.toNat).1,(agr vs a.1.toNat a.2.2.2.toNat).2.2) else none
def XA (sig:Int):List DAr→List UInt8→Bool→Option (List UInt8×Bool)
  | [],vs,ch=>some (vs,ch)
  | a :: rs,vs,ch=>match XI sig a vs with
    | none=>none
    | some (vs',c)=>XA sig rs vs' (ch||c)
def WZ (sig:Int)(arcs:List DAr):Nat→List UInt8→Option (List UInt8)
  | 0,vs=>some vs
  | f+1,vs=>match XA sig arcs vs false with
    | none=>none
    | some (vs',ch)=>if ch=true then WZ sig arcs f vs' else some vs'
def QcC (sig:Int)(arcs:List DAr)(f:Nat):Option (List UInt8×Bool)→Option (List UInt8)
  | none=>none
  | some (vs',ch)=>if ch=true then WZ sig arcs f vs' else some vs'
def fz (c:UInt8):UInt8:=if c=0 then 48 else c
def YG (n:Nat)(arcs:List DAr)(sig:Int):List UInt8×Bool:=match WZ sig arcs (n+1) (List.replicate n 0) with
  | none=>([],false)
  | some vs=>(vs.map fz,true)
def InR (n:Int)(a:DAr):Prop:=(0≤a.1∧a.1 < n)∧0≤a.2.2.2∧a.2.2.2 < n
section
variable {sig n:Int}{a:DAr}{vs vs':List UInt8}{arcs rs:List DAr}{ch ch' c:Bool}{f k:Nat}
theorem Xy (hl:a.2.1=sig)(h1:(agb vs a.1.toNat (if (!a.2.2.1)=true then 49 else 48)).2.1=true)(h2:(agb (agb vs a.1.toNat (if (!a.2.2.1)=true then 49 else 48)).1 a.2.2.2.toNat (if a.2.2.1=true then 49 else 48)).2.1=true):
    XI sig a vs=some ((agb (agb vs a.1.toNat (if (!a.2.2.1)=true then 49 else 48)).1 a.2.2.2.toNat (if a.2.2.1=true then 49 else 48)).1,(agb vs a.1.toNat (if (!a.2.2.1)=true then 49 else 48)).2.2||(agb (agb vs a.1.toNat (if (!a.2.2.1)=true then 49 else 48)).1 a.2.2.2.toNat (if a.2.2.1=true then 49 else 48)).2.2):=by
  unfold XI; rw[if_pos hl,if_pos ⟨h1,h2⟩]
theorem Vd (hl:a.2.1=sig)(h1:(agb vs a.1.toNat (if (!a.2.2.1)=true then 49 else 48)).2.1=false):XI sig a vs=none:=by
  unfold XI; rw[if_pos hl,if_neg (fun h=>by rw[h1] at h; cases h.1)]
theorem Vj (hl:a.2.1=sig)(h2:(agb (agb vs a.1.toNat (if (!a.2.2.1)=true then 49 else 48)).1 a.2.2.2.toNat (if a.2.2.1=true then 49 else 48)).2.1=false):XI sig a vs=none:=by
  unfold XI; rw[if_pos hl,if_neg (fun h=>by rw[h2] at h; cases h.2)]
theorem Wc (hl:¬a.2.1=sig)(h1:(agr vs a.1.toNat a.2.2.2.toNat).2.1=true):XI sig a vs=some ((agr vs a.1.toNat a.2.2.2.toNat).1,(agr vs a.1.toNat a.2.2.2.toNat).2.2):=by
  unfold XI; rw[if_neg hl,if_pos h1]
theorem V2 (hl:¬a.2.1=sig)(h1:(agr vs a.1.toNat a.2.2.2.toNat).2.1=false):XI sig a vs=none:=by
  unfold XI; rw[if_neg hl,if_neg (by rw[h1]; decide)]
theorem Qhu (b:Bool):(if b=true then (49:UInt8) else 48)≠0:=by split <;> decide
theorem QcP {x:Bool}(h:ch=true):true=(ch||x):=by rw[h]; rfl
theorem Qfk {m1 m2:Bool}(h:ch=false)(h2:m1=true):true=(ch||(m1||m2)):=by rw[h,h2]; rfl
theorem Qfi {m1 m2:Bool}(h:ch=false)(h2:m1=false):m2=(ch||(m1||m2)):=by rw[h,h2]; rfl
theorem QcM {m:Bool}(h:ch=false):m=(ch||m):=by rw[h]; rfl
theorem QlR (b:Bool):decide ((if b=true then (49:UInt8) else 48)=0)=false:=by cases b <;> rfl
theorem XN (hr:InR vs.length a)(h:XI sig a vs=some (vs',c)):vs'.length=vs.length∧Yx vs'≤Yx vs∧(c=true→Yx vs' < Yx vs)∧(c=false→vs'=vs):=by
  obtain ⟨⟨r1,r2⟩,r3,r4⟩:=hr
  unfold XI at h
  have hf0:=Qhu (!a.2.2.1)
  have ht0:=Qhu a.2.2.1
  generalize (if (!a.2.2.1)=true then (49:UInt8) else 48)=f0 at h hf0
  generalize (if a.2.2.1=true then (49:UInt8) else 48)=t0 at h ht0
  have k1:=Qlt (vs:=vs) (i:=a.1.toNat) (c:=f0) (by omega) hf0
  have k2:=Qlt (vs:=(agb vs a.1.toNat f0).1) (i:=a.2.2.2.toNat) (c:=t0) (by rw[Vl]; omega) ht0
  have k3:=Qqb (vs:=vs) (i:=a.1.toNat) (j:=a.2.2.2.toNat) (by omega) (by omega)
  have l1:=Vl vs a.1.toNat f0
  have l2:=Vl (agb vs a.1.toNat f0).1 a.2.2.2.toNat t0
  have l3:=Qg8 vs a.1.toNat a.2.2.2.toNat
  generalize agb (agb vs a.1.toNat f0).1 a.2.2.2.toNat t0=g2 at h k2 l2
  generalize agb vs a.1.toNat f0=g1 at h k1 k2 l1 l2
  generalize agr vs a.1.toNat a.2.2.2.toNat=g3 at h k3 l3
  split at h
  · split at h
    · rename_i h1
      simp only[bd,Prod.mk.injEq] at h
      obtain ⟨rfl,rfl⟩:=h
      refine ⟨l2.trans l1,b5 k2.1 k1.1,fun hc=> ?_,fun hc=> ?_⟩
      · rcases Bool.or_eq_true_iff.1 hc with h | h
        · exact Nat.lt_of_le_of_lt k2.1 (k1.2.1 h)
        · exact bq (k2.2.1 h) k1.1
      · obtain ⟨e1, e2⟩ := Bool.or_eq_false_iff.1 hc
        rw[k2.2.2 h1.2 e2,k1.2.2 h1.1 e1]
    · cases h
  · split at h
    · rename_i h1
      simp only[bd,Prod.mk.injEq] at h
      obtain ⟨rfl,rfl⟩:=h
      exact ⟨l3,k3.1,k3.2.1,k3.2.2 h1⟩
    · cases h
theorem Jy (hx:arcs[k]? =some a)(h:XI sig a vs=some (vs',c))(hc:ch'=(ch||c)):XA sig (arcs.drop k) vs ch=XA sig (arcs.drop (k+1)) vs' ch':=by
  rw[YC hx,XA,h,hc]
theorem V6 (hx:arcs[k]? =some a)(h:XI sig a vs=none):XA sig (arcs.drop k) vs ch=none:=by
  rw[YC hx,XA,h]
theorem Qmn (hk:arcs.length≤k):XA sig (arcs.drop k) vs ch=some (vs,ch):=by rw[bk hk,XA]
theorem Qap {m:Nat}(hr:∀a∈rs,InR m a)(hl:vs.length=m)(h:XA sig rs vs ch=some (vs',ch')):vs'.length=m∧Yx vs'≤Yx vs∧(ch'=true→ch=true∨Yx vs' < Yx vs)∧(ch'=false→vs'=vs∧ch=false):=by
  induction rs generalizing vs ch with
  | nil=>rw[XA] at h; cases h; exact ⟨hl,aL _,fun h=> .inl h,fun h=>⟨rfl,h⟩⟩
  | cons a rs ih=>
    rw[XA] at h
    cases hs:XI sig a vs with
    | none=>rw[hs] at h; cases h
    | some r=>
      obtain ⟨v1,c1⟩:=r
      rw[hs] at h
      obtain ⟨h1,h2,h3,h4⟩:=XN (by rw[hl]; exact hr a (aA ..)) hs
      obtain ⟨k1,k2,k3,k4⟩:=ih (fun b hb=>hr b (aD _ hb)) (h1.trans hl) h
      refine ⟨k1,b5 k2 h2,fun e=> ?_,fun e=> ?_⟩
      · rcases k3 e with h | h
        · rcases Bool.or_eq_true_iff.1 h with h | h
          · exact .inl h
          · exact .inr (Nat.lt_of_le_of_lt k2 (h3 h))
        · exact .inr (bq h h2)
      · obtain ⟨e1, e2⟩ := k4 e
        obtain ⟨e3,e4⟩:=Bool.or_eq_false_iff.1 e2
        exact ⟨e1.trans (h4 e4),e3⟩
theorem Qp4 (f:Nat)(vs:List UInt8):WZ sig arcs (f+1) vs=QcC sig arcs f (XA sig arcs vs false):=by
  rw[WZ]; cases XA sig arcs vs false <;> rfl
theorem QmR {m:Nat}(hr:∀a∈arcs,InR m a):∀{f g:Nat} {vs:List UInt8},vs.length=m→Yx vs < f→Yx vs < g→WZ sig arcs f vs=WZ sig arcs g vs:=fun {f}=>by
  induction f with
  | zero=>intro g vs hl h; omega
  | succ f ih=>
    intro g vs hl h1 h2
    cases g with
    | zero=>omega
    | succ g=>
      rw[WZ,WZ]
      cases hp:XA sig arcs vs false with
      | none=>rfl
      | some r=>
        obtain ⟨v1,c1⟩:=r
        obtain ⟨k1,k2,k3,k4⟩:=Qap hr hl hp
        cases c1 with
        | false=>rfl
        | true=>
          rcases k3 rfl with h | h
          · cases h
          · show WZ sig arcs f v1 = WZ sig arcs g v1
            exact ih k1 (by omega) (by omega)
theorem QkO {m:Nat}(hr:∀a∈arcs,InR m a)(hl:vs'.length=m)(hc:Yx vs'≤Yx vs∧(ch=true→Yx vs' < Yx vs)):QcC sig arcs (Yx vs) (some (vs',ch))=if ch=true then WZ sig arcs (Yx vs'+1) vs' else some vs':=by
  show (if ch=true then _ else _)=_
  cases ch with
  | false=>rfl
  | true=>exact QmR hr hl (hc.2 rfl) (Nat.lt_succ_self _)
theorem Qo2 {m c1 c2:Nat}(hm:m=if ch=true then c1+1 else 0)(hb:ch=true)(hC:c2≤c1∧(ch'=true→c2 < c1)):(if ch'=true then c2+1 else 0) < m:=by
  rw[hm,if_pos hb]
  cases ch' with
  | false=>simp
  | true=>have:=hC.2 rfl; simp; omega
theorem JW {c0:Nat}(hC:Yx vs≤c0∧(ch=true→Yx vs < c0))(h:vs'.length=vs.length∧Yx vs'≤Yx vs∧(c=true→Yx vs' < Yx vs)∧(c=false→vs'=vs))(hc:ch'=(ch||c)):Yx vs'≤c0∧(ch'=true→Yx vs' < c0):=by
  obtain ⟨h1,h2,h3,_⟩:=h
  refine ⟨b5 h2 hC.1,fun e=> ?_⟩
  rw[hc] at e
  rcases Bool.or_eq_true_iff.1 e with h | h
  · exact Nat.lt_of_le_of_lt h2 (hC.2 h)
  · exact bq (h3 h) hC.1
theorem Wb {n:Nat}(h:WZ sig arcs (n+1) (List.replicate n 0)=none):YG n arcs sig=([],false):=by unfold YG; rw[h]
theorem QbR {n:Nat}(h:WZ sig arcs (n+1) (List.replicate n 0)=some vs):YG n arcs sig=(vs.map fz,true):=by unfold YG; rw[h]
def Wr (vs:List UInt8)(k:Nat):List UInt8:=(vs.take k).map fz++vs.drop k
theorem Qf3 (vs:List UInt8)(k:Nat):(Wr vs k).length=vs.length:=by simp[Wr]; omega
theorem QqN (vs:List UInt8):Wr vs 0=vs:=by simp[Wr]
theorem QmO (h:vs.length≤k):Wr vs k=vs.map fz:=by simp[Wr,aH h,bk h]
theorem Qpp {x:UInt8}(h:(Wr vs k)[k]? =some x):vs[k]? =some x:=by
  have hk:k < vs.length:=by have:=(au.1 h).1; rwa [Qf3] at this
  unfold Wr at h
  rw[bu (by simp; omega)] at h
  simp only[av,ab,cc (Nat.le_of_lt hk),Nat.sub_self] at h
  rw[cg] at h
  simpa using h
theorem Qfd {x:UInt8}(h:(Wr vs k)[k]? =some x):Wr vs (k+1)=(Wr vs k).set k (fz x):=by
  have h2:=Qpp h
  have hk:=(au.1 h2).1
  unfold Wr
  rw[List.set_append_right _ _ (by simp; omega)]
  simp only[av,ab,cc (Nat.le_of_lt hk),Nat.sub_self]
  rw[YC h2,Q0 h2]
  simp
theorem QgB {x:UInt8}(h:(Wr vs k)[k]? =some x)(h0:decide (x=0)=true):(Wr vs k).set k 48=Wr vs (k+1):=by
  rw[Qfd h,show fz x=48 by simp[fz,a8 h0]]
theorem QeP {x:UInt8}(h:(Wr vs k)[k]? =some x)(h0:decide (x=0)=false):Wr vs k=Wr vs (k+1):=by
  rw[Qfd h,show fz x=x by simp[fz,a7 h0]]
  apply bp
  intro i
  by_cases e:k=i
  · subst e; rw[aU (au.1 h).1]; exact h
  · rw[aX e]
end
theorem XD (s:List (ByteArray×Int))(hl:s.length≤1000000):FC Tryz.prog 216 [(false,[.dat QJ s])] [] 0 (Uz 90 QY s):=by
 refine QO Tryz.func216 rfl rfl Tryz.ntmps216 fun O_ hO w0_ N0_ X_ h0_ f0_=> ?_
 iterate 6 refine w_ ?_
 refine QoN (Qa rfl) Evl.val YE rfl fun b1 hnil=> ?_
 refine w_ ?_
 cases hb2:(b1)
 iterate 3 refine w_ ?_
 refine lc (Qf 0 (e:=QY) YE YJ UZ rfl rfl (ae.1 rfl) ⟨rfl,rfl⟩ (by decide) rfl rfl (Fresh.of rfl) (nlr rfl)) ?_
 refine w_ ?_
 refine lc (Zp 1 (Qa rfl) rfl (Evl.rep (Qa rfl)) rfl YE QaO (by first | omega | (simp only[aa,av,ab,ah,aj]; omega) | (simp only[aa,ay,ab,ah,aj]; omega)) rfl (Fresh.of rfl) (nlr rfl)) ?_
 iterate 3 refine w_ ?_
 subst hO
 refine Z3 (e:=QY) (xs:=(([])++s)) (Qg rfl (Qd rfl)) rfl ?_
 rfl
 iterate 4 refine w_ ?_
 refine AC.wk (Wk.nilS 2 2 90 QY rfl (Fresh.of rfl) (nlr rfl))<|Q4 ?_
 subst hO
 refine Z3 (e:=QY) (xs:=([])) (Qg rfl (Qd rfl)) rfl ?_
 exact (hnil ‹_›).symm
theorem JB (s:(Int×(List (List Int×List Int)))×(List (ByteArray×Int))×(List (Int×Bool))×ByteArray)(r:List ByteArray×(List (Int×Int×Int)))(hm:∀m∈r.2,0≤m.2.1∧m.2.1 < (s.2.2.1.length:Int))(hl:r.2.length≤1000000):FC Tryz.prog 217 [(true,[dI s.1.1, .dat QZ s.1.2, .dat QJ s.2.1, .dat QR s.2.2.1,dS s.2.2.2]),(true,[.dat Zr r.1, .dat Xu r.2])] [] 0 (Uz 106 UC (Q1 s.2.2.1 r.2)):=by
 refine QO Tryz.func217 rfl rfl Tryz.ntmps217 fun O_ hO w0_ N0_ X_ h0_ f0_=> ?_
 refine AC.fact (QI (x:= .tmp 0) (i:=0) (Qb rfl) rfl) fun hi1=> ?_
 refine w_ ?_
 refine lc (Qy 0 (Qb rfl) rfl rfl (Fresh.of rfl) (nlr rfl))<|lc (Qy 1 (Qb rfl) rfl rfl (Fresh.of rfl) (nlr rfl)) ?_
 iterate 3 refine w_ ?_
 refine lc (Qf 2 (e:=UC) JG VU K0 rfl rfl (ae.1 rfl) ⟨rfl,rfl⟩ (by decide) rfl rfl (Fresh.of rfl) (nlr rfl)) ?_
 iterate 6 refine w_ ?_
 refine AL.fact (Qo (x:= .tmp 11) (Qa rfl)) fun hl2=> ?_
 iterate 4 refine w_ ?_
 refine Qu (fun m_ s_=>∃(k:Nat),k≤r.2.length∧m_=r.2.length - k∧s_=⟨[(2,lP 0 0),(4,lf (.val (.slice none 0 0))),(5,lR 3),(11,lf (.dat Xu r.2)),(12,lI (r.2.length:Int)),(13,lI (k:Int))],[(0,some (.box 29 [dI s.1.1, .dat QZ s.1.2, .dat QJ s.2.1, .dat QR s.2.2.1,dS s.2.2.2])),(3,some (.arr 106 UC ((r.2.take k).map (Qel s.2.2.1))))]⟩) ⟨0,aw _,rfl,rfl⟩ ?_ ?_
 exact wp [(0,0),(3,2)] ⟨rfl,(Qp (by first | rfl | simp)),trivial⟩
 rintro m_ s_ ⟨k,hk3,hm4,rfl⟩
 iterate 4 refine w_ ?_
 cases hb5:(decide ((k:Int) < (r.2.length:Int)))
 have hb5':=a7 hb5
 iterate 8 refine w_ ?_
 subst hO
 refine Z3 (e:=UC) (xs:=((r.2.take k).map (Qel s.2.2.1))) (Qg rfl (Qd rfl)) rfl ?_
 rw[ZF (by omega)]; rfl
 have hb5':=a8 hb5
 iterate 5 refine w_ ?_
 obtain ⟨mv,hx7⟩:=gx r.2 k
 have hrm:=hm _ (ai hx7)
 refine lc (Qh (Qa rfl) (Qa rfl) Ys Yc rfl (by omega) hx7) ?_
 refine w_ ?_
 refine lc (Qj 4 ZZ Xm rfl rfl (Fresh.of rfl) (nlr rfl))<|lc (Qc (Qa rfl) rfl (Qb rfl) rfl Yc rfl) ?_
 iterate 6 refine w_ ?_
 refine AL.fact (QC (x:= .tmp 20) (Qa rfl)) fun hi8=> ?_
 obtain ⟨x9,hx10⟩:=gx s.2.2.1 ((mv.2.1).toNat)
 have hla:=Qdm hx10
 refine lc (Qh (Qa rfl) (Qa rfl) Yq ZO rfl (by omega) hx10) ?_
 refine w_ ?_
 refine lc (Qj 5 Q5 WF rfl rfl (Fresh.of rfl) (nlr rfl))<|lc (Qc (Qa rfl) rfl (Qb rfl) rfl ZO rfl) ?_
 iterate 5 refine w_ ?_
 refine AL.fact (QC (x:= .tmp 25) (Qa rfl)) fun hi11=> ?_
 iterate 2 refine w_ ?_
 refine AL.fact (QC (x:= .tmp 27) (Qa rfl)) fun hi12=> ?_
 iterate 4 refine w_ ?_
 refine AL.fact (QC (x:= .tmp 31) (Qa rfl)) fun hi13=>lc (QA Ql5 ⟨_,_,rfl,(Qb rfl),⟨_,_,rfl,(Qb rfl),⟨_,_,rfl,(Qb rfl),⟨_,_,rfl,(Qb rfl),rfl⟩⟩⟩⟩ (ae.1 rfl) rfl rfl)<|lc (Qf 6 (e:=UC) JG VU K0 rfl ⟨_,_,rfl,(Qb rfl),rfl⟩ (ae.1 rfl) ⟨_,_,_,_,rfl,⟨[dI mv.1],[dI x9.1,dB x9.2,dI mv.2.2],_,_,_,_,rfl,rfl,⟨rfl,rfl⟩,⟨[dI x9.1],[dB x9.2,dI mv.2.2],_,_,_,_,rfl,rfl,⟨rfl,rfl⟩,⟨[dB x9.2],[dI mv.2.2],_,_,_,_,rfl,rfl,⟨rfl,rfl⟩,⟨rfl,rfl⟩,rfl⟩,rfl⟩,rfl⟩,⟨rfl,rfl⟩,rfl⟩ (by decide) rfl rfl (Fresh.of rfl) (nlr rfl))<|lc (QH 7 (Qa rfl) rfl (Qa rfl) rfl rfl JG Qlr (by first | omega | (simp only[aa,av,ab,ah,aj]; omega) | (simp only[aa,ay,ab,ah,aj]; omega)) rfl (Fresh.of rfl) (nlr rfl)) ?_
 refine w_ ?_
 refine Qm ?_
 iterate 4 refine w_ ?_
 refine Qm<|QV ⟨k+1,by omega,rfl,rfl⟩ (by omega) ?_
 exact wp [(0,0),(3,7)] ⟨rfl,(Qp (by rw[Q0 hx7]; simp[Qel,hla])),trivial⟩
theorem QeZ (vs:List UInt8)(i:Nat)(j:Nat)(hi:i < vs.length)(hj:j < vs.length):FC Tryz.prog 292 [(false,[.ept 0 1 i 0]),(false,[.ept 0 1 j 0])] [(0,some (.arr 5 .u8 vs))] 1 (Is (PV.tup [(false,[dB ((agr vs i j).2.1)]),(false,[dB ((agr vs i j).2.2)])]) [(0,some (.arr 5 .u8 ((agr vs i j).1)))]):=by
 refine QO Tryz.func292 rfl rfl Tryz.ntmps292 fun O_ hO w0_ N0_ X_ h0_ f0_=> ?_
 iterate 6 refine w_ ?_
 obtain ⟨ca,hx2⟩:=gx vs i
 obtain ⟨cb,hx4⟩:=gx vs j
 refine dw [io 7 (lf (.ept 0 1 i 0)),io 8 (lf (.ept 0 1 i 0)),io 9 (lf (.dat .u8 ca)),io 10 (lf (.ept 0 1 j 0)),io 11 (lf (.ept 0 1 j 0)),io 12 (lf (.dat .u8 cb)),io 13 (lB (decide (ca=cb))),io 6 (lB (decide (ca=cb)))] [0,1,3,0,8,24,63,127] mixed rfl (by kernel_rfl) ⟨dxm rfl rfl,fun _ h_=>ac (Wu (h_.v rfl) (by rw[(h_.en 0 rfl)]; rfl) rfl) rfl,fun _ h_=>ac (QP (e:= .u8) (h_.v rfl) (h_.n 0 rfl) hx2 rfl Q2 rfl rfl) rfl,dxm rfl rfl,fun _ h_=>ac (Wu (h_.v rfl) (by rw[(h_.en 0 rfl)]; rfl) rfl) rfl,fun _ h_=>ac (QP (e:= .u8) (h_.v rfl) (h_.n 0 rfl) hx4 rfl Q2 rfl rfl) rfl,fun _ h_=>ac (Z7 (h_.v rfl) (h_.v rfl) rfl) rfl,dxt rfl rfl,⟨⟩⟩ ?_
 cases hb5:(decide (ca=cb))
 have hb5':=a7 hb5
 iterate 4 refine w_ ?_
 refine lc (QP (e:= .u8) (Qa rfl) rfl hx2 rfl Q2 rfl rfl)<|lc (Z7 (Qa rfl) (ZJ 0 rfl) rfl) ?_
 iterate 2 refine w_ ?_
 cases hb6:(decide (ca=0))
 have hb6':=a7 hb6
 iterate 4 refine w_ ?_
 refine lc (QP (e:= .u8) (Qa rfl) rfl hx4 rfl Q2 rfl rfl)<|lc (Z7 (Qa rfl) (ZJ 0 rfl) rfl) ?_
 iterate 2 refine w_ ?_
 cases hb7:(decide (cb=0))
 have hb7':=a7 hb7
 iterate 8 refine w_ ?_
 subst hO
 have e8:(false:Bool)=((agr vs i j).2.1):=by
  (rw[WN ‹_› ‹_›]; simp[*]; done)
 have e9:(false:Bool)=((agr vs i j).2.2):=by
  (rw[WN ‹_› ‹_›]; simp[*]; done)
 exact QD _ _ [(0,0)] (QB rfl (Qd rfl) (Qd rfl)) (by rw[← e8,← e9] <;> rfl) ⟨(Qp (by (rw[WN ‹_› ‹_›]; simp[*]; done))),trivial⟩ rfl rfl
 have hb7':=a8 hb7
 iterate 5 refine w_ ?_
 refine lc (QP (e:= .u8) (Qa rfl) rfl hx2 rfl Q2 rfl rfl) ?_
 refine w_ ?_
 refine lc (Q6 (e:= .u8) (z':=ca) (Qa rfl) rfl hx4 rfl (Qb rfl) rfl Q2 rfl rfl) ?_
 iterate 6 refine w_ ?_
 subst hO
 have e10:(true:Bool)=((agr vs i j).2.1):=by
  (rw[WN ‹_› ‹_›]; simp[*]; done)
 have e11:(true:Bool)=((agr vs i j).2.2):=by
  (rw[WN ‹_› ‹_›]; simp[*]; done)
 exact QD _ _ [(0,0)] (QB rfl (Qd rfl) (Qd rfl)) (by rw[← e10,← e11] <;> rfl) ⟨(Qp (by (rw[WN ‹_› ‹_›]; simp[*]; done))),trivial⟩ rfl rfl
 have hb6':=a8 hb6
 iterate 5 refine w_ ?_
 refine lc (QP (e:= .u8) (Qa rfl) rfl hx4 rfl Q2 rfl rfl) ?_
 refine w_ ?_
 refine lc (Q6 (e:= .u8) (z':=cb) (Qa rfl) rfl hx2 rfl (Qb rfl) rfl Q2 rfl rfl) ?_
 iterate 6 refine w_ ?_
 subst hO
 have e12:(true:Bool)=((agr vs i j).2.1):=by
  (rw[WN ‹_› ‹_›]; simp_all; done)
 have e13:(true:Bool)=((agr vs i j).2.2):=by
  (rw[WN ‹_› ‹_›]; simp_all; done)
 exact QD _ _ [(0,0)] (QB rfl (Qd rfl) (Qd rfl)) (by rw[← e12,← e13] <;> rfl) ⟨(Qp (by (rw[WN ‹_› ‹_›]; simp_all; done))),trivial⟩ rfl rfl
 have hb5':=a8 hb5
 iterate 6 refine w_ ?_
 subst hO
 have e14:(true:Bool)=((agr vs i j).2.1):=by
  (rw[WN ‹_› ‹_›]; simp[*]; done)
 have e15:(false:Bool)=((agr vs i j).2.2):=by
  (rw[WN ‹_› ‹_›]; simp[*]; done)
 exact QD _ _ [(0,0)] (QB rfl (Qd rfl) (Qd rfl)) (by rw[← e14,← e15] <;> rfl) ⟨(Qp (by (rw[WN ‹_› ‹_›]; simp[*]; done))),trivial⟩ rfl rfl
theorem UT (c:UInt8)(vs:List UInt8)(i:Nat)(hi:i < vs.length)(hc:decide (c=0)=false):FC Tryz.prog 292 [(false,[.ept 1 1 i 0]),(false,[.ptr 0 0])] [(0,some (.box 5 [.dat .u8 c])),(1,some (.arr 5 .u8 vs))] 2 (Is (PV.tup [(false,[dB ((agb vs i c).2.1)]),(false,[dB ((agb vs i c).2.2)])]) [(0,some (.box 5 [.dat .u8 c])),(1,some (.arr 5 .u8 ((agb vs i c).1)))]):=by
 refine QO Tryz.func292 rfl rfl Tryz.ntmps292 fun O_ hO w0_ N0_ X_ h0_ f0_=> ?_
 iterate 6 refine w_ ?_
 obtain ⟨ca,hx2⟩:=gx vs i
 refine dw [io 7 (lf (.ept 1 1 i 0)),io 8 (lf (.ept 1 1 i 0)),io 9 (lf (.dat .u8 ca)),io 10 (lP 0 0),io 11 (lP 0 0),io 12 (lf (.dat .u8 c)),io 13 (lB (decide (ca=c))),io 6 (lB (decide (ca=c)))] [0,1,3,0,8,24,63,127] mixed rfl (by kernel_rfl) ⟨dxm rfl rfl,fun _ h_=>ac (Wu (h_.v rfl) (by rw[(h_.en 1 rfl)]; rfl) rfl) rfl,fun _ h_=>ac (QP (e:= .u8) (h_.v rfl) (h_.n 1 rfl) hx2 rfl Q2 rfl rfl) rfl,dxm rfl rfl,dxn rfl rfl rfl,dxl Q2 rfl rfl rfl rfl rfl,fun _ h_=>ac (Z7 (h_.v rfl) (h_.v rfl) rfl) rfl,dxt rfl rfl,⟨⟩⟩ ?_
 cases hb3:(decide (ca=c))
 have hb3':=a7 hb3
 iterate 4 refine w_ ?_
 refine lc (QP (e:= .u8) (Qa rfl) rfl hx2 rfl Q2 rfl rfl)<|lc (Z7 (Qa rfl) (ZJ 0 rfl) rfl) ?_
 iterate 2 refine w_ ?_
 cases hb4:(decide (ca=0))
 have hb4':=a7 hb4
 iterate 5 refine w_ ?_
 refine lc (Z7 (Qa rfl) (ZJ 0 rfl) rfl) ?_
 iterate 2 refine w_ ?_
 cases hb5:(decide (c=0))
 have hb5':=a7 hb5
 iterate 8 refine w_ ?_
 subst hO
 have e6:(false:Bool)=((agb vs i c).2.1):=by
  (rw[VH ‹_›]; simp[*]; done)
 have e7:(false:Bool)=((agb vs i c).2.2):=by
  (rw[VH ‹_›]; simp[*]; done)
 exact QD _ _ [(0,0),(1,1)] (QB rfl (Qd rfl) (Qd rfl)) (by rw[← e6,← e7] <;> rfl) ⟨rfl,(Qp (by (rw[VH ‹_›]; simp[*]; done))),trivial⟩ rfl rfl
 exact absurd (hb5.symm.trans (show (decide (c=0))=false from hc)) (by decide)
 have hb4':=a8 hb4
 iterate 7 refine w_ ?_
 refine lc (Q6 (e:= .u8) (z':=c) (Qa rfl) rfl hx2 rfl (Qb rfl) rfl Q2 rfl rfl) ?_
 iterate 6 refine w_ ?_
 subst hO
 have e8:(true:Bool)=((agb vs i c).2.1):=by
  (rw[VH ‹_›]; simp_all; done)
 have e9:(true:Bool)=((agb vs i c).2.2):=by
  (rw[VH ‹_›]; simp_all; done)
 exact QD _ _ [(0,0),(1,1)] (QB rfl (Qd rfl) (Qd rfl)) (by rw[← e8,← e9] <;> rfl) ⟨rfl,(Qp (by (rw[VH ‹_›]; simp_all; done))),trivial⟩ rfl rfl
 have hb3':=a8 hb3
 iterate 6 refine w_ ?_
 subst hO
 have e10:(true:Bool)=((agb vs i c).2.1):=by
  (rw[VH ‹_›]; simp[*]; done)
 have e11:(false:Bool)=((agb vs i c).2.2):=by
  (rw[VH ‹_›]; simp[*]; done)
 exact QD _ _ [(0,0),(1,1)] (QB rfl (Qd rfl) (Qd rfl)) (by rw[← e10,← e11] <;> rfl) ⟨rfl,(Qp (by (rw[VH ‹_›]; simp[*]; done))),trivial⟩ rfl rfl
theorem QbZ (n:Int)(arcs:List (Int×Int×Bool×Int))(sig:Int)(hn:0≤n∧n≤1000000)(ha:∀a∈arcs,InR n.toNat a):FC Tryz.prog 218 [(false,[dI n]),(false,[.dat VR arcs]),(false,[dI sig])] [] 0 (Is (PV.tup [(false,[.ref 0]),(false,[dB ((YG n.toNat arcs sig).2)])]) [(0,some (.arr 5 .u8 ((YG n.toNat arcs sig).1)))]):=by
 refine QO Tryz.func218 rfl rfl Tryz.ntmps218 fun O_ hO w0_ N0_ X_ h0_ f0_=> ?_
 refine AC.fact (QC (x:= .tmp 0) (Qa rfl)) fun hi1=>AC.fact (QC (x:= .tmp 2) (Qa rfl)) fun hi2=> ?_
 iterate 6 refine w_ ?_
 refine lc (Qi8 0 (e:= .u8) (n:=n) (Qa rfl) (Qa rfl) Ze Qq5 rfl (by omega) (by omega) (by omega) rfl (Fresh.of rfl) (nlr rfl)) ?_
 iterate 7 refine w_ ?_
 refine Qu (fun m_ s_=>∃(vs:List UInt8) (ch:Bool),m_=(if ch=true then Yx vs+1 else 0)∧(WZ sig arcs (n.toNat+1) (List.replicate n.toNat 0)=(if ch=true then WZ sig arcs (Yx vs+1) vs else some vs))∧(vs.length=n.toNat)∧s_=⟨[(1,lf (.dat VR arcs)),(2,lI sig),(8,lR 1),(9,lB ch)],[(1,some (.arr 5 .u8 vs))]⟩) ⟨List.replicate (n).toNat (Ty.zero .u8),true,rfl,(by rw[if_pos rfl]; show _=WZ sig arcs (Yx (List.replicate n.toNat 0)+1) (List.replicate n.toNat 0); rw[QhO]),(by simp),rfl⟩ ?_ ?_
 exact wp [(1,0)] ⟨(Qp (by first | rfl | simp)),trivial⟩
 rintro m_ s_ ⟨vs,ch,hm4,hA,hL,rfl⟩
 iterate 4 refine w_ ?_
 cases hb5:(ch)
 iterate 10 refine w_ ?_
 refine Qu (fun m_ s_=>∃(j:Nat),j≤vs.length∧m_=vs.length - j∧s_=⟨[(8,lR 2),(88,lR 2),(89,lI (vs.length:Int)),(90,lI (j:Int))],[(2,some (.arr 5 .u8 (Wr vs j)))]⟩) ⟨0,aw _,rfl,rfl⟩ ?_ ?_
 exact wp [(2,1)] ⟨(Qp ((QqN vs).symm)),trivial⟩
 rintro m_ s_ ⟨j,hk6,hm7,rfl⟩
 have hfl:=Qf3 vs j
 iterate 4 refine w_ ?_
 cases hb8:(decide ((j:Int) < (vs.length:Int)))
 have hb8':=a7 hb8
 iterate 9 refine w_ ?_
 subst hO
 have e9:(true:Bool)=((YG n.toNat arcs sig).2):=by
  (rw[QbR (vs:=vs) (by rw[hA,if_neg (by simp[*])])]; done)
 exact QD _ _ [(0,2)] (QB rfl (Qd rfl) (Qd rfl)) (by rw[← e9] <;> rfl) ⟨(Qp (by (rw[QbR (vs:=vs) (by rw[hA,if_neg (by simp[*])]),QmO (by omega)]; done))),trivial⟩ rfl rfl
 have hb8':=a8 hb8
 iterate 6 refine w_ ?_
 refine lc (Qw (e:= .u8) (Qa rfl) rfl (Qa rfl) Ze Q2 rfl (by omega) (by first | omega | (simp only[aq]; omega))) ?_
 obtain ⟨x10,hx11⟩:=gx (Wr vs j) j
 refine lc (QP (e:= .u8) (Qa rfl) rfl hx11 rfl Q2 rfl rfl) ?_
 iterate 5 refine w_ ?_
 refine lc (Z7 (Qa rfl) (ZJ 0 rfl) rfl) ?_
 refine w_ ?_
 cases hb12:(decide (x10=0))
 have hb12':=a7 hb12
 iterate 6 refine w_ ?_
 refine Qm<|QV ⟨j+1,by omega,rfl,rfl⟩ (by omega) ?_
 exact wp [(2,2)] ⟨(Qp (by first | exact QgB hx11 ‹_› | exact QeP hx11 ‹_›)),trivial⟩
 have hb12':=a8 hb12
 iterate 4 refine w_ ?_
 refine lc (Qw (e:= .u8) (Qa rfl) rfl (Qa rfl) Ze Q2 rfl (by omega) (by first | omega | (simp only[aq]; omega)))<|lc (Q6 (e:= .u8) (z':=48) (Qa rfl) rfl hx11 rfl (Evl.ev (ZJ 48 rfl)) rfl Q2 rfl rfl)<|Qm ?_
 iterate 4 refine w_ ?_
 refine Qm<|QV ⟨j+1,by omega,rfl,rfl⟩ (by omega) ?_
 exact wp [(2,2)] ⟨(Qp (by first | exact QgB hx11 ‹_› | exact QeP hx11 ‹_›)),trivial⟩
 iterate 8 refine w_ ?_
 refine AL.fact (Qo (x:= .tmp 27) (Qa rfl)) fun hl13=> ?_
 iterate 4 refine w_ ?_
 refine Qu (fun m_ s_=>∃(i:Nat) (vs2:List UInt8) (ch2:Bool),i≤arcs.length∧m_=arcs.length - i∧(WZ sig arcs (n.toNat+1) (List.replicate n.toNat 0)=QcC sig arcs (Yx vs) (XA sig (arcs.drop i) vs2 ch2))∧(vs2.length=n.toNat)∧(Yx vs2≤Yx vs∧(ch2=true→Yx vs2 < Yx vs))∧s_=⟨[(1,lf (.dat VR arcs)),(2,lI sig),(8,lR 3),(9,lB ch2),(26,lB true),(27,lf (.dat VR arcs)),(28,lI (arcs.length:Int)),(29,lI (i:Int))],[(3,some (.arr 5 .u8 vs2))]⟩) ⟨0,vs,false,aw _,rfl,(by rw[hA,if_pos ‹_›]; exact Qp4 _ _),hL,⟨aL _,fun h=>by cases h⟩,rfl⟩ ?_ ?_
 exact wo [(3,1)]
 rintro m_ s_ ⟨i,vs2,ch2,hk14,hm15,hA2,hL2,hC,rfl⟩
 iterate 4 refine w_ ?_
 cases hb16:(decide ((i:Int) < (arcs.length:Int)))
 have hb16':=a7 hb16
 refine w_ ?_
 refine Ql1<|QV ⟨vs2,ch2,rfl,(by rw[hA2,Qmn (by omega)]; exact QkO ha hL2 hC),hL2,rfl⟩ (by exact Qo2 hm4 ‹_› hC) ?_
 exact wo [(1,3)]
 have hb16':=a8 hb16
 iterate 5 refine w_ ?_
 obtain ⟨ar,hx18⟩:=gx arcs i
 have hra:=ha _ (ai hx18)
 obtain ⟨⟨hr1,hr2⟩,hr3,hr4⟩:=hra
 refine lc (Qh (Qa rfl) (Qa rfl) JG VU rfl (by omega) hx18) ?_
 refine w_ ?_
 refine lc (Qj 4 UC K0 rfl rfl (Fresh.of rfl) (nlr rfl))<|lc (Qc (Qa rfl) rfl (Qb rfl) rfl VU rfl) ?_
 refine w_ ?_
 refine dw [io 33 (lR 3),io 34 (lP 4 0),io 35 (lI ar.1),io 36 (lf (.ept 3 1 ((ar.1).toNat) 0)),io 37 (lR 3),io 38 (lP 4 3),io 39 (lI ar.2.2.2),io 40 (lf (.ept 3 1 ((ar.2.2.2).toNat) 0)),io 12 (lf (.ept 3 1 ((ar.1).toNat) 0)),io 13 (lf (.ept 3 1 ((ar.2.2.2).toNat) 0))] [0,0,2,7,0,0,32,112,15,511] mixed rfl (by kernel_rfl) ⟨dxm rfl rfl,dxf QfE rfl rfl rfl,dxl QL rfl rfl rfl rfl rfl,fun _ h_=>ac (Qw (e:= .u8) (h_.v rfl) (h_.en 3 rfl) (h_.v rfl) Ze Q2 rfl (by omega) (by first | omega | (simp only[aq]; omega))) rfl,dxm rfl rfl,dxf Qne rfl rfl rfl,dxl QL rfl rfl rfl rfl rfl,fun _ h_=>ac (Qw (e:= .u8) (h_.v rfl) (h_.en 3 rfl) (h_.v rfl) Ze Q2 rfl (by omega) (by first | omega | (simp only[aq]; omega))) rfl,dxt rfl rfl,dxt rfl rfl,⟨⟩⟩ ?_
 iterate 4 refine w_ ?_
 refine AL.fact (QC (x:= .tmp 42) (Qa rfl)) fun hi19=> ?_
 iterate 3 refine w_ ?_
 cases hb20:(decide (ar.2.1=sig))
 have hb20':=a7 hb20
 iterate 5 refine w_ ?_
 refine lc (QK 5 [(0,3)] (QeZ vs2 ((ar.1).toNat) ((ar.2.2.2).toNat) (by omega) (by omega)) QaW ⟨_,_,rfl,(Qb rfl),⟨_,_,rfl,(Qb rfl),rfl⟩⟩ ⟨rfl,trivial⟩ rfl ⟨trivial,trivial⟩ (nlr rfl)) ?_
 iterate 11 refine w_ ?_
 cases hb21:((agr vs2 ((ar.1).toNat) ((ar.2.2.2).toNat)).2.1)
 iterate 5 refine w_ ?_
 refine AC.wk (Wk.nilS 6 6 5 .u8 rfl (Fresh.of rfl) (nlr rfl))<|Q4 ?_
 subst hO
 have e22:(false:Bool)=((YG n.toNat arcs sig).2):=by
  (rw[Wb (by rw[hA2,V6 hx18 (by first | exact Vd ‹_› ‹_› | exact Vj ‹_› ‹_› | exact V2 ‹_› ‹_›)]; rfl)]; done)
 exact QD _ _ [(0,6)] (QB rfl (Qd rfl) (Qd rfl)) (by rw[← e22] <;> rfl) ⟨(Qp (by (rw[Wb (by rw[hA2,V6 hx18 (by first | exact Vd ‹_› ‹_› | exact Vj ‹_› ‹_› | exact V2 ‹_› ‹_›)]; rfl)]; done))),trivial⟩ rfl rfl
 iterate 5 refine w_ ?_
 cases hb23:(ch2)
 iterate 3 refine w_ ?_
 refine Qm ?_
 iterate 4 refine w_ ?_
 refine Qm<|QV ⟨i+1,((agr vs2 ((ar.1).toNat) ((ar.2.2.2).toNat)).1),((agr vs2 ((ar.1).toNat) ((ar.2.2.2).toNat)).2.2),by omega,rfl,hA2.trans (congrArg (QcC sig arcs (Yx vs)) (Jy hx18 (by first | exact Xy ‹_› ‹_› ‹_› | exact Wc ‹_› ‹_›) (by first | exact QcP ‹_› | exact Qfk ‹_› ‹_› | exact Qfi ‹_› ‹_› | exact QcM ‹_›))),(by (rw[Qg8]; exact hL2)),(JW hC (XN (by rw[hL2]; exact ⟨⟨hr1,hr2⟩,hr3,hr4⟩) (by first | exact Xy ‹_› ‹_› ‹_› | exact Wc ‹_› ‹_›)) (by first | exact QcP ‹_› | exact Qfk ‹_› ‹_› | exact Qfi ‹_› ‹_› | exact QcM ‹_›)),rfl⟩ (by omega) ?_
 exact wo [(3,3)]
 iterate 3 refine w_ ?_
 refine Qm ?_
 iterate 4 refine w_ ?_
 refine Qm<|QV ⟨i+1,((agr vs2 ((ar.1).toNat) ((ar.2.2.2).toNat)).1),true,by omega,rfl,hA2.trans (congrArg (QcC sig arcs (Yx vs)) (Jy hx18 (by first | exact Xy ‹_› ‹_› ‹_› | exact Wc ‹_› ‹_›) (by first | exact QcP ‹_› | exact Qfk ‹_› ‹_› | exact Qfi ‹_› ‹_› | exact QcM ‹_›))),(by (rw[Qg8]; exact hL2)),(JW hC (XN (by rw[hL2]; exact ⟨⟨hr1,hr2⟩,hr3,hr4⟩) (by first | exact Xy ‹_› ‹_› ‹_› | exact Wc ‹_› ‹_›)) (by first | exact QcP ‹_› | exact Qfk ‹_› ‹_› | exact Qfi ‹_› ‹_› | exact QcM ‹_›)),rfl⟩ (by omega) ?_
 exact wo [(3,3)]
 have hb20':=a8 hb20
 refine w_ ?_
 refine dw [io 45 (lP 4 2),io 46 (lB ar.2.2.1),io 47 (lB (!ar.2.2.1)),io 48 (lf (.dat .u8 (if (!ar.2.2.1) then 49 else 48))),io 49 (lP 4 2),io 50 (lB ar.2.2.1),io 51 (lf (.dat .u8 (if ar.2.2.1 then 49 else 48))),⟨some 14,lP 7 0,[(7,some (.box 5 [.dat .u8 0]))]⟩,⟨some 15,lP 8 0,[(8,some (.box 5 [.dat .u8 0]))]⟩,⟨none,lf (.val undef),[(7,some (.box 5 [.dat .u8 (if (!ar.2.2.1) then 49 else 48)]))]⟩,⟨none,lf (.val undef),[(8,some (.box 5 [.dat .u8 (if ar.2.2.1 then 49 else 48)]))]⟩] [0,1,3,7,0,16,63,0,0,511,1023] mixed rfl (by kernel_rfl) ⟨dxf Qci rfl rfl rfl,dxl Uj rfl rfl rfl rfl rfl,fun _ h_=>ac (WD (h_.v rfl) rfl) rfl,fun _ h_=>ac (Ql (JE (!ar.2.2.1)) QaL ⟨_,_,rfl,(h_.w rfl),rfl⟩ rfl rfl) rfl,dxf Qci rfl rfl rfl,dxl Uj rfl rfl rfl rfl rfl,fun _ h_=>ac (Ql (JE ar.2.2.1) QaL ⟨_,_,rfl,(h_.w rfl),rfl⟩ rfl rfl) rfl,fun _ h_=>ac (Qj 7 .u8 QfO rfl rfl (h_.fr 7 rfl) (nlr rfl)) rfl,fun _ h_=>ac (Qj 8 .u8 QfO rfl rfl (h_.fr 8 rfl) (nlr rfl)) rfl,fun _ h_=>ac (Qc (h_.v rfl) (h_.n 7 rfl) (h_.w rfl) rfl Q2 rfl) rfl,fun _ h_=>ac (Qc (h_.v rfl) (h_.n 8 rfl) (h_.w rfl) rfl Q2 rfl) rfl,⟨⟩⟩ ?_
 iterate 2 refine w_ ?_
 refine lc (QK 9 [(0,7),(1,3)] (UT (if (!ar.2.2.1) then 49 else 48) vs2 ((ar.1).toNat) (by omega) (QlR _)) QaW ⟨_,_,rfl,(Qb rfl),⟨_,_,rfl,(Qb rfl),rfl⟩⟩ ⟨rfl,rfl,trivial⟩ rfl ⟨trivial,trivial,trivial⟩ (nlr rfl)) ?_
 iterate 8 refine w_ ?_
 refine lc (QK 11 [(0,8),(1,3)] (UT (if ar.2.2.1 then 49 else 48) ((agb vs2 ((ar.1).toNat) (if (!ar.2.2.1) then 49 else 48)).1) ((ar.2.2.2).toNat) (by rw[Vl]; omega) (QlR _)) QaW ⟨_,_,rfl,(Qb rfl),⟨_,_,rfl,(Qb rfl),rfl⟩⟩ ⟨rfl,rfl,trivial⟩ rfl ⟨trivial,trivial,trivial⟩ (nlr rfl)) ?_
 iterate 11 refine w_ ?_
 cases hb24:((agb vs2 ((ar.1).toNat) (if (!ar.2.2.1) then 49 else 48)).2.1)
 iterate 9 refine w_ ?_
 refine AC.wk (Wk.nilS 13 6 5 .u8 rfl (Fresh.of rfl) (nlr rfl))<|Q4 ?_
 subst hO
 have e25:(false:Bool)=((YG n.toNat arcs sig).2):=by
  (rw[Wb (by rw[hA2,V6 hx18 (by first | exact Vd ‹_› ‹_› | exact Vj ‹_› ‹_› | exact V2 ‹_› ‹_›)]; rfl)]; done)
 exact QD _ _ [(0,13)] (QB rfl (Qd rfl) (Qd rfl)) (by rw[← e25] <;> rfl) ⟨(Qp (by (rw[Wb (by rw[hA2,V6 hx18 (by first | exact Vd ‹_› ‹_› | exact Vj ‹_› ‹_› | exact V2 ‹_› ‹_›)]; rfl)]; done))),trivial⟩ rfl rfl
 iterate 4 refine w_ ?_
 cases hb26:((agb ((agb vs2 ((ar.1).toNat) (if (!ar.2.2.1) then 49 else 48)).1) ((ar.2.2.2).toNat) (if ar.2.2.1 then 49 else 48)).2.1)
 iterate 5 refine w_ ?_
 refine AC.wk (Wk.nilS 14 6 5 .u8 rfl (Fresh.of rfl) (nlr rfl))<|Q4 ?_
 subst hO
 have e27:(false:Bool)=((YG n.toNat arcs sig).2):=by
  (rw[Wb (by rw[hA2,V6 hx18 (by first | exact Vd ‹_› ‹_› | exact Vj ‹_› ‹_› | exact V2 ‹_› ‹_›)]; rfl)]; done)
 exact QD _ _ [(0,14)] (QB rfl (Qd rfl) (Qd rfl)) (by rw[← e27] <;> rfl) ⟨(Qp (by (rw[Wb (by rw[hA2,V6 hx18 (by first | exact Vd ‹_› ‹_› | exact Vj ‹_› ‹_› | exact V2 ‹_› ‹_›)]; rfl)]; done))),trivial⟩ rfl rfl
 iterate 5 refine w_ ?_
 cases hb28:(ch2)
 iterate 3 refine w_ ?_
 cases hb29:((agb vs2 ((ar.1).toNat) (if (!ar.2.2.1) then 49 else 48)).2.2)
 iterate 9 refine w_ ?_
 refine Qm<|QV ⟨i+1,((agb ((agb vs2 ((ar.1).toNat) (if (!ar.2.2.1) then 49 else 48)).1) ((ar.2.2.2).toNat) (if ar.2.2.1 then 49 else 48)).1),((agb ((agb vs2 ((ar.1).toNat) (if (!ar.2.2.1) then 49 else 48)).1) ((ar.2.2.2).toNat) (if ar.2.2.1 then 49 else 48)).2.2),by omega,rfl,hA2.trans (congrArg (QcC sig arcs (Yx vs)) (Jy hx18 (by first | exact Xy ‹_› ‹_› ‹_› | exact Wc ‹_› ‹_›) (by first | exact QcP ‹_› | exact Qfk ‹_› ‹_› | exact Qfi ‹_› ‹_› | exact QcM ‹_›))),(by (rw[Vl,Vl]; exact hL2)),(JW hC (XN (by rw[hL2]; exact ⟨⟨hr1,hr2⟩,hr3,hr4⟩) (by first | exact Xy ‹_› ‹_› ‹_› | exact Wc ‹_› ‹_›)) (by first | exact QcP ‹_› | exact Qfk ‹_› ‹_› | exact Qfi ‹_› ‹_› | exact QcM ‹_›)),rfl⟩ (by omega) ?_
 exact wo [(3,3)]
 iterate 9 refine w_ ?_
 refine Qm<|QV ⟨i+1,((agb ((agb vs2 ((ar.1).toNat) (if (!ar.2.2.1) then 49 else 48)).1) ((ar.2.2.2).toNat) (if ar.2.2.1 then 49 else 48)).1),true,by omega,rfl,hA2.trans (congrArg (QcC sig arcs (Yx vs)) (Jy hx18 (by first | exact Xy ‹_› ‹_› ‹_› | exact Wc ‹_› ‹_›) (by first | exact QcP ‹_› | exact Qfk ‹_› ‹_› | exact Qfi ‹_› ‹_› | exact QcM ‹_›))),(by (rw[Vl,Vl]; exact hL2)),(JW hC (XN (by rw[hL2]; exact ⟨⟨hr1,hr2⟩,hr3,hr4⟩) (by first | exact Xy ‹_› ‹_› ‹_› | exact Wc ‹_› ‹_›)) (by first | exact QcP ‹_› | exact Qfk ‹_› ‹_› | exact Qfi ‹_› ‹_› | exact QcM ‹_›)),rfl⟩ (by omega) ?_
 exact wo [(3,3)]
 iterate 12 refine w_ ?_
 refine Qm<|QV ⟨i+1,((agb ((agb vs2 ((ar.1).toNat) (if (!ar.2.2.1) then 49 else 48)).1) ((ar.2.2.2).toNat) (if ar.2.2.1 then 49 else 48)).1),true,by omega,rfl,hA2.trans (congrArg (QcC sig arcs (Yx vs)) (Jy hx18 (by first | exact Xy ‹_› ‹_› ‹_› | exact Wc ‹_› ‹_›) (by first | exact QcP ‹_› | exact Qfk ‹_› ‹_› | exact Qfi ‹_› ‹_› | exact QcM ‹_›))),(by (rw[Vl,Vl]; exact hL2)),(JW hC (XN (by rw[hL2]; exact ⟨⟨hr1,hr2⟩,hr3,hr4⟩) (by first | exact Xy ‹_› ‹_› ‹_› | exact Wc ‹_› ‹_›)) (by first | exact QcP ‹_› | exact Qfk ‹_› ‹_› | exact Qfi ‹_› ‹_› | exact QcM ‹_›)),rfl⟩ (by omega) ?_
 exact wo [(3,3)]
end Go.Proofs.YtjaadeknhofhpaaGreat
