/- Walks over abstract states: labelled arcs, the values of a signal. -/
import Derived.Test.YtnakmhfjafecpaaGreatWk
set_option linter.unusedSimpArgs false
set_option linter.unusedVariables false
set_option linter.unusedSectionVars false
namespace Go.Proofs.YtnakmhfjafecpaaGreat
open Go.RowKit
set_option maxRecDepth 100000
set_option maxHeartbeats 4000000
abbrev DMv:=Int×Int×Int
abbrev DAr:=Int×Int×Bool×Int
def Qb9 (ls:List Zn)(t:Int):Zn:=(ls[t.toNat]?).getD (0,false)
theorem Qbj {ls:List Zn}{t:Int}{y:Zn}(h:ls[t.toNat]? =some y):Qb9 ls t=y:=by unfold Qb9; rw[h]; rfl
def Qc2 (ls:List Zn)(m:DMv):DAr:=(m.1,(Qb9 ls m.2.1).1,(Qb9 ls m.2.1).2,m.2.2)
def QP (ls:List Zn)(ms:List DMv):List DAr:=ms.map (Qc2 ls)
def bv (l:List UInt8)(i:Nat):UInt8:=(l[i]?).getD 0
theorem Z5 {l:List UInt8}{i:Nat}{c:UInt8}(h:l[i]? =some c):bv l i=c:=by unfold bv; rw[h]; rfl
def agr (vs:List UInt8)(i j:Nat):List UInt8×Bool×Bool:=
  if bv vs i=bv vs j then (vs,true,false) else if bv vs i=0 then (vs.set i (bv vs j),true,true) else if bv vs j=0 then (vs.set j (bv vs i),true,true) else (vs,false,false)
def agb (vs:List UInt8)(i:Nat)(c:UInt8):List UInt8×Bool×Bool:=
  if bv vs i=c then (vs,true,false) else if bv vs i=0 then (vs.set i c,true,true) else (vs,false,false)
section
variable {vs vs':List UInt8}{i j k:Nat}{a b c:UInt8}
theorem XI (h1:vs[i]? =some a)(h2:vs[j]? =some b):agr vs i j=if a=b then (vs,true,false) else if a=0 then (vs.set i b,true,true) else if b=0 then (vs.set j a,true,true) else (vs,false,false):=by
  unfold agr; rw[Z5 h1,Z5 h2]
theorem Wy (h1:vs[i]? =some a):agb vs i c=if a=c then (vs,true,false) else if a=0 then (vs.set i c,true,true) else (vs,false,false):=by
  unfold agb; rw[Z5 h1]
theorem Qe7 (vs:List UInt8)(i j:Nat):(agr vs i j).1.length=vs.length:=by
  unfold agr; split <;> try rfl
  split <;> try simp
  split <;> simp
theorem X9 (vs:List UInt8)(i:Nat)(c:UInt8):(agb vs i c).1.length=vs.length:=by
  unfold agb; split <;> try rfl
  split <;> simp
def ZN (vs:List UInt8):Nat:=(vs.filter fun c=>c=0).length
theorem QfM (n:Nat):ZN (List.replicate n 0)=n:=by simp[ZN]
theorem Qc8 {l:List UInt8}(h:l[i]? =some 0)(hc:c≠0):ZN (l.set i c)+1=ZN l:=by
  induction l generalizing i with
  | nil=>simp at h
  | cons x l ih=>
    cases i with
    | zero=>
      simp only[List.getElem?_cons_zero,Option.some.injEq] at h
      subst h
      simp[ZN,hc]
    | succ i=>
      have:=ih (i:=i) (by simpa using h)
      simp only[ZN,List.set_cons_succ,List.filter_cons] at this ⊢
      split <;> simp_all
theorem QmT (h1:i < vs.length)(h2:j < vs.length):ZN (agr vs i j).1≤ZN vs∧((agr vs i j).2.2=true→ZN (agr vs i j).1 < ZN vs)∧((agr vs i j).2.1=true→(agr vs i j).2.2=false→(agr vs i j).1=vs):=by
  have e1:=List.getElem?_eq_getElem h1
  have e2:=List.getElem?_eq_getElem h2
  rw[XI e1 e2]
  split
  · simp
  · rename_i h3
    split
    · rename_i h4
      rw[h4] at e1 h3
      have:=Qc8 e1 (c:=vs[j]) (fun h=>h3 h.symm)
      simp; omega
    · rename_i h4
      split
      · rename_i h5
        rw[h5] at e2
        have:=Qc8 e2 h4
        simp; omega
      · simp
theorem QiS (h1:i < vs.length)(hc:c≠0):ZN (agb vs i c).1≤ZN vs∧((agb vs i c).2.2=true→ZN (agb vs i c).1 < ZN vs)∧((agb vs i c).2.1=true→(agb vs i c).2.2=false→(agb vs i c).1=vs):=by
  have e1:=List.getElem?_eq_getElem h1
  rw[Wy e1]
  split
  · simp
  · split
    · rename_i h4
      rw[h4] at e1
      have:=Qc8 e1 hc
      simp; omega
    · simp
end
def YT (sig:Int)(a:DAr)(vs:List UInt8):Option (List UInt8×Bool):=
  if a.2.1=sig then
    (if (agb vs a.1.toNat (if (!a.2.2.1)=true then 49 else 48)).2.1=true∧(agb (agb vs a.1.toNat (if (!a.2.2.1)=true then 49 else 48)).1 a.2.2.2.toNat (if a.2.2.1=true then 49 else 48)).2.1=true then
      some ((agb (agb vs a.1.toNat (if (!a.2.2.1)=true then 49 else 48)).1 a.2.2.2.toNat (if a.2.2.1=true then 49 else 48)).1,(agb vs a.1.toNat (if (!a.2.2.1)=true then 49 else 48)).2.2||(agb (agb vs a.1.toNat (if (!a.2.2.1)=true then 49 else 48)).1 a.2.2.2.toNat (if a.2.2.1=true then 49 else 48)).2.2)
    else none)
  else if (agr vs a.1.toNat a.2.2.2.toNat).2.1=true then some ((agr vs a.1.toNat a.2.2.2.toNat).1,(agr vs a.1.toNat a.2.2.2.toNat).2.2) else none
def YD (sig:Int):List DAr→List UInt8→Bool→Option (List UInt8×Bool)
  | [],vs,ch=>some (vs,ch)
  | a :: rs,vs,ch=>match YT sig a vs with
    | none=>none
    | some (vs',c)=>YD sig rs vs' (ch||c)
def X3 (sig:Int)(arcs:List DAr):Nat→List UInt8→Option (List UInt8)
  | 0,vs=>some vs
  | f+1,vs=>match YD sig arcs vs false with
    | none=>none
    | some (vs',ch)=>if ch=true then X3 sig arcs f vs' else some vs'
def QaH (sig:Int)(arcs:List DAr)(f:Nat):Option (List UInt8×Bool)→Option (List UInt8)
  | none=>none
  | some (vs',ch)=>if ch=true then X3 sig arcs f vs' else some vs'
def fz (c:UInt8):UInt8:=if c=0 then 48 else c
def ZX (n:Nat)(arcs:List DAr)(sig:Int):List UInt8×Bool:=match X3 sig arcs (n+1) (List.replicate n 0) with
  | none=>([],false)
  | some vs=>(vs.map fz,true)
def InR (n:Int)(a:DAr):Prop:=(0≤a.1∧a.1 < n)∧0≤a.2.2.2∧a.2.2.2 < n
section
variable {sig n:Int}{a:DAr}{vs vs':List UInt8}{arcs rs:List DAr}{ch ch' c:Bool}{f k:Nat}
theorem YA (hl:a.2.1=sig)(h1:(agb vs a.1.toNat (if (!a.2.2.1)=true then 49 else 48)).2.1=true)(h2:(agb (agb vs a.1.toNat (if (!a.2.2.1)=true then 49 else 48)).1 a.2.2.2.toNat (if a.2.2.1=true then 49 else 48)).2.1=true):
    YT sig a vs=some ((agb (agb vs a.1.toNat (if (!a.2.2.1)=true then 49 else 48)).1 a.2.2.2.toNat (if a.2.2.1=true then 49 else 48)).1,(agb vs a.1.toNat (if (!a.2.2.1)=true then 49 else 48)).2.2||(agb (agb vs a.1.toNat (if (!a.2.2.1)=true then 49 else 48)).1 a.2.2.2.toNat (if a.2.2.1=true then 49 else 48)).2.2):=by
  unfold YT; rw[if_pos hl,if_pos ⟨h1,h2⟩]
theorem X4 (hl:a.2.1=sig)(h1:(agb vs a.1.toNat (if (!a.2.2.1)=true then 49 else 48)).2.1=false):YT sig a vs=none:=by
  unfold YT; rw[if_pos hl,if_neg (fun h=>by rw[h1] at h; cases h.1)]
theorem XT (hl:a.2.1=sig)(h2:(agb (agb vs a.1.toNat (if (!a.2.2.1)=true then 49 else 48)).1 a.2.2.2.toNat (if a.2.2.1=true then 49 else 48)).2.1=false):YT sig a vs=none:=by
  unfold YT; rw[if_pos hl,if_neg (fun h=>by rw[h2] at h; cases h.2)]
theorem Xb (hl:¬a.2.1=sig)(h1:(agr vs a.1.toNat a.2.2.2.toNat).2.1=true):YT sig a vs=some ((agr vs a.1.toNat a.2.2.2.toNat).1,(agr vs a.1.toNat a.2.2.2.toNat).2.2):=by
  unfold YT; rw[if_neg hl,if_pos h1]
theorem WU (hl:¬a.2.1=sig)(h1:(agr vs a.1.toNat a.2.2.2.toNat).2.1=false):YT sig a vs=none:=by
  unfold YT; rw[if_neg hl,if_neg (by rw[h1]; decide)]
theorem QeX (b:Bool):(if b=true then (49:UInt8) else 48)≠0:=by split <;> decide
theorem Qa1 {x:Bool}(h:ch=true):true=(ch||x):=by rw[h]; rfl
theorem Qds {m1 m2:Bool}(h:ch=false)(h2:m1=true):true=(ch||(m1||m2)):=by rw[h,h2]; rfl
theorem Qdv {m1 m2:Bool}(h:ch=false)(h2:m1=false):m2=(ch||(m1||m2)):=by rw[h,h2]; rfl
theorem QaW {m:Bool}(h:ch=false):m=(ch||m):=by rw[h]; rfl
theorem Qi6 (b:Bool):decide ((if b=true then (49:UInt8) else 48)=0)=false:=by cases b <;> rfl
theorem YK (hr:InR vs.length a)(h:YT sig a vs=some (vs',c)):vs'.length=vs.length∧ZN vs'≤ZN vs∧(c=true→ZN vs' < ZN vs)∧(c=false→vs'=vs):=by
  obtain ⟨⟨r1,r2⟩,r3,r4⟩:=hr
  unfold YT at h
  have hf0:=QeX (!a.2.2.1)
  have ht0:=QeX a.2.2.1
  generalize (if (!a.2.2.1)=true then (49:UInt8) else 48)=f0 at h hf0
  generalize (if a.2.2.1=true then (49:UInt8) else 48)=t0 at h ht0
  have k1:=QiS (vs:=vs) (i:=a.1.toNat) (c:=f0) (by omega) hf0
  have k2:=QiS (vs:=(agb vs a.1.toNat f0).1) (i:=a.2.2.2.toNat) (c:=t0) (by rw[X9]; omega) ht0
  have k3:=QmT (vs:=vs) (i:=a.1.toNat) (j:=a.2.2.2.toNat) (by omega) (by omega)
  have l1:=X9 vs a.1.toNat f0
  have l2:=X9 (agb vs a.1.toNat f0).1 a.2.2.2.toNat t0
  have l3:=Qe7 vs a.1.toNat a.2.2.2.toNat
  generalize agb (agb vs a.1.toNat f0).1 a.2.2.2.toNat t0=g2 at h k2 l2
  generalize agb vs a.1.toNat f0=g1 at h k1 k2 l1 l2
  generalize agr vs a.1.toNat a.2.2.2.toNat=g3 at h k3 l3
  split at h
  · split at h
    · rename_i h1
      simp only[Option.some.injEq,Prod.mk.injEq] at h
      obtain ⟨rfl,rfl⟩:=h
      refine ⟨l2.trans l1,Nat.le_trans k2.1 k1.1,fun hc=> ?_,fun hc=> ?_⟩
      · rcases Bool.or_eq_true_iff.1 hc with h | h
        · exact Nat.lt_of_le_of_lt k2.1 (k1.2.1 h)
        · exact Nat.lt_of_lt_of_le (k2.2.1 h) k1.1
      · obtain ⟨e1, e2⟩ := Bool.or_eq_false_iff.1 hc
        rw[k2.2.2 h1.2 e2,k1.2.2 h1.1 e1]
    · cases h
  · split at h
    · rename_i h1
      simp only[Option.some.injEq,Prod.mk.injEq] at h
      obtain ⟨rfl,rfl⟩:=h
      exact ⟨l3,k3.1,k3.2.1,k3.2.2 h1⟩
    · cases h
theorem Kq (hx:arcs[k]? =some a)(h:YT sig a vs=some (vs',c))(hc:ch'=(ch||c)):YD sig (arcs.drop k) vs ch=YD sig (arcs.drop (k+1)) vs' ch':=by
  rw[ZS hx,YD,h,hc]
theorem WS (hx:arcs[k]? =some a)(h:YT sig a vs=none):YD sig (arcs.drop k) vs ch=none:=by
  rw[ZS hx,YD,h]
theorem Qkk (hk:arcs.length≤k):YD sig (arcs.drop k) vs ch=some (vs,ch):=by rw[List.drop_eq_nil_of_le hk,YD]
theorem Jz {m:Nat}(hr:∀a∈rs,InR m a)(hl:vs.length=m)(h:YD sig rs vs ch=some (vs',ch')):vs'.length=m∧ZN vs'≤ZN vs∧(ch'=true→ch=true∨ZN vs' < ZN vs)∧(ch'=false→vs'=vs∧ch=false):=by
  induction rs generalizing vs ch with
  | nil=>rw[YD] at h; cases h; exact ⟨hl,Nat.le_refl _,fun h=> .inl h,fun h=>⟨rfl,h⟩⟩
  | cons a rs ih=>
    rw[YD] at h
    cases hs:YT sig a vs with
    | none=>rw[hs] at h; cases h
    | some r=>
      obtain ⟨v1,c1⟩:=r
      rw[hs] at h
      obtain ⟨h1,h2,h3,h4⟩:=YK (by rw[hl]; exact hr a (List.mem_cons_self ..)) hs
      obtain ⟨k1,k2,k3,k4⟩:=ih (fun b hb=>hr b (List.mem_cons_of_mem _ hb)) (h1.trans hl) h
      refine ⟨k1,Nat.le_trans k2 h2,fun e=> ?_,fun e=> ?_⟩
      · rcases k3 e with h | h
        · rcases Bool.or_eq_true_iff.1 h with h | h
          · exact .inl h
          · exact .inr (Nat.lt_of_le_of_lt k2 (h3 h))
        · exact .inr (Nat.lt_of_lt_of_le h h2)
      · obtain ⟨e1, e2⟩ := k4 e
        obtain ⟨e3,e4⟩:=Bool.or_eq_false_iff.1 e2
        exact ⟨e1.trans (h4 e4),e3⟩
theorem Qnu (f:Nat)(vs:List UInt8):X3 sig arcs (f+1) vs=QaH sig arcs f (YD sig arcs vs false):=by
  rw[X3]; cases YD sig arcs vs false <;> rfl
theorem QkO {m:Nat}(hr:∀a∈arcs,InR m a):∀{f g:Nat} {vs:List UInt8},vs.length=m→ZN vs < f→ZN vs < g→X3 sig arcs f vs=X3 sig arcs g vs:=fun {f}=>by
  induction f with
  | zero=>intro g vs hl h; omega
  | succ f ih=>
    intro g vs hl h1 h2
    cases g with
    | zero=>omega
    | succ g=>
      rw[X3,X3]
      cases hp:YD sig arcs vs false with
      | none=>rfl
      | some r=>
        obtain ⟨v1,c1⟩:=r
        obtain ⟨k1,k2,k3,k4⟩:=Jz hr hl hp
        cases c1 with
        | false=>rfl
        | true=>
          rcases k3 rfl with h | h
          · cases h
          · show X3 sig arcs f v1 = X3 sig arcs g v1
            exact ih k1 (by omega) (by omega)
theorem Qhz {m:Nat}(hr:∀a∈arcs,InR m a)(hl:vs'.length=m)(hc:ZN vs'≤ZN vs∧(ch=true→ZN vs' < ZN vs)):QaH sig arcs (ZN vs) (some (vs',ch))=if ch=true then X3 sig arcs (ZN vs'+1) vs' else some vs':=by
  show (if ch=true then _ else _)=_
  cases ch with
  | false=>rfl
  | true=>exact QkO hr hl (hc.2 rfl) (Nat.lt_succ_self _)
theorem QlM {m c1 c2:Nat}(hm:m=if ch=true then c1+1 else 0)(hb:ch=true)(hC:c2≤c1∧(ch'=true→c2 < c1)):(if ch'=true then c2+1 else 0) < m:=by
  rw[hm,if_pos hb]
  cases ch' with
  | false=>simp
  | true=>have:=hC.2 rfl; simp; omega
theorem Kl {c0:Nat}(hC:ZN vs≤c0∧(ch=true→ZN vs < c0))(h:vs'.length=vs.length∧ZN vs'≤ZN vs∧(c=true→ZN vs' < ZN vs)∧(c=false→vs'=vs))(hc:ch'=(ch||c)):ZN vs'≤c0∧(ch'=true→ZN vs' < c0):=by
  obtain ⟨h1,h2,h3,_⟩:=h
  refine ⟨Nat.le_trans h2 hC.1,fun e=> ?_⟩
  rw[hc] at e
  rcases Bool.or_eq_true_iff.1 e with h | h
  · exact Nat.lt_of_le_of_lt h2 (hC.2 h)
  · exact Nat.lt_of_lt_of_le (h3 h) hC.1
theorem Y9 {n:Nat}(h:X3 sig arcs (n+1) (List.replicate n 0)=none):ZX n arcs sig=([],false):=by unfold ZX; rw[h]
theorem Qaz {n:Nat}(h:X3 sig arcs (n+1) (List.replicate n 0)=some vs):ZX n arcs sig=(vs.map fz,true):=by unfold ZX; rw[h]
def Xr (vs:List UInt8)(k:Nat):List UInt8:=(vs.take k).map fz++vs.drop k
theorem Qeg (vs:List UInt8)(k:Nat):(Xr vs k).length=vs.length:=by simp[Xr]; omega
theorem Qne (vs:List UInt8):Xr vs 0=vs:=by simp[Xr]
theorem QkI (h:vs.length≤k):Xr vs k=vs.map fz:=by simp[Xr,List.take_of_length_le h,List.drop_eq_nil_of_le h]
theorem Qlz {x:UInt8}(h:(Xr vs k)[k]? =some x):vs[k]? =some x:=by
  have hk:k < vs.length:=by have:=(List.getElem?_eq_some_iff.1 h).1; rwa [Qeg] at this
  unfold Xr at h
  rw[List.getElem?_append_right (by simp; omega)] at h
  simp only[List.length_map,List.length_take,Nat.min_eq_left (Nat.le_of_lt hk),Nat.sub_self] at h
  rw[List.getElem?_drop] at h
  simpa using h
theorem QcC {x:UInt8}(h:(Xr vs k)[k]? =some x):Xr vs (k+1)=(Xr vs k).set k (fz x):=by
  have h2:=Qlz h
  have hk:=(List.getElem?_eq_some_iff.1 h2).1
  unfold Xr
  rw[List.set_append_right _ _ (by simp; omega)]
  simp only[List.length_map,List.length_take,Nat.min_eq_left (Nat.le_of_lt hk),Nat.sub_self]
  rw[ZS h2,QW h2]
  simp
theorem Qel {x:UInt8}(h:(Xr vs k)[k]? =some x)(h0:decide (x=0)=true):(Xr vs k).set k 48=Xr vs (k+1):=by
  rw[QcC h,show fz x=48 by simp[fz,of_decide_eq_true h0]]
theorem Qcf {x:UInt8}(h:(Xr vs k)[k]? =some x)(h0:decide (x=0)=false):Xr vs k=Xr vs (k+1):=by
  rw[QcC h,show fz x=x by simp[fz,of_decide_eq_false h0]]
  apply List.ext_getElem?
  intro i
  by_cases e:k=i
  · subst e; rw[List.getElem?_set_self (List.getElem?_eq_some_iff.1 h).1]; exact h
  · rw[List.getElem?_set_ne e]
end
theorem YG (s:List (ByteArray×Int))(hl:s.length≤1000000):FC Tryz.prog 168 [(false,[.dat (.sl 145 (.pr .str .int)) s])] [] 0 (UC 145 (.pr .str .int) s):=by
 refine QN Tryz.func168 rfl rfl Tryz.ntmps168 fun O_ hO w0_ N0_ X_ h0_ f0_=> ?_
 iterate 6 refine w_ ?_
 refine Ql9 (Qa rfl) Evl.val YQ rfl fun b1 hnil=> ?_
 refine w_ ?_
 cases hb2:(b1)
 ·iterate 3 refine w_ ?_
  refine lc (Qg 0 (e:=(.pr .str .int)) YQ Z4 K1 rfl rfl (List.all_eq_true.1 rfl) ⟨rfl,rfl⟩ (by decide) rfl rfl (Fresh.of rfl) (nlr rfl)) ?_
  refine w_ ?_
  refine lc (Zj 1 (Qa rfl) rfl (Evl.rep (Qa rfl)) rfl YQ Qbc (by first | omega | (simp only[List.length_append,List.length_map,List.length_take,List.length_cons,List.length_nil]; omega) | (simp only[List.length_append,List.length_drop,List.length_take,List.length_cons,List.length_nil]; omega)) rfl (Fresh.of rfl) (nlr rfl)) ?_
  iterate 2 refine w_ ?_
  refine Qf ?_
  subst hO
  refine ZU (e:=(.pr .str .int)) (xs:=(([])++s)) (Qm rfl (Qd rfl)) rfl ?_
  rfl
 ·iterate 4 refine w_ ?_
  refine AC.wk (Wk.nilS 2 2 145 (.pr .str .int) rfl (Fresh.of rfl) (nlr rfl))<|Qf ?_
  subst hO
  refine ZU (e:=(.pr .str .int)) (xs:=([])) (Qm rfl (Qd rfl)) rfl ?_
  exact (hnil (by assumption)).symm
theorem Kj (s:(Int×(List (List Int×List Int)))×(List (ByteArray×Int))×(List (Int×Bool))×ByteArray)(r:List ByteArray×(List (Int×Int×Int)))(hm:∀m∈r.2,0≤m.2.1∧m.2.1 < (s.2.2.1.length:Int))(hl:r.2.length≤1000000):FC Tryz.prog 169 [(true,[dI s.1.1, .dat (.sl 159 (.pr (.sl 3 .int) (.sl 3 .int))) s.1.2, .dat (.sl 145 (.pr .str .int)) s.2.1, .dat (.sl 61 (.pr .int .bool)) s.2.2.1,dS s.2.2.2]),(true,[.dat (.sl 9 .str) r.1, .dat (.sl 226 (.pr .int (.pr .int .int))) r.2])] [] 0 (UC 179 (.pr .int (.pr .int (.pr .bool .int))) (QP s.2.2.1 r.2)):=by
 refine QN Tryz.func169 rfl rfl Tryz.ntmps169 fun O_ hO w0_ N0_ X_ h0_ f0_=> ?_
 refine AC.fact (QG (x:= .tmp 0) (i:=0) (Qb rfl) rfl) fun hi1=> ?_
 refine w_ ?_
 refine lc (Qw 0 (Qb rfl) rfl rfl (Fresh.of rfl) (nlr rfl))<|lc (Qw 1 (Qb rfl) rfl rfl (Fresh.of rfl) (nlr rfl)) ?_
 iterate 3 refine w_ ?_
 refine lc (Qg 2 (e:=(.pr .int (.pr .int (.pr .bool .int)))) Ks WF UE rfl rfl (List.all_eq_true.1 rfl) ⟨rfl,rfl⟩ (by decide) rfl rfl (Fresh.of rfl) (nlr rfl)) ?_
 iterate 6 refine w_ ?_
 refine AL.fact (Qq (x:= .tmp 11) (Qa rfl)) fun hl2=> ?_
 iterate 4 refine w_ ?_
 refine Qx (fun m_ s_=>∃(k:Nat),k≤r.2.length∧m_=r.2.length - k∧s_=⟨[(2,lP 0 0),(4,lf (.val (.slice none 0 0))),(5,lR 3),(11,lf (.dat (.sl 226 (.pr .int (.pr .int .int))) r.2)),(12,lI (r.2.length:Int)),(13,lI (k:Int))],[(0,some (.box 39 [dI s.1.1, .dat (.sl 159 (.pr (.sl 3 .int) (.sl 3 .int))) s.1.2, .dat (.sl 145 (.pr .str .int)) s.2.1, .dat (.sl 61 (.pr .int .bool)) s.2.2.1,dS s.2.2.2])),(3,some (.arr 179 (.pr .int (.pr .int (.pr .bool .int))) ((r.2.take k).map (Qc2 s.2.2.1))))]⟩) ⟨0,Nat.zero_le _,rfl,rfl⟩ ?_ ?_
 · exact Wk.of [(0,0),(3,2)] rfl ⟨rfl,rfl,rfl,rfl,rfl,rfl,trivial⟩ ⟨rfl,(Qy (by first | rfl | simp)),trivial⟩ rfl rfl
 rintro m_ s_ ⟨k,hk3,hm4,rfl⟩
 iterate 4 refine w_ ?_
 cases hb5:(decide ((k:Int) < (r.2.length:Int)))
 ·have hb5':=of_decide_eq_false hb5
  refine w_ ?_
  refine QB ?_
  refine (?_:AC _ _ _ _ _)
  iterate 4 refine w_ ?_
  refine Qf ?_
  subst hO
  refine ZU (e:=(.pr .int (.pr .int (.pr .bool .int)))) (xs:=((r.2.take k).map (Qc2 s.2.2.1))) (Qm rfl (Qd rfl)) rfl ?_
  rw[Yi (by omega)]; rfl
 ·have hb5':=of_decide_eq_true hb5
  iterate 5 refine w_ ?_
  obtain ⟨mv,hx7⟩:∃z,r.2[k]? =some z:=⟨_,List.getElem?_eq_getElem (by omega)⟩
  have hrm:=hm _ (List.mem_of_getElem? hx7)
  refine lc (Qh (Qa rfl) (Qa rfl) Z6 Zr rfl (by omega) hx7) ?_
  refine w_ ?_
  refine lc (Qp 4 (.pr .int (.pr .int .int)) Yu rfl rfl (Fresh.of rfl) (nlr rfl))<|lc (Qe (Qa rfl) rfl (Qb rfl) rfl Zr rfl) ?_
  iterate 6 refine w_ ?_
  refine AL.fact (QA (x:= .tmp 20) (Qa rfl)) fun hi8=> ?_
  obtain ⟨x9,hx10⟩:∃z,s.2.2.1[(mv.2.1).toNat]? =some z:=⟨_,List.getElem?_eq_getElem (by omega)⟩
  have hla:=Qbj hx10
  refine lc (Qh (Qa rfl) (Qa rfl) X2 Yr rfl (by omega) hx10) ?_
  refine w_ ?_
  refine lc (Qp 5 (.pr .int .bool) JY rfl rfl (Fresh.of rfl) (nlr rfl))<|lc (Qe (Qa rfl) rfl (Qb rfl) rfl Yr rfl) ?_
  iterate 5 refine w_ ?_
  refine AL.fact (QA (x:= .tmp 25) (Qa rfl)) fun hi11=> ?_
  iterate 2 refine w_ ?_
  refine AL.fact (QA (x:= .tmp 27) (Qa rfl)) fun hi12=> ?_
  iterate 4 refine w_ ?_
  refine AL.fact (QA (x:= .tmp 31) (Qa rfl)) fun hi13=>lc (QH Qjt ⟨_,_,rfl,(Qb rfl),⟨_,_,rfl,(Qb rfl),⟨_,_,rfl,(Qb rfl),⟨_,_,rfl,(Qb rfl),rfl⟩⟩⟩⟩ (List.all_eq_true.1 rfl) rfl rfl)<|lc (Qg 6 (e:=(.pr .int (.pr .int (.pr .bool .int)))) Ks WF UE rfl ⟨_,_,rfl,(Qb rfl),rfl⟩ (List.all_eq_true.1 rfl) ⟨_,_,_,_,rfl,⟨[dI mv.1],[dI x9.1,dB x9.2,dI mv.2.2],_,_,_,_,rfl,rfl,⟨rfl,rfl⟩,⟨[dI x9.1],[dB x9.2,dI mv.2.2],_,_,_,_,rfl,rfl,⟨rfl,rfl⟩,⟨[dB x9.2],[dI mv.2.2],_,_,_,_,rfl,rfl,⟨rfl,rfl⟩,⟨rfl,rfl⟩,rfl⟩,rfl⟩,rfl⟩,⟨rfl,rfl⟩,rfl⟩ (by decide) rfl rfl (Fresh.of rfl) (nlr rfl))<|lc (QQ 7 (Qa rfl) rfl (Qa rfl) rfl rfl Ks Qju (by first | omega | (simp only[List.length_append,List.length_map,List.length_take,List.length_cons,List.length_nil]; omega) | (simp only[List.length_append,List.length_drop,List.length_take,List.length_cons,List.length_nil]; omega)) rfl (Fresh.of rfl) (nlr rfl)) ?_
  refine w_ ?_
  refine Qk ?_
  refine (?_:AC _ _ _ _ _)
  iterate 3 refine w_ ?_
  refine Qk<|QU ⟨k+1,by omega,rfl,rfl⟩ (by omega) ?_
  exact Wk.of [(0,0),(3,7)] rfl ⟨rfl,rfl,rfl,rfl,rfl,rfl,trivial⟩ ⟨rfl,(Qy (by rw[QW hx7]; simp[Qc2,hla])),trivial⟩ rfl rfl
theorem Qcc (vs:List UInt8)(i:Nat)(j:Nat)(hi:i < vs.length)(hj:j < vs.length):FC Tryz.prog 230 [(false,[.ept 0 1 i 0]),(false,[.ept 0 1 j 0])] [(0,some (.arr 5 .u8 vs))] 1 (Is (PV.tup [(false,[dB ((agr vs i j).2.1)]),(false,[dB ((agr vs i j).2.2)])]) [(0,some (.arr 5 .u8 ((agr vs i j).1)))]):=by
 refine QN Tryz.func230 rfl rfl Tryz.ntmps230 fun O_ hO w0_ N0_ X_ h0_ f0_=> ?_
 iterate 6 refine w_ ?_
 obtain ⟨ca,hx2⟩:∃z,vs[i]? =some z:=⟨_,List.getElem?_eq_getElem (by omega)⟩
 obtain ⟨cb,hx4⟩:∃z,vs[j]? =some z:=⟨_,List.getElem?_eq_getElem (by omega)⟩
 refine dw [io 7 (lf (.ept 0 1 i 0)),io 8 (lf (.ept 0 1 i 0)),io 9 (lf (.dat .u8 ca)),io 10 (lf (.ept 0 1 j 0)),io 11 (lf (.ept 0 1 j 0)),io 12 (lf (.dat .u8 cb)),io 13 (lB (decide (ca=cb))),io 6 (lB (decide (ca=cb)))] [0,1,3,0,8,24,63,127] mixed rfl (by kernel_rfl) ⟨dxm rfl rfl,fun _ h_=>ac (Xp (h_.v rfl) (by rw[(h_.en 0 rfl)]; rfl) rfl) rfl,fun _ h_=>ac (QL (e:= .u8) (h_.v rfl) (h_.n 0 rfl) hx2 rfl QS rfl rfl) rfl,dxm rfl rfl,fun _ h_=>ac (Xp (h_.v rfl) (by rw[(h_.en 0 rfl)]; rfl) rfl) rfl,fun _ h_=>ac (QL (e:= .u8) (h_.v rfl) (h_.n 0 rfl) hx4 rfl QS rfl rfl) rfl,fun _ h_=>ac (Z7 (h_.v rfl) (h_.v rfl) rfl) rfl,dxt rfl rfl,⟨⟩⟩ ?_
 cases hb5:(decide (ca=cb))
 ·have hb5':=of_decide_eq_false hb5
  iterate 4 refine w_ ?_
  refine lc (QL (e:= .u8) (Qa rfl) rfl hx2 rfl QS rfl rfl)<|lc (Z7 (Qa rfl) (ZR 0 rfl) rfl) ?_
  iterate 2 refine w_ ?_
  cases hb6:(decide (ca=0))
  ·have hb6':=of_decide_eq_false hb6
   iterate 4 refine w_ ?_
   refine lc (QL (e:= .u8) (Qa rfl) rfl hx4 rfl QS rfl rfl)<|lc (Z7 (Qa rfl) (ZR 0 rfl) rfl) ?_
   iterate 2 refine w_ ?_
   cases hb7:(decide (cb=0))
   ·have hb7':=of_decide_eq_false hb7
    refine w_ ?_
    refine AC.skip ?_
    refine (?_:AC _ _ _ _ _)
    iterate 4 refine w_ ?_
    refine Qf ?_
    subst hO
    have e8:(false:Bool)=((agr vs i j).2.1):=by
     (rw[XI (by assumption) (by assumption)]; simp[*]; done)
    have e9:(false:Bool)=((agr vs i j).2.2):=by
     (rw[XI (by assumption) (by assumption)]; simp[*]; done)
    exact QF _ _ [(0,0)] (QC rfl (Qd rfl) (Qd rfl)) (((congrArg (fun z_=>PV.tup [(false,[dB z_]),(false,[dB false])]) e8)).trans (congrArg (fun z_=>PV.tup [(false,[dB ((agr vs i j).2.1)]),(false,[dB z_])]) e9)) ⟨(Qy (by (rw[XI (by assumption) (by assumption)]; simp[*]; done))),trivial⟩ rfl rfl
   ·have hb7':=of_decide_eq_true hb7
    iterate 5 refine w_ ?_
    refine lc (QL (e:= .u8) (Qa rfl) rfl hx2 rfl QS rfl rfl) ?_
    refine w_ ?_
    refine lc (QX (e:= .u8) (z':=ca) (Qa rfl) rfl hx4 rfl (Qb rfl) rfl QS rfl rfl) ?_
    iterate 5 refine w_ ?_
    refine Qf ?_
    subst hO
    have e10:(true:Bool)=((agr vs i j).2.1):=by
     (rw[XI (by assumption) (by assumption)]; simp[*]; done)
    have e11:(true:Bool)=((agr vs i j).2.2):=by
     (rw[XI (by assumption) (by assumption)]; simp[*]; done)
    exact QF _ _ [(0,0)] (QC rfl (Qd rfl) (Qd rfl)) (((congrArg (fun z_=>PV.tup [(false,[dB z_]),(false,[dB true])]) e10)).trans (congrArg (fun z_=>PV.tup [(false,[dB ((agr vs i j).2.1)]),(false,[dB z_])]) e11)) ⟨(Qy (by (rw[XI (by assumption) (by assumption)]; simp[*]; done))),trivial⟩ rfl rfl
  ·have hb6':=of_decide_eq_true hb6
   iterate 5 refine w_ ?_
   refine lc (QL (e:= .u8) (Qa rfl) rfl hx4 rfl QS rfl rfl) ?_
   refine w_ ?_
   refine lc (QX (e:= .u8) (z':=cb) (Qa rfl) rfl hx2 rfl (Qb rfl) rfl QS rfl rfl) ?_
   iterate 5 refine w_ ?_
   refine Qf ?_
   subst hO
   have e12:(true:Bool)=((agr vs i j).2.1):=by
    (rw[XI (by assumption) (by assumption)]; simp_all; done)
   have e13:(true:Bool)=((agr vs i j).2.2):=by
    (rw[XI (by assumption) (by assumption)]; simp_all; done)
   exact QF _ _ [(0,0)] (QC rfl (Qd rfl) (Qd rfl)) (((congrArg (fun z_=>PV.tup [(false,[dB z_]),(false,[dB true])]) e12)).trans (congrArg (fun z_=>PV.tup [(false,[dB ((agr vs i j).2.1)]),(false,[dB z_])]) e13)) ⟨(Qy (by (rw[XI (by assumption) (by assumption)]; simp_all; done))),trivial⟩ rfl rfl
 ·have hb5':=of_decide_eq_true hb5
  iterate 5 refine w_ ?_
  refine Qf ?_
  subst hO
  have e14:(true:Bool)=((agr vs i j).2.1):=by
   (rw[XI (by assumption) (by assumption)]; simp[*]; done)
  have e15:(false:Bool)=((agr vs i j).2.2):=by
   (rw[XI (by assumption) (by assumption)]; simp[*]; done)
  exact QF _ _ [(0,0)] (QC rfl (Qd rfl) (Qd rfl)) (((congrArg (fun z_=>PV.tup [(false,[dB z_]),(false,[dB false])]) e14)).trans (congrArg (fun z_=>PV.tup [(false,[dB ((agr vs i j).2.1)]),(false,[dB z_])]) e15)) ⟨(Qy (by (rw[XI (by assumption) (by assumption)]; simp[*]; done))),trivial⟩ rfl rfl
theorem Vp (c:UInt8)(vs:List UInt8)(i:Nat)(hi:i < vs.length)(hc:decide (c=0)=false):FC Tryz.prog 230 [(false,[.ept 1 1 i 0]),(false,[.ptr 0 0])] [(0,some (.box 5 [.dat .u8 c])),(1,some (.arr 5 .u8 vs))] 2 (Is (PV.tup [(false,[dB ((agb vs i c).2.1)]),(false,[dB ((agb vs i c).2.2)])]) [(0,some (.box 5 [.dat .u8 c])),(1,some (.arr 5 .u8 ((agb vs i c).1)))]):=by
 refine QN Tryz.func230 rfl rfl Tryz.ntmps230 fun O_ hO w0_ N0_ X_ h0_ f0_=> ?_
 iterate 6 refine w_ ?_
 obtain ⟨ca,hx2⟩:∃z,vs[i]? =some z:=⟨_,List.getElem?_eq_getElem (by omega)⟩
 refine dw [io 7 (lf (.ept 1 1 i 0)),io 8 (lf (.ept 1 1 i 0)),io 9 (lf (.dat .u8 ca)),io 10 (lP 0 0),io 11 (lP 0 0),io 12 (lf (.dat .u8 c)),io 13 (lB (decide (ca=c))),io 6 (lB (decide (ca=c)))] [0,1,3,0,8,24,63,127] mixed rfl (by kernel_rfl) ⟨dxm rfl rfl,fun _ h_=>ac (Xp (h_.v rfl) (by rw[(h_.en 1 rfl)]; rfl) rfl) rfl,fun _ h_=>ac (QL (e:= .u8) (h_.v rfl) (h_.n 1 rfl) hx2 rfl QS rfl rfl) rfl,dxm rfl rfl,dxn rfl rfl rfl,dxl QS rfl rfl rfl rfl rfl,fun _ h_=>ac (Z7 (h_.v rfl) (h_.v rfl) rfl) rfl,dxt rfl rfl,⟨⟩⟩ ?_
 cases hb3:(decide (ca=c))
 ·have hb3':=of_decide_eq_false hb3
  iterate 4 refine w_ ?_
  refine lc (QL (e:= .u8) (Qa rfl) rfl hx2 rfl QS rfl rfl)<|lc (Z7 (Qa rfl) (ZR 0 rfl) rfl) ?_
  iterate 2 refine w_ ?_
  cases hb4:(decide (ca=0))
  ·have hb4':=of_decide_eq_false hb4
   iterate 5 refine w_ ?_
   refine lc (Z7 (Qa rfl) (ZR 0 rfl) rfl) ?_
   iterate 2 refine w_ ?_
   cases hb5:(decide (c=0))
   ·have hb5':=of_decide_eq_false hb5
    refine w_ ?_
    refine AC.skip ?_
    refine (?_:AC _ _ _ _ _)
    iterate 4 refine w_ ?_
    refine Qf ?_
    subst hO
    have e6:(false:Bool)=((agb vs i c).2.1):=by
     (rw[Wy (by assumption)]; simp[*]; done)
    have e7:(false:Bool)=((agb vs i c).2.2):=by
     (rw[Wy (by assumption)]; simp[*]; done)
    exact QF _ _ [(0,0),(1,1)] (QC rfl (Qd rfl) (Qd rfl)) (((congrArg (fun z_=>PV.tup [(false,[dB z_]),(false,[dB false])]) e6)).trans (congrArg (fun z_=>PV.tup [(false,[dB ((agb vs i c).2.1)]),(false,[dB z_])]) e7)) ⟨rfl,(Qy (by (rw[Wy (by assumption)]; simp[*]; done))),trivial⟩ rfl rfl
   · exact absurd (hb5.symm.trans (show (decide (c=0))=false from hc)) (by decide)
  ·have hb4':=of_decide_eq_true hb4
   iterate 7 refine w_ ?_
   refine lc (QX (e:= .u8) (z':=c) (Qa rfl) rfl hx2 rfl (Qb rfl) rfl QS rfl rfl) ?_
   iterate 5 refine w_ ?_
   refine Qf ?_
   subst hO
   have e8:(true:Bool)=((agb vs i c).2.1):=by
    (rw[Wy (by assumption)]; simp_all; done)
   have e9:(true:Bool)=((agb vs i c).2.2):=by
    (rw[Wy (by assumption)]; simp_all; done)
   exact QF _ _ [(0,0),(1,1)] (QC rfl (Qd rfl) (Qd rfl)) (((congrArg (fun z_=>PV.tup [(false,[dB z_]),(false,[dB true])]) e8)).trans (congrArg (fun z_=>PV.tup [(false,[dB ((agb vs i c).2.1)]),(false,[dB z_])]) e9)) ⟨rfl,(Qy (by (rw[Wy (by assumption)]; simp_all; done))),trivial⟩ rfl rfl
 ·have hb3':=of_decide_eq_true hb3
  iterate 5 refine w_ ?_
  refine Qf ?_
  subst hO
  have e10:(true:Bool)=((agb vs i c).2.1):=by
   (rw[Wy (by assumption)]; simp[*]; done)
  have e11:(false:Bool)=((agb vs i c).2.2):=by
   (rw[Wy (by assumption)]; simp[*]; done)
  exact QF _ _ [(0,0),(1,1)] (QC rfl (Qd rfl) (Qd rfl)) (((congrArg (fun z_=>PV.tup [(false,[dB z_]),(false,[dB false])]) e10)).trans (congrArg (fun z_=>PV.tup [(false,[dB ((agb vs i c).2.1)]),(false,[dB z_])]) e11)) ⟨rfl,(Qy (by (rw[Wy (by assumption)]; simp[*]; done))),trivial⟩ rfl rfl
theorem H9 (n:Int)(arcs:List (Int×Int×Bool×Int))(sig:Int)(hn:0≤n∧n≤1000000)(ha:∀a∈arcs,InR n.toNat a):FC Tryz.prog 170 [(false,[dI n]),(false,[.dat (.sl 179 (.pr .int (.pr .int (.pr .bool .int)))) arcs]),(false,[dI sig])] [] 0 (Is (PV.tup [(false,[.ref 0]),(false,[dB ((ZX n.toNat arcs sig).2)])]) [(0,some (.arr 5 .u8 ((ZX n.toNat arcs sig).1)))]):=by
 refine QN Tryz.func170 rfl rfl Tryz.ntmps170 fun O_ hO w0_ N0_ X_ h0_ f0_=> ?_
 refine AC.fact (QA (x:= .tmp 0) (Qa rfl)) fun hi1=>AC.fact (QA (x:= .tmp 2) (Qa rfl)) fun hi2=> ?_
 iterate 6 refine w_ ?_
 refine lc (Qhn 0 (e:= .u8) (n:=n) (Qa rfl) (Qa rfl) QV Qn7 rfl (by omega) (by omega) (by omega) rfl (Fresh.of rfl) (nlr rfl)) ?_
 iterate 7 refine w_ ?_
 refine Qx (fun m_ s_=>∃(vs:List UInt8) (ch:Bool),m_=(if ch=true then ZN vs+1 else 0)∧(X3 sig arcs (n.toNat+1) (List.replicate n.toNat 0)=(if ch=true then X3 sig arcs (ZN vs+1) vs else some vs))∧(vs.length=n.toNat)∧s_=⟨[(1,lf (.dat (.sl 179 (.pr .int (.pr .int (.pr .bool .int)))) arcs)),(2,lI sig),(8,lR 1),(9,lB ch)],[(1,some (.arr 5 .u8 vs))]⟩) ⟨List.replicate (n).toNat (Ty.zero .u8),true,rfl,(by rw[if_pos rfl]; show _=X3 sig arcs (ZN (List.replicate n.toNat 0)+1) (List.replicate n.toNat 0); rw[QfM]),(by simp),rfl⟩ ?_ ?_
 · exact Wk.of [(1,0)] rfl ⟨rfl,rfl,rfl,rfl,trivial⟩ ⟨(Qy (by first | rfl | simp)),trivial⟩ rfl rfl
 rintro m_ s_ ⟨vs,ch,hm4,hA,hL,rfl⟩
 iterate 4 refine w_ ?_
 cases hb5:(ch)
 ·refine w_ ?_
  refine QB ?_
  refine (?_:AC _ _ _ _ _)
  iterate 7 refine w_ ?_
  refine Qx (fun m_ s_=>∃(j:Nat),j≤vs.length∧m_=vs.length - j∧s_=⟨[(8,lR 2),(88,lR 2),(89,lI (vs.length:Int)),(90,lI (j:Int))],[(2,some (.arr 5 .u8 (Xr vs j)))]⟩) ⟨0,Nat.zero_le _,rfl,rfl⟩ ?_ ?_
  · exact Wk.of [(2,1)] rfl ⟨rfl,rfl,rfl,rfl,trivial⟩ ⟨(Qy ((Qne vs).symm)),trivial⟩ rfl rfl
  rintro m_ s_ ⟨j,hk6,hm7,rfl⟩
  have hfl:=Qeg vs j
  iterate 4 refine w_ ?_
  cases hb8:(decide ((j:Int) < (vs.length:Int)))
  ·have hb8':=of_decide_eq_false hb8
   refine w_ ?_
   refine QB ?_
   refine (?_:AC _ _ _ _ _)
   iterate 5 refine w_ ?_
   refine Qf ?_
   subst hO
   have e9:(true:Bool)=((ZX n.toNat arcs sig).2):=by
    (rw[Qaz (vs:=vs) (by rw[hA,if_neg (by simp[*])])]; done)
   exact QF _ _ [(0,2)] (QC rfl (Qd rfl) (Qd rfl)) ((congrArg (fun z_=>PV.tup [(false,[.ref 2]),(false,[dB z_])]) e9)) ⟨(Qy (by (rw[Qaz (vs:=vs) (by rw[hA,if_neg (by simp[*])]),QkI (by omega)]; done))),trivial⟩ rfl rfl
  ·have hb8':=of_decide_eq_true hb8
   iterate 6 refine w_ ?_
   refine lc (Qu (e:= .u8) (Qa rfl) rfl (Qa rfl) QV QS rfl (by omega) (by first | omega | (simp only[List.length_set]; omega))) ?_
   obtain ⟨x10,hx11⟩:∃z,(Xr vs j)[j]? =some z:=⟨_,List.getElem?_eq_getElem (by omega)⟩
   refine lc (QL (e:= .u8) (Qa rfl) rfl hx11 rfl QS rfl rfl) ?_
   iterate 5 refine w_ ?_
   refine lc (Z7 (Qa rfl) (ZR 0 rfl) rfl) ?_
   refine w_ ?_
   cases hb12:(decide (x10=0))
   ·have hb12':=of_decide_eq_false hb12
    refine w_ ?_
    refine AC.skip ?_
    refine (?_:AC _ _ _ _ _)
    iterate 3 refine w_ ?_
    refine Qk<|QU ⟨j+1,by omega,rfl,rfl⟩ (by omega) ?_
    exact Wk.of [(2,2)] rfl ⟨rfl,rfl,rfl,rfl,trivial⟩ ⟨(Qy (by first | exact Qel hx11 (by assumption) | exact Qcf hx11 (by assumption))),trivial⟩ rfl rfl
   ·have hb12':=of_decide_eq_true hb12
    iterate 4 refine w_ ?_
    refine lc (Qu (e:= .u8) (Qa rfl) rfl (Qa rfl) QV QS rfl (by omega) (by first | omega | (simp only[List.length_set]; omega)))<|lc (QX (e:= .u8) (z':=48) (Qa rfl) rfl hx11 rfl (Evl.ev (ZR 48 rfl)) rfl QS rfl rfl)<|Qk ?_
    refine (?_:AC _ _ _ _ _)
    iterate 3 refine w_ ?_
    refine Qk<|QU ⟨j+1,by omega,rfl,rfl⟩ (by omega) ?_
    exact Wk.of [(2,2)] rfl ⟨rfl,rfl,rfl,rfl,trivial⟩ ⟨(Qy (by first | exact Qel hx11 (by assumption) | exact Qcf hx11 (by assumption))),trivial⟩ rfl rfl
 ·iterate 8 refine w_ ?_
  refine AL.fact (Qq (x:= .tmp 27) (Qa rfl)) fun hl13=> ?_
  iterate 4 refine w_ ?_
  refine Qx (fun m_ s_=>∃(i:Nat) (vs2:List UInt8) (ch2:Bool),i≤arcs.length∧m_=arcs.length - i∧(X3 sig arcs (n.toNat+1) (List.replicate n.toNat 0)=QaH sig arcs (ZN vs) (YD sig (arcs.drop i) vs2 ch2))∧(vs2.length=n.toNat)∧(ZN vs2≤ZN vs∧(ch2=true→ZN vs2 < ZN vs))∧s_=⟨[(1,lf (.dat (.sl 179 (.pr .int (.pr .int (.pr .bool .int)))) arcs)),(2,lI sig),(8,lR 3),(9,lB ch2),(26,lB true),(27,lf (.dat (.sl 179 (.pr .int (.pr .int (.pr .bool .int)))) arcs)),(28,lI (arcs.length:Int)),(29,lI (i:Int))],[(3,some (.arr 5 .u8 vs2))]⟩) ⟨0,vs,false,Nat.zero_le _,rfl,(by rw[hA,if_pos (by assumption)]; exact Qnu _ _),hL,⟨Nat.le_refl _,fun h=>by cases h⟩,rfl⟩ ?_ ?_
  · exact Wk.of [(3,1)] rfl ⟨rfl,rfl,rfl,rfl,rfl,rfl,rfl,rfl,trivial⟩ ⟨rfl,trivial⟩ rfl rfl
  rintro m_ s_ ⟨i,vs2,ch2,hk14,hm15,hA2,hL2,hC,rfl⟩
  iterate 4 refine w_ ?_
  cases hb16:(decide ((i:Int) < (arcs.length:Int)))
  ·have hb16':=of_decide_eq_false hb16
   refine w_ ?_
   refine QB<|QU ⟨vs2,ch2,rfl,(by rw[hA2,Qkk (by omega)]; exact Qhz ha hL2 hC),hL2,rfl⟩ (by exact QlM hm4 (by assumption) hC) ?_
   exact Wk.of [(1,3)] rfl ⟨rfl,rfl,rfl,rfl,trivial⟩ ⟨rfl,trivial⟩ rfl rfl
  ·have hb16':=of_decide_eq_true hb16
   iterate 5 refine w_ ?_
   obtain ⟨ar,hx18⟩:∃z,arcs[i]? =some z:=⟨_,List.getElem?_eq_getElem (by omega)⟩
   have hra:=ha _ (List.mem_of_getElem? hx18)
   obtain ⟨⟨hr1,hr2⟩,hr3,hr4⟩:=hra
   refine lc (Qh (Qa rfl) (Qa rfl) Ks WF rfl (by omega) hx18) ?_
   refine w_ ?_
   refine lc (Qp 4 (.pr .int (.pr .int (.pr .bool .int))) UE rfl rfl (Fresh.of rfl) (nlr rfl))<|lc (Qe (Qa rfl) rfl (Qb rfl) rfl WF rfl) ?_
   refine w_ ?_
   refine dw [io 33 (lR 3),io 34 (lP 4 0),io 35 (lI ar.1),io 36 (lf (.ept 3 1 ((ar.1).toNat) 0)),io 37 (lR 3),io 38 (lP 4 3),io 39 (lI ar.2.2.2),io 40 (lf (.ept 3 1 ((ar.2.2.2).toNat) 0)),io 12 (lf (.ept 3 1 ((ar.1).toNat) 0)),io 13 (lf (.ept 3 1 ((ar.2.2.2).toNat) 0))] [0,0,2,7,0,0,32,112,15,511] mixed rfl (by kernel_rfl) ⟨dxm rfl rfl,dxf QeE rfl rfl rfl,dxl QO rfl rfl rfl rfl rfl,fun _ h_=>ac (Qu (e:= .u8) (h_.v rfl) (h_.en 3 rfl) (h_.v rfl) QV QS rfl (by omega) (by first | omega | (simp only[List.length_set]; omega))) rfl,dxm rfl rfl,dxf QkD rfl rfl rfl,dxl QO rfl rfl rfl rfl rfl,fun _ h_=>ac (Qu (e:= .u8) (h_.v rfl) (h_.en 3 rfl) (h_.v rfl) QV QS rfl (by omega) (by first | omega | (simp only[List.length_set]; omega))) rfl,dxt rfl rfl,dxt rfl rfl,⟨⟩⟩ ?_
   iterate 4 refine w_ ?_
   refine AL.fact (QA (x:= .tmp 42) (Qa rfl)) fun hi19=> ?_
   iterate 3 refine w_ ?_
   cases hb20:(decide (ar.2.1=sig))
   ·have hb20':=of_decide_eq_false hb20
    iterate 5 refine w_ ?_
    refine lc (Za 5 [(0,3)] (Qcc vs2 ((ar.1).toNat) ((ar.2.2.2).toNat) (by omega) (by omega)) JE ⟨_,_,rfl,(Qb rfl),⟨_,_,rfl,(Qb rfl),rfl⟩⟩ ⟨rfl,trivial⟩ rfl ⟨trivial,trivial⟩ (nlr rfl)) ?_
    iterate 11 refine w_ ?_
    cases hb21:((agr vs2 ((ar.1).toNat) ((ar.2.2.2).toNat)).2.1)
    ·iterate 5 refine w_ ?_
     refine AC.wk (Wk.nilS 6 6 5 .u8 rfl (Fresh.of rfl) (nlr rfl))<|Qf ?_
     subst hO
     have e22:(false:Bool)=((ZX n.toNat arcs sig).2):=by
      (rw[Y9 (by rw[hA2,WS hx18 (by first | exact X4 (by assumption) (by assumption) | exact XT (by assumption) (by assumption) | exact WU (by assumption) (by assumption))]; rfl)]; done)
     exact QF _ _ [(0,6)] (QC rfl (Qd rfl) (Qd rfl)) ((congrArg (fun z_=>PV.tup [(false,[.ref 6]),(false,[dB z_])]) e22)) ⟨(Qy (by (rw[Y9 (by rw[hA2,WS hx18 (by first | exact X4 (by assumption) (by assumption) | exact XT (by assumption) (by assumption) | exact WU (by assumption) (by assumption))]; rfl)]; done))),trivial⟩ rfl rfl
    ·iterate 5 refine w_ ?_
     cases hb23:(ch2)
     ·iterate 3 refine w_ ?_
      refine Qk ?_
      refine (?_:AC _ _ _ _ _)
      iterate 3 refine w_ ?_
      refine Qk<|QU ⟨i+1,((agr vs2 ((ar.1).toNat) ((ar.2.2.2).toNat)).1),((agr vs2 ((ar.1).toNat) ((ar.2.2.2).toNat)).2.2),by omega,rfl,hA2.trans (congrArg (QaH sig arcs (ZN vs)) (Kq hx18 (by first | exact YA (by assumption) (by assumption) (by assumption) | exact Xb (by assumption) (by assumption)) (by first | exact Qa1 (by assumption) | exact Qds (by assumption) (by assumption) | exact Qdv (by assumption) (by assumption) | exact QaW (by assumption)))),(by (rw[Qe7]; exact hL2)),(Kl hC (YK (by rw[hL2]; exact ⟨⟨hr1,hr2⟩,hr3,hr4⟩) (by first | exact YA (by assumption) (by assumption) (by assumption) | exact Xb (by assumption) (by assumption))) (by first | exact Qa1 (by assumption) | exact Qds (by assumption) (by assumption) | exact Qdv (by assumption) (by assumption) | exact QaW (by assumption))),rfl⟩ (by omega) ?_
      exact Wk.of [(3,3)] rfl ⟨rfl,rfl,rfl,rfl,rfl,rfl,rfl,rfl,trivial⟩ ⟨rfl,trivial⟩ rfl rfl
     ·iterate 3 refine w_ ?_
      refine Qk ?_
      refine (?_:AC _ _ _ _ _)
      iterate 3 refine w_ ?_
      refine Qk<|QU ⟨i+1,((agr vs2 ((ar.1).toNat) ((ar.2.2.2).toNat)).1),true,by omega,rfl,hA2.trans (congrArg (QaH sig arcs (ZN vs)) (Kq hx18 (by first | exact YA (by assumption) (by assumption) (by assumption) | exact Xb (by assumption) (by assumption)) (by first | exact Qa1 (by assumption) | exact Qds (by assumption) (by assumption) | exact Qdv (by assumption) (by assumption) | exact QaW (by assumption)))),(by (rw[Qe7]; exact hL2)),(Kl hC (YK (by rw[hL2]; exact ⟨⟨hr1,hr2⟩,hr3,hr4⟩) (by first | exact YA (by assumption) (by assumption) (by assumption) | exact Xb (by assumption) (by assumption))) (by first | exact Qa1 (by assumption) | exact Qds (by assumption) (by assumption) | exact Qdv (by assumption) (by assumption) | exact QaW (by assumption))),rfl⟩ (by omega) ?_
      exact Wk.of [(3,3)] rfl ⟨rfl,rfl,rfl,rfl,rfl,rfl,rfl,rfl,trivial⟩ ⟨rfl,trivial⟩ rfl rfl
   ·have hb20':=of_decide_eq_true hb20
    refine w_ ?_
    refine dw [io 45 (lP 4 2),io 46 (lB ar.2.2.1),io 47 (lB (!ar.2.2.1)),io 48 (lf (.dat .u8 (if (!ar.2.2.1) then 49 else 48))),io 49 (lP 4 2),io 50 (lB ar.2.2.1),io 51 (lf (.dat .u8 (if ar.2.2.1 then 49 else 48))),⟨some 14,lP 7 0,[(7,some (.box 5 [.dat .u8 0]))]⟩,⟨some 15,lP 8 0,[(8,some (.box 5 [.dat .u8 0]))]⟩,⟨none,lf (.val undef),[(7,some (.box 5 [.dat .u8 (if (!ar.2.2.1) then 49 else 48)]))]⟩,⟨none,lf (.val undef),[(8,some (.box 5 [.dat .u8 (if ar.2.2.1 then 49 else 48)]))]⟩] [0,1,3,7,0,16,63,0,0,511,1023] mixed rfl (by kernel_rfl) ⟨dxf QaC rfl rfl rfl,dxl WW rfl rfl rfl rfl rfl,fun _ h_=>ac (Wn (h_.v rfl) rfl) rfl,fun _ h_=>ac (Qn (KD (!ar.2.2.1)) JU ⟨_,_,rfl,(h_.w rfl),rfl⟩ rfl rfl) rfl,dxf QaC rfl rfl rfl,dxl WW rfl rfl rfl rfl rfl,fun _ h_=>ac (Qn (KD ar.2.2.1) JU ⟨_,_,rfl,(h_.w rfl),rfl⟩ rfl rfl) rfl,fun _ h_=>ac (Qp 7 .u8 Qf8 rfl rfl (h_.fr 7 rfl) (nlr rfl)) rfl,fun _ h_=>ac (Qp 8 .u8 Qf8 rfl rfl (h_.fr 8 rfl) (nlr rfl)) rfl,fun _ h_=>ac (Qe (h_.v rfl) (h_.n 7 rfl) (h_.w rfl) rfl QS rfl) rfl,fun _ h_=>ac (Qe (h_.v rfl) (h_.n 8 rfl) (h_.w rfl) rfl QS rfl) rfl,⟨⟩⟩ ?_
    iterate 2 refine w_ ?_
    refine lc (Za 9 [(0,7),(1,3)] (Vp (if (!ar.2.2.1) then 49 else 48) vs2 ((ar.1).toNat) (by omega) (Qi6 _)) JE ⟨_,_,rfl,(Qb rfl),⟨_,_,rfl,(Qb rfl),rfl⟩⟩ ⟨rfl,rfl,trivial⟩ rfl ⟨trivial,trivial,trivial⟩ (nlr rfl)) ?_
    iterate 8 refine w_ ?_
    refine lc (Za 11 [(0,8),(1,3)] (Vp (if ar.2.2.1 then 49 else 48) ((agb vs2 ((ar.1).toNat) (if (!ar.2.2.1) then 49 else 48)).1) ((ar.2.2.2).toNat) (by rw[X9]; omega) (Qi6 _)) JE ⟨_,_,rfl,(Qb rfl),⟨_,_,rfl,(Qb rfl),rfl⟩⟩ ⟨rfl,rfl,trivial⟩ rfl ⟨trivial,trivial,trivial⟩ (nlr rfl)) ?_
    iterate 11 refine w_ ?_
    cases hb24:((agb vs2 ((ar.1).toNat) (if (!ar.2.2.1) then 49 else 48)).2.1)
    ·iterate 9 refine w_ ?_
     refine AC.wk (Wk.nilS 13 6 5 .u8 rfl (Fresh.of rfl) (nlr rfl))<|Qf ?_
     subst hO
     have e25:(false:Bool)=((ZX n.toNat arcs sig).2):=by
      (rw[Y9 (by rw[hA2,WS hx18 (by first | exact X4 (by assumption) (by assumption) | exact XT (by assumption) (by assumption) | exact WU (by assumption) (by assumption))]; rfl)]; done)
     exact QF _ _ [(0,13)] (QC rfl (Qd rfl) (Qd rfl)) ((congrArg (fun z_=>PV.tup [(false,[.ref 13]),(false,[dB z_])]) e25)) ⟨(Qy (by (rw[Y9 (by rw[hA2,WS hx18 (by first | exact X4 (by assumption) (by assumption) | exact XT (by assumption) (by assumption) | exact WU (by assumption) (by assumption))]; rfl)]; done))),trivial⟩ rfl rfl
    ·iterate 4 refine w_ ?_
     cases hb26:((agb ((agb vs2 ((ar.1).toNat) (if (!ar.2.2.1) then 49 else 48)).1) ((ar.2.2.2).toNat) (if ar.2.2.1 then 49 else 48)).2.1)
     ·iterate 5 refine w_ ?_
      refine AC.wk (Wk.nilS 14 6 5 .u8 rfl (Fresh.of rfl) (nlr rfl))<|Qf ?_
      subst hO
      have e27:(false:Bool)=((ZX n.toNat arcs sig).2):=by
       (rw[Y9 (by rw[hA2,WS hx18 (by first | exact X4 (by assumption) (by assumption) | exact XT (by assumption) (by assumption) | exact WU (by assumption) (by assumption))]; rfl)]; done)
      exact QF _ _ [(0,14)] (QC rfl (Qd rfl) (Qd rfl)) ((congrArg (fun z_=>PV.tup [(false,[.ref 14]),(false,[dB z_])]) e27)) ⟨(Qy (by (rw[Y9 (by rw[hA2,WS hx18 (by first | exact X4 (by assumption) (by assumption) | exact XT (by assumption) (by assumption) | exact WU (by assumption) (by assumption))]; rfl)]; done))),trivial⟩ rfl rfl
     ·iterate 5 refine w_ ?_
      cases hb28:(ch2)
      ·iterate 3 refine w_ ?_
       cases hb29:((agb vs2 ((ar.1).toNat) (if (!ar.2.2.1) then 49 else 48)).2.2)
       ·iterate 4 refine w_ ?_
        refine QB ?_
        refine (?_:AC _ _ _ _ _)
        iterate 3 refine w_ ?_
        refine Qk<|QU ⟨i+1,((agb ((agb vs2 ((ar.1).toNat) (if (!ar.2.2.1) then 49 else 48)).1) ((ar.2.2.2).toNat) (if ar.2.2.1 then 49 else 48)).1),((agb ((agb vs2 ((ar.1).toNat) (if (!ar.2.2.1) then 49 else 48)).1) ((ar.2.2.2).toNat) (if ar.2.2.1 then 49 else 48)).2.2),by omega,rfl,hA2.trans (congrArg (QaH sig arcs (ZN vs)) (Kq hx18 (by first | exact YA (by assumption) (by assumption) (by assumption) | exact Xb (by assumption) (by assumption)) (by first | exact Qa1 (by assumption) | exact Qds (by assumption) (by assumption) | exact Qdv (by assumption) (by assumption) | exact QaW (by assumption)))),(by (rw[X9,X9]; exact hL2)),(Kl hC (YK (by rw[hL2]; exact ⟨⟨hr1,hr2⟩,hr3,hr4⟩) (by first | exact YA (by assumption) (by assumption) (by assumption) | exact Xb (by assumption) (by assumption))) (by first | exact Qa1 (by assumption) | exact Qds (by assumption) (by assumption) | exact Qdv (by assumption) (by assumption) | exact QaW (by assumption))),rfl⟩ (by omega) ?_
        exact Wk.of [(3,3)] rfl ⟨rfl,rfl,rfl,rfl,rfl,rfl,rfl,rfl,trivial⟩ ⟨rfl,trivial⟩ rfl rfl
       ·iterate 4 refine w_ ?_
        refine QB ?_
        refine (?_:AC _ _ _ _ _)
        iterate 3 refine w_ ?_
        refine Qk<|QU ⟨i+1,((agb ((agb vs2 ((ar.1).toNat) (if (!ar.2.2.1) then 49 else 48)).1) ((ar.2.2.2).toNat) (if ar.2.2.1 then 49 else 48)).1),true,by omega,rfl,hA2.trans (congrArg (QaH sig arcs (ZN vs)) (Kq hx18 (by first | exact YA (by assumption) (by assumption) (by assumption) | exact Xb (by assumption) (by assumption)) (by first | exact Qa1 (by assumption) | exact Qds (by assumption) (by assumption) | exact Qdv (by assumption) (by assumption) | exact QaW (by assumption)))),(by (rw[X9,X9]; exact hL2)),(Kl hC (YK (by rw[hL2]; exact ⟨⟨hr1,hr2⟩,hr3,hr4⟩) (by first | exact YA (by assumption) (by assumption) (by assumption) | exact Xb (by assumption) (by assumption))) (by first | exact Qa1 (by assumption) | exact Qds (by assumption) (by assumption) | exact Qdv (by assumption) (by assumption) | exact QaW (by assumption))),rfl⟩ (by omega) ?_
        exact Wk.of [(3,3)] rfl ⟨rfl,rfl,rfl,rfl,rfl,rfl,rfl,rfl,trivial⟩ ⟨rfl,trivial⟩ rfl rfl
      ·iterate 7 refine w_ ?_
       refine QB ?_
       refine (?_:AC _ _ _ _ _)
       iterate 3 refine w_ ?_
       refine Qk<|QU ⟨i+1,((agb ((agb vs2 ((ar.1).toNat) (if (!ar.2.2.1) then 49 else 48)).1) ((ar.2.2.2).toNat) (if ar.2.2.1 then 49 else 48)).1),true,by omega,rfl,hA2.trans (congrArg (QaH sig arcs (ZN vs)) (Kq hx18 (by first | exact YA (by assumption) (by assumption) (by assumption) | exact Xb (by assumption) (by assumption)) (by first | exact Qa1 (by assumption) | exact Qds (by assumption) (by assumption) | exact Qdv (by assumption) (by assumption) | exact QaW (by assumption)))),(by (rw[X9,X9]; exact hL2)),(Kl hC (YK (by rw[hL2]; exact ⟨⟨hr1,hr2⟩,hr3,hr4⟩) (by first | exact YA (by assumption) (by assumption) (by assumption) | exact Xb (by assumption) (by assumption))) (by first | exact Qa1 (by assumption) | exact Qds (by assumption) (by assumption) | exact Qdv (by assumption) (by assumption) | exact QaW (by assumption))),rfl⟩ (by omega) ?_
       exact Wk.of [(3,3)] rfl ⟨rfl,rfl,rfl,rfl,rfl,rfl,rfl,rfl,trivial⟩ ⟨rfl,trivial⟩ rfl rfl
end Go.Proofs.YtnakmhfjafecpaaGreat
