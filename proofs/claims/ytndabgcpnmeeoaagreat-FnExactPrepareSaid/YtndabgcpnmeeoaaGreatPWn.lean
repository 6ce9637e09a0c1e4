/- Walks over abstract states: labelled arcs, the values of a signal. -/
import Derived.Test.YtndabgcpnmeeoaaGreatPWk
set_option linter.unusedSimpArgs false
set_option linter.unusedVariables false
set_option linter.unusedSectionVars false
namespace Go.Proofs.YtndabgcpnmeeoaaGreat
open Go.RowKit
set_option maxRecDepth 100000
set_option maxHeartbeats 4000000
abbrev DMv:=Int×Int×Int
abbrev DAr:=Int×Int×Bool×Int
def Qgx (ls:List Zl)(t:Int):Zl:=(ls[t.toNat]?).getD (0,false)
theorem QeI {ls:List Zl}{t:Int}{y:Zl}(h:ls[t.toNat]? =some y):Qgx ls t=y:=by unfold Qgx; rw[h]; rfl
def QhE (ls:List Zl)(m:DMv):DAr:=(m.1,(Qgx ls m.2.1).1,(Qgx ls m.2.1).2,m.2.2)
def QL (ls:List Zl)(ms:List DMv):List DAr:=ms.map (QhE ls)
def bv (l:List UInt8)(i:Nat):UInt8:=(l[i]?).getD 0
theorem Yt {l:List UInt8}{i:Nat}{c:UInt8}(h:l[i]? =some c):bv l i=c:=by unfold bv; rw[h]; rfl
def agr (vs:List UInt8)(i j:Nat):List UInt8×Bool×Bool:=
 if bv vs i=bv vs j then (vs,true,false) else if bv vs i=0 then (vs.set i (bv vs j),true,true) else if bv vs j=0 then (vs.set j (bv vs i),true,true) else (vs,false,false)
def agb (vs:List UInt8)(i:Nat)(c:UInt8):List UInt8×Bool×Bool:=
 if bv vs i=c then (vs,true,false) else if bv vs i=0 then (vs.set i c,true,true) else (vs,false,false)
section
variable {vs vs':List UInt8}{i j k:Nat}{a b c:UInt8}
theorem Wv (d:vs[i]? =some a)(e:vs[j]? =some b):agr vs i j=if a=b then (vs,true,false) else if a=0 then (vs.set i b,true,true) else if b=0 then (vs.set j a,true,true) else (vs,false,false):=by
 unfold agr; rw[Yt d,Yt e]
theorem VA (d:vs[i]? =some a):agb vs i c=if a=c then (vs,true,false) else if a=0 then (vs.set i c,true,true) else (vs,false,false):=by
 unfold agb; rw[Yt d]
theorem QiG (vs:List UInt8)(i j:Nat):(agr vs i j).1.length=vs.length:=by
 unfold agr; split <;> try rfl
 split <;> try simp
 split <;> simp
theorem W9 (vs:List UInt8)(i:Nat)(c:UInt8):(agb vs i c).1.length=vs.length:=by
 unfold agb; split <;> try rfl
 split <;> simp
def ZX (vs:List UInt8):Nat:=(vs.filter fun c=>c=0).length
theorem Qkw (n:Nat):ZX (List.replicate n 0)=n:=by simp[ZX]
theorem Qfs {l:List UInt8}(h:l[i]? =some 0)(d:c≠0):ZX (l.set i c)+1=ZX l:=by
 induction l generalizing i with
 | nil=>simp at h
 | cons x l e=>
  cases i with
  | zero=>
   simp only[bk,bi] at h
   subst h
   simp[ZX,d]
  | succ i=>
   have:=e (i:=i) (by simpa using h)
   simp only[ZX,cG,List.filter_cons] at this ⊢
   split <;> simp_all
theorem QtY (m:i < vs.length)(o:j < vs.length):ZX (agr vs i j).1≤ZX vs∧((agr vs i j).2.2=true→ZX (agr vs i j).1 < ZX vs)∧((agr vs i j).2.1=true→(agr vs i j).2.2=false→(agr vs i j).1=vs):=by
 have d:=ae m
 have e:=ae o
 rw[Wv d e]
 split
 ·simp
 ·rename_i l
  split
  ·rename_i g
   rw[g] at d l
   have:=Qfs d (c:=vs[j]) (fun h=>l h.symm)
   simp; omega
  ·rename_i g
   split
   ·rename_i p
    rw[p] at e
    have:=Qfs e g
    simp; omega
   ·simp
theorem Qox (e:i < vs.length)(h:c≠0):ZX (agb vs i c).1≤ZX vs∧((agb vs i c).2.2=true→ZX (agb vs i c).1 < ZX vs)∧((agb vs i c).2.1=true→(agb vs i c).2.2=false→(agb vs i c).1=vs):=by
 have d:=ae e
 rw[VA d]
 split
 ·simp
 ·split
  ·rename_i g
   rw[g] at d
   have:=Qfs d h
   simp; omega
  ·simp
end
def Xz (sig:Int)(a:DAr)(vs:List UInt8):Option (List UInt8×Bool):=
 if a.2.1=sig then
  (if (agb vs a.1.toNat (if (!a.2.2.1) = true then 49 else 48)).2.1 = true ∧ (agb (agb vs a.1.toNat (if (!a.2.2.1) = true then 49 else 48)).1 a.2.2.2.toNat (if a.2.2.1 = true then 49 else 48)).2.1 = true then
   some ((agb (agb vs a.1.toNat (if (!a.2.2.1)=true then 49 else 48)).1 a.2.2.2.toNat (if a.2.2.1=true then 49 else 48)).1,(agb vs a.1.toNat (if (!a.2.2.1)=true then 49 else 48)).2.2||(agb (agb vs a.1.toNat (if (!a.2.2.1)=true then 49 else 48)).1 a.2.2.2.toNat (if a.2.2.1=true then 49 else 48)).2.2)
  else none)
 else if (agr vs a.1.toNat a.2.2.2.toNat).2.1=true then some ((agr vs a.1.toNat a.2.2.2.toNat).1,(agr vs a.1.toNat a.2.2.2.toNat).2.2) else none
def Xg (sig:Int):List DAr→List UInt8→Bool→Option (List UInt8×Bool)
 | [],vs,ch=>some (vs,ch)
 | a :: rs,vs,ch=>match Xz sig a vs with
  | none=>none
  | some (vs',c)=>Xg sig rs vs' (ch||c)
def W2 (sig:Int)(arcs:List DAr):Nat→List UInt8→Option (List UInt8)
 | 0,vs=>some vs
 | f+1,vs=>match Xg sig arcs vs false with
  | none=>none
  | some (vs',ch)=>if ch=true then W2 sig arcs f vs' else some vs'
def QdP (sig:Int)(arcs:List DAr)(f:Nat):Option (List UInt8×Bool)→Option (List UInt8)
 | none=>none
 | some (vs',ch)=>if ch=true then W2 sig arcs f vs' else some vs'
def fz (c:UInt8):UInt8:=if c=0 then 48 else c
def Ya (n:Nat)(arcs:List DAr)(sig:Int):List UInt8×Bool:=match W2 sig arcs (n+1) (List.replicate n 0) with
 | none=>([],false)
 | some vs=>(vs.map fz,true)
def InR (n:Int)(a:DAr):Prop:=(0≤a.1∧a.1 < n)∧0≤a.2.2.2∧a.2.2.2 < n
section
variable {sig n:Int}{a:DAr}{vs vs':List UInt8}{arcs rs:List DAr}{ch ch' c:Bool}{f k:Nat}
theorem Xb (g:a.2.1=sig)(d:(agb vs a.1.toNat (if (!a.2.2.1)=true then 49 else 48)).2.1=true)(e:(agb (agb vs a.1.toNat (if (!a.2.2.1)=true then 49 else 48)).1 a.2.2.2.toNat (if a.2.2.1=true then 49 else 48)).2.1=true):
 Xz sig a vs=some ((agb (agb vs a.1.toNat (if (!a.2.2.1)=true then 49 else 48)).1 a.2.2.2.toNat (if a.2.2.1=true then 49 else 48)).1,(agb vs a.1.toNat (if (!a.2.2.1)=true then 49 else 48)).2.2||(agb (agb vs a.1.toNat (if (!a.2.2.1)=true then 49 else 48)).1 a.2.2.2.toNat (if a.2.2.1=true then 49 else 48)).2.2):=by
 unfold Xz; rw[if_pos g,if_pos ⟨d,e⟩]
theorem W3 (e:a.2.1=sig)(d:(agb vs a.1.toNat (if (!a.2.2.1)=true then 49 else 48)).2.1=false):Xz sig a vs=none:=by
 unfold Xz; rw[if_pos e,if_neg (fun h=>by rw[d] at h; cases h.1)]
theorem W4 (e:a.2.1=sig)(d:(agb (agb vs a.1.toNat (if (!a.2.2.1)=true then 49 else 48)).1 a.2.2.2.toNat (if a.2.2.1=true then 49 else 48)).2.1=false):Xz sig a vs=none:=by
 unfold Xz; rw[if_pos e,if_neg (fun h=>by rw[d] at h; cases h.2)]
theorem XT (e:¬a.2.1=sig)(d:(agr vs a.1.toNat a.2.2.2.toNat).2.1=true):Xz sig a vs=some ((agr vs a.1.toNat a.2.2.2.toNat).1,(agr vs a.1.toNat a.2.2.2.toNat).2.2):=by
 unfold Xz; rw[if_neg e,if_pos d]
theorem V7 (e:¬a.2.1=sig)(d:(agr vs a.1.toNat a.2.2.2.toNat).2.1=false):Xz sig a vs=none:=by
 unfold Xz; rw[if_neg e,if_neg (by rw[d]; decide)]
theorem QiN (b:Bool):(if b=true then (49:UInt8) else 48)≠0:=by split <;> decide
theorem Qhe {x:Bool}(h:ch=true):true=(ch||x):=by rw[h]; rfl
theorem Qhf {d g:Bool}(h:ch=false)(e:d=true):true=(ch||(d||g)):=by rw[h,e]; rfl
theorem Qhg {d e:Bool}(h:ch=false)(g:d=false):e=(ch||(d||e)):=by rw[h,g]; rfl
theorem Qhh {m:Bool}(h:ch=false):m=(ch||m):=by rw[h]; rfl
theorem QoJ (b:Bool):decide ((if b=true then (49:UInt8) else 48)=0)=false:=by cases b <;> rfl
theorem XA (v:InR vs.length a)(h:Xz sig a vs=some (vs',c)):vs'.length=vs.length∧ZX vs'≤ZX vs∧(c=true→ZX vs' < ZX vs)∧(c=false→vs'=vs):=by
 obtain ⟨⟨w,x⟩,y,z⟩:=v
 unfold Xz at h
 have e:=QiN (!a.2.2.1)
 have g:=QiN a.2.2.1
 generalize (if (!a.2.2.1)=true then (49:UInt8) else 48)=f0 at h e
 generalize (if a.2.2.1=true then (49:UInt8) else 48)=t0 at h g
 have l:=Qox (vs:=vs) (i:=a.1.toNat) (c:=f0) (by omega) e
 have d:=Qox (vs:=(agb vs a.1.toNat f0).1) (i:=a.2.2.2.toNat) (c:=t0) (by rw[W9]; omega) g
 have o:=QtY (vs:=vs) (i:=a.1.toNat) (j:=a.2.2.2.toNat) (by omega) (by omega)
 have r:=W9 vs a.1.toNat f0
 have q:=W9 (agb vs a.1.toNat f0).1 a.2.2.2.toNat t0
 have s:=QiG vs a.1.toNat a.2.2.2.toNat
 generalize agb (agb vs a.1.toNat f0).1 a.2.2.2.toNat t0=g2 at h d q
 generalize agb vs a.1.toNat f0=g1 at h l d r q
 generalize agr vs a.1.toNat a.2.2.2.toNat=g3 at h o s
 split at h
 ·split at h
  ·rename_i m
   simp only[bi,Prod.mk.injEq] at h
   obtain ⟨rfl,rfl⟩:=h
   refine ⟨q.trans r,aU d.1 l.1,fun p=> ?_,fun p=> ?_⟩
   ·rcases Bool.or_eq_true_iff.1 p with h | h
    ·exact Nat.lt_of_le_of_lt d.1 (l.2.1 h)
    ·exact bp (d.2.1 h) l.1
   ·obtain ⟨t,u⟩:=Bool.or_eq_false_iff.1 p
    rw[d.2.2 m.2 u,l.2.2 m.1 t]
  ·cases h
 ·split at h
  ·rename_i m
   simp only[bi,Prod.mk.injEq] at h
   obtain ⟨rfl,rfl⟩:=h
   exact ⟨s,o.1,o.2.1,o.2.2 m⟩
  ·cases h
theorem HI (e:arcs[k]? =some a)(h:Xz sig a vs=some (vs',c))(d:ch'=(ch||c)):Xg sig (arcs.drop k) vs ch=Xg sig (arcs.drop (k+1)) vs' ch':=by
 rw[ZB e,Xg,h,d]
theorem V6 (d:arcs[k]? =some a)(h:Xz sig a vs=none):Xg sig (arcs.drop k) vs ch=none:=by
 rw[ZB d,Xg,h]
theorem QqN (d:arcs.length≤k):Xg sig (arcs.drop k) vs ch=some (vs,ch):=by rw[bn d,Xg]
theorem Qbv {m:Nat}(o:∀a∈rs,InR m a)(d:vs.length=m)(h:Xg sig rs vs ch=some (vs',ch')):vs'.length=m∧ZX vs'≤ZX vs∧(ch'=true→ch=true∨ZX vs' < ZX vs)∧(ch'=false→vs'=vs∧ch=false):=by
 induction rs generalizing vs ch with
 | nil=>rw[Xg] at h; cases h; exact ⟨d,aJ _,fun h=> .inl h,fun h=>⟨rfl,h⟩⟩
 | cons a rs z=>
  rw[Xg] at h
  cases g:Xz sig a vs with
  | none=>rw[g] at h; cases h
  | some r=>
   obtain ⟨D,c1⟩:=r
   rw[g] at h
   obtain ⟨v,l,w,x⟩:=XA (by rw[d]; exact o a (az ..)) g
   obtain ⟨A,p,B,C⟩:=z (fun b y=>o b (ay _ y)) (v.trans d) h
   refine ⟨A,aU p l,fun e=> ?_,fun e=> ?_⟩
   ·rcases B e with h | h
    ·rcases Bool.or_eq_true_iff.1 h with h | h
     ·exact .inl h
     ·exact .inr (Nat.lt_of_le_of_lt p (w h))
    ·exact .inr (bp h l)
   ·obtain ⟨q,s⟩:=C e
    obtain ⟨t,u⟩:=Bool.or_eq_false_iff.1 s
    exact ⟨q.trans (x u),t⟩
theorem QuY (f:Nat)(vs:List UInt8):W2 sig arcs (f+1) vs=QdP sig arcs f (Xg sig arcs vs false):=by
 rw[W2]; cases Xg sig arcs vs false <;> rfl
theorem QqX {m:Nat}(o:∀a∈arcs,InR m a):∀{f g:Nat} {vs:List UInt8},vs.length=m→ZX vs < f→ZX vs < g→W2 sig arcs f vs=W2 sig arcs g vs:=fun {f}=>by
 induction f with
 | zero=>intro g vs d h; omega
 | succ f p=>
  intro g vs d t u
  cases g with
  | zero=>omega
  | succ g=>
   rw[W2,W2]
   cases l:Xg sig arcs vs false with
   | none=>rfl
   | some r=>
    obtain ⟨e,c1⟩:=r
    obtain ⟨q,v,s,w⟩:=Qbv o d l
    cases c1 with
    | false=>rfl
    | true=>
     rcases s rfl with h | h
     ·cases h
     ·show W2 sig arcs f e=W2 sig arcs g e
      exact p q (by omega) (by omega)
theorem QlZ {m:Nat}(g:∀a∈arcs,InR m a)(e:vs'.length=m)(d:ZX vs'≤ZX vs∧(ch=true→ZX vs' < ZX vs)):QdP sig arcs (ZX vs) (some (vs',ch))=if ch=true then W2 sig arcs (ZX vs'+1) vs' else some vs':=by
 show (if ch=true then _ else _)=_
 cases ch with
 | false=>rfl
 | true=>exact QqX g e (d.2 rfl) (Nat.lt_succ_self _)
theorem QsM {m c1 c2:Nat}(g:m=if ch=true then c1+1 else 0)(e:ch=true)(d:c2≤c1∧(ch'=true→c2 < c1)):(if ch'=true then c2+1 else 0) < m:=by
 rw[g,if_pos e]
 cases ch' with
 | false=>simp
 | true=>have:=d.2 rfl; simp; omega
theorem Hn {d:Nat}(g:ZX vs≤d∧(ch=true→ZX vs < d))(h:vs'.length=vs.length∧ZX vs'≤ZX vs∧(c=true→ZX vs' < ZX vs)∧(c=false→vs'=vs))(o:ch'=(ch||c)):ZX vs'≤d∧(ch'=true→ZX vs' < d):=by
 obtain ⟨p,l,m,_⟩:=h
 refine ⟨aU l g.1,fun e=> ?_⟩
 rw[o] at e
 rcases Bool.or_eq_true_iff.1 e with h | h
 ·exact Nat.lt_of_le_of_lt l (g.2 h)
 ·exact bp (m h) g.1
theorem XV {n:Nat}(h:W2 sig arcs (n+1) (List.replicate n 0)=none):Ya n arcs sig=([],false):=by unfold Ya; rw[h]
theorem QdG {n:Nat}(h:W2 sig arcs (n+1) (List.replicate n 0)=some vs):Ya n arcs sig=(vs.map fz,true):=by unfold Ya; rw[h]
def Wf (vs:List UInt8)(k:Nat):List UInt8:=(vs.take k).map fz++vs.drop k
theorem QhQ (vs:List UInt8)(k:Nat):(Wf vs k).length=vs.length:=by simp[Wf]; omega
theorem Quw (vs:List UInt8):Wf vs 0=vs:=by simp[Wf]
theorem Qqp (h:vs.length≤k):Wf vs k=vs.map fz:=by simp[Wf,bj h,bn h]
theorem Qso {x:UInt8}(h:(Wf vs k)[k]? =some x):vs[k]? =some x:=by
 have d:k < vs.length:=by have:=(ai.1 h).1; rwa [QhQ] at this
 unfold Wf at h
 rw[bd (by simp; omega)] at h
 simp only[aF,ao,cu (Nat.le_of_lt d),cK] at h
 rw[co] at h
 simpa using h
theorem Qgg {x:UInt8}(h:(Wf vs k)[k]? =some x):Wf vs (k+1)=(Wf vs k).set k (fz x):=by
 have d:=Qso h
 have e:=(ai.1 d).1
 unfold Wf
 rw[cV _ _ (by simp; omega)]
 simp only[aF,ao,cu (Nat.le_of_lt e),cK]
 rw[ZB d,QO d]
 simp
theorem QhR {x:UInt8}(h:(Wf vs k)[k]? =some x)(h0:decide (x=0)=true):(Wf vs k).set k 48=Wf vs (k+1):=by
 rw[Qgg h,show fz x=48 by simp[fz,ab h0]]
theorem Qgf {x:UInt8}(h:(Wf vs k)[k]? =some x)(h0:decide (x=0)=false):Wf vs k=Wf vs (k+1):=by
 rw[Qgg h,show fz x=x by simp[fz,aa h0]]
 apply bV
 intro i
 by_cases e:k=i
 ·subst e; rw[aM (ai.1 h).1]; exact h
 ·rw[aX e]
end
theorem ZY (s:Ql2)(t:s.length≤1000000):FC Tryz.prog 242 [(false,[.dat Ql s])] [] 0 (YB 77 QE s):=by
 refine Qv Tryz.func242 rfl rfl Tryz.ntmps242 fun p g o h q m l=> ?_
 refine w6 ?_
 refine QjS (Qa rfl) Evl.val QdE rfl fun r d=> ?_
 refine w_ ?_
 refine cb_ (fun _=> ?_) fun _=> ?_
 refine w2 ?_
 refine lc (dBs 0 (e:=QE) VL) ?_
 refine w_ ?_
 refine lc (Zj 1 (Qa rfl) rfl (Evl.rep (Qa rfl)) rfl QdE QaU (by first | omega | (simp only[aj,aF,ao,au,aH]; omega) | (simp only[aj,bh,ao,au,aH]; omega)) rfl (Fresh.of rfl) (nlr rfl)) ?_
 refine w2 ?_
 refine Qd<|fo_ g ?_
 rfl
 refine w3 ?_
 refine AC.wk (Wk.nilS 2 2 77 QE rfl (Fresh.of rfl) (nlr rfl))<|Qd<|fo_ g ?_
 exact (d ‹_›).symm
theorem Hv (s:QcY)(r:QvO)(x:∀m∈r.2,0≤m.2.1∧m.2.1 < (s.2.2.1.length:Int))(C:r.2.length≤1000000):FC Tryz.prog 243 [(true,[dI s.1.1, .dat Xk s.1.2, .dat Ql s.2.1, .dat Yq s.2.2.1,dS s.2.2.2]),(true,[.dat Qo r.1, .dat HM r.2])] [] 0 (YB 154 QD (QL s.2.2.1 r.2)):=by
 refine Qv Tryz.func243 rfl rfl Tryz.ntmps243 fun A w z t B v u=> ?_
 refine acG 0 0 fun _=> ?_
 refine w_ ?_
 refine xbx 0 ?_
 refine xbx 1 ?_
 refine w3 ?_
 refine lc (dBs 2 (e:=QD) QU) ?_
 refine w6 ?_
 refine alL 11 fun _=> ?_
 refine w4 ?_
 refine lp0 r.2.length (fun k=>⟨[(2,lP 0 0),(4,lf (.val (.slice none 0 0))),(5,lR 3),(11,lf (.dat HM r.2)),(12,lI (r.2.length:Int)),(13,lI (k:Int))],[bx 0 51 [dI s.1.1, .dat Xk s.1.2, .dat Ql s.2.1, .dat Yq s.2.2.1,dS s.2.2.2],ar 3 154 QD ((r.2.take k).map (QhE s.2.2.1))]⟩) ?_ fun k _=> ?_
 exact wp [(3,2)] ⟨rfl,(Qe (by first | rfl | simp)),trivial⟩
 refine w4 ?_
 cases d:(decide ((k:Int) < (r.2.length:Int)))
 have g:=aa d
 refine w7 ?_
 refine Qd<|fo_ w ?_
 rw[QT (by omega)]; rfl
 have g:=ab d
 refine w5 ?_
 obtain ⟨l,h⟩:=gx r.2 k
 have y:=x _ (ah h)
 refine w2 ?_
 refine lc (xal 4 Zn Vj) ?_
 refine w7 ?_
 refine alI 20 fun _=> ?_
 obtain ⟨o,q⟩:=gx s.2.2.1 ((l.2.1).toNat)
 have p:=QeI q
 refine w2 ?_
 refine lc (xal 5 QF VK) ?_
 refine w6 ?_
 refine alI 25 fun _=> ?_
 refine w2 ?_
 refine alI 27 fun _=> ?_
 refine w4 ?_
 refine alI 31 fun _=> ?_
 refine lc (Qi K9 ⟨_,_,rfl,(Qk rfl),⟨_,_,rfl,(Qk rfl),⟨_,_,rfl,(Qk rfl),⟨_,_,rfl,(Qk rfl),rfl⟩⟩⟩⟩ (ak.1 rfl) rfl rfl) ?_
 refine lc (dBs 6 (e:=QD) QU (hab:=by exact ⟨_,_,_,_,rfl,⟨[dI l.1],[dI o.1,dB o.2,dI l.2.2],_,_,_,_,rfl,rfl,⟨rfl,rfl⟩,⟨[dI o.1],[dB o.2,dI l.2.2],_,_,_,_,rfl,rfl,⟨rfl,rfl⟩,⟨[dB o.2],[dI l.2.2],_,_,_,_,rfl,rfl,⟨rfl,rfl⟩,⟨rfl,rfl⟩,rfl⟩,rfl⟩,rfl⟩,⟨rfl,rfl⟩,rfl⟩)) ?_
 refine lc (dA 7 Ww) ?_
 refine w_ ?_
 refine Qb ?_
 refine w4 ?_
 refine Qb ?_
 refine l0_ ?_
 exact wp [(3,7)] ⟨rfl,(Qe (by rw[QO h]; simp[QhE,p])),trivial⟩
theorem Qf2 (vs:List UInt8)(i:Nat)(j:Nat)(hi:i < vs.length)(E:j < vs.length):FC Tryz.prog 360 [(false,[.ept 0 1 i 0]),(false,[.ept 0 1 j 0])] [ar 0 5 .u8 vs] 1 (Is (PV.tup [(false,[dB ((agr vs i j).2.1)]),(false,[dB ((agr vs i j).2.2)])]) [ar 0 5 .u8 ((agr vs i j).1)]):=by
 refine Qv Tryz.func360 rfl rfl Tryz.ntmps360 fun C l B w D A z=> ?_
 refine w6 ?_
 obtain ⟨t,g⟩:=gx vs i
 obtain ⟨u,h⟩:=gx vs j
 apply dW [io 7 _,io 8 (lf (.ept 0 1 i 0)),io 9 (lf (.dat .u8 t)),io 10 _,io 11 (lf (.ept 0 1 j 0)),io 12 (lf (.dat .u8 u)),io 13 _,io 6 _] [0,0,0,7,7,7,0,0]
 refine z_ ?_
 refine zz (fun _ d=>ac (HV (d.v rfl) (by rw[(d.en 0 rfl)]; rfl) rfl) rfl)<|zz (fun _ d=>ac (Q5 (e:= .u8) (d.v rfl) (d.n 0 rfl) g rfl QX rfl rfl) rfl) ?_
 refine z_ ?_
 refine zz (fun _ d=>ac (HV (d.v rfl) (by rw[(d.en 0 rfl)]; rfl) rfl) rfl)<|zz (fun _ d=>ac (Q5 (e:= .u8) (d.v rfl) (d.n 0 rfl) h rfl QX rfl rfl) rfl) ?_
 exact y2
 refine cd_ (fun _ _=> ?_) fun _ _=> ?_
 refine w4 ?_
 refine lc (Qu (Qa rfl) (QC 0 rfl) rfl) ?_
 refine w2 ?_
 refine cd_ (fun _ _=> ?_) fun _ _=> ?_
 refine w4 ?_
 refine lc (Qu (Qa rfl) (QC 0 rfl) rfl) ?_
 refine w2 ?_
 refine cd_ (fun _ _=> ?_) fun _ _=> ?_
 refine w7 ?_
 have x:(false:Bool)=((agr vs i j).2.1):=by
  (rw[Wv ‹_› ‹_›]; simp[*]; done)
 have y:(false:Bool)=((agr vs i j).2.2):=by
  (rw[Wv ‹_› ‹_›]; simp[*]; done)
 exact fi_ [] l ⟨(Qe (by (rw[Wv ‹_› ‹_›]; simp[*]; done))),trivial⟩ (h0:=by rw[← x,← y] <;> rfl)
 refine w6 ?_
 refine lc (QA (e:= .u8) (z':=t) (Qa rfl) rfl h rfl (Qk rfl) rfl QX rfl rfl) ?_
 refine w6 ?_
 have m:(true:Bool)=((agr vs i j).2.1):=by
  (rw[Wv ‹_› ‹_›]; simp[*]; done)
 have o:(true:Bool)=((agr vs i j).2.2):=by
  (rw[Wv ‹_› ‹_›]; simp[*]; done)
 exact fi_ [] l ⟨(Qe (by (rw[Wv ‹_› ‹_›]; simp[*]; done))),trivial⟩ (h0:=by rw[← m,← o] <;> rfl)
 refine w6 ?_
 refine lc (QA (e:= .u8) (z':=u) (Qa rfl) rfl g rfl (Qk rfl) rfl QX rfl rfl) ?_
 refine w6 ?_
 have p:(true:Bool)=((agr vs i j).2.1):=by
  (rw[Wv ‹_› ‹_›]; simp_all; done)
 have q:(true:Bool)=((agr vs i j).2.2):=by
  (rw[Wv ‹_› ‹_›]; simp_all; done)
 exact fi_ [] l ⟨(Qe (by (rw[Wv ‹_› ‹_›]; simp_all; done))),trivial⟩ (h0:=by rw[← p,← q] <;> rfl)
 refine w5 ?_
 have r:(true:Bool)=((agr vs i j).2.1):=by
  (rw[Wv ‹_› ‹_›]; simp[*]; done)
 have s:(false:Bool)=((agr vs i j).2.2):=by
  (rw[Wv ‹_› ‹_›]; simp[*]; done)
 exact fi_ [] l ⟨(Qe (by (rw[Wv ‹_› ‹_›]; simp[*]; done))),trivial⟩ (h0:=by rw[← r,← s] <;> rfl)
theorem UJ (c:UInt8)(vs:List UInt8)(i:Nat)(hi:i < vs.length)(z:decide (c=0)=false):FC Tryz.prog 360 [(false,[.ept 1 1 i 0]),(false,[.ptr 0 0])] [bx 0 5 [.dat .u8 c],ar 1 5 .u8 vs] 2 (Is (PV.tup [(false,[dB ((agb vs i c).2.1)]),(false,[dB ((agb vs i c).2.2)])]) [bx 0 5 [.dat .u8 c],ar 1 5 .u8 ((agb vs i c).1)]):=by
 refine Qv Tryz.func360 rfl rfl Tryz.ntmps360 fun B o A q C y x=> ?_
 refine w6 ?_
 obtain ⟨r,h⟩:=gx vs i
 apply dW (io 7 _ :: io 8 (lf (.ept 1 1 i 0)) :: io 9 (lf (.dat .u8 r)) :: i4 10 _ _ _ _ [io 6 _]) [0,0,0,7,7,7,0,0]
 refine z_ ?_
 refine zz (fun _ d=>ac (HV (d.v rfl) (by rw[(d.en 1 rfl)]; rfl) rfl) rfl)<|zz (fun _ d=>ac (Q5 (e:= .u8) (d.v rfl) (d.n 1 rfl) h rfl QX rfl rfl) rfl) ?_
 exact y5
 refine cd_ (fun _ _=> ?_) fun _ _=> ?_
 refine w4 ?_
 refine lc (Qu (Qa rfl) (QC 0 rfl) rfl) ?_
 refine w2 ?_
 refine cd_ (fun _ _=> ?_) fun _ _=> ?_
 refine w4 ?_
 refine lc (Qu (Qa rfl) (QC 0 rfl) rfl) ?_
 refine w2 ?_
 cases g:(decide (c=0))
 have p:=aa g
 refine w8 ?_
 have s:(false:Bool)=((agb vs i c).2.1):=by
  (rw[VA ‹_›]; simp[*]; done)
 have t:(false:Bool)=((agb vs i c).2.2):=by
  (rw[VA ‹_›]; simp[*]; done)
 exact fi_ [] o ⟨rfl,(Qe (by (rw[VA ‹_›]; simp[*]; done))),trivial⟩ (h0:=by rw[← s,← t] <;> rfl)
 exact absurd (g.symm.trans (show (decide (c=0))=false from z)) (by decide)
 refine w6 ?_
 refine lc (QA (e:= .u8) (z':=c) (Qa rfl) rfl h rfl (Qk rfl) rfl QX rfl rfl) ?_
 refine w6 ?_
 have u:(true:Bool)=((agb vs i c).2.1):=by
  (rw[VA ‹_›]; simp_all; done)
 have w:(true:Bool)=((agb vs i c).2.2):=by
  (rw[VA ‹_›]; simp_all; done)
 exact fi_ [] o ⟨rfl,(Qe (by (rw[VA ‹_›]; simp_all; done))),trivial⟩ (h0:=by rw[← u,← w] <;> rfl)
 refine w5 ?_
 have l:(true:Bool)=((agb vs i c).2.1):=by
  (rw[VA ‹_›]; simp[*]; done)
 have m:(false:Bool)=((agb vs i c).2.2):=by
  (rw[VA ‹_›]; simp[*]; done)
 exact fi_ [] o ⟨rfl,(Qe (by (rw[VA ‹_›]; simp[*]; done))),trivial⟩ (h0:=by rw[← l,← m] <;> rfl)
theorem Qc9 (n:Int)(arcs:QcX)(sig:Int)(hn:0≤n∧n≤1000000)(O:∀a∈arcs,InR n.toNat a):FC Tryz.prog 244 [(false,[dI n]),(false,[.dat Qw arcs]),(false,[dI sig])] [] 0 (Is (PV.tup [(false,[.ref 0]),(false,[dB ((Ya n.toNat arcs sig).2)])]) [(0,some (.arr 5 .u8 ((Ya n.toNat arcs sig).1)))]):=by
 refine Qv Tryz.func244 rfl rfl Tryz.ntmps244 fun O_ H a3 X X_ a0 Z=> ?_
 refine acI 0 fun _=> ?_
 refine acI 2 fun _=> ?_
 refine w6 ?_
 refine lc (QaM 0 (e:= .u8) (n:=n) (Qa rfl) (Qa rfl) Za QsS rfl (by omega) (by omega) (by omega) rfl (Fresh.of rfl) (nlr rfl)) ?_
 refine w7 ?_
 refine QP (fun F G=>∃(vs:List UInt8) (ch:Bool),F=(if ch=true then ZX vs+1 else 0)∧(W2 sig arcs (n.toNat+1) (List.replicate n.toNat 0)=(if ch=true then W2 sig arcs (ZX vs+1) vs else some vs))∧(vs.length=n.toNat)∧G=⟨[(1,lf (.dat Qw arcs)),(2,lI sig),(8,lR 1),(9,lB ch)],[(1,some (.arr 5 .u8 vs))]⟩) ⟨List.replicate (n).toNat (Ty.zero .u8),true,rfl,(by rw[if_pos rfl]; show _=W2 sig arcs (ZX (List.replicate n.toNat 0)+1) (List.replicate n.toNat 0); rw[Qkw]),(by simp),rfl⟩ ?_ ?_
 exact wp [(1,0)] ⟨(Qe (by first | rfl | simp)),trivial⟩
 rintro F G ⟨vs,ch,M,L,hL,rfl⟩
 refine w4 ?_
 cases a1:(ch)
 refine w10 ?_
 refine lp0 vs.length (fun j=>⟨[(8,lR 2),(88,lR 2),(89,lI (vs.length:Int)),(90,lI (j:Int))],[(2,some (.arr 5 .u8 (Wf vs j)))]⟩) ?_ fun j _=> ?_
 exact wp [(2,1)] ⟨(Qe ((Quw vs).symm)),trivial⟩
 have a2:=QhQ vs j
 refine w4 ?_
 cases D:(decide ((j:Int) < (vs.length:Int)))
 have E:=aa D
 refine w9 ?_
 have Y:(true:Bool)=((Ya n.toNat arcs sig).2):=by
  (rw[QdG (vs:=vs) (by rw[L,if_neg (by simp[*])])]; done)
 exact fi_ [(0,2)] H ⟨(Qe (by (rw[QdG (vs:=vs) (by rw[L,if_neg (by simp[*])]),Qqp (by omega)]; done))),trivial⟩ (h0:=by rw[← Y] <;> rfl)
 have E:=ab D
 refine w7 ?_
 obtain ⟨x9,o⟩:=gx (Wf vs j) j
 refine w6 ?_
 refine lc (Qu (Qa rfl) (QC 0 rfl) rfl) ?_
 refine w_ ?_
 cases w:(decide (x9=0))
 have A:=aa w
 refine w6 ?_
 refine Qb ?_
 refine l0_ ?_
 exact wp [] ⟨(Qe (by first | exact QhR o ‹_› | exact Qgf o ‹_›)),trivial⟩
 have A:=ab w
 refine w5 ?_
 refine lc (QA (e:= .u8) (z':=48) (Qa rfl) rfl o rfl (Evl.ev (QC 48 rfl)) rfl QX rfl rfl)<|Qb ?_
 refine w4 ?_
 refine Qb ?_
 refine l0_ ?_
 exact wp [] ⟨(Qe (by first | exact QhR o ‹_› | exact Qgf o ‹_›)),trivial⟩
 refine w8 ?_
 refine alL 27 fun _=> ?_
 refine w4 ?_
 refine QP (fun F G=>∃(i:Nat) (d:List UInt8) (p:Bool),i≤arcs.length∧F=arcs.length - i∧(W2 sig arcs (n.toNat+1) (List.replicate n.toNat 0)=QdP sig arcs (ZX vs) (Xg sig (arcs.drop i) d p))∧(d.length=n.toNat)∧(ZX d≤ZX vs∧(p=true→ZX d < ZX vs))∧G=⟨[(1,lf (.dat Qw arcs)),(2,lI sig),(8,lR 3),(9,lB p),(26,lB true),(27,lf (.dat Qw arcs)),(28,lI (arcs.length:Int)),(29,lI (i:Int))],[(3,some (.arr 5 .u8 d))]⟩) ⟨0,vs,false,aG _,rfl,(by rw[L,if_pos ‹_›]; exact QuY _ _),hL,⟨aJ _,fun h=>by cases h⟩,rfl⟩ ?_ ?_
 exact wo [(3,1)]
 rintro F G ⟨i,d,p,V,W,l,m,z,rfl⟩
 refine w4 ?_
 cases x:(decide ((i:Int) < (arcs.length:Int)))
 have B:=aa x
 refine w_ ?_
 refine QiB<|QW ⟨d,p,rfl,(by rw[l,QqN (by omega)]; exact QlZ O m z),m,rfl⟩ (by exact QsM M ‹_› z) ?_
 exact wo [(1,3)]
 have B:=ab x
 refine w5 ?_
 obtain ⟨ar,g⟩:=gx arcs i
 have N:=O _ (ah g)
 obtain ⟨⟨r,s⟩,t,u⟩:=N
 refine w2 ?_
 refine lc (xal 4 QD QU) ?_
 refine w2 ?_
 apply dW (i3 33 _ _ _ (io 36 (lf (.ept 3 1 ((ar.1).toNat) 0)) :: i3 37 _ _ _ (io 40 (lf (.ept 3 1 ((ar.2.2.2).toNat) 0)) :: i2 12 _ _ []))) [0,1,1,0,15,31,31,15,240,0]
 refine z3 ?_
 refine zz (fun _ q=>ac (QI (e:= .u8) (q.v rfl) (q.en 3 rfl) (q.v rfl) Za QX rfl (by omega) (by first | omega | (simp only[ap]; omega))) rfl) ?_
 refine z3 ?_
 refine zz (fun _ q=>ac (QI (e:= .u8) (q.v rfl) (q.en 3 rfl) (q.v rfl) Za QX rfl (by omega) (by first | omega | (simp only[ap]; omega))) rfl) ?_
 exact y2
 refine w4 ?_
 refine alI 42 fun _=> ?_
 refine w3 ?_
 cases y:(decide (ar.2.1=sig))
 have C:=aa y
 refine w5 ?_
 refine lc (dP 5 [(0,3)] (Qf2 d ((ar.1).toNat) ((ar.2.2.2).toNat) (by omega) (by omega)) Qa1) ?_
 refine w11 ?_
 cases P:((agr d ((ar.1).toNat) ((ar.2.2.2).toNat)).2.1)
 refine w5 ?_
 refine AC.wk (Wk.nilS 6 6 5 .u8 rfl (Fresh.of rfl) (nlr rfl))<|Qd ?_
 have I:(false:Bool)=((Ya n.toNat arcs sig).2):=by
  (rw[XV (by rw[l,V6 g (by first | exact W3 ‹_› ‹_› | exact W4 ‹_› ‹_› | exact V7 ‹_› ‹_›)]; rfl)]; done)
 exact fi_ [(0,6)] H ⟨(Qe (by (rw[XV (by rw[l,V6 g (by first | exact W3 ‹_› ‹_› | exact W4 ‹_› ‹_› | exact V7 ‹_› ‹_›)]; rfl)]; done))),trivial⟩ (h0:=by rw[← I] <;> rfl)
 refine w5 ?_
 cases Q:(p)
 refine w3 ?_
 refine Qb ?_
 refine w4 ?_
 refine Qb<|QW ⟨i+1,((agr d ((ar.1).toNat) ((ar.2.2.2).toNat)).1),((agr d ((ar.1).toNat) ((ar.2.2.2).toNat)).2.2),by omega,rfl,l.trans (congrArg (QdP sig arcs (ZX vs)) (HI g (by first | exact Xb ‹_› ‹_› ‹_› | exact XT ‹_› ‹_›) (by first | exact Qhe ‹_› | exact Qhf ‹_› ‹_› | exact Qhg ‹_› ‹_› | exact Qhh ‹_›))),(by (rw[QiG]; exact m)),(Hn z (XA (by rw[m]; exact ⟨⟨r,s⟩,t,u⟩) (by first | exact Xb ‹_› ‹_› ‹_› | exact XT ‹_› ‹_›)) (by first | exact Qhe ‹_› | exact Qhf ‹_› ‹_› | exact Qhg ‹_› ‹_› | exact Qhh ‹_›)),rfl⟩ (by omega) ?_
 exact wo []
 refine w3 ?_
 refine Qb ?_
 refine w4 ?_
 refine Qb<|QW ⟨i+1,((agr d ((ar.1).toNat) ((ar.2.2.2).toNat)).1),true,by omega,rfl,l.trans (congrArg (QdP sig arcs (ZX vs)) (HI g (by first | exact Xb ‹_› ‹_› ‹_› | exact XT ‹_› ‹_›) (by first | exact Qhe ‹_› | exact Qhf ‹_› ‹_› | exact Qhg ‹_› ‹_› | exact Qhh ‹_›))),(by (rw[QiG]; exact m)),(Hn z (XA (by rw[m]; exact ⟨⟨r,s⟩,t,u⟩) (by first | exact Xb ‹_› ‹_› ‹_› | exact XT ‹_› ‹_›)) (by first | exact Qhe ‹_› | exact Qhf ‹_› ‹_› | exact Qhg ‹_› ‹_› | exact Qhh ‹_›)),rfl⟩ (by omega) ?_
 exact wo []
 have C:=ab y
 refine w_ ?_
 apply dW (i3 45 _ _ _ (io 48 (lf (.dat .u8 (if (!ar.2.2.1) then 49 else 48))) :: i2 49 _ _ [io 51 (lf (.dat .u8 (if ar.2.2.1 then 49 else 48))),⟨some 14,lP 7 0,[bx 7 5 [.dat .u8 0]]⟩,⟨some 15,lP 8 0,[bx 8 5 [.dat .u8 0]]⟩,⟨none,lf (.val undef),[bx 7 5 [.dat .u8 (if (!ar.2.2.1) then 49 else 48)]]⟩,⟨none,lf (.val undef),[bx 8 5 [.dat .u8 (if ar.2.2.1 then 49 else 48)]]⟩])) [0,0,0,0,15,15,0,127,255,0,0]
 refine z3 ?_
 refine zz (fun _ q=>ac (dK (Ht (!ar.2.2.1)) QaV) rfl) ?_
 refine z2 ?_
 refine zz (fun _ q=>ac (dK (Ht ar.2.2.1) QaV) rfl) ?_
 refine zz (fun _ q=>ac (Yl 7 .u8 QaL rfl rfl (q.fr 7 rfl) (nlr rfl)) rfl)<|zz (fun _ q=>ac (Yl 8 .u8 QaL rfl rfl (q.fr 8 rfl) (nlr rfl)) rfl) ?_
 exact y2
 refine w2 ?_
 refine lc (dP 9 [(0,7),(1,3)] (UJ (if (!ar.2.2.1) then 49 else 48) d ((ar.1).toNat) (by omega) (QoJ _)) Qa1) ?_
 refine w8 ?_
 refine lc (dP 11 [(0,8),(1,3)] (UJ (if ar.2.2.1 then 49 else 48) ((agb d ((ar.1).toNat) (if (!ar.2.2.1) then 49 else 48)).1) ((ar.2.2.2).toNat) (by rw[W9]; omega) (QoJ _)) Qa1) ?_
 refine w11 ?_
 cases R:((agb d ((ar.1).toNat) (if (!ar.2.2.1) then 49 else 48)).2.1)
 refine w9 ?_
 refine AC.wk (Wk.nilS 13 6 5 .u8 rfl (Fresh.of rfl) (nlr rfl))<|Qd ?_
 have J:(false:Bool)=((Ya n.toNat arcs sig).2):=by
  (rw[XV (by rw[l,V6 g (by first | exact W3 ‹_› ‹_› | exact W4 ‹_› ‹_› | exact V7 ‹_› ‹_›)]; rfl)]; done)
 exact fi_ [(0,13)] H ⟨(Qe (by (rw[XV (by rw[l,V6 g (by first | exact W3 ‹_› ‹_› | exact W4 ‹_› ‹_› | exact V7 ‹_› ‹_›)]; rfl)]; done))),trivial⟩ (h0:=by rw[← J] <;> rfl)
 refine w4 ?_
 cases S:((agb ((agb d ((ar.1).toNat) (if (!ar.2.2.1) then 49 else 48)).1) ((ar.2.2.2).toNat) (if ar.2.2.1 then 49 else 48)).2.1)
 refine w5 ?_
 refine AC.wk (Wk.nilS 14 6 5 .u8 rfl (Fresh.of rfl) (nlr rfl))<|Qd ?_
 have K:(false:Bool)=((Ya n.toNat arcs sig).2):=by
  (rw[XV (by rw[l,V6 g (by first | exact W3 ‹_› ‹_› | exact W4 ‹_› ‹_› | exact V7 ‹_› ‹_›)]; rfl)]; done)
 exact fi_ [(0,14)] H ⟨(Qe (by (rw[XV (by rw[l,V6 g (by first | exact W3 ‹_› ‹_› | exact W4 ‹_› ‹_› | exact V7 ‹_› ‹_›)]; rfl)]; done))),trivial⟩ (h0:=by rw[← K] <;> rfl)
 refine w5 ?_
 cases T:(p)
 refine w3 ?_
 cases U:((agb d ((ar.1).toNat) (if (!ar.2.2.1) then 49 else 48)).2.2)
 refine w9 ?_
 refine Qb<|QW ⟨i+1,((agb ((agb d ((ar.1).toNat) (if (!ar.2.2.1) then 49 else 48)).1) ((ar.2.2.2).toNat) (if ar.2.2.1 then 49 else 48)).1),((agb ((agb d ((ar.1).toNat) (if (!ar.2.2.1) then 49 else 48)).1) ((ar.2.2.2).toNat) (if ar.2.2.1 then 49 else 48)).2.2),by omega,rfl,l.trans (congrArg (QdP sig arcs (ZX vs)) (HI g (by first | exact Xb ‹_› ‹_› ‹_› | exact XT ‹_› ‹_›) (by first | exact Qhe ‹_› | exact Qhf ‹_› ‹_› | exact Qhg ‹_› ‹_› | exact Qhh ‹_›))),(by (rw[W9,W9]; exact m)),(Hn z (XA (by rw[m]; exact ⟨⟨r,s⟩,t,u⟩) (by first | exact Xb ‹_› ‹_› ‹_› | exact XT ‹_› ‹_›)) (by first | exact Qhe ‹_› | exact Qhf ‹_› ‹_› | exact Qhg ‹_› ‹_› | exact Qhh ‹_›)),rfl⟩ (by omega) ?_
 exact wo []
 refine w9 ?_
 refine Qb<|QW ⟨i+1,((agb ((agb d ((ar.1).toNat) (if (!ar.2.2.1) then 49 else 48)).1) ((ar.2.2.2).toNat) (if ar.2.2.1 then 49 else 48)).1),true,by omega,rfl,l.trans (congrArg (QdP sig arcs (ZX vs)) (HI g (by first | exact Xb ‹_› ‹_› ‹_› | exact XT ‹_› ‹_›) (by first | exact Qhe ‹_› | exact Qhf ‹_› ‹_› | exact Qhg ‹_› ‹_› | exact Qhh ‹_›))),(by (rw[W9,W9]; exact m)),(Hn z (XA (by rw[m]; exact ⟨⟨r,s⟩,t,u⟩) (by first | exact Xb ‹_› ‹_› ‹_› | exact XT ‹_› ‹_›)) (by first | exact Qhe ‹_› | exact Qhf ‹_› ‹_› | exact Qhg ‹_› ‹_› | exact Qhh ‹_›)),rfl⟩ (by omega) ?_
 exact wo []
 refine w12 ?_
 refine Qb<|QW ⟨i+1,((agb ((agb d ((ar.1).toNat) (if (!ar.2.2.1) then 49 else 48)).1) ((ar.2.2.2).toNat) (if ar.2.2.1 then 49 else 48)).1),true,by omega,rfl,l.trans (congrArg (QdP sig arcs (ZX vs)) (HI g (by first | exact Xb ‹_› ‹_› ‹_› | exact XT ‹_› ‹_›) (by first | exact Qhe ‹_› | exact Qhf ‹_› ‹_› | exact Qhg ‹_› ‹_› | exact Qhh ‹_›))),(by (rw[W9,W9]; exact m)),(Hn z (XA (by rw[m]; exact ⟨⟨r,s⟩,t,u⟩) (by first | exact Xb ‹_› ‹_› ‹_› | exact XT ‹_› ‹_›)) (by first | exact Qhe ‹_› | exact Qhf ‹_› ‹_› | exact Qhg ‹_› ‹_› | exact Qhh ‹_›)),rfl⟩ (by omega) ?_
 exact wo []
end Go.Proofs.YtndabgcpnmeeoaaGreat
namespace Go.Proofs.YtndabgcpnmeeoaaGreat
open Go.RowKit
set_option maxRecDepth 100000
set_option maxHeartbeats 4000000
def YU (sig:Int)(a:DAr)(us:List UInt8):Option (List UInt8):=
 if a.2.1=sig then
  (if (bv us a.1.toNat≠63∧bv us a.1.toNat≠(if (!a.2.2.1)=true then 49 else 48))∨(bv us a.2.2.2.toNat≠63∧bv us a.2.2.2.toNat≠(if a.2.2.1=true then 49 else 48)) then none
  else some ((us.set a.1.toNat (if (!a.2.2.1)=true then 49 else 48)).set a.2.2.2.toNat (if a.2.2.1=true then 49 else 48)))
 else if bv us a.1.toNat=63 then some ((us.set a.1.toNat (bv us a.2.2.2.toNat)).set a.2.2.2.toNat (bv us a.2.2.2.toNat))
 else if bv us a.2.2.2.toNat≠63∧bv us a.2.2.2.toNat≠bv us a.1.toNat then none
 else some ((us.set a.1.toNat (bv us a.1.toNat)).set a.2.2.2.toNat (bv us a.1.toNat))
def Xu (sig:Int):List DAr→List UInt8→Option (List UInt8)
 | [],us=>some us
 | a :: rs,us=>match YU sig a us with
  | none=>none
  | some us'=>Xu sig rs us'
def WM (sig:Int)(arcs:List DAr):Nat→List UInt8→Option (List UInt8)
 | 0,us=>some us
 | f+1,us=>match Xu sig arcs us with
  | none=>none
  | some us'=>WM sig arcs f us'
def QaB (sig:Int)(arcs:List DAr)(f:Nat):Option (List UInt8)→Option (List UInt8)
 | none=>none
 | some us'=>WM sig arcs f us'
def l5V (n:Nat)(arcs:List DAr)(sig:Int):ByteArray×Bool:=match WM sig arcs (n+1) (List.replicate n 63) with
 | none=>(⟨#[]⟩,false)
 | some us=>(⟨us.toArray⟩,true)
section
variable {sig:Int}{a:DAr}{us us' vs vs':List UInt8}{arcs rs:List DAr}{f k m:Nat}{cf ct x:UInt8}{ch ch':Bool}{i j:Nat}
theorem Vv (b:arcs[k]? =some a)(h:YU sig a us=some us'):Xu sig (arcs.drop k) us=Xu sig (arcs.drop (k+1)) us':=by rw[ZB b,Xu,h]
theorem Wg (b:arcs[k]? =some a)(h:YU sig a us=none):Xu sig (arcs.drop k) us=none:=by rw[ZB b,Xu,h]
theorem QqM (b:arcs.length≤k):Xu sig (arcs.drop k) us=some us:=by rw[bn b,Xu]
theorem QsC (f:Nat)(us:List UInt8):WM sig arcs (f+1) us=QaB sig arcs f (Xu sig arcs us):=by
 rw[WM]; cases Xu sig arcs us <;> rfl
theorem VF {n:Nat}(h:WM sig arcs (n+1) (List.replicate n 63)=none):l5V n arcs sig=(⟨#[]⟩,false):=by unfold l5V; rw[h]
theorem Qjk {n:Nat}(h:WM sig arcs (n+1) (List.replicate n 63)=some us):l5V n arcs sig=(⟨us.toArray⟩,true):=by unfold l5V; rw[h]
def qm (c:UInt8):UInt8:=if c=0 then 63 else c
def Kn (vs:List UInt8):Prop:=∀c∈vs,c=0∨c=48∨c=49
theorem Kn.set (h:Kn vs){c:UInt8}(e:c=0∨c=48∨c=49)(i:Nat):Kn (vs.set i c):=fun d g=>by
 rcases cr g with b | b
 ·exact h d b
 ·rw[b]; exact e
theorem Kn.at (h:Kn vs)(hi:i < vs.length):∃c,vs[i]? =some c∧(c=0∨c=48∨c=49):=⟨_,ae hi,h _ (cP hi)⟩
theorem K4 {c:UInt8}(h:vs[i]? =some c):vs.set i c=vs:=by
 apply bV
 intro j
 by_cases e:i=j
 ·subst e; rw[aM (ai.1 h).1,h]
 ·rw[aX e]
theorem Qr1 (hi:vs[i]? =some cf):bv (vs.map qm) i=qm cf:=Yt (by rw[bf,hi]; rfl)
theorem QxK (b:Bool):((if b=true then (49:UInt8) else 48)=49∧(if (!b)=true then (49:UInt8) else 48)=48)∨((if b=true then (49:UInt8) else 48)=48∧(if (!b)=true then (49:UInt8) else 48)=49):=by cases b <;> simp
theorem QtX (b:i≠j)(c:UInt8)(h:vs[j]? =some ct):(agb vs i c).1[j]? =some ct:=by
 unfold agb
 split
 ·exact h
 ·split
  ·show (vs.set i c)[j]? =_
   rw[aX b]; exact h
  ·exact h
theorem Qq8 (b:Kn vs)(D:InR vs.length a)(h:a.2.1=sig→a.1≠a.2.2.2):YU sig a (vs.map qm)=(Xz sig a vs).map (fun r=>r.1.map qm)∧∀vs' c,Xz sig a vs=some (vs',c)→Kn vs':=by
 obtain ⟨⟨E,F⟩,G,H⟩:=D
 obtain ⟨cf,l,z⟩:=b.at (i:=a.1.toNat) (by omega)
 obtain ⟨ct,o,A⟩:=b.at (i:=a.2.2.2.toNat) (by omega)
 unfold YU Xz
 rw[Qr1 l,Qr1 o]
 by_cases n:a.2.1=sig
 ·rw[if_pos n,if_pos n]
  have g:a.1.toNat≠a.2.2.2.toNat:=by have:=h n; omega
  have C:=fun c=>QtX (vs:=vs) g c o
  rw[VA (C _),VA l]
  have y:∀c d:UInt8,((vs.map qm).set a.1.toNat c).set a.2.2.2.toNat d=((vs.map qm).set a.2.2.2.toNat d).set a.1.toNat c:=fun c d=>List.set_comm _ _ g
  have B:∀d,(vs.set a.2.2.2.toNat d)[a.1.toNat]? =some cf:=fun d=>by rw[aX (Ne.symm g)]; exact l
  have t:(vs.map qm)[a.1.toNat]? =some (qm cf):=by rw[bf,l]; rfl
  have mt:(vs.map qm)[a.2.2.2.toNat]? =some (qm ct):=by rw[bf,o]; rfl
  have u:∀d,((vs.map qm).set a.1.toNat d)[a.2.2.2.toNat]? =some (qm ct):=fun d=>by rw[aX g]; exact mt
  have p:=K4 t
  have q:=K4 mt
  have s:=fun d=>K4 (u d)
  rcases QxK a.2.2.1 with ⟨v,w⟩ | ⟨v,w⟩ <;> rw[v,w] <;> rcases z with rfl | rfl | rfl <;> rcases A with rfl | rfl | rfl <;> simp only[qm] at p q s ⊢ <;> simp[List.map_set,qm,p,q,s] at* <;> first | done | (refine ⟨?_, ?_⟩ <;> first | (simp_all; done) | (intros; subst_vars; first | exact (b.set (.inr (.inl rfl)) _).set (.inr (.inr rfl)) _ | exact (b.set (.inr (.inr rfl)) _).set (.inr (.inl rfl)) _ | exact b.set (.inr (.inl rfl)) _ | exact b.set (.inr (.inr rfl)) _ | exact b)) | (intros; subst_vars; first | exact (b.set (.inr (.inl rfl)) _).set (.inr (.inr rfl)) _ | exact (b.set (.inr (.inr rfl)) _).set (.inr (.inl rfl)) _ | exact b.set (.inr (.inl rfl)) _ | exact b.set (.inr (.inr rfl)) _ | exact b) | (simp_all; done)
 ·rw[if_neg n,if_neg n,Wv l o]
  have t:(vs.map qm)[a.1.toNat]? =some (qm cf):=by rw[bf,l]; rfl
  have mt:(vs.map qm)[a.2.2.2.toNat]? =some (qm ct):=by rw[bf,o]; rfl
  have p:=K4 t
  have q:=K4 mt
  have s:((vs.map qm).set a.1.toNat (qm ct)).set a.2.2.2.toNat (qm ct)=(vs.map qm).set a.1.toNat (qm ct):=by
   by_cases e:a.1.toNat=a.2.2.2.toNat
   ·rw[e,cA]
   ·exact K4 (by rw[aX e]; exact mt)
  rcases z with rfl | rfl | rfl <;> rcases A with rfl | rfl | rfl <;> simp only[qm] at p q s ⊢ <;> simp[List.map_set,qm,p,q,s] at* <;> first | done | (refine ⟨?_, ?_⟩ <;> first | (simp_all; done) | (intros; subst_vars; first | exact b.set (.inr (.inl rfl)) _ | exact b.set (.inr (.inr rfl)) _ | exact b)) | (intros; subst_vars; first | exact b.set (.inr (.inl rfl)) _ | exact b.set (.inr (.inr rfl)) _ | exact b) | (simp_all; done)
theorem QqO (l:∀a∈rs,InR m a)(o:∀a∈rs,a.2.1=sig→a.1≠a.2.2.2)(n:Kn vs)(g:vs.length=m):Xu sig rs (vs.map qm)=(Xg sig rs vs ch).map (fun r=>r.1.map qm)∧∀vs' c,Xg sig rs vs ch=some (vs',c)→Kn vs':=by
 induction rs generalizing vs ch with
 | nil=>exact ⟨rfl,fun vs' c h=>by rw[Xg] at h; cases h; exact n⟩
 | cons a rs s=>
  obtain ⟨p,q⟩:=Qq8 n (by rw[g]; exact l a (az ..)) (o a (az ..))
  rw[Xu,Xg,p]
  cases d:Xz sig a vs with
  | none=>exact ⟨rfl,fun vs' c h=>by cases h⟩
  | some r=>
   obtain ⟨t,c1⟩:=r
   exact s (fun b e=>l b (ay _ e)) (fun b e=>o b (ay _ e)) (q _ _ d) ((XA (by rw[g]; exact l a (az ..)) d).1.trans g)
theorem Qh3 (h:Xu sig arcs us=some us):∀f,WM sig arcs f us=some us
 | 0=>rfl
 | f+1=>by rw[WM,h]; exact Qh3 h f
theorem Qln (e:∀a∈arcs,InR m a)(g:∀a∈arcs,a.2.1=sig→a.1≠a.2.2.2):∀{f:Nat} {vs:List UInt8},Kn vs→vs.length=m→ZX vs < f→WM sig arcs f (vs.map qm)=(W2 sig arcs f vs).map (List.map qm)∧∀vs',W2 sig arcs f vs=some vs'→Kn vs'
 | 0,_,_,_,h=>by omega
 | f+1,vs,hk,hl,h=>by
  obtain ⟨c,n⟩:=QqO (ch:=false) e g hk hl
  rw[WM,W2,c]
  cases d:Xg sig arcs vs false with
  | none=>exact ⟨rfl,fun vs' h=>by cases h⟩
  | some r=>
   obtain ⟨l,c1⟩:=r
   obtain ⟨o,s,p,q⟩:=Qbv e hl d
   cases c1 with
   | true=>
    rcases p rfl with b | b
    ·cases b
    ·have b:ZX l < ZX vs:=b
     exact Qln e g (n _ _ d) o (show ZX l < f by omega)
   | false=>
    obtain ⟨rfl,_⟩:=q rfl
    rw[d] at c
    exact ⟨Qh3 c f,fun vs' h=>by cases h; exact hk⟩
theorem Qoy (vs:List UInt8)(i:Nat)(c:UInt8):agb vs i c=if bv vs i=c then (vs,true,false) else if bv vs i=0 then (vs.set i c,true,true) else (vs,false,false):=rfl
theorem Qom (o:a.2.1=sig)(n:a.1=a.2.2.2)(hi:a.1.toNat < vs.length):Xz sig a vs=none:=by
 unfold Xz
 rw[if_pos o,← n]
 have g:=QiN a.2.2.1
 have d:=QiN (!a.2.2.1)
 have c:(if (!a.2.2.1)=true then (49:UInt8) else 48)≠(if a.2.2.1=true then 49 else 48):=by cases a.2.2.1 <;> decide
 generalize (if (!a.2.2.1)=true then (49:UInt8) else 48)=f0 at d c ⊢
 generalize (if a.2.2.1=true then (49:UInt8) else 48)=t0 at g c ⊢
 rw[if_neg]
 rintro ⟨b,e⟩
 have p:bv (agb vs a.1.toNat f0).1 a.1.toNat=f0:=by
  rw[Qoy] at b ⊢
  split
  ·assumption
  ·rename_i h
   rw[if_neg h] at b
   split
   ·exact Yt (aM hi)
   ·rename_i l
    rw[if_neg l] at b
    cases b
 rw[Qoy (agb vs a.1.toNat f0).1,p,if_neg c,if_neg d] at e
 cases e
theorem Qof {b:DAr}(h:∀a∈rs,InR m a)(c:vs.length=m)(e:b∈rs)(o:b.2.1=sig)(n:b.1=b.2.2.2):Xg sig rs vs ch=none:=by
 induction rs generalizing vs ch with
 | nil=>cases e
 | cons a rs p=>
  have g:=h a (az ..)
  rw[Xg]
  cases d:Xz sig a vs with
  | none=>rfl
  | some r=>
   obtain ⟨q,c1⟩:=r
   rcases aK.1 e with rfl | e
   ·have:=g.1
    rw[Qom o n (by omega)] at d
    cases d
   ·exact p (fun b l=>h b (ay _ l)) ((XA (by rw[c]; exact g) d).1.trans c) e
theorem Qq7 (h:YU sig a us=some us'):us'.length=us.length:=by
 unfold YU at h
 generalize (if (!a.2.2.1)=true then (49:UInt8) else 48)=f0 at h
 generalize (if a.2.2.1=true then (49:UInt8) else 48)=t0 at h
 split at h
 ·split at h
  ·cases h
  ·cases h; simp
 ·split at h
  ·cases h; simp
  ·split at h
   ·cases h
   ·cases h; simp
theorem QgT {c:UInt8}(h:YU sig a us=some us')(g:us[i]? =some c)(h0:c≠63):us'[i]? =some c:=by
 have p:=(ai.1 g).1
 have b:∀x y:UInt8,(i=a.2.2.2.toNat→y=c)→(i=a.1.toNat→x=c)→((us.set a.1.toNat x).set a.2.2.2.toNat y)[i]? =some c:=fun x y q d=>by
  by_cases n:a.2.2.2.toNat=i
  ·rw[n,aM (by simpa using p),q n.symm]
  ·rw[aX n]
   by_cases o:a.1.toNat=i
   ·rw[o,aM p,d o.symm]
   ·rw[aX o]; exact g
 unfold YU at h
 generalize (if (!a.2.2.1)=true then (49:UInt8) else 48)=f0 at h
 generalize (if a.2.2.1=true then (49:UInt8) else 48)=t0 at h
 split at h
 ·split at h
  ·cases h
  ·rename_i d
   cases h
   refine b _ _ (fun e=> ?_) (fun e=> ?_)
   ·rw[← e,Yt g] at d
    exact ce fun l=>d (.inr ⟨h0,fun e=>l e.symm⟩)
   ·rw[← e,Yt g] at d
    exact ce fun l=>d (.inl ⟨h0,fun e=>l e.symm⟩)
 ·split at h
  ·rename_i d
   cases h
   refine b _ _ (fun e=> ?_) (fun e=> ?_)
   ·rw[← e,Yt g]
   ·rw[← e,Yt g] at d; exact absurd d h0
  ·split at h
   ·cases h
   ·rename_i d l
    cases h
    refine b _ _ (fun e=> ?_) (fun e=> ?_)
    ·rw[← e,Yt g] at l
     exact ce fun r=>l ⟨h0,fun e=>r e.symm⟩
    ·rw[← e,Yt g]
theorem Qoc {c:UInt8}(h:Xu sig rs us=some us')(d:us[i]? =some c)(h0:c≠63):us'[i]? =some c:=by
 induction rs generalizing us with
 | nil=>rw[Xu] at h; cases h; exact d
 | cons a rs e=>
  rw[Xu] at h
  cases b:YU sig a us with
  | none=>rw[b] at h; cases h
  | some g=>rw[b] at h; exact e h (QgT b d h0)
theorem Qoe {b:DAr}(e:b∈rs)(o:b.2.1=sig)(n:b.1=b.2.2.2)(hi:b.1.toNat < us.length)(h:Xu sig rs us=some us'):∃c,us'[b.1.toNat]? =some c∧c≠63:=by
 induction rs generalizing us with
 | nil=>cases e
 | cons a rs p=>
  rw[Xu] at h
  cases d:YU sig a us with
  | none=>rw[d] at h; cases h
  | some q=>
   rw[d] at h
   rcases aK.1 e with rfl | e
   ·have l:q[b.1.toNat]? =some (if b.2.2.1=true then 49 else 48):=by
     unfold YU at d
     rw[if_pos o] at d
     generalize (if (!b.2.2.1)=true then (49:UInt8) else 48)=f0 at d
     generalize (if b.2.2.1=true then (49:UInt8) else 48)=t0 at d ⊢
     split at d
     ·cases d
     ·cases d
      rw[← n,aM (by simpa using hi)]
    have g:(if b.2.2.1=true then (49:UInt8) else 48)≠63:=by cases b.2.2.1 <;> decide
    exact ⟨_,Qoc h l g,g⟩
   ·exact p e (by rw[Qq7 d]; exact hi) h
theorem Qod {b:DAr}{c:UInt8}(d:b∈rs)(p:b.2.1=sig)(o:b.1=b.2.2.2)(h:us[b.1.toNat]? =some c)(h0:c≠63):Xu sig rs us=none:=by
 induction rs generalizing us with
 | nil=>cases d
 | cons a rs q=>
  rw[Xu]
  rcases aK.1 d with rfl | d
  ·have:YU sig b us=none:=by
    unfold YU
    rw[if_pos p,← o,Yt h,if_pos]
    have n:(if (!b.2.2.1)=true then (49:UInt8) else 48)≠(if b.2.2.1=true then 49 else 48):=by cases b.2.2.1 <;> decide
    by_cases e:c=(if (!b.2.2.1)=true then (49:UInt8) else 48)
    ·exact .inr ⟨h0,fun l=>n (e.symm.trans l)⟩
    ·exact .inl ⟨h0,e⟩
   rw[this]
  ·cases g:YU sig a us with
   | none=>rfl
   | some r=>exact q d (QgT g h h0)
def q0 (c:UInt8):UInt8:=if c=63 then 48 else c
theorem Qxf (d:Kn vs):(vs.map qm).map q0=vs.map fz:=by
 rw[List.map_map]
 refine List.map_congr_left fun c b=> ?_
 rcases d c b with rfl | rfl | rfl <;> rfl
theorem Qgw {n:Nat}(t:∀a∈arcs,InR n a):((l5V n arcs sig).2=false∧(Ya n arcs sig).2=false∧l5V n arcs sig=(⟨#[]⟩,false)∧Ya n arcs sig=([],false))∨∃us:List UInt8,l5V n arcs sig=(⟨us.toArray⟩,true)∧us.length=n∧Ya n arcs sig=(us.map q0,true):=by
 by_cases d:∃b∈arcs,b.2.1=sig∧b.1=b.2.2.2
 ·obtain ⟨b,s,l,y⟩:=d
  have A:W2 sig arcs (n+1) (List.replicate n 0)=none:=by rw[W2,Qof t (by simp) s l y]
  obtain ⟨⟨H,I⟩,_,_⟩:=t b s
  have z:WM sig arcs (n+1) (List.replicate n 63)=none:=by
   obtain ⟨u,rfl⟩:∃u,n=u+1:=⟨n - 1,by omega⟩
   rw[WM]
   cases q:Xu sig arcs (List.replicate (u+1) 63) with
   | none=>rfl
   | some G=>
    obtain ⟨c,g,p⟩:=Qoe s l y (by simp; omega) q
    show WM sig arcs (u+1) G=none
    rw[WM,Qod s l y g p]
  exact .inl ⟨by rw[VF z],by rw[XV A],VF z,XV A⟩
 ·have E:∀a∈arcs,a.2.1=sig→a.1≠a.2.2.2:=fun a C g p=>d ⟨a,C,g,p⟩
  obtain ⟨g,p⟩:=Qln (f:=n+1) (vs:=List.replicate n 0) t E (fun c D=> .inl (cJ D)) (by simp) (by rw[Qkw]; omega)
  have e:(List.replicate n (0:UInt8)).map qm=List.replicate n 63:=by rw[List.map_replicate]; rfl
  rw[e] at g
  cases o:W2 sig arcs (n+1) (List.replicate n 0) with
  | none=>
   rw[o] at g
   exact .inl ⟨by rw[VF g],by rw[XV o],VF g,XV o⟩
  | some vs=>
   rw[o] at g
   refine .inr ⟨vs.map qm,Qjk g, ?_, ?_⟩
   ·have:∀{f:Nat} {v w:List UInt8},v.length=n→W2 sig arcs f v=some w→w.length=n:=fun {f}=>by
     induction f with
     | zero=>intro v w l h; rw[W2] at h; cases h; exact l
     | succ f F=>
      intro v w l h
      rw[W2] at h
      cases q:Xg sig arcs v false with
      | none=>rw[q] at h; cases h
      | some r=>
       obtain ⟨J,c1⟩:=r
       rw[q] at h
       have B:=(Qbv t l q).1
       cases c1 with
       | true=>exact F B h
       | false=>cases h; exact B
    rw[aF]
    exact this (by simp) o
   ·rw[QdG o,Qxf (p _ o)]
end
end Go.Proofs.YtndabgcpnmeeoaaGreat
