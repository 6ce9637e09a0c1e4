/- Walks over abstract states: labelled arcs, the values of a signal. -/
import Derived.Test.YtndabgcpnmeeoaaGreatOWk
set_option linter.unusedSimpArgs false
set_option linter.unusedVariables false
set_option linter.unusedSectionVars false
namespace Go.Proofs.YtndabgcpnmeeoaaGreat
open Go.RowKit
set_option maxRecDepth 100000
set_option maxHeartbeats 4000000
abbrev DMv:=Int×Int×Int
abbrev DAr:=Int×Int×Bool×Int
def QjQ (ls:List Q9)(t:Int):Q9:=(ls[t.toNat]?).getD (0,false)
theorem Qh7 {ls:List Q9}{t:Int}{y:Q9}(h:ls[t.toNat]? =some y):QjQ ls t=y:=by unfold QjQ; rw[h]; rfl
def QgB (ls:List Q9)(m:DMv):DAr:=(m.1,(QjQ ls m.2.1).1,(QjQ ls m.2.1).2,m.2.2)
def QA (ls:List Q9)(ms:List DMv):List DAr:=ms.map (QgB ls)
def bv (l:List UInt8)(i:Nat):UInt8:=(l[i]?).getD 0
theorem Yn {l:List UInt8}{i:Nat}{c:UInt8}(h:l[i]? =some c):bv l i=c:=by unfold bv; rw[h]; rfl
def agr (vs:List UInt8)(i j:Nat):List UInt8×Bool×Bool:=
 if bv vs i=bv vs j then (vs,true,false) else if bv vs i=0 then (vs.set i (bv vs j),true,true) else if bv vs j=0 then (vs.set j (bv vs i),true,true) else (vs,false,false)
def agb (vs:List UInt8)(i:Nat)(c:UInt8):List UInt8×Bool×Bool:=
 if bv vs i=c then (vs,true,false) else if bv vs i=0 then (vs.set i c,true,true) else (vs,false,false)
section
variable {vs vs':List UInt8}{i j k:Nat}{a b c:UInt8}
theorem Wp (d:vs[i]? =some a)(e:vs[j]? =some b):agr vs i j=if a=b then (vs,true,false) else if a=0 then (vs.set i b,true,true) else if b=0 then (vs.set j a,true,true) else (vs,false,false):=by
 unfold agr; rw[Yn d,Yn e]
theorem Vv (d:vs[i]? =some a):agb vs i c=if a=c then (vs,true,false) else if a=0 then (vs.set i c,true,true) else (vs,false,false):=by
 unfold agb; rw[Yn d]
theorem QhG (vs:List UInt8)(i j:Nat):(agr vs i j).1.length=vs.length:=by
 unfold agr; split <;> try rfl
 split <;> try simp
 split <;> simp
theorem Vb (vs:List UInt8)(i:Nat)(c:UInt8):(agb vs i c).1.length=vs.length:=by
 unfold agb; split <;> try rfl
 split <;> simp
def ZT (vs:List UInt8):Nat:=(vs.filter fun c=>c=0).length
theorem Qjs (n:Nat):ZT (List.replicate n 0)=n:=by simp[ZT]
theorem Qer {l:List UInt8}(h:l[i]? =some 0)(d:c≠0):ZT (l.set i c)+1=ZT l:=by
 induction l generalizing i with
 | nil=>simp at h
 | cons x l e=>
  cases i with
  | zero=>
   simp only[bD,bC] at h
   subst h
   simp[ZT,d]
  | succ i=>
   have:=e (i:=i) (by simpa using h)
   simp only[ZT,cv,cN] at this ⊢
   split <;> simp_all
theorem QtA (m:i < vs.length)(o:j < vs.length):ZT (agr vs i j).1≤ZT vs∧((agr vs i j).2.2=true→ZT (agr vs i j).1 < ZT vs)∧((agr vs i j).2.1=true→(agr vs i j).2.2=false→(agr vs i j).1=vs):=by
 have d:=ap m
 have e:=ap o
 rw[Wp d e]
 split
 ·simp
 ·rename_i l
  split
  ·rename_i g
   rw[g] at d l
   have:=Qer d (c:=vs[j]) (fun h=>l h.symm)
   simp; omega
  ·rename_i g
   split
   ·rename_i p
    rw[p] at e
    have:=Qer e g
    simp; omega
   ·simp
theorem Qna (e:i < vs.length)(h:c≠0):ZT (agb vs i c).1≤ZT vs∧((agb vs i c).2.2=true→ZT (agb vs i c).1 < ZT vs)∧((agb vs i c).2.1=true→(agb vs i c).2.2=false→(agb vs i c).1=vs):=by
 have d:=ap e
 rw[Vv d]
 split
 ·simp
 ·split
  ·rename_i g
   rw[g] at d
   have:=Qer d h
   simp; omega
  ·simp
end
def Xu (sig:Int)(a:DAr)(vs:List UInt8):Option (List UInt8×Bool):=
 if a.2.1=sig then
  (if (agb vs a.1.toNat (if (!a.2.2.1) = true then 49 else 48)).2.1 = true ∧ (agb (agb vs a.1.toNat (if (!a.2.2.1) = true then 49 else 48)).1 a.2.2.2.toNat (if a.2.2.1 = true then 49 else 48)).2.1 = true then
   some ((agb (agb vs a.1.toNat (if (!a.2.2.1)=true then 49 else 48)).1 a.2.2.2.toNat (if a.2.2.1=true then 49 else 48)).1,(agb vs a.1.toNat (if (!a.2.2.1)=true then 49 else 48)).2.2||(agb (agb vs a.1.toNat (if (!a.2.2.1)=true then 49 else 48)).1 a.2.2.2.toNat (if a.2.2.1=true then 49 else 48)).2.2)
  else none)
 else if (agr vs a.1.toNat a.2.2.2.toNat).2.1=true then some ((agr vs a.1.toNat a.2.2.2.toNat).1,(agr vs a.1.toNat a.2.2.2.toNat).2.2) else none
def Xc (sig:Int):List DAr→List UInt8→Bool→Option (List UInt8×Bool)
 | [],vs,ch=>some (vs,ch)
 | a :: rs,vs,ch=>match Xu sig a vs with
  | none=>none
  | some (vs',c)=>Xc sig rs vs' (ch||c)
def W5 (sig:Int)(arcs:List DAr):Nat→List UInt8→Option (List UInt8)
 | 0,vs=>some vs
 | f+1,vs=>match Xc sig arcs vs false with
  | none=>none
  | some (vs',ch)=>if ch=true then W5 sig arcs f vs' else some vs'
def QcZ (sig:Int)(arcs:List DAr)(f:Nat):Option (List UInt8×Bool)→Option (List UInt8)
 | none=>none
 | some (vs',ch)=>if ch=true then W5 sig arcs f vs' else some vs'
def fz (c:UInt8):UInt8:=if c=0 then 48 else c
def Z9 (n:Nat)(arcs:List DAr)(sig:Int):List UInt8×Bool:=match W5 sig arcs (n+1) (List.replicate n 0) with
 | none=>([],false)
 | some vs=>(vs.map fz,true)
def InR (n:Int)(a:DAr):Prop:=(0≤a.1∧a.1 < n)∧0≤a.2.2.2∧a.2.2.2 < n
section
variable {sig n:Int}{a:DAr}{vs vs':List UInt8}{arcs rs:List DAr}{ch ch' c:Bool}{f k:Nat}
theorem Y7 (g:a.2.1=sig)(d:(agb vs a.1.toNat (if (!a.2.2.1)=true then 49 else 48)).2.1=true)(e:(agb (agb vs a.1.toNat (if (!a.2.2.1)=true then 49 else 48)).1 a.2.2.2.toNat (if a.2.2.1=true then 49 else 48)).2.1=true):
 Xu sig a vs=some ((agb (agb vs a.1.toNat (if (!a.2.2.1)=true then 49 else 48)).1 a.2.2.2.toNat (if a.2.2.1=true then 49 else 48)).1,(agb vs a.1.toNat (if (!a.2.2.1)=true then 49 else 48)).2.2||(agb (agb vs a.1.toNat (if (!a.2.2.1)=true then 49 else 48)).1 a.2.2.2.toNat (if a.2.2.1=true then 49 else 48)).2.2):=by
 unfold Xu; rw[if_pos g,if_pos ⟨d,e⟩]
theorem W6 (e:a.2.1=sig)(d:(agb vs a.1.toNat (if (!a.2.2.1)=true then 49 else 48)).2.1=false):Xu sig a vs=none:=by
 unfold Xu; rw[if_pos e,if_neg (fun h=>by rw[d] at h; cases h.1)]
theorem W7 (e:a.2.1=sig)(d:(agb (agb vs a.1.toNat (if (!a.2.2.1)=true then 49 else 48)).1 a.2.2.2.toNat (if a.2.2.1=true then 49 else 48)).2.1=false):Xu sig a vs=none:=by
 unfold Xu; rw[if_pos e,if_neg (fun h=>by rw[d] at h; cases h.2)]
theorem XW (e:¬a.2.1=sig)(d:(agr vs a.1.toNat a.2.2.2.toNat).2.1=true):Xu sig a vs=some ((agr vs a.1.toNat a.2.2.2.toNat).1,(agr vs a.1.toNat a.2.2.2.toNat).2.2):=by
 unfold Xu; rw[if_neg e,if_pos d]
theorem V4 (e:¬a.2.1=sig)(d:(agr vs a.1.toNat a.2.2.2.toNat).2.1=false):Xu sig a vs=none:=by
 unfold Xu; rw[if_neg e,if_neg (by rw[d]; decide)]
theorem QhO (b:Bool):(if b=true then (49:UInt8) else 48)≠0:=by split <;> decide
theorem Qdq {x:Bool}(h:ch=true):true=(ch||x):=by rw[h]; rfl
theorem Qgk {d g:Bool}(h:ch=false)(e:d=true):true=(ch||(d||g)):=by rw[h,e]; rfl
theorem Qgl {d e:Bool}(h:ch=false)(g:d=false):e=(ch||(d||e)):=by rw[h,g]; rfl
theorem Qdr {m:Bool}(h:ch=false):m=(ch||m):=by rw[h]; rfl
theorem Qnk (b:Bool):decide ((if b=true then (49:UInt8) else 48)=0)=false:=by cases b <;> rfl
theorem Xv (v:InR vs.length a)(h:Xu sig a vs=some (vs',c)):vs'.length=vs.length∧ZT vs'≤ZT vs∧(c=true→ZT vs' < ZT vs)∧(c=false→vs'=vs):=by
 obtain ⟨⟨w,x⟩,y,z⟩:=v
 unfold Xu at h
 have e:=QhO (!a.2.2.1)
 have g:=QhO a.2.2.1
 generalize (if (!a.2.2.1)=true then (49:UInt8) else 48)=f0 at h e
 generalize (if a.2.2.1=true then (49:UInt8) else 48)=t0 at h g
 have l:=Qna (vs:=vs) (i:=a.1.toNat) (c:=f0) (by omega) e
 have d:=Qna (vs:=(agb vs a.1.toNat f0).1) (i:=a.2.2.2.toNat) (c:=t0) (by rw[Vb]; omega) g
 have o:=QtA (vs:=vs) (i:=a.1.toNat) (j:=a.2.2.2.toNat) (by omega) (by omega)
 have r:=Vb vs a.1.toNat f0
 have q:=Vb (agb vs a.1.toNat f0).1 a.2.2.2.toNat t0
 have s:=QhG vs a.1.toNat a.2.2.2.toNat
 generalize agb (agb vs a.1.toNat f0).1 a.2.2.2.toNat t0=g2 at h d q
 generalize agb vs a.1.toNat f0=g1 at h l d r q
 generalize agr vs a.1.toNat a.2.2.2.toNat=g3 at h o s
 split at h
 ·split at h
  ·rename_i m
   simp only[bC,Prod.mk.injEq] at h
   obtain ⟨rfl,rfl⟩:=h
   refine ⟨q.trans r,bn d.1 l.1,fun p=> ?_,fun p=> ?_⟩
   ·rcases Bool.or_eq_true_iff.1 p with h | h
    ·exact Nat.lt_of_le_of_lt d.1 (l.2.1 h)
    ·exact bq (d.2.1 h) l.1
   ·obtain ⟨t,u⟩:=du.1 p
    rw[d.2.2 m.2 u,l.2.2 m.1 t]
  ·cases h
 ·split at h
  ·rename_i m
   simp only[bC,Prod.mk.injEq] at h
   obtain ⟨rfl,rfl⟩:=h
   exact ⟨s,o.1,o.2.1,o.2.2 m⟩
  ·cases h
theorem J8 (e:arcs[k]? =some a)(h:Xu sig a vs=some (vs',c))(d:ch'=(ch||c)):Xc sig (arcs.drop k) vs ch=Xc sig (arcs.drop (k+1)) vs' ch':=by
 rw[ZA e,Xc,h,d]
theorem V3 (d:arcs[k]? =some a)(h:Xu sig a vs=none):Xc sig (arcs.drop k) vs ch=none:=by
 rw[ZA d,Xc,h]
theorem QpI (d:arcs.length≤k):Xc sig (arcs.drop k) vs ch=some (vs,ch):=by rw[bz d,Xc]
theorem QaQ {m:Nat}(o:∀a∈rs,InR m a)(d:vs.length=m)(h:Xc sig rs vs ch=some (vs',ch')):vs'.length=m∧ZT vs'≤ZT vs∧(ch'=true→ch=true∨ZT vs' < ZT vs)∧(ch'=false→vs'=vs∧ch=false):=by
 induction rs generalizing vs ch with
 | nil=>rw[Xc] at h; cases h; exact ⟨d,aL _,fun h=> .inl h,fun h=>⟨rfl,h⟩⟩
 | cons a rs z=>
  rw[Xc] at h
  cases g:Xu sig a vs with
  | none=>rw[g] at h; cases h
  | some r=>
   obtain ⟨D,c1⟩:=r
   rw[g] at h
   obtain ⟨v,l,w,x⟩:=Xv (by rw[d]; exact o a (aw ..)) g
   obtain ⟨A,p,B,C⟩:=z (fun b y=>o b (ax _ y)) (v.trans d) h
   refine ⟨A,bn p l,fun e=> ?_,fun e=> ?_⟩
   ·rcases B e with h | h
    ·rcases Bool.or_eq_true_iff.1 h with h | h
     ·exact .inl h
     ·exact .inr (Nat.lt_of_le_of_lt p (w h))
    ·exact .inr (bq h l)
   ·obtain ⟨q,s⟩:=C e
    obtain ⟨t,u⟩:=du.1 s
    exact ⟨q.trans (x u),t⟩
theorem QuN (f:Nat)(vs:List UInt8):W5 sig arcs (f+1) vs=QcZ sig arcs f (Xc sig arcs vs false):=by
 rw[W5]; cases Xc sig arcs vs false <;> rfl
theorem QpQ {m:Nat}(o:∀a∈arcs,InR m a):∀{f g:Nat} {vs:List UInt8},vs.length=m→ZT vs < f→ZT vs < g→W5 sig arcs f vs=W5 sig arcs g vs:=fun {f}=>by
 induction f with
 | zero=>intro g vs d h; omega
 | succ f p=>
  intro g vs d t u
  cases g with
  | zero=>omega
  | succ g=>
   rw[W5,W5]
   cases l:Xc sig arcs vs false with
   | none=>rfl
   | some r=>
    obtain ⟨e,c1⟩:=r
    obtain ⟨q,v,s,w⟩:=QaQ o d l
    cases c1 with
    | false=>rfl
    | true=>
     rcases s rfl with h | h
     ·cases h
     ·show W5 sig arcs f e=W5 sig arcs g e
      exact p q (by omega) (by omega)
theorem Qk0 {m:Nat}(g:∀a∈arcs,InR m a)(e:vs'.length=m)(d:ZT vs'≤ZT vs∧(ch=true→ZT vs' < ZT vs)):QcZ sig arcs (ZT vs) (some (vs',ch))=if ch=true then W5 sig arcs (ZT vs'+1) vs' else some vs':=by
 show (if ch=true then _ else _)=_
 cases ch with
 | false=>rfl
 | true=>exact QpQ g e (d.2 rfl) (Nat.lt_succ_self _)
theorem Qr6 {m c1 c2:Nat}(e:m=if ch=true then c1+1 else 0)(hb:ch=true)(d:c2≤c1∧(ch'=true→c2 < c1)):(if ch'=true then c2+1 else 0) < m:=by
 rw[e,if_pos hb]
 cases ch' with
 | false=>simp
 | true=>have:=d.2 rfl; simp; omega
theorem JO {d:Nat}(g:ZT vs≤d∧(ch=true→ZT vs < d))(h:vs'.length=vs.length∧ZT vs'≤ZT vs∧(c=true→ZT vs' < ZT vs)∧(c=false→vs'=vs))(o:ch'=(ch||c)):ZT vs'≤d∧(ch'=true→ZT vs' < d):=by
 obtain ⟨p,l,m,_⟩:=h
 refine ⟨bn l g.1,fun e=> ?_⟩
 rw[o] at e
 rcases Bool.or_eq_true_iff.1 e with h | h
 ·exact Nat.lt_of_le_of_lt l (g.2 h)
 ·exact bq (m h) g.1
theorem XX {n:Nat}(h:W5 sig arcs (n+1) (List.replicate n 0)=none):Z9 n arcs sig=([],false):=by unfold Z9; rw[h]
theorem QcN {n:Nat}(h:W5 sig arcs (n+1) (List.replicate n 0)=some vs):Z9 n arcs sig=(vs.map fz,true):=by unfold Z9; rw[h]
def Wd (vs:List UInt8)(k:Nat):List UInt8:=(vs.take k).map fz++vs.drop k
theorem QgU (vs:List UInt8)(k:Nat):(Wd vs k).length=vs.length:=by simp[Wd]; omega
theorem Qud (vs:List UInt8):Wd vs 0=vs:=by simp[Wd]
theorem Qpk (h:vs.length≤k):Wd vs k=vs.map fz:=by simp[Wd,aJ h,bz h]
theorem QrD {x:UInt8}(h:(Wd vs k)[k]? =some x):vs[k]? =some x:=by
 have d:k < vs.length:=by have:=(ah.1 h).1; rwa [QgU] at this
 unfold Wd at h
 rw[bk (by simp; omega)] at h
 simp only[aB,ao,cu (Nat.le_of_lt d),dJ] at h
 rw[cw] at h
 simpa using h
theorem Qfd {x:UInt8}(h:(Wd vs k)[k]? =some x):Wd vs (k+1)=(Wd vs k).set k (fz x):=by
 have d:=QrD h
 have e:=(ah.1 d).1
 unfold Wd
 rw[List.set_append_right _ _ (by simp; omega)]
 simp only[aB,ao,cu (Nat.le_of_lt e),dJ]
 rw[ZA d,Qs d]
 simp
theorem QgV {x:UInt8}(h:(Wd vs k)[k]? =some x)(h0:decide (x=0)=true):(Wd vs k).set k 48=Wd vs (k+1):=by
 rw[Qfd h,show fz x=48 by simp[fz,ab h0]]
theorem Qfc {x:UInt8}(h:(Wd vs k)[k]? =some x)(h0:decide (x=0)=false):Wd vs k=Wd vs (k+1):=by
 rw[Qfd h,show fz x=x by simp[fz,aa h0]]
 apply bF
 intro i
 by_cases e:k=i
 ·subst e; rw[aX (ah.1 h).1]; exact h
 ·rw[aZ e]
end
theorem Xf (s:Qk1)(t:s.length≤1000000):FC Tryz.prog 242 [(false,[.dat Qo s])] [] 0 (XB 77 QE s):=by
 refine Qn Tryz.func242 rfl rfl Tryz.ntmps242 fun p g o h q m l=> ?_
 refine w6 ?_
 refine QiQ (Qa rfl) Evl.val Jf rfl fun r d=> ?_
 refine w_ ?_
 refine cb_ (fun _=> ?_) fun _=> ?_
 refine w2 ?_
 refine lc (dBs 0 (e:=QE) Hg) ?_
 refine w_ ?_
 refine lc (QI 1 (Qa rfl) rfl (Evl.rep (Qa rfl)) rfl Jf Qau (by first | omega | (simp only[ae,aB,ao,aq,az]; omega) | (simp only[ae,aW,ao,aq,az]; omega)) rfl (Fresh.of rfl) (nlr rfl)) ?_
 refine w2 ?_
 refine Qe<|fo_ g ?_
 rfl
 refine w3 ?_
 refine AC.wk (Wk.nilS 2 2 77 QE rfl (Fresh.of rfl) (nlr rfl))<|Qe<|fo_ g ?_
 exact (d ‹_›).symm
theorem JX (s:YA)(r:Qev)(x:∀m∈r.2,0≤m.2.1∧m.2.1 < (s.2.2.1.length:Int))(C:r.2.length≤1000000):FC Tryz.prog 243 [(true,[dI s.1.1, .dat QF s.1.2, .dat Qo s.2.1, .dat Qw s.2.2.1,dS s.2.2.2]),(true,[.dat Qu r.1, .dat Y5 r.2])] [] 0 (XB 154 W8 (QA s.2.2.1 r.2)):=by
 refine Qn Tryz.func243 rfl rfl Tryz.ntmps243 fun A w z t B v u=> ?_
 refine acG 0 0 fun _=> ?_
 refine w_ ?_
 refine xbx 0 ?_
 refine xbx 1 ?_
 refine w3 ?_
 refine lc (dBs 2 (e:=W8) XH) ?_
 refine w6 ?_
 refine alL 11 fun _=> ?_
 refine w4 ?_
 refine lp0 r.2.length (fun k=>⟨[(2,lP 0 0),(4,lf (.val (.slice none 0 0))),(5,lR 3),(11,lf (.dat Y5 r.2)),(12,lI (r.2.length:Int)),(13,lI (k:Int))],[bx 0 51 [dI s.1.1, .dat QF s.1.2, .dat Qo s.2.1, .dat Qw s.2.2.1,dS s.2.2.2],ar 3 154 W8 ((r.2.take k).map (QgB s.2.2.1))]⟩) ?_ fun k _=> ?_
 exact wp [(3,2)] ⟨rfl,(Qh (by first | rfl | simp)),trivial⟩
 refine w4 ?_
 cases d:(decide ((k:Int) < (r.2.length:Int)))
 have g:=aa d
 refine w7 ?_
 refine Qe<|fo_ w ?_
 rw[Q8 (by omega)]; rfl
 have g:=ab d
 refine w5 ?_
 obtain ⟨l,h⟩:=gx r.2 k
 have y:=x _ (ai h)
 refine w2 ?_
 refine lc (xal 4 Zx YX) ?_
 refine w7 ?_
 refine alI 20 fun _=> ?_
 obtain ⟨o,q⟩:=gx s.2.2.1 ((l.2.1).toNat)
 have p:=Qh7 q
 refine w2 ?_
 refine lc (xal 5 QL Xy) ?_
 refine w6 ?_
 refine alI 25 fun _=> ?_
 refine w2 ?_
 refine alI 27 fun _=> ?_
 refine w4 ?_
 refine alI 31 fun _=> ?_
 refine lc (Qj Qnm ⟨_,_,rfl,(Ql rfl),⟨_,_,rfl,(Ql rfl),⟨_,_,rfl,(Ql rfl),⟨_,_,rfl,(Ql rfl),rfl⟩⟩⟩⟩ (av.1 rfl) rfl rfl) ?_
 refine lc (dBs 6 (e:=W8) XH (hab:=by exact ⟨_,_,_,_,rfl,⟨[dI l.1],[dI o.1,dB o.2,dI l.2.2],_,_,_,_,rfl,rfl,⟨rfl,rfl⟩,⟨[dI o.1],[dB o.2,dI l.2.2],_,_,_,_,rfl,rfl,⟨rfl,rfl⟩,⟨[dB o.2],[dI l.2.2],_,_,_,_,rfl,rfl,⟨rfl,rfl⟩,⟨rfl,rfl⟩,rfl⟩,rfl⟩,rfl⟩,⟨rfl,rfl⟩,rfl⟩)) ?_
 refine lc (dA 7 Qnz) ?_
 refine w_ ?_
 refine Qf ?_
 refine w4 ?_
 refine Qf ?_
 refine l0_ ?_
 exact wp [(3,7)] ⟨rfl,(Qh (by rw[Qs h]; simp[QgB,p])),trivial⟩
theorem Qe1 (vs:List UInt8)(i:Nat)(j:Nat)(hi:i < vs.length)(E:j < vs.length):FC Tryz.prog 360 [(false,[.ept 0 1 i 0]),(false,[.ept 0 1 j 0])] [ar 0 5 .u8 vs] 1 (Is (PV.tup [(false,[dB ((agr vs i j).2.1)]),(false,[dB ((agr vs i j).2.2)])]) [ar 0 5 .u8 ((agr vs i j).1)]):=by
 refine Qn Tryz.func360 rfl rfl Tryz.ntmps360 fun C l B w D A z=> ?_
 refine w6 ?_
 obtain ⟨t,g⟩:=gx vs i
 obtain ⟨u,h⟩:=gx vs j
 apply dW [io 7 _,io 8 (lf (.ept 0 1 i 0)),io 9 (lf (.dat .u8 t)),io 10 _,io 11 (lf (.ept 0 1 j 0)),io 12 (lf (.dat .u8 u)),io 13 _,io 6 _] [0,0,0,7,7,7,0,0]
 refine z_ ?_
 refine zz (fun _ d=>ac (X7 (d.v rfl) (by rw[(d.en 0 rfl)]; rfl) rfl) rfl)<|zz (fun _ d=>ac (Zi (e:= .u8) (d.v rfl) (d.n 0 rfl) g rfl ZH rfl rfl) rfl) ?_
 refine z_ ?_
 refine zz (fun _ d=>ac (X7 (d.v rfl) (by rw[(d.en 0 rfl)]; rfl) rfl) rfl)<|zz (fun _ d=>ac (Zi (e:= .u8) (d.v rfl) (d.n 0 rfl) h rfl ZH rfl rfl) rfl) ?_
 exact y2
 refine cd_ (fun _ _=> ?_) fun _ _=> ?_
 refine w4 ?_
 refine lc (Zm (Qa rfl) (Q0 0 rfl) rfl) ?_
 refine w2 ?_
 refine cd_ (fun _ _=> ?_) fun _ _=> ?_
 refine w4 ?_
 refine lc (Zm (Qa rfl) (Q0 0 rfl) rfl) ?_
 refine w2 ?_
 refine cd_ (fun _ _=> ?_) fun _ _=> ?_
 refine w7 ?_
 have x:(false:Bool)=((agr vs i j).2.1):=by
  (rw[Wp ‹_› ‹_›]; simp[*]; done)
 have y:(false:Bool)=((agr vs i j).2.2):=by
  (rw[Wp ‹_› ‹_›]; simp[*]; done)
 exact fi_ [] l ⟨(Qh (by (rw[Wp ‹_› ‹_›]; simp[*]; done))),trivial⟩ (h0:=by rw[← x,← y] <;> rfl)
 refine w6 ?_
 refine lc (Qz (e:= .u8) (z':=t) (Qa rfl) rfl h rfl (Ql rfl) rfl ZH rfl rfl) ?_
 refine w6 ?_
 have m:(true:Bool)=((agr vs i j).2.1):=by
  (rw[Wp ‹_› ‹_›]; simp[*]; done)
 have o:(true:Bool)=((agr vs i j).2.2):=by
  (rw[Wp ‹_› ‹_›]; simp[*]; done)
 exact fi_ [] l ⟨(Qh (by (rw[Wp ‹_› ‹_›]; simp[*]; done))),trivial⟩ (h0:=by rw[← m,← o] <;> rfl)
 refine w6 ?_
 refine lc (Qz (e:= .u8) (z':=u) (Qa rfl) rfl g rfl (Ql rfl) rfl ZH rfl rfl) ?_
 refine w6 ?_
 have p:(true:Bool)=((agr vs i j).2.1):=by
  (rw[Wp ‹_› ‹_›]; simp_all; done)
 have q:(true:Bool)=((agr vs i j).2.2):=by
  (rw[Wp ‹_› ‹_›]; simp_all; done)
 exact fi_ [] l ⟨(Qh (by (rw[Wp ‹_› ‹_›]; simp_all; done))),trivial⟩ (h0:=by rw[← p,← q] <;> rfl)
 refine w5 ?_
 have r:(true:Bool)=((agr vs i j).2.1):=by
  (rw[Wp ‹_› ‹_›]; simp[*]; done)
 have s:(false:Bool)=((agr vs i j).2.2):=by
  (rw[Wp ‹_› ‹_›]; simp[*]; done)
 exact fi_ [] l ⟨(Qh (by (rw[Wp ‹_› ‹_›]; simp[*]; done))),trivial⟩ (h0:=by rw[← r,← s] <;> rfl)
theorem UE (c:UInt8)(vs:List UInt8)(i:Nat)(hi:i < vs.length)(z:decide (c=0)=false):FC Tryz.prog 360 [(false,[.ept 1 1 i 0]),(false,[.ptr 0 0])] [bx 0 5 [.dat .u8 c],ar 1 5 .u8 vs] 2 (Is (PV.tup [(false,[dB ((agb vs i c).2.1)]),(false,[dB ((agb vs i c).2.2)])]) [bx 0 5 [.dat .u8 c],ar 1 5 .u8 ((agb vs i c).1)]):=by
 refine Qn Tryz.func360 rfl rfl Tryz.ntmps360 fun B o A q C y x=> ?_
 refine w6 ?_
 obtain ⟨r,h⟩:=gx vs i
 apply dW (io 7 _ :: io 8 (lf (.ept 1 1 i 0)) :: io 9 (lf (.dat .u8 r)) :: i4 10 _ _ _ _ [io 6 _]) [0,0,0,7,7,7,0,0]
 refine z_ ?_
 refine zz (fun _ d=>ac (X7 (d.v rfl) (by rw[(d.en 1 rfl)]; rfl) rfl) rfl)<|zz (fun _ d=>ac (Zi (e:= .u8) (d.v rfl) (d.n 1 rfl) h rfl ZH rfl rfl) rfl) ?_
 exact y5
 refine cd_ (fun _ _=> ?_) fun _ _=> ?_
 refine w4 ?_
 refine lc (Zm (Qa rfl) (Q0 0 rfl) rfl) ?_
 refine w2 ?_
 refine cd_ (fun _ _=> ?_) fun _ _=> ?_
 refine w4 ?_
 refine lc (Zm (Qa rfl) (Q0 0 rfl) rfl) ?_
 refine w2 ?_
 cases g:(decide (c=0))
 have p:=aa g
 refine w8 ?_
 have s:(false:Bool)=((agb vs i c).2.1):=by
  (rw[Vv ‹_›]; simp[*]; done)
 have t:(false:Bool)=((agb vs i c).2.2):=by
  (rw[Vv ‹_›]; simp[*]; done)
 exact fi_ [] o ⟨rfl,(Qh (by (rw[Vv ‹_›]; simp[*]; done))),trivial⟩ (h0:=by rw[← s,← t] <;> rfl)
 exact absurd (g.symm.trans (show (decide (c=0))=false from z)) (by decide)
 refine w6 ?_
 refine lc (Qz (e:= .u8) (z':=c) (Qa rfl) rfl h rfl (Ql rfl) rfl ZH rfl rfl) ?_
 refine w6 ?_
 have u:(true:Bool)=((agb vs i c).2.1):=by
  (rw[Vv ‹_›]; simp_all; done)
 have w:(true:Bool)=((agb vs i c).2.2):=by
  (rw[Vv ‹_›]; simp_all; done)
 exact fi_ [] o ⟨rfl,(Qh (by (rw[Vv ‹_›]; simp_all; done))),trivial⟩ (h0:=by rw[← u,← w] <;> rfl)
 refine w5 ?_
 have l:(true:Bool)=((agb vs i c).2.1):=by
  (rw[Vv ‹_›]; simp[*]; done)
 have m:(false:Bool)=((agb vs i c).2.2):=by
  (rw[Vv ‹_›]; simp[*]; done)
 exact fi_ [] o ⟨rfl,(Qh (by (rw[Vv ‹_›]; simp[*]; done))),trivial⟩ (h0:=by rw[← l,← m] <;> rfl)
theorem Qcl (n:Int)(arcs:List (Int×Int×Bool×Int))(sig:Int)(hn:0≤n∧n≤1000000)(O:∀a∈arcs,InR n.toNat a):FC Tryz.prog 244 [(false,[dI n]),(false,[.dat Yo arcs]),(false,[dI sig])] [] 0 (Is (PV.tup [(false,[.ref 0]),(false,[dB ((Z9 n.toNat arcs sig).2)])]) [(0,some (.arr 5 .u8 ((Z9 n.toNat arcs sig).1)))]):=by
 refine Qn Tryz.func244 rfl rfl Tryz.ntmps244 fun O_ H a3 X X_ a0 Z=> ?_
 refine acI 0 fun _=> ?_
 refine acI 2 fun _=> ?_
 refine w6 ?_
 refine lc (Qal 0 (e:= .u8) (n:=n) (Qa rfl) (Qa rfl) YN Qvm rfl (by omega) (by omega) (by omega) rfl (Fresh.of rfl) (nlr rfl)) ?_
 refine w7 ?_
 refine QH (fun F G=>∃(vs:List UInt8) (ch:Bool),F=(if ch=true then ZT vs+1 else 0)∧(W5 sig arcs (n.toNat+1) (List.replicate n.toNat 0)=(if ch=true then W5 sig arcs (ZT vs+1) vs else some vs))∧(vs.length=n.toNat)∧G=⟨[(1,lf (.dat Yo arcs)),(2,lI sig),(8,lR 1),(9,lB ch)],[(1,some (.arr 5 .u8 vs))]⟩) ⟨List.replicate (n).toNat (Ty.zero .u8),true,rfl,(by rw[if_pos rfl]; show _=W5 sig arcs (ZT (List.replicate n.toNat 0)+1) (List.replicate n.toNat 0); rw[Qjs]),(by simp),rfl⟩ ?_ ?_
 exact wp [(1,0)] ⟨(Qh (by first | rfl | simp)),trivial⟩
 rintro F G ⟨vs,ch,M,L,hL,rfl⟩
 refine w4 ?_
 cases a1:(ch)
 refine w10 ?_
 refine lp0 vs.length (fun j=>⟨[(8,lR 2),(88,lR 2),(89,lI (vs.length:Int)),(90,lI (j:Int))],[(2,some (.arr 5 .u8 (Wd vs j)))]⟩) ?_ fun j _=> ?_
 exact wp [(2,1)] ⟨(Qh ((Qud vs).symm)),trivial⟩
 have a2:=QgU vs j
 refine w4 ?_
 cases D:(decide ((j:Int) < (vs.length:Int)))
 have E:=aa D
 refine w9 ?_
 have Y:(true:Bool)=((Z9 n.toNat arcs sig).2):=by
  (rw[QcN (vs:=vs) (by rw[L,if_neg (by simp[*])])]; done)
 exact fi_ [(0,2)] H ⟨(Qh (by (rw[QcN (vs:=vs) (by rw[L,if_neg (by simp[*])]),Qpk (by omega)]; done))),trivial⟩ (h0:=by rw[← Y] <;> rfl)
 have E:=ab D
 refine w7 ?_
 obtain ⟨x9,o⟩:=gx (Wd vs j) j
 refine w6 ?_
 refine lc (Zm (Qa rfl) (Q0 0 rfl) rfl) ?_
 refine w_ ?_
 cases w:(decide (x9=0))
 have A:=aa w
 refine w6 ?_
 refine Qf ?_
 refine l0_ ?_
 exact wp [] ⟨(Qh (by first | exact QgV o ‹_› | exact Qfc o ‹_›)),trivial⟩
 have A:=ab w
 refine w5 ?_
 refine lc (Qz (e:= .u8) (z':=48) (Qa rfl) rfl o rfl (Evl.ev (Q0 48 rfl)) rfl ZH rfl rfl)<|Qf ?_
 refine w4 ?_
 refine Qf ?_
 refine l0_ ?_
 exact wp [] ⟨(Qh (by first | exact QgV o ‹_› | exact Qfc o ‹_›)),trivial⟩
 refine w8 ?_
 refine alL 27 fun _=> ?_
 refine w4 ?_
 refine QH (fun F G=>∃(i:Nat) (d:List UInt8) (p:Bool),i≤arcs.length∧F=arcs.length - i∧(W5 sig arcs (n.toNat+1) (List.replicate n.toNat 0)=QcZ sig arcs (ZT vs) (Xc sig (arcs.drop i) d p))∧(d.length=n.toNat)∧(ZT d≤ZT vs∧(p=true→ZT d < ZT vs))∧G=⟨[(1,lf (.dat Yo arcs)),(2,lI sig),(8,lR 3),(9,lB p),(26,lB true),(27,lf (.dat Yo arcs)),(28,lI (arcs.length:Int)),(29,lI (i:Int))],[(3,some (.arr 5 .u8 d))]⟩) ⟨0,vs,false,aP _,rfl,(by rw[L,if_pos ‹_›]; exact QuN _ _),hL,⟨aL _,fun h=>by cases h⟩,rfl⟩ ?_ ?_
 exact wo [(3,1)]
 rintro F G ⟨i,d,p,V,W,l,m,z,rfl⟩
 refine w4 ?_
 cases x:(decide ((i:Int) < (arcs.length:Int)))
 have B:=aa x
 refine w_ ?_
 refine QhB<|ZF ⟨d,p,rfl,(by rw[l,QpI (by omega)]; exact Qk0 O m z),m,rfl⟩ (by exact Qr6 M ‹_› z) ?_
 exact wo [(1,3)]
 have B:=ab x
 refine w5 ?_
 obtain ⟨ar,g⟩:=gx arcs i
 have N:=O _ (ai g)
 obtain ⟨⟨r,s⟩,t,u⟩:=N
 refine w2 ?_
 refine lc (xal 4 W8 XH) ?_
 refine w2 ?_
 apply dW (i3 33 _ _ _ (io 36 (lf (.ept 3 1 ((ar.1).toNat) 0)) :: i3 37 _ _ _ (io 40 (lf (.ept 3 1 ((ar.2.2.2).toNat) 0)) :: i2 12 _ _ []))) [0,1,1,0,15,31,31,15,240,0]
 refine z3 ?_
 refine zz (fun _ q=>ac (QU (e:= .u8) (q.v rfl) (q.en 3 rfl) (q.v rfl) YN ZH rfl (by omega) (by first | omega | (simp only[au]; omega))) rfl) ?_
 refine z3 ?_
 refine zz (fun _ q=>ac (QU (e:= .u8) (q.v rfl) (q.en 3 rfl) (q.v rfl) YN ZH rfl (by omega) (by first | omega | (simp only[au]; omega))) rfl) ?_
 exact y2
 refine w4 ?_
 refine alI 42 fun _=> ?_
 refine w3 ?_
 cases y:(decide (ar.2.1=sig))
 have C:=aa y
 refine w5 ?_
 refine lc (dP 5 [(0,3)] (Qe1 d ((ar.1).toNat) ((ar.2.2.2).toNat) (by omega) (by omega)) QaD) ?_
 refine w11 ?_
 cases P:((agr d ((ar.1).toNat) ((ar.2.2.2).toNat)).2.1)
 refine w5 ?_
 refine AC.wk (Wk.nilS 6 6 5 .u8 rfl (Fresh.of rfl) (nlr rfl))<|Qe ?_
 have I:(false:Bool)=((Z9 n.toNat arcs sig).2):=by
  (rw[XX (by rw[l,V3 g (by first | exact W6 ‹_› ‹_› | exact W7 ‹_› ‹_› | exact V4 ‹_› ‹_›)]; rfl)]; done)
 exact fi_ [(0,6)] H ⟨(Qh (by (rw[XX (by rw[l,V3 g (by first | exact W6 ‹_› ‹_› | exact W7 ‹_› ‹_› | exact V4 ‹_› ‹_›)]; rfl)]; done))),trivial⟩ (h0:=by rw[← I] <;> rfl)
 refine w5 ?_
 cases Q:(p)
 refine w3 ?_
 refine Qf ?_
 refine w4 ?_
 refine Qf<|ZF ⟨i+1,((agr d ((ar.1).toNat) ((ar.2.2.2).toNat)).1),((agr d ((ar.1).toNat) ((ar.2.2.2).toNat)).2.2),by omega,rfl,l.trans (congrArg (QcZ sig arcs (ZT vs)) (J8 g (by first | exact Y7 ‹_› ‹_› ‹_› | exact XW ‹_› ‹_›) (by first | exact Qdq ‹_› | exact Qgk ‹_› ‹_› | exact Qgl ‹_› ‹_› | exact Qdr ‹_›))),(by (rw[QhG]; exact m)),(JO z (Xv (by rw[m]; exact ⟨⟨r,s⟩,t,u⟩) (by first | exact Y7 ‹_› ‹_› ‹_› | exact XW ‹_› ‹_›)) (by first | exact Qdq ‹_› | exact Qgk ‹_› ‹_› | exact Qgl ‹_› ‹_› | exact Qdr ‹_›)),rfl⟩ (by omega) ?_
 exact wo []
 refine w3 ?_
 refine Qf ?_
 refine w4 ?_
 refine Qf<|ZF ⟨i+1,((agr d ((ar.1).toNat) ((ar.2.2.2).toNat)).1),true,by omega,rfl,l.trans (congrArg (QcZ sig arcs (ZT vs)) (J8 g (by first | exact Y7 ‹_› ‹_› ‹_› | exact XW ‹_› ‹_›) (by first | exact Qdq ‹_› | exact Qgk ‹_› ‹_› | exact Qgl ‹_› ‹_› | exact Qdr ‹_›))),(by (rw[QhG]; exact m)),(JO z (Xv (by rw[m]; exact ⟨⟨r,s⟩,t,u⟩) (by first | exact Y7 ‹_› ‹_› ‹_› | exact XW ‹_› ‹_›)) (by first | exact Qdq ‹_› | exact Qgk ‹_› ‹_› | exact Qgl ‹_› ‹_› | exact Qdr ‹_›)),rfl⟩ (by omega) ?_
 exact wo []
 have C:=ab y
 refine w_ ?_
 apply dW (i3 45 _ _ _ (io 48 (lf (.dat .u8 (if (!ar.2.2.1) then 49 else 48))) :: i2 49 _ _ [io 51 (lf (.dat .u8 (if ar.2.2.1 then 49 else 48))),⟨some 14,lP 7 0,[bx 7 5 [.dat .u8 0]]⟩,⟨some 15,lP 8 0,[bx 8 5 [.dat .u8 0]]⟩,⟨none,lf (.val undef),[bx 7 5 [.dat .u8 (if (!ar.2.2.1) then 49 else 48)]]⟩,⟨none,lf (.val undef),[bx 8 5 [.dat .u8 (if ar.2.2.1 then 49 else 48)]]⟩])) [0,0,0,0,15,15,0,127,255,0,0]
 refine z3 ?_
 refine zz (fun _ q=>ac (dK (JT (!ar.2.2.1)) Qay) rfl) ?_
 refine z2 ?_
 refine zz (fun _ q=>ac (dK (JT ar.2.2.1) Qay) rfl) ?_
 refine zz (fun _ q=>ac (YP 7 .u8 Qkz rfl rfl (q.fr 7 rfl) (nlr rfl)) rfl)<|zz (fun _ q=>ac (YP 8 .u8 Qkz rfl rfl (q.fr 8 rfl) (nlr rfl)) rfl) ?_
 exact y2
 refine w2 ?_
 refine lc (dP 9 [(0,7),(1,3)] (UE (if (!ar.2.2.1) then 49 else 48) d ((ar.1).toNat) (by omega) (Qnk _)) QaD) ?_
 refine w8 ?_
 refine lc (dP 11 [(0,8),(1,3)] (UE (if ar.2.2.1 then 49 else 48) ((agb d ((ar.1).toNat) (if (!ar.2.2.1) then 49 else 48)).1) ((ar.2.2.2).toNat) (by rw[Vb]; omega) (Qnk _)) QaD) ?_
 refine w11 ?_
 cases R:((agb d ((ar.1).toNat) (if (!ar.2.2.1) then 49 else 48)).2.1)
 refine w9 ?_
 refine AC.wk (Wk.nilS 13 6 5 .u8 rfl (Fresh.of rfl) (nlr rfl))<|Qe ?_
 have J:(false:Bool)=((Z9 n.toNat arcs sig).2):=by
  (rw[XX (by rw[l,V3 g (by first | exact W6 ‹_› ‹_› | exact W7 ‹_› ‹_› | exact V4 ‹_› ‹_›)]; rfl)]; done)
 exact fi_ [(0,13)] H ⟨(Qh (by (rw[XX (by rw[l,V3 g (by first | exact W6 ‹_› ‹_› | exact W7 ‹_› ‹_› | exact V4 ‹_› ‹_›)]; rfl)]; done))),trivial⟩ (h0:=by rw[← J] <;> rfl)
 refine w4 ?_
 cases S:((agb ((agb d ((ar.1).toNat) (if (!ar.2.2.1) then 49 else 48)).1) ((ar.2.2.2).toNat) (if ar.2.2.1 then 49 else 48)).2.1)
 refine w5 ?_
 refine AC.wk (Wk.nilS 14 6 5 .u8 rfl (Fresh.of rfl) (nlr rfl))<|Qe ?_
 have K:(false:Bool)=((Z9 n.toNat arcs sig).2):=by
  (rw[XX (by rw[l,V3 g (by first | exact W6 ‹_› ‹_› | exact W7 ‹_› ‹_› | exact V4 ‹_› ‹_›)]; rfl)]; done)
 exact fi_ [(0,14)] H ⟨(Qh (by (rw[XX (by rw[l,V3 g (by first | exact W6 ‹_› ‹_› | exact W7 ‹_› ‹_› | exact V4 ‹_› ‹_›)]; rfl)]; done))),trivial⟩ (h0:=by rw[← K] <;> rfl)
 refine w5 ?_
 cases T:(p)
 refine w3 ?_
 cases U:((agb d ((ar.1).toNat) (if (!ar.2.2.1) then 49 else 48)).2.2)
 refine w9 ?_
 refine Qf<|ZF ⟨i+1,((agb ((agb d ((ar.1).toNat) (if (!ar.2.2.1) then 49 else 48)).1) ((ar.2.2.2).toNat) (if ar.2.2.1 then 49 else 48)).1),((agb ((agb d ((ar.1).toNat) (if (!ar.2.2.1) then 49 else 48)).1) ((ar.2.2.2).toNat) (if ar.2.2.1 then 49 else 48)).2.2),by omega,rfl,l.trans (congrArg (QcZ sig arcs (ZT vs)) (J8 g (by first | exact Y7 ‹_› ‹_› ‹_› | exact XW ‹_› ‹_›) (by first | exact Qdq ‹_› | exact Qgk ‹_› ‹_› | exact Qgl ‹_› ‹_› | exact Qdr ‹_›))),(by (rw[Vb,Vb]; exact m)),(JO z (Xv (by rw[m]; exact ⟨⟨r,s⟩,t,u⟩) (by first | exact Y7 ‹_› ‹_› ‹_› | exact XW ‹_› ‹_›)) (by first | exact Qdq ‹_› | exact Qgk ‹_› ‹_› | exact Qgl ‹_› ‹_› | exact Qdr ‹_›)),rfl⟩ (by omega) ?_
 exact wo []
 refine w9 ?_
 refine Qf<|ZF ⟨i+1,((agb ((agb d ((ar.1).toNat) (if (!ar.2.2.1) then 49 else 48)).1) ((ar.2.2.2).toNat) (if ar.2.2.1 then 49 else 48)).1),true,by omega,rfl,l.trans (congrArg (QcZ sig arcs (ZT vs)) (J8 g (by first | exact Y7 ‹_› ‹_› ‹_› | exact XW ‹_› ‹_›) (by first | exact Qdq ‹_› | exact Qgk ‹_› ‹_› | exact Qgl ‹_› ‹_› | exact Qdr ‹_›))),(by (rw[Vb,Vb]; exact m)),(JO z (Xv (by rw[m]; exact ⟨⟨r,s⟩,t,u⟩) (by first | exact Y7 ‹_› ‹_› ‹_› | exact XW ‹_› ‹_›)) (by first | exact Qdq ‹_› | exact Qgk ‹_› ‹_› | exact Qgl ‹_› ‹_› | exact Qdr ‹_›)),rfl⟩ (by omega) ?_
 exact wo []
 refine w12 ?_
 refine Qf<|ZF ⟨i+1,((agb ((agb d ((ar.1).toNat) (if (!ar.2.2.1) then 49 else 48)).1) ((ar.2.2.2).toNat) (if ar.2.2.1 then 49 else 48)).1),true,by omega,rfl,l.trans (congrArg (QcZ sig arcs (ZT vs)) (J8 g (by first | exact Y7 ‹_› ‹_› ‹_› | exact XW ‹_› ‹_›) (by first | exact Qdq ‹_› | exact Qgk ‹_› ‹_› | exact Qgl ‹_› ‹_› | exact Qdr ‹_›))),(by (rw[Vb,Vb]; exact m)),(JO z (Xv (by rw[m]; exact ⟨⟨r,s⟩,t,u⟩) (by first | exact Y7 ‹_› ‹_› ‹_› | exact XW ‹_› ‹_›)) (by first | exact Qdq ‹_› | exact Qgk ‹_› ‹_› | exact Qgl ‹_› ‹_› | exact Qdr ‹_›)),rfl⟩ (by omega) ?_
 exact wo []
end Go.Proofs.YtndabgcpnmeeoaaGreat
namespace Go.Proofs.YtndabgcpnmeeoaaGreat
open Go.RowKit
set_option maxRecDepth 100000
set_option maxHeartbeats 4000000
def YL (sig:Int)(a:DAr)(us:List UInt8):Option (List UInt8):=
 if a.2.1=sig then
  (if (bv us a.1.toNat≠63∧bv us a.1.toNat≠(if (!a.2.2.1)=true then 49 else 48))∨(bv us a.2.2.2.toNat≠63∧bv us a.2.2.2.toNat≠(if a.2.2.1=true then 49 else 48)) then none
  else some ((us.set a.1.toNat (if (!a.2.2.1)=true then 49 else 48)).set a.2.2.2.toNat (if a.2.2.1=true then 49 else 48)))
 else if bv us a.1.toNat=63 then some ((us.set a.1.toNat (bv us a.2.2.2.toNat)).set a.2.2.2.toNat (bv us a.2.2.2.toNat))
 else if bv us a.2.2.2.toNat≠63∧bv us a.2.2.2.toNat≠bv us a.1.toNat then none
 else some ((us.set a.1.toNat (bv us a.1.toNat)).set a.2.2.2.toNat (bv us a.1.toNat))
def Xp (sig:Int):List DAr→List UInt8→Option (List UInt8)
 | [],us=>some us
 | a :: rs,us=>match YL sig a us with
  | none=>none
  | some us'=>Xp sig rs us'
def WN (sig:Int)(arcs:List DAr):Nat→List UInt8→Option (List UInt8)
 | 0,us=>some us
 | f+1,us=>match Xp sig arcs us with
  | none=>none
  | some us'=>WN sig arcs f us'
def Qaa (sig:Int)(arcs:List DAr)(f:Nat):Option (List UInt8)→Option (List UInt8)
 | none=>none
 | some us'=>WN sig arcs f us'
def l5V (n:Nat)(arcs:List DAr)(sig:Int):ByteArray×Bool:=match WN sig arcs (n+1) (List.replicate n 63) with
 | none=>(⟨#[]⟩,false)
 | some us=>(⟨us.toArray⟩,true)
section
variable {sig:Int}{a:DAr}{us us' vs vs':List UInt8}{arcs rs:List DAr}{f k m:Nat}{cf ct x:UInt8}{ch ch':Bool}{i j:Nat}
theorem Vo (b:arcs[k]? =some a)(h:YL sig a us=some us'):Xp sig (arcs.drop k) us=Xp sig (arcs.drop (k+1)) us':=by rw[ZA b,Xp,h]
theorem Wf (b:arcs[k]? =some a)(h:YL sig a us=none):Xp sig (arcs.drop k) us=none:=by rw[ZA b,Xp,h]
theorem QpH (b:arcs.length≤k):Xp sig (arcs.drop k) us=some us:=by rw[bz b,Xp]
theorem QrW (f:Nat)(us:List UInt8):WN sig arcs (f+1) us=Qaa sig arcs f (Xp sig arcs us):=by
 rw[WN]; cases Xp sig arcs us <;> rfl
theorem Vy {n:Nat}(h:WN sig arcs (n+1) (List.replicate n 63)=none):l5V n arcs sig=(⟨#[]⟩,false):=by unfold l5V; rw[h]
theorem Qh6 {n:Nat}(h:WN sig arcs (n+1) (List.replicate n 63)=some us):l5V n arcs sig=(⟨us.toArray⟩,true):=by unfold l5V; rw[h]
def qm (c:UInt8):UInt8:=if c=0 then 63 else c
def Kn (vs:List UInt8):Prop:=∀c∈vs,c=0∨c=48∨c=49
theorem Kn.set (h:Kn vs){c:UInt8}(e:c=0∨c=48∨c=49)(i:Nat):Kn (vs.set i c):=fun d g=>by
 rcases cR g with b | b
 ·exact h d b
 ·rw[b]; exact e
theorem Kn.at (h:Kn vs)(hi:i < vs.length):∃c,vs[i]? =some c∧(c=0∨c=48∨c=49):=⟨_,ap hi,h _ (dd hi)⟩
theorem KA {c:UInt8}(h:vs[i]? =some c):vs.set i c=vs:=by
 apply bF
 intro j
 by_cases e:i=j
 ·subst e; rw[aX (ah.1 h).1,h]
 ·rw[aZ e]
theorem Qra (hi:vs[i]? =some cf):bv (vs.map qm) i=qm cf:=Yn (by rw[bo,hi]; rfl)
theorem QyW (b:Bool):((if b=true then (49:UInt8) else 48)=49∧(if (!b)=true then (49:UInt8) else 48)=48)∨((if b=true then (49:UInt8) else 48)=48∧(if (!b)=true then (49:UInt8) else 48)=49):=by cases b <;> simp
theorem Qtz (b:i≠j)(c:UInt8)(h:vs[j]? =some ct):(agb vs i c).1[j]? =some ct:=by
 unfold agb
 split
 ·exact h
 ·split
  ·show (vs.set i c)[j]? =_
   rw[aZ b]; exact h
  ·exact h
theorem Qp4 (b:Kn vs)(D:InR vs.length a)(h:a.2.1=sig→a.1≠a.2.2.2):YL sig a (vs.map qm)=(Xu sig a vs).map (fun r=>r.1.map qm)∧∀vs' c,Xu sig a vs=some (vs',c)→Kn vs':=by
 obtain ⟨⟨E,F⟩,G,H⟩:=D
 obtain ⟨cf,l,z⟩:=b.at (i:=a.1.toNat) (by omega)
 obtain ⟨ct,o,A⟩:=b.at (i:=a.2.2.2.toNat) (by omega)
 unfold YL Xu
 rw[Qra l,Qra o]
 by_cases n:a.2.1=sig
 ·rw[if_pos n,if_pos n]
  have g:a.1.toNat≠a.2.2.2.toNat:=by have:=h n; omega
  have C:=fun c=>Qtz (vs:=vs) g c o
  rw[Vv (C _),Vv l]
  have y:∀c d:UInt8,((vs.map qm).set a.1.toNat c).set a.2.2.2.toNat d=((vs.map qm).set a.2.2.2.toNat d).set a.1.toNat c:=fun c d=>List.set_comm _ _ g
  have B:∀d,(vs.set a.2.2.2.toNat d)[a.1.toNat]? =some cf:=fun d=>by rw[aZ (Ne.symm g)]; exact l
  have t:(vs.map qm)[a.1.toNat]? =some (qm cf):=by rw[bo,l]; rfl
  have mt:(vs.map qm)[a.2.2.2.toNat]? =some (qm ct):=by rw[bo,o]; rfl
  have u:∀d,((vs.map qm).set a.1.toNat d)[a.2.2.2.toNat]? =some (qm ct):=fun d=>by rw[aZ g]; exact mt
  have p:=KA t
  have q:=KA mt
  have s:=fun d=>KA (u d)
  rcases QyW a.2.2.1 with ⟨v,w⟩ | ⟨v,w⟩ <;> rw[v,w] <;> rcases z with rfl | rfl | rfl <;> rcases A with rfl | rfl | rfl <;> simp only[qm] at p q s ⊢ <;> simp[List.map_set,qm,p,q,s] at* <;> first | done | (refine ⟨?_, ?_⟩ <;> first | (simp_all; done) | (intros; subst_vars; first | exact (b.set (.inr (.inl rfl)) _).set (.inr (.inr rfl)) _ | exact (b.set (.inr (.inr rfl)) _).set (.inr (.inl rfl)) _ | exact b.set (.inr (.inl rfl)) _ | exact b.set (.inr (.inr rfl)) _ | exact b)) | (intros; subst_vars; first | exact (b.set (.inr (.inl rfl)) _).set (.inr (.inr rfl)) _ | exact (b.set (.inr (.inr rfl)) _).set (.inr (.inl rfl)) _ | exact b.set (.inr (.inl rfl)) _ | exact b.set (.inr (.inr rfl)) _ | exact b) | (simp_all; done)
 ·rw[if_neg n,if_neg n,Wp l o]
  have t:(vs.map qm)[a.1.toNat]? =some (qm cf):=by rw[bo,l]; rfl
  have mt:(vs.map qm)[a.2.2.2.toNat]? =some (qm ct):=by rw[bo,o]; rfl
  have p:=KA t
  have q:=KA mt
  have s:((vs.map qm).set a.1.toNat (qm ct)).set a.2.2.2.toNat (qm ct)=(vs.map qm).set a.1.toNat (qm ct):=by
   by_cases e:a.1.toNat=a.2.2.2.toNat
   ·rw[e,dr]
   ·exact KA (by rw[aZ e]; exact mt)
  rcases z with rfl | rfl | rfl <;> rcases A with rfl | rfl | rfl <;> simp only[qm] at p q s ⊢ <;> simp[List.map_set,qm,p,q,s] at* <;> first | done | (refine ⟨?_, ?_⟩ <;> first | (simp_all; done) | (intros; subst_vars; first | exact b.set (.inr (.inl rfl)) _ | exact b.set (.inr (.inr rfl)) _ | exact b)) | (intros; subst_vars; first | exact b.set (.inr (.inl rfl)) _ | exact b.set (.inr (.inr rfl)) _ | exact b) | (simp_all; done)
theorem QpJ (l:∀a∈rs,InR m a)(o:∀a∈rs,a.2.1=sig→a.1≠a.2.2.2)(n:Kn vs)(g:vs.length=m):Xp sig rs (vs.map qm)=(Xc sig rs vs ch).map (fun r=>r.1.map qm)∧∀vs' c,Xc sig rs vs ch=some (vs',c)→Kn vs':=by
 induction rs generalizing vs ch with
 | nil=>exact ⟨rfl,fun vs' c h=>by rw[Xc] at h; cases h; exact n⟩
 | cons a rs s=>
  obtain ⟨p,q⟩:=Qp4 n (by rw[g]; exact l a (aw ..)) (o a (aw ..))
  rw[Xp,Xc,p]
  cases d:Xu sig a vs with
  | none=>exact ⟨rfl,fun vs' c h=>by cases h⟩
  | some r=>
   obtain ⟨t,c1⟩:=r
   exact s (fun b e=>l b (ax _ e)) (fun b e=>o b (ax _ e)) (q _ _ d) ((Xv (by rw[g]; exact l a (aw ..)) d).1.trans g)
theorem Qg8 (h:Xp sig arcs us=some us):∀f,WN sig arcs f us=some us
 | 0=>rfl
 | f+1=>by rw[WN,h]; exact Qg8 h f
theorem Qkg (e:∀a∈arcs,InR m a)(g:∀a∈arcs,a.2.1=sig→a.1≠a.2.2.2):∀{f:Nat} {vs:List UInt8},Kn vs→vs.length=m→ZT vs < f→WN sig arcs f (vs.map qm)=(W5 sig arcs f vs).map (List.map qm)∧∀vs',W5 sig arcs f vs=some vs'→Kn vs'
 | 0,_,_,_,h=>by omega
 | f+1,vs,hk,hl,h=>by
  obtain ⟨c,n⟩:=QpJ (ch:=false) e g hk hl
  rw[WN,W5,c]
  cases d:Xc sig arcs vs false with
  | none=>exact ⟨rfl,fun vs' h=>by cases h⟩
  | some r=>
   obtain ⟨l,c1⟩:=r
   obtain ⟨o,s,p,q⟩:=QaQ e hl d
   cases c1 with
   | true=>
    rcases p rfl with b | b
    ·cases b
    ·have b:ZT l < ZT vs:=b
     exact Qkg e g (n _ _ d) o (show ZT l < f by omega)
   | false=>
    obtain ⟨rfl,_⟩:=q rfl
    rw[d] at c
    exact ⟨Qg8 c f,fun vs' h=>by cases h; exact hk⟩
theorem Qnb (vs:List UInt8)(i:Nat)(c:UInt8):agb vs i c=if bv vs i=c then (vs,true,false) else if bv vs i=0 then (vs.set i c,true,true) else (vs,false,false):=rfl
theorem QmT (o:a.2.1=sig)(n:a.1=a.2.2.2)(hi:a.1.toNat < vs.length):Xu sig a vs=none:=by
 unfold Xu
 rw[if_pos o,← n]
 have g:=QhO a.2.2.1
 have d:=QhO (!a.2.2.1)
 have c:(if (!a.2.2.1)=true then (49:UInt8) else 48)≠(if a.2.2.1=true then 49 else 48):=by cases a.2.2.1 <;> decide
 generalize (if (!a.2.2.1)=true then (49:UInt8) else 48)=f0 at d c ⊢
 generalize (if a.2.2.1=true then (49:UInt8) else 48)=t0 at g c ⊢
 rw[if_neg]
 rintro ⟨b,e⟩
 have p:bv (agb vs a.1.toNat f0).1 a.1.toNat=f0:=by
  rw[Qnb] at b ⊢
  split
  ·assumption
  ·rename_i h
   rw[if_neg h] at b
   split
   ·exact Yn (aX hi)
   ·rename_i l
    rw[if_neg l] at b
    cases b
 rw[Qnb (agb vs a.1.toNat f0).1,p,if_neg c,if_neg d] at e
 cases e
theorem QmM {b:DAr}(h:∀a∈rs,InR m a)(c:vs.length=m)(e:b∈rs)(o:b.2.1=sig)(n:b.1=b.2.2.2):Xc sig rs vs ch=none:=by
 induction rs generalizing vs ch with
 | nil=>cases e
 | cons a rs p=>
  have g:=h a (aw ..)
  rw[Xc]
  cases d:Xu sig a vs with
  | none=>rfl
  | some r=>
   obtain ⟨q,c1⟩:=r
   rcases aE.1 e with rfl | e
   ·have:=g.1
    rw[QmT o n (by omega)] at d
    cases d
   ·exact p (fun b l=>h b (ax _ l)) ((Xv (by rw[c]; exact g) d).1.trans c) e
theorem Qp3 (h:YL sig a us=some us'):us'.length=us.length:=by
 unfold YL at h
 generalize (if (!a.2.2.1)=true then (49:UInt8) else 48)=f0 at h
 generalize (if a.2.2.1=true then (49:UInt8) else 48)=t0 at h
 split at h
 ·split at h
  ·cases h
  ·cases h; simp
 ·split at h
  ·cases h; simp
  ·split at h
   ·cases h
   ·cases h; simp
theorem QfV {c:UInt8}(h:YL sig a us=some us')(g:us[i]? =some c)(h0:c≠63):us'[i]? =some c:=by
 have p:=(ah.1 g).1
 have b:∀x y:UInt8,(i=a.2.2.2.toNat→y=c)→(i=a.1.toNat→x=c)→((us.set a.1.toNat x).set a.2.2.2.toNat y)[i]? =some c:=fun x y q d=>by
  by_cases n:a.2.2.2.toNat=i
  ·rw[n,aX (by simpa using p),q n.symm]
  ·rw[aZ n]
   by_cases o:a.1.toNat=i
   ·rw[o,aX p,d o.symm]
   ·rw[aZ o]; exact g
 unfold YL at h
 generalize (if (!a.2.2.1)=true then (49:UInt8) else 48)=f0 at h
 generalize (if a.2.2.1=true then (49:UInt8) else 48)=t0 at h
 split at h
 ·split at h
  ·cases h
  ·rename_i d
   cases h
   refine b _ _ (fun e=> ?_) (fun e=> ?_)
   ·rw[← e,Yn g] at d
    exact ck fun l=>d (.inr ⟨h0,fun e=>l e.symm⟩)
   ·rw[← e,Yn g] at d
    exact ck fun l=>d (.inl ⟨h0,fun e=>l e.symm⟩)
 ·split at h
  ·rename_i d
   cases h
   refine b _ _ (fun e=> ?_) (fun e=> ?_)
   ·rw[← e,Yn g]
   ·rw[← e,Yn g] at d; exact absurd d h0
  ·split at h
   ·cases h
   ·rename_i d l
    cases h
    refine b _ _ (fun e=> ?_) (fun e=> ?_)
    ·rw[← e,Yn g] at l
     exact ck fun r=>l ⟨h0,fun e=>r e.symm⟩
    ·rw[← e,Yn g]
theorem QmJ {c:UInt8}(h:Xp sig rs us=some us')(d:us[i]? =some c)(h0:c≠63):us'[i]? =some c:=by
 induction rs generalizing us with
 | nil=>rw[Xp] at h; cases h; exact d
 | cons a rs e=>
  rw[Xp] at h
  cases b:YL sig a us with
  | none=>rw[b] at h; cases h
  | some g=>rw[b] at h; exact e h (QfV b d h0)
theorem QmL {b:DAr}(e:b∈rs)(o:b.2.1=sig)(n:b.1=b.2.2.2)(hi:b.1.toNat < us.length)(h:Xp sig rs us=some us'):∃c,us'[b.1.toNat]? =some c∧c≠63:=by
 induction rs generalizing us with
 | nil=>cases e
 | cons a rs p=>
  rw[Xp] at h
  cases d:YL sig a us with
  | none=>rw[d] at h; cases h
  | some q=>
   rw[d] at h
   rcases aE.1 e with rfl | e
   ·have l:q[b.1.toNat]? =some (if b.2.2.1=true then 49 else 48):=by
     unfold YL at d
     rw[if_pos o] at d
     generalize (if (!b.2.2.1)=true then (49:UInt8) else 48)=f0 at d
     generalize (if b.2.2.1=true then (49:UInt8) else 48)=t0 at d ⊢
     split at d
     ·cases d
     ·cases d
      rw[← n,aX (by simpa using hi)]
    have g:(if b.2.2.1=true then (49:UInt8) else 48)≠63:=by cases b.2.2.1 <;> decide
    exact ⟨_,QmJ h l g,g⟩
   ·exact p e (by rw[Qp3 d]; exact hi) h
theorem QmK {b:DAr}{c:UInt8}(d:b∈rs)(p:b.2.1=sig)(o:b.1=b.2.2.2)(h:us[b.1.toNat]? =some c)(h0:c≠63):Xp sig rs us=none:=by
 induction rs generalizing us with
 | nil=>cases d
 | cons a rs q=>
  rw[Xp]
  rcases aE.1 d with rfl | d
  ·have:YL sig b us=none:=by
    unfold YL
    rw[if_pos p,← o,Yn h,if_pos]
    have n:(if (!b.2.2.1)=true then (49:UInt8) else 48)≠(if b.2.2.1=true then 49 else 48):=by cases b.2.2.1 <;> decide
    by_cases e:c=(if (!b.2.2.1)=true then (49:UInt8) else 48)
    ·exact .inr ⟨h0,fun l=>n (e.symm.trans l)⟩
    ·exact .inl ⟨h0,e⟩
   rw[this]
  ·cases g:YL sig a us with
   | none=>rfl
   | some r=>exact q d (QfV g h h0)
def q0 (c:UInt8):UInt8:=if c=63 then 48 else c
theorem Qya (d:Kn vs):(vs.map qm).map q0=vs.map fz:=by
 rw[cX]
 refine cJ fun c b=> ?_
 rcases d c b with rfl | rfl | rfl <;> rfl
theorem Qfn {n:Nat}(t:∀a∈arcs,InR n a):((l5V n arcs sig).2=false∧(Z9 n arcs sig).2=false∧l5V n arcs sig=(⟨#[]⟩,false)∧Z9 n arcs sig=([],false))∨∃us:List UInt8,l5V n arcs sig=(⟨us.toArray⟩,true)∧us.length=n∧Z9 n arcs sig=(us.map q0,true):=by
 by_cases d:∃b∈arcs,b.2.1=sig∧b.1=b.2.2.2
 ·obtain ⟨b,s,l,y⟩:=d
  have A:W5 sig arcs (n+1) (List.replicate n 0)=none:=by rw[W5,QmM t (by simp) s l y]
  obtain ⟨⟨H,I⟩,_,_⟩:=t b s
  have z:WN sig arcs (n+1) (List.replicate n 63)=none:=by
   obtain ⟨u,rfl⟩:∃u,n=u+1:=⟨n - 1,by omega⟩
   rw[WN]
   cases q:Xp sig arcs (List.replicate (u+1) 63) with
   | none=>rfl
   | some G=>
    obtain ⟨c,g,p⟩:=QmL s l y (by simp; omega) q
    show WN sig arcs (u+1) G=none
    rw[WN,QmK s l y g p]
  exact .inl ⟨by rw[Vy z],by rw[XX A],Vy z,XX A⟩
 ·have E:∀a∈arcs,a.2.1=sig→a.1≠a.2.2.2:=fun a C g p=>d ⟨a,C,g,p⟩
  obtain ⟨g,p⟩:=Qkg (f:=n+1) (vs:=List.replicate n 0) t E (fun c D=> .inl (cW D)) (by simp) (by rw[Qjs]; omega)
  have e:(List.replicate n (0:UInt8)).map qm=List.replicate n 63:=by rw[List.map_replicate]; rfl
  rw[e] at g
  cases o:W5 sig arcs (n+1) (List.replicate n 0) with
  | none=>
   rw[o] at g
   exact .inl ⟨by rw[Vy g],by rw[XX o],Vy g,XX o⟩
  | some vs=>
   rw[o] at g
   refine .inr ⟨vs.map qm,Qh6 g, ?_, ?_⟩
   ·have:∀{f:Nat} {v w:List UInt8},v.length=n→W5 sig arcs f v=some w→w.length=n:=fun {f}=>by
     induction f with
     | zero=>intro v w l h; rw[W5] at h; cases h; exact l
     | succ f F=>
      intro v w l h
      rw[W5] at h
      cases q:Xc sig arcs v false with
      | none=>rw[q] at h; cases h
      | some r=>
       obtain ⟨J,c1⟩:=r
       rw[q] at h
       have B:=(QaQ t l q).1
       cases c1 with
       | true=>exact F B h
       | false=>cases h; exact B
    rw[aB]
    exact this (by simp) o
   ·rw[QcN o,Qya (p _ o)]
end
end Go.Proofs.YtndabgcpnmeeoaaGreat
