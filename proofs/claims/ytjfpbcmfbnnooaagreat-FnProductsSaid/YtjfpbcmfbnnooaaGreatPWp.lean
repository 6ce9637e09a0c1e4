import Derived.Test.YtjfpbcmfbnnooaaGreatPWl
set_option linter.all false
namespace Go.Proofs.YtjfpbcmfbnnooaaGreat
open Go.RowKit Tryz
set_option maxRecDepth 100000
set_option maxHeartbeats 4000000
abbrev DMv:=Int×Int×Int
abbrev DAr:=Int×Int×Bool×Int
def Qgv (ls:List Z3)(t:Int):Z3:=(ls[t.toNat]?).getD (0,false)
def Qjd {ls:List Z3}{t:Int}{y:Z3}(h:ls[t.toNat]? =some y):Qgv ls t=y:=by unfold Qgv;rw[h];rfl
def Qoy (ls:List Z3)(m:DMv):DAr:=(m.1,(Qgv ls m.2.1).1,(Qgv ls m.2.1).2,m.2.2)
def QY (ls:List Z3)(ms:List DMv):List DAr:=ms.map (Qoy ls)
def bv (l:List UInt8)(i:Nat):UInt8:=(l[i]?).getD 0
theorem XB {l:List UInt8}{i:Nat}{c:UInt8}(h:l[i]? =some c):bv l i=c:=by unfold bv;rw[h];rfl
def agr (vs:List UInt8)(i j:Nat):List UInt8×Bool×Bool:=
 if bv vs i=bv vs j then (vs,true,false) else if bv vs i=0 then (vs.set i (bv vs j),true,true) else if bv vs j=0 then (vs.set j (bv vs i),true,true) else (vs,false,false)
def agb (vs:List UInt8)(i:Nat)(c:UInt8):List UInt8×Bool×Bool:=
 if bv vs i=c then (vs,true,false) else if bv vs i=0 then (vs.set i c,true,true) else (vs,false,false)
section
variable {vs vs':List UInt8}{i j k:Nat}{a b c:UInt8}
def Qs0 (d:vs[i]? =some a)(e:vs[j]? =some b):agr vs i j=if a=b then (vs,true,false) else if a=0 then (vs.set i b,true,true) else if b=0 then (vs.set j a,true,true) else (vs,false,false):=by
 unfold agr;rw[XB d,XB e]
def QlS (d:vs[i]? =some a):agb vs i c=if a=c then (vs,true,false) else if a=0 then (vs.set i c,true,true) else (vs,false,false):=by
 unfold agb;rw[XB d]
def Qwx (vs:List UInt8)(i j:Nat):(agr vs i j).1.length=vs.length:=by
 unfold agr;split <;> try rfl
 split <;> try simp
 split <;> simp
def QiF (vs:List UInt8)(i:Nat)(c:UInt8):(agb vs i c).1.length=vs.length:=by
 unfold agb;split <;> try rfl
 split <;> simp
def Vq (vs:List UInt8):Nat:=(vs.filter fun c=>c=0).length
def QtD (n:Nat):Vq (List.replicate n 0)=n:=by simp[Vq]
theorem Qft {l:List UInt8}(h:l[i]? =some 0)(d:c≠0):Vq (l.set i c)+1=Vq l:=by
 induction l generalizing i with
 | nil=>simp at h
 | cons x l e=>
  cases i with
  | zero=>
   simp only[bQ,br] at h
   subst h
   simp[Vq,d]
  | succ i=>
   have:=e (i:=i) (by simpa using h)
   simp only[Vq,du,dn] at this ⊢
   split <;> simp_all
def Qww (m:i<vs.length)(o:j<vs.length):Vq (agr vs i j).1≤Vq vs∧((agr vs i j).2.2=true→Vq (agr vs i j).1<Vq vs)∧((agr vs i j).2.1=true→(agr vs i j).2.2=false→(agr vs i j).1=vs):=by
 have d:=ak m
 have e:=ak o
 rw[Qs0 d e]
 split
 ·simp
 ·rename_i l
  split
  ·rename_i g
   rw[g] at d l
   have:=Qft d (c:=vs[j]) (fun h=>l h.symm)
   simp;omega
  ·rename_i g
   split
   ·rename_i p
    rw[p] at e
    have:=Qft e g
    simp;omega
   ·simp
def Qow (e:i<vs.length)(h:c≠0):Vq (agb vs i c).1≤Vq vs∧((agb vs i c).2.2=true→Vq (agb vs i c).1<Vq vs)∧((agb vs i c).2.1=true→(agb vs i c).2.2=false→(agb vs i c).1=vs):=by
 have d:=ak e
 rw[QlS d]
 split
 ·simp
 ·split
  ·rename_i g
   rw[g] at d
   have:=Qft d h
   simp;omega
  ·simp
end
def H4 (sig:Int)(a:DAr)(vs:List UInt8):Option (List UInt8×Bool):=
 if a.2.1=sig then
  (if (agb vs a.1.toNat (if (!a.2.2.1) = true then 49 else 48)).2.1 = true ∧ (agb (agb vs a.1.toNat (if (!a.2.2.1) = true then 49 else 48)).1 a.2.2.2.toNat (if a.2.2.1 = true then 49 else 48)).2.1 = true then
   some ((agb (agb vs a.1.toNat (if (!a.2.2.1)=true then 49 else 48)).1 a.2.2.2.toNat (if a.2.2.1=true then 49 else 48)).1,(agb vs a.1.toNat (if (!a.2.2.1)=true then 49 else 48)).2.2||(agb (agb vs a.1.toNat (if (!a.2.2.1)=true then 49 else 48)).1 a.2.2.2.toNat (if a.2.2.1=true then 49 else 48)).2.2)
  else none)
 else if (agr vs a.1.toNat a.2.2.2.toNat).2.1=true then some ((agr vs a.1.toNat a.2.2.2.toNat).1,(agr vs a.1.toNat a.2.2.2.toNat).2.2) else none
def KP (sig:Int):List DAr→List UInt8→Bool→Option (List UInt8×Bool)
 | [],vs,ch=>some (vs,ch)
 | a::rs,vs,ch=>match H4 sig a vs with
  | none=>none
  | some (vs',c)=>KP sig rs vs' (ch||c)
def QcB (sig:Int)(arcs:List DAr):Nat→List UInt8→Option (List UInt8)
 | 0,vs=>some vs
 | f+1,vs=>match KP sig arcs vs false with
  | none=>none
  | some (vs',ch)=>if ch=true then QcB sig arcs f vs' else some vs'
def QGZ (sig:Int)(arcs:List DAr)(f:Nat):Option (List UInt8×Bool)→Option (List UInt8)
 | none=>none
 | some (vs',ch)=>if ch=true then QcB sig arcs f vs' else some vs'
def fz (c:UInt8):UInt8:=if c=0 then 48 else c
def UC (n:Nat)(arcs:List DAr)(sig:Int):List UInt8×Bool:=match QcB sig arcs (n+1) (List.replicate n 0) with
 | none=>([],false)
 | some vs=>(vs.map fz,true)
def InR (n:Int)(a:DAr):Prop:=(0≤a.1∧a.1<n)∧0≤a.2.2.2∧a.2.2.2<n
section
variable {sig n:Int}{a:DAr}{vs vs':List UInt8}{arcs rs:List DAr}{ch ch' c:Bool}{f k:Nat}
def QiI (b:Bool):(if b=true then (49:UInt8) else 48)≠0:=by split <;> decide
theorem QbL (v:InR vs.length a)(h:H4 sig a vs=some (vs',c)):vs'.length=vs.length∧Vq vs'≤Vq vs∧(c=true→Vq vs' < Vq vs)∧(c=false→vs'=vs):=by
 obtain ⟨⟨w,x⟩,y,z⟩:=v
 unfold H4 at h
 have e:=QiI (!a.2.2.1)
 have g:=QiI a.2.2.1
 generalize (if (!a.2.2.1)=true then (49:UInt8) else 48)=f0 at h e
 generalize (if a.2.2.1=true then (49:UInt8) else 48)=t0 at h g
 have l:=Qow (vs:=vs) (i:=a.1.toNat) (c:=f0) (by omega) e
 have d:=Qow (vs:=(agb vs a.1.toNat f0).1) (i:=a.2.2.2.toNat) (c:=t0) (by rw[QiF];omega) g
 have o:=Qww (vs:=vs) (i:=a.1.toNat) (j:=a.2.2.2.toNat) (by omega) (by omega)
 have r:=QiF vs a.1.toNat f0
 have q:=QiF (agb vs a.1.toNat f0).1 a.2.2.2.toNat t0
 have s:=Qwx vs a.1.toNat a.2.2.2.toNat
 generalize agb (agb vs a.1.toNat f0).1 a.2.2.2.toNat t0=g2 at h d q
 generalize agb vs a.1.toNat f0=g1 at h l d r q
 generalize agr vs a.1.toNat a.2.2.2.toNat=g3 at h o s
 split at h
 ·split at h
  ·rename_i m
   simp only[br,Prod.mk.injEq] at h
   obtain ⟨rfl,rfl⟩:=h
   refine ⟨q.trans r,bi d.1 l.1,fun p=> ?_,fun p=> ?_⟩
   ·rcases Bool.or_eq_true_iff.1 p with h|h
    ·exact Nat.lt_of_le_of_lt d.1 (l.2.1 h)
    ·exact ba (d.2.1 h) l.1
   ·obtain ⟨t,u⟩:=Bool.or_eq_false_iff.1 p
    rw[d.2.2 m.2 u,l.2.2 m.1 t]
  ·cases h
 ·split at h
  ·rename_i m
   simp only[br,Prod.mk.injEq] at h
   obtain ⟨rfl,rfl⟩:=h
   exact ⟨s,o.1,o.2.1,o.2.2 m⟩
  ·cases h
def QgJ {m:Nat}(o:∀a∈rs,InR m a)(d:vs.length=m)(h:KP sig rs vs ch=some (vs',ch')):vs'.length=m∧Vq vs'≤Vq vs∧(ch'=true→ch=true∨Vq vs' < Vq vs)∧(ch'=false→vs'=vs∧ch=false):=by
 induction rs generalizing vs ch with
 | nil=>rw[KP] at h;cases h;exact ⟨d,aP _,fun h=> .inl h,fun h=>⟨rfl,h⟩⟩
 | cons a rs z=>
  rw[KP] at h
  cases g:H4 sig a vs with
  | none=>rw[g] at h;cases h
  | some r=>
   obtain ⟨D,c1⟩:=r
   rw[g] at h
   obtain ⟨v,l,w,x⟩:=QbL (by rw[d];exact o a (aA ..)) g
   obtain ⟨A,p,B,C⟩:=z (fun b y=>o b (az _ y)) (v.trans d) h
   refine ⟨A,bi p l,fun e=> ?_,fun e=> ?_⟩
   ·rcases B e with h|h
    ·rcases Bool.or_eq_true_iff.1 h with h|h
     ·exact .inl h
     ·exact .inr (Nat.lt_of_le_of_lt p (w h))
    ·exact .inr (ba h l)
   ·obtain ⟨q,s⟩:=C e
    obtain ⟨t,u⟩:=Bool.or_eq_false_iff.1 s
    exact ⟨q.trans (x u),t⟩
theorem Qg9 {n:Nat}(h:QcB sig arcs (n+1) (List.replicate n 0)=none):UC n arcs sig=([],false):=by unfold UC;rw[h]
def Qst {n:Nat}(h:QcB sig arcs (n+1) (List.replicate n 0)=some vs):UC n arcs sig=(vs.map fz,true):=by unfold UC;rw[h]
def QG1 (vs:List UInt8)(k:Nat):List UInt8:=(vs.take k).map fz++vs.drop k
end
def YO (sig:Int)(a:DAr)(us:List UInt8):Option (List UInt8):=
 if a.2.1=sig then
  (if (bv us a.1.toNat≠63∧bv us a.1.toNat≠(if (!a.2.2.1)=true then 49 else 48))∨(bv us a.2.2.2.toNat≠63∧bv us a.2.2.2.toNat≠(if a.2.2.1=true then 49 else 48)) then none
  else some ((us.set a.1.toNat (if (!a.2.2.1)=true then 49 else 48)).set a.2.2.2.toNat (if a.2.2.1=true then 49 else 48)))
 else if bv us a.1.toNat=63 then some ((us.set a.1.toNat (bv us a.2.2.2.toNat)).set a.2.2.2.toNat (bv us a.2.2.2.toNat))
 else if bv us a.2.2.2.toNat≠63∧bv us a.2.2.2.toNat≠bv us a.1.toNat then none
 else some ((us.set a.1.toNat (bv us a.1.toNat)).set a.2.2.2.toNat (bv us a.1.toNat))
def XH (sig:Int):List DAr→List UInt8→Option (List UInt8)
 | [],us=>some us
 | a::rs,us=>match YO sig a us with
  | none=>none
  | some us'=>XH sig rs us'
def WU (sig:Int)(arcs:List DAr):Nat→List UInt8→Option (List UInt8)
 | 0,us=>some us
 | f+1,us=>match XH sig arcs us with
  | none=>none
  | some us'=>WU sig arcs f us'
def QoW (sig:Int)(arcs:List DAr)(f:Nat):Option (List UInt8)→Option (List UInt8)
 | none=>none
 | some us'=>WU sig arcs f us'
def l5V (n:Nat)(arcs:List DAr)(sig:Int):BA×Bool:=match WU sig arcs (n+1) (List.replicate n 63) with
 | none=>(⟨#[]⟩,false)
 | some us=>(⟨us.toArray⟩,true)
section
variable {sig:Int}{a:DAr}{us us' vs vs':List UInt8}{arcs rs:List DAr}{f k m:Nat}{cf ct x:UInt8}{ch ch':Bool}{i j:Nat}
def Qlc (b:arcs[k]? =some a)(h:YO sig a us=some us'):XH sig (arcs.drop k) us=XH sig (arcs.drop (k+1)) us':=by rw[Yx b,XH,h]
def Wu (b:arcs[k]? =some a)(h:YO sig a us=none):XH sig (arcs.drop k) us=none:=by rw[Yx b,XH,h]
def QrS (b:arcs.length≤k):XH sig (arcs.drop k) us=some us:=by rw[cr b,XH]
def Quy (f:Nat)(us:List UInt8):WU sig arcs (f+1) us=QoW sig arcs f (XH sig arcs us):=by
 rw[WU];cases XH sig arcs us <;> rfl
theorem Us {n:Nat}(h:WU sig arcs (n+1) (List.replicate n 63)=none):l5V n arcs sig=(⟨#[]⟩,false):=by unfold l5V;rw[h]
def Qjc {n:Nat}(h:WU sig arcs (n+1) (List.replicate n 63)=some us):l5V n arcs sig=(⟨us.toArray⟩,true):=by unfold l5V;rw[h]
def qm (c:UInt8):UInt8:=if c=0 then 63 else c
def Kn (vs:List UInt8):Prop:=∀c∈vs,c=0∨c=48∨c=49
def Kn.set (h:Kn vs){c:UInt8}(e:c=0∨c=48∨c=49)(i:Nat):Kn (vs.set i c):=fun d g=>by
 rcases cE g with b|b
 ·exact h d b
 ·rw[b];exact e
def Kn.at (h:Kn vs)(hi:i<vs.length):∃c,vs[i]? =some c∧(c=0∨c=48∨c=49):=⟨_,ak hi,h _ (cZ hi)⟩
theorem KT {c:UInt8}(h:vs[i]? =some c):vs.set i c=vs:=by
 apply bL
 intro j
 by_cases e:i=j
 ·grind
 ·rw[bh e]
def Qtt (hi:vs[i]? =some cf):bv (vs.map qm) i=qm cf:=XB (by rw[bl,hi];rfl)
def QFx (b:Bool):((if b=true then (49:UInt8) else 48)=49∧(if (!b)=true then (49:UInt8) else 48)=48)∨((if b=true then (49:UInt8) else 48)=48∧(if (!b)=true then (49:UInt8) else 48)=49):=by cases b <;> simp
theorem Qwv (b:i≠j)(c:UInt8)(h:vs[j]? =some ct):(agb vs i c).1[j]? =some ct:=by
 grind [agb,List.getElem?_set_ne]
theorem Qsf (b:Kn vs)(D:InR vs.length a)(h:a.2.1=sig→a.1≠a.2.2.2):YO sig a (vs.map qm)=(H4 sig a vs).map (fun r=>r.1.map qm)∧∀vs' c,H4 sig a vs=some (vs',c)→Kn vs':=by
 obtain ⟨⟨E,F⟩,G,H⟩:=D
 obtain ⟨cf,l,z⟩:=b.at (i:=a.1.toNat) (by omega)
 obtain ⟨ct,o,A⟩:=b.at (i:=a.2.2.2.toNat) (by omega)
 unfold YO H4
 rw[Qtt l,Qtt o]
 by_cases n:a.2.1=sig
 ·rw[if_pos n,if_pos n]
  have g:a.1.toNat≠a.2.2.2.toNat:=by have:=h n;omega
  have C:=fun c=>Qwv (vs:=vs) g c o
  rw[QlS (C _),QlS l]
  have y:∀c d:UInt8,((vs.map qm).set a.1.toNat c).set a.2.2.2.toNat d=((vs.map qm).set a.2.2.2.toNat d).set a.1.toNat c:=fun c d=>List.set_comm _ _ g
  have B:∀d,(vs.set a.2.2.2.toNat d)[a.1.toNat]? =some cf:=fun d=>by rw[bh (Ne.symm g)];exact l
  have t:(vs.map qm)[a.1.toNat]? =some (qm cf):=by rw[bl,l];rfl
  have mt:(vs.map qm)[a.2.2.2.toNat]? =some (qm ct):=by rw[bl,o];rfl
  have u:∀d,((vs.map qm).set a.1.toNat d)[a.2.2.2.toNat]? =some (qm ct):=fun d=>by rw[bh g];exact mt
  have p:=KT t
  have q:=KT mt
  have s:=fun d=>KT (u d)
  rcases QFx a.2.2.1 with ⟨v,w⟩|⟨v,w⟩ <;> rw[v,w] <;> rcases z with rfl|rfl|rfl <;> rcases A with rfl|rfl|rfl <;> simp only[qm] at p q s ⊢ <;> simp[List.map_set,qm,p,q,s] at* <;> first|done|(refine ⟨?_,?_⟩ <;> first|(simp_all;done)|(intros;subst_vars;first|exact (b.set (.inr (.inl rfl)) _).set (.inr (.inr rfl)) _|exact (b.set (.inr (.inr rfl)) _).set (.inr (.inl rfl)) _|exact b.set (.inr (.inl rfl)) _|exact b.set (.inr (.inr rfl)) _|exact b))|(intros;subst_vars;first|exact (b.set (.inr (.inl rfl)) _).set (.inr (.inr rfl)) _|exact (b.set (.inr (.inr rfl)) _).set (.inr (.inl rfl)) _|exact b.set (.inr (.inl rfl)) _|exact b.set (.inr (.inr rfl)) _|exact b)|(simp_all;done)
 ·rw[if_neg n,if_neg n,Qs0 l o]
  have t:(vs.map qm)[a.1.toNat]? =some (qm cf):=by rw[bl,l];rfl
  have mt:(vs.map qm)[a.2.2.2.toNat]? =some (qm ct):=by rw[bl,o];rfl
  have p:=KT t
  have q:=KT mt
  have s:((vs.map qm).set a.1.toNat (qm ct)).set a.2.2.2.toNat (qm ct)=(vs.map qm).set a.1.toNat (qm ct):=by
   by_cases e:a.1.toNat=a.2.2.2.toNat
   ·rw[e,cM]
   ·exact KT (by rw[bh e];exact mt)
  rcases z with rfl|rfl|rfl <;> rcases A with rfl|rfl|rfl <;> simp only[qm] at p q s ⊢ <;> simp[List.map_set,qm,p,q,s] at* <;> first|done|(refine ⟨?_,?_⟩ <;> first|(simp_all;done)|(intros;subst_vars;first|exact b.set (.inr (.inl rfl)) _|exact b.set (.inr (.inr rfl)) _|exact b))|(intros;subst_vars;first|exact b.set (.inr (.inl rfl)) _|exact b.set (.inr (.inr rfl)) _|exact b)|(simp_all;done)
def QrT (l:∀a∈rs,InR m a)(o:∀a∈rs,a.2.1=sig→a.1≠a.2.2.2)(n:Kn vs)(g:vs.length=m):XH sig rs (vs.map qm)=(KP sig rs vs ch).map (fun r=>r.1.map qm)∧∀vs' c,KP sig rs vs ch=some (vs',c)→Kn vs':=by
 induction rs generalizing vs ch with
 | nil=>exact ⟨rfl,fun vs' c h=>by rw[KP] at h;cases h;exact n⟩
 | cons a rs s=>
  obtain ⟨p,q⟩:=Qsf n (by rw[g];exact l a (aA ..)) (o a (aA ..))
  rw[XH,KP,p]
  cases d:H4 sig a vs with
  | none=>exact ⟨rfl,fun vs' c h=>by cases h⟩
  | some r=>
   obtain ⟨t,c1⟩:=r
   exact s (fun b e=>l b (az _ e)) (fun b e=>o b (az _ e)) (q _ _ d) ((QbL (by rw[g];exact l a (aA ..)) d).1.trans g)
theorem Qia (h:XH sig arcs us=some us):∀f,WU sig arcs f us=some us
 | 0=>rfl
 | f+1=>by rw[WU,h];exact Qia h f
theorem Qlo (c:∀a∈arcs,InR m a)(e:∀a∈arcs,a.2.1=sig→a.1≠a.2.2.2):∀{f:Nat} {vs:List UInt8},Kn vs→vs.length=m→Vq vs<f→WU sig arcs f (vs.map qm)=(QcB sig arcs f vs).map (List.map qm)∧∀vs',QcB sig arcs f vs=some vs'→Kn vs'
 | 0,_,_,_,h=>by omega
 | f+1,vs,hk,hl,h=>by
  obtain ⟨l,n⟩:=QrT (ch:=false) c e hk hl
  rw[WU,QcB,l]
  cases d:KP sig arcs vs false with
  | none=>exact ⟨rfl,fun vs' h=>by cases h⟩
  | some r=>
   obtain ⟨g,c1⟩:=r
   obtain ⟨o,q,p,s⟩:=QgJ c hl d
   cases c1 with
   | true=>
    rcases p rfl with b|b
    ·cases b
    ·have b:Vq g<Vq vs:=b
     exact Qlo c e (n _ _ d) o (show Vq g<f by omega)
   | false=>
    grind [Qia]
theorem Qwu (vs:List UInt8)(i:Nat)(c:UInt8):agb vs i c=if bv vs i=c then (vs,true,false) else if bv vs i=0 then (vs.set i c,true,true) else (vs,false,false):=rfl
theorem Qoh (c:a.2.1=sig)(b:a.1=a.2.2.2)(hi:a.1.toNat<vs.length):H4 sig a vs=none:=by
 unfold H4
 rw[if_pos c,← b]
 have d:=QiI a.2.2.1
 have e:=QiI (!a.2.2.1)
 grind [bv,agb,Qwu,XB,List.getElem?_set_self]
theorem Qn7 {b:DAr}(n:∀a∈rs,InR m a)(e:vs.length=m)(d:b∈rs)(l:b.2.1=sig)(h:b.1=b.2.2.2):KP sig rs vs ch=none:=by
 induction rs generalizing vs ch with
 | nil=>cases d
 | cons a rs o=>
  have g:=n a (aA ..)
  rw[KP]
  cases c:H4 sig a vs with
  | none=>rfl
  | some r=>
   obtain ⟨p,c1⟩:=r
   rcases aK.1 d with rfl|d
   ·have:=g.1
    rw[Qoh l h (by omega)] at c
    cases c
   ·grind [List.mem_cons_of_mem,QbL]
theorem Qsb (h:YO sig a us=some us'):us'.length=us.length:=by
 grind [YO]
theorem QgY {c:UInt8}(h:YO sig a us=some us')(b:us[i]? =some c)(h0:c≠63):us'[i]? =some c:=by
 grind [List.getElem?_eq_some_iff,List.getElem?_set_self,List.getElem?_set_ne,YO,XB]
theorem Qn4 {c:UInt8}(h:XH sig rs us=some us')(d:us[i]? =some c)(h0:c≠63):us'[i]? =some c:=by
 induction rs generalizing us with
 | nil=>rw[XH] at h;cases h;exact d
 | cons a rs e=>
  rw[XH] at h
  cases b:YO sig a us with
  | none=>rw[b] at h;cases h
  | some g=>rw[b] at h;exact e h (QgY b d h0)
theorem Qn6 {b:DAr}(e:b∈rs)(l:b.2.1=sig)(g:b.1=b.2.2.2)(hi:b.1.toNat<us.length)(h:XH sig rs us=some us'):∃c,us'[b.1.toNat]? =some c∧c≠63:=by
 induction rs generalizing us with
 | nil=>cases e
 | cons a rs n=>
  rw[XH] at h
  cases d:YO sig a us with
  | none=>rw[d] at h;cases h
  | some o=>
   rw[d] at h
   grind [YO,List.getElem?_set_self,Qn4,Qsb]
theorem Qn5 {b:DAr}{c:UInt8}(d:b∈rs)(n:b.2.1=sig)(l:b.1=b.2.2.2)(g:us[b.1.toNat]? =some c)(h0:c≠63):XH sig rs us=none:=by
 induction rs generalizing us with
 | nil=>cases d
 | cons a rs h=>
  rw[XH]
  rcases aK.1 d with rfl|d
  ·have:YO sig b us=none:=by
    grind [YO,XB]
   rw[this]
  ·cases e:YO sig a us with
   | none=>rfl
   | some o=>exact h d (QgY e g h0)
def q0 (c:UInt8):UInt8:=if c=63 then 48 else c
def QEa (d:Kn vs):(vs.map qm).map q0=vs.map fz:=by
 rw[dL]
 refine List.map_congr_left fun c b=> ?_
 rcases d c b with rfl|rfl|rfl <;> rfl
theorem Qgu {n:Nat}(s:∀a∈arcs,InR n a):((l5V n arcs sig).2=false∧(UC n arcs sig).2=false∧l5V n arcs sig=(⟨#[]⟩,false)∧UC n arcs sig=([],false))∨∃us:List UInt8,l5V n arcs sig=(⟨us.toArray⟩,true)∧us.length=n∧UC n arcs sig=(us.map q0,true):=by
 by_cases d:∃b∈arcs,b.2.1=sig∧b.1=b.2.2.2
 ·obtain ⟨b,q,l,y⟩:=d
  have A:QcB sig arcs (n+1) (List.replicate n 0)=none:=by rw[QcB,Qn7 s (by simp) q l y]
  obtain ⟨⟨H,I⟩,_,_⟩:=s b q
  have z:WU sig arcs (n+1) (List.replicate n 63)=none:=by
   obtain ⟨u,rfl⟩:∃u,n=u+1:=⟨n - 1,by omega⟩
   rw[WU]
   cases p:XH sig arcs (List.replicate (u+1) 63) with
   | none=>rfl
   | some G=>
    obtain ⟨c,g,o⟩:=Qn6 q l y (by simp;omega) p
    show WU sig arcs (u+1) G=none
    rw[WU,Qn5 q l y g o]
  exact .inl ⟨by rw[Us z],by rw[Qg9 A],Us z,Qg9 A⟩
 ·have E:∀a∈arcs,a.2.1=sig→a.1≠a.2.2.2:=fun a C g o=>d ⟨a,C,g,o⟩
  obtain ⟨g,o⟩:=Qlo (f:=n+1) (vs:=List.replicate n 0) s E (fun c D=> .inl (cV D)) (by simp) (by rw[QtD];omega)
  have e:(List.replicate n (0:UInt8)).map qm=List.replicate n 63:=by rw[List.map_replicate];rfl
  rw[e] at g
  cases t:QcB sig arcs (n+1) (List.replicate n 0) with
  | none=>
   grind [Us,Qg9]
  | some vs=>
   rw[t] at g
   refine .inr ⟨vs.map qm,Qjc g,?_,?_⟩
   ·have:∀{f:Nat} {v w:List UInt8},v.length=n→QcB sig arcs f v=some w→w.length=n:=fun {f}=>by
     induction f with
     | zero=>intro v w l h;rw[QcB] at h;cases h;exact l
     | succ f F=>
      intro v w l h
      rw[QcB] at h
      cases p:KP sig arcs v false with
      | none=>rw[p] at h;cases h
      | some r=>
       obtain ⟨J,c1⟩:=r
       rw[p] at h
       have B:=(QgJ s l p).1
       cases c1 with
       | true=>exact F B h
       | false=>cases h;exact B
    rw[aC]
    exact this (by simp) t
   ·rw[Qst t,QEa (o _ t)]
end
section
variable {sig:Int}{us us':List UInt8}{arcs:List DAr}{f k n:Nat}{cf ct b1 b2 x:UInt8}{mv:DMv}{lb:Z3}{ls:List Z3}{ms:List DMv}
def Qtb (ls:List Z3)(ms:List DMv):(QY ls ms).length=ms.length:=by simp[QY]
def X5 (b:ms[k]? =some mv)(a:Qgv ls mv.2.1=lb):(QY ls ms)[k]? =some (mv.1,lb.1,lb.2,mv.2.2):=by
 unfold QY
 rw[bl,b]
 simp[Qoy,a]
def ar4 (mv:DMv)(lb:Z3):DAr:=(mv.1,lb.1,lb.2,mv.2.2)
def Qsc (b:¬lb.1=sig)(a:us[mv.1.toNat]? =some cf)(c:decide (cf=63)=true)(d:us[mv.2.2.toNat]? =some ct):YO sig (mv.1,lb.1,lb.2,mv.2.2) us=some ((us.set mv.1.toNat ct).set mv.2.2.toNat ct):=by
 unfold YO
 simp only
 rw[if_neg b,XB a,XB d,if_pos (aa c)]
def Qsd (e:¬lb.1=sig)(d:us[mv.1.toNat]? =some cf)(g:decide (cf=63)=false)(i:us[mv.2.2.toNat]? =some ct)(a:ct=63∨ct=cf):YO sig (mv.1,lb.1,lb.2,mv.2.2) us=some ((us.set mv.1.toNat cf).set mv.2.2.toNat cf):=by
 unfold YO
 simp only
 rw[if_neg e,XB d,XB i,if_neg (ab g),if_neg]
 rintro ⟨b,c⟩
 rcases a with h|h
 ·exact b h
 ·exact c h
def Qse (d:¬lb.1=sig)(c:us[mv.1.toNat]? =some cf)(e:decide (cf=63)=false)(g:us[mv.2.2.toNat]? =some ct)(a:¬ct=63)(b:¬ct=cf):YO sig (mv.1,lb.1,lb.2,mv.2.2) us=none:=by
 unfold YO
 simp only
 rw[if_neg d,XB c,XB g,if_neg (ab e),if_pos ⟨a,b⟩]
def Qlu (b:¬lb.1=sig)(a:us[mv.1.toNat]? =some cf)(d:us[mv.2.2.toNat]? =some ct)(c:(cf=63→x=ct)∧(¬cf=63→x=cf))(g:x=63∨ct=63∨ct=x):YO sig (mv.1,lb.1,lb.2,mv.2.2) us=some ((us.set mv.1.toNat x).set mv.2.2.toNat x):=by
 by_cases h:cf=63
 ·rw[c.1 h];exact Qsc b a (ay h) d
 ·have e:=c.2 h
  subst e
  exact Qsd b a (aj h) d (g.resolve_left h)
def Vy (g:¬lb.1=sig)(d:us[mv.1.toNat]? =some cf)(i:us[mv.2.2.toNat]? =some ct)(b:(cf=63→x=ct)∧(¬cf=63→x=cf))(h0:¬x=63)(c:¬ct=63)(a:¬ct=x):YO sig (mv.1,lb.1,lb.2,mv.2.2) us=none:=by
 by_cases h:cf=63
 ·exact absurd (b.1 h).symm a
 ·have e:=b.2 h
  subst e
  exact Qse g d (aj h) i c a
def Qey {b:Bool}{c:UInt8}(h:(Z0 b)[((0:Int)).toNat]? =some c):(if b=true then 49 else 48)=c:=by
 have:(Z0 b)[((0:Int)).toNat]? =some (if b=true then 49 else 48):=by cases b <;> rfl
 rw[this] at h
 exact bD h
def Qit (j:lb.1=sig)(e:(Z0 (!lb.2))[((0:Int)).toNat]? =some b1)(g:(Z0 lb.2)[((0:Int)).toNat]? =some b2)(i:cf=63∨cf=b1)(l:ct=63∨ct=b2)(c:us[mv.1.toNat]? =some cf)(d:us[mv.2.2.toNat]? =some ct):
 YO sig (mv.1,lb.1,lb.2,mv.2.2) us=some ((us.set mv.1.toNat b1).set mv.2.2.toNat b2):=by
 unfold YO
 simp only
 rw[if_pos j,Qey e,Qey g,XB c,XB d,if_neg]
 rintro (⟨a,b⟩|⟨a,b⟩)
 ·rcases i with h|h
  ·exact a h
  ·exact b h
 ·rcases l with h|h
  ·exact a h
  ·exact b h
def XI (e:lb.1=sig)(b:(Z0 (!lb.2))[((0:Int)).toNat]? =some b1)(a:us[mv.1.toNat]? =some cf)(c:¬cf=63)(d:¬cf=b1):YO sig (mv.1,lb.1,lb.2,mv.2.2) us=none:=by
 unfold YO
 simp only
 rw[if_pos e,Qey b,XB a,if_pos (.inl ⟨c,d⟩)]
def XJ (e:lb.1=sig)(b:(Z0 lb.2)[((0:Int)).toNat]? =some b2)(a:us[mv.2.2.toNat]? =some ct)(c:¬ct=63)(d:¬ct=b2):YO sig (mv.1,lb.1,lb.2,mv.2.2) us=none:=by
 unfold YO
 simp only
 rw[if_pos e,Qey b,XB a,if_pos (.inr ⟨c,d⟩)]
def QaS (n k:Nat):List UInt8:=List.replicate k 63++List.replicate (n - k) 0
def QhX (n k:Nat)(h:k≤n):(QaS n k).length=n:=by simp[QaS];omega
def Qrm (h:n≤k)(a:k≤n):QaS n k=List.replicate n 63:=by
 obtain rfl:k=n:=by omega
 simp[QaS]
def Qrn (h:k<n):(QaS n k).set k 63=QaS n (k+1):=by
 unfold QaS
 rw[List.set_append_right _ _ (by simp),aQ,Nat.sub_self,show n - k=(n - (k+1))+1 by omega,List.replicate_succ,List.set_cons_zero,List.replicate_succ']
 simp
def WS (n:Nat)(arcs:List DAr):Nat→List Int
 | 0=>[]
 | k+1=>WS n arcs k++(if (l5V n arcs (k:Int)).2=true then [] else [(k:Int)])
def QqJ (n:Nat)(arcs:List DAr)(k:Nat):(WS n arcs k).length≤k:=by
 induction k with
 | zero=>simp[WS]
 | succ k a=>simp only[WS,ai];split <;> simp <;> omega
def QqK (h:(l5V n arcs (k:Int)).2=true):WS n arcs k=WS n arcs (k+1):=by simp[WS,h]
def QtA (h:(l5V n arcs (k:Int)).2=false):WS n arcs k++[(k:Int)]=WS n arcs (k+1):=by simp[WS,h]
end
def MvOk (n m:Nat)(v:DMv):Prop:=(0≤v.1∧v.1<(n:Int))∧(0≤v.2.1∧v.2.1<(m:Int))∧0≤v.2.2∧v.2.2<(n:Int)
def Yu (b:Bool):FC prog 203 [(false,[dB b])] [] 0 (QJ (lf (dS (Z0 b)))):=by
 refine Ql func203 rfl rfl ntmps203 fun h a g c i e d=>w7 ?_
 refine cb_ (fun _=> ?_) fun _=> ?_
 refine w5 ?_
 refine fqS a ?_
 simp[Z0, *]
 refine w4 ?_
 refine fqS a ?_
 simp[Z0, *]
def KH (s:Qma)(r:List BA×(List (Int×Int×Int)))(sig:Int)(hm:∀m∈r.2,MvOk r.1.length s.2.2.1.length m)(d4:r.1.length≤1000000):FC prog 190 [(true,[dI s.1.1,.dat Yv s.1.2,.dat Qj s.2.1,.dat XK s.2.2.1,dS s.2.2.2]),(true,[.dat Qd r.1,.dat U2 r.2]),(false,[dI sig])] [] 0 (QJ (PV.tup [(false,[dS ((l5V r.1.length (QY s.2.2.1 r.2) sig).1)]),(false,[dB ((l5V r.1.length (QY s.2.2.1 r.2) sig).2)])])):=by
 have e2:(List.replicate r.1.length (Ty.zero .u8)).length=r.1.length:=aQ ..
 refine Ql func190 rfl rfl ntmps190 fun O_ Y e3 c9 X_ d1 d0=>w_ ?_
 refine xbx 0 ?_
 refine xbx 1 ?_
 refine w7 ?_
 refine lc (WW 2 (e:= .u8) (n:=r.1.length) (Qa rfl) (Qa rfl) Wq QDH rfl (by omega) (by omega) rfl (Fresh.of rfl) (nlr rfl))<|w9 ?_
 refine lp0 r.1.length (fun k=>⟨[(2,lI sig),(3,lP 0 0),(4,lP 1 0),(6,lf (dS (⟨#[]⟩:BA))),(7,lB false),(8,lR 3),(22,lI ((List.replicate r.1.length (Ty.zero .u8)).length:Int)),(23,lI (k:Int))],[bx 0 164 [dI s.1.1,.dat Yv s.1.2,.dat Qj s.2.1,.dat XK s.2.2.1,dS s.2.2.2],bx 1 227 [.dat Qd r.1,.dat U2 r.2],ar 3 5 .u8 (QaS r.1.length k)]⟩) ?_ fun k _=> ?_
 exact wp [(3,2)] ⟨rfl,rfl,(Qg (rfl)),trivial⟩
 have d2:=QhX r.1.length k (by omega)
 refine w4 ?_
 cases a1:(decide ((k:Int)<((List.replicate r.1.length (Ty.zero .u8)).length:Int)))
 have a2:=ab a1
 refine w8 ?_
 refine Qy (fun m_ q=>∃(p:Nat) (us:List UInt8),p≤(r.1.length+1)∧m_=(r.1.length+1) - p∧(WU sig (QY s.2.2.1 r.2) (r.1.length+1) (List.replicate r.1.length 63)=WU sig (QY s.2.2.1 r.2) (r.1.length+1 - p) us)∧(us.length=r.1.length)∧q=⟨[(2,lI sig),(3,lP 0 0),(4,lP 1 0),(8,lR 4),(10,lI (p:Int))],[bx 0 164 [dI s.1.1,.dat Yv s.1.2,.dat Qj s.2.1,.dat XK s.2.2.1,dS s.2.2.2],bx 1 227 [.dat Qd r.1,.dat U2 r.2],ar 4 5 .u8 us]⟩) ⟨0,QaS r.1.length k,aL _,rfl,(by rw[Qrm (by omega) (by omega)];rfl),(QhX _ _ (by omega)),rfl⟩ ?_ ?_
 exact wp [(4,3)] ⟨rfl,rfl,(Qg rfl),trivial⟩
 rintro m_ q ⟨p,us,d3,e1,hA,hL,rfl⟩
 refine w8 ?_
 cases a3:(decide ((p:Int)≤(r.1.length:Int)))
 have a4:=ab a3
 refine w5 ?_
 refine lc (Y5 (ys:=us) (He (Qa rfl) rfl) Wq JR Yd rfl)<|w4 ?_
 have b4:((⟨(us).toArray⟩:BA):BA)=((l5V r.1.length (QY s.2.2.1 r.2) sig).1):=by
  first|(rw[Qjc (us:=us) (by rw[hA,show r.1.length+1 - p=0 by omega];rfl)];done)
 have b5:(true:Bool)=((l5V r.1.length (QY s.2.2.1 r.2) sig).2):=by
  first|(rw[Qjc (us:=us) (by rw[hA,show r.1.length+1 - p=0 by omega];rfl)];done)
 exact fr_ Y (e:=by rw[b4,← b5] <;> rfl)
 have a4:=aa a3
 refine w7 ?_
 refine alL 38 fun _=> ?_
 refine w4 ?_
 refine Qy (fun m_ q=>∃(i:Nat) (b:List UInt8),i≤r.2.length∧m_=r.2.length - i∧(WU sig (QY s.2.2.1 r.2) (r.1.length+1) (List.replicate r.1.length 63)=QoW sig (QY s.2.2.1 r.2) (r.1.length - p) (XH sig ((QY s.2.2.1 r.2).drop i) b))∧(b.length=r.1.length)∧q=⟨[(2,lI sig),(3,lP 0 0),(4,lP 1 0),(8,lR 5),(10,lI (p:Int)),(38,lf (.dat U2 r.2)),(39,lI (r.2.length:Int)),(40,lI (i:Int))],[bx 0 164 [dI s.1.1,.dat Yv s.1.2,.dat Qj s.2.1,.dat XK s.2.2.1,dS s.2.2.2],bx 1 227 [.dat Qd r.1,.dat U2 r.2],ar 5 5 .u8 b]⟩) ⟨0,us,aL _,rfl,(by rw[hA,show r.1.length+1 - p=(r.1.length - p)+1 by omega];exact Quy _ _),hL,rfl⟩ ?_ ?_
 exact wo [(5,4)]
 rintro m_ q ⟨i,b,c6,c7,d,K,rfl⟩
 refine w4 ?_
 cases u:(decide ((i:Int)<(r.2.length:Int)))
 have L:=ab u
 refine w7 ?_
 exact Qc<|Zb ⟨p+1,b,by omega,rfl,(by rw[d,QrS (by rw[Qtb];omega),show r.1.length+1 - (p+1)=r.1.length - p by omega];rfl),K,rfl⟩ (by omega)<|wo [(4,5)]
 have L:=aa u
 refine w5 ?_
 obtain ⟨mv,a⟩:=gx r.2 i
 obtain ⟨⟨d5,d6⟩,⟨d7,d8⟩,d9,e0⟩:=hm _ (ah a)
 refine w2 ?_
 refine lc (xal 6 QI JD)<|w7 ?_
 refine alI 47 fun _=> ?_
 obtain ⟨lb,a8⟩:=gx s.2.2.1 ((mv.2.1).toNat)
 have j:=Qjd a8
 refine w2 ?_
 refine lc (xal 7 Q0 Vh)<|w3 ?_
 refine Q5 ?_
 obtain ⟨cf,I⟩:=gx b ((mv.1).toNat)
 obtain ⟨ct,c8⟩:=gx b ((mv.2.2).toNat)
 refine w6 ?_
 cases v:(!decide (lb.1=sig))
 have M:(lb.1=sig):=QB v
 refine w2 ?_
 refine Qsz (fun q=>∃(b1:UInt8) (b2:UInt8),((Z0 (!lb.2))[((0:Int)).toNat]? =some b1)∧((Z0 lb.2)[((0:Int)).toNat]? =some b2)∧(cf=63∨cf=b1)∧(ct=63∨ct=b2)∧q=⟨[(2,lI sig),(3,lP 0 0),(4,lP 1 0),(8,lR 5),(10,lI (p:Int)),(12,lP 6 0),(15,lf (.dat .u8 b1)),(16,lf (.dat .u8 b2)),(38,lf (.dat U2 r.2)),(39,lI (r.2.length:Int)),(40,lI (i:Int))],[bx 0 164 [dI s.1.1,.dat Yv s.1.2,.dat Qj s.2.1,.dat XK s.2.2.1,dS s.2.2.2],bx 1 227 [.dat Qd r.1,.dat U2 r.2],ar 5 5 .u8 b,bx 6 229 [dI mv.1,dI mv.2.1,dI mv.2.2]]⟩) ?_ fun t=> ?_
 rintro q ⟨b1,b2,Z,a0,a5,a7,rfl⟩
 refine w6 ?_
 refine lc (QO (e:= .u8) (z':=b1) (Qa rfl) rfl I rfl (Qm rfl) rfl UA rfl rfl)<|w5 ?_
 refine alI 143 fun _=> ?_
 refine w2 ?_
 obtain ⟨e4,a9⟩:∃z,(b.set ((mv.1).toNat) b1)[(mv.2.2).toNat]? =some z:=⟨_,ak (by first|omega|(simp only[ax];omega))⟩
 refine lc (QO (e:= .u8) (z':=b2) (Qa rfl) rfl a9 rfl (Qm rfl) rfl UA rfl rfl)<|Qc<|w4 ?_
 exact Qc<|Zb ⟨i+1,((b.set ((mv.1).toNat) b1).set ((mv.2.2).toNat) b2),by omega,rfl,d.trans (congrArg (QoW sig (QY s.2.2.1 r.2) (r.1.length - p)) (Qlc (X5 a j) (by first|exact Qlu (cf:=cf) (ct:=ct) (x:=c) ‹_› ‹_› ‹_› l a6|exact Qit (cf:=cf) (ct:=ct) ‹_› Z a0 a5 a7 ‹_› ‹_›))),(by simp only[ax];exact K),rfl⟩ (by omega)<|wp [] ⟨rfl,rfl,(Qg rfl),trivial⟩
 obtain ⟨o,c4⟩:∃z,(Z0 (!lb.2))[(0:Int).toNat]? =some z:=by first|exact ⟨_,cJ _ _ (by omega)⟩|exact ⟨_,rfl⟩
 obtain ⟨g,c5⟩:∃z,(Z0 lb.2)[(0:Int).toNat]? =some z:=by first|exact ⟨_,cJ _ _ (by omega)⟩|exact ⟨_,rfl⟩
 apply dW (i3 95 _ _ _ (io 98 (lf (dS (Z0 (!lb.2))))::i3 99 _ _ _ (io 102 (lf (dS (Z0 lb.2)))::io 103 _::i2 15 _ _ []))) [0,0,0,0,0,31,31,16,16,256,0]
 refine z3 ?_
 refine zz (fun _ h_=>ac (dK (Yu (!lb.2)) XE) rfl)<|z3 ?_
 exact zz (fun _ h_=>ac (dK (Yu lb.2) XE) rfl)<|y3
 refine w7 ?_
 refine lc (QW (Qa rfl) (QS 63 rfl) rfl)<|w_ ?_
 cases w:(!decide (cf=63))
 have N:(cf=63):=QB w
 refine w14 ?_
 refine lgy rfl rfl (QW (Qa rfl) (QS 63 rfl) rfl)<|w_ ?_
 cases y:(!decide (ct=63))
 have O:(ct=63):=QB y
 refine w12 ?_
 exact Yf (t _ ⟨o,g,‹_›,‹_›,(by exact .inl ‹_›),(by exact .inl ‹_›),rfl⟩)<|wo []
 have O:¬(ct=63):=QL y
 refine w10 ?_
 cases A:(!decide (ct=g))
 have P:(ct=g):=QB A
 refine w2 ?_
 exact Yf (t _ ⟨o,g,‹_›,‹_›,(by exact .inl ‹_›),(by exact .inr ‹_›),rfl⟩)<|wo []
 have P:¬(ct=g):=QL A
 refine w6 ?_
 have b6:((⟨#[]⟩:BA):BA)=((l5V r.1.length (QY s.2.2.1 r.2) sig).1):=by
  (rw[Us (by rw[d,Wu (X5 a j) (by first|exact Vy (cf:=cf) (ct:=ct) (x:=c) ‹_› ‹_› ‹_› l ‹_› ‹_› ‹_› | exact XI (cf:=cf) ‹_› ‹_› ‹_› ‹_› ‹_› | exact XJ (ct:=ct) ‹_› ‹_› ‹_› ‹_› ‹_›)];rfl)];done)
 have b7:(false:Bool)=((l5V r.1.length (QY s.2.2.1 r.2) sig).2):=by
  (rw[Us (by rw[d,Wu (X5 a j) (by first|exact Vy (cf:=cf) (ct:=ct) (x:=c) ‹_› ‹_› ‹_› l ‹_› ‹_› ‹_› | exact XI (cf:=cf) ‹_› ‹_› ‹_› ‹_› ‹_› | exact XJ (ct:=ct) ‹_› ‹_› ‹_› ‹_› ‹_›)];rfl)];done)
 exact fr_ Y (e:=by rw[b6,← b7] <;> rfl)
 have N:¬(cf=63):=QL w
 refine w9 ?_
 cases B:(!decide (cf=o))
 have Q:(cf=o):=QB B
 refine w5 ?_
 refine lgy rfl rfl (QW (Qa rfl) (QS 63 rfl) rfl)<|w_ ?_
 cases C:(!decide (ct=63))
 have R:(ct=63):=QB C
 refine w12 ?_
 exact Yf (t _ ⟨o,g,‹_›,‹_›,(by exact .inr ‹_›),(by exact .inl ‹_›),rfl⟩)<|wo []
 have R:¬(ct=63):=QL C
 refine w10 ?_
 cases D:(!decide (ct=g))
 have S:(ct=g):=QB D
 refine w2 ?_
 exact Yf (t _ ⟨o,g,‹_›,‹_›,(by exact .inr ‹_›),(by exact .inr ‹_›),rfl⟩)<|wo []
 have S:¬(ct=g):=QL D
 refine w6 ?_
 have b8:((⟨#[]⟩:BA):BA)=((l5V r.1.length (QY s.2.2.1 r.2) sig).1):=by
  (rw[Us (by rw[d,Wu (X5 a j) (by first|exact Vy (cf:=cf) (ct:=ct) (x:=c) ‹_› ‹_› ‹_› l ‹_› ‹_› ‹_› | exact XI (cf:=cf) ‹_› ‹_› ‹_› ‹_› ‹_› | exact XJ (ct:=ct) ‹_› ‹_› ‹_› ‹_› ‹_›)];rfl)];done)
 have b9:(false:Bool)=((l5V r.1.length (QY s.2.2.1 r.2) sig).2):=by
  (rw[Us (by rw[d,Wu (X5 a j) (by first|exact Vy (cf:=cf) (ct:=ct) (x:=c) ‹_› ‹_› ‹_› l ‹_› ‹_› ‹_› | exact XI (cf:=cf) ‹_› ‹_› ‹_› ‹_› ‹_› | exact XJ (ct:=ct) ‹_› ‹_› ‹_› ‹_› ‹_›)];rfl)];done)
 exact fr_ Y (e:=by rw[b8,← b9] <;> rfl)
 have Q:¬(cf=o):=QL B
 refine w7 ?_
 iterate 7 refine Qf rfl rfl rfl ?_ rfl
 refine w9 ?_
 have c0:((⟨#[]⟩:BA):BA)=((l5V r.1.length (QY s.2.2.1 r.2) sig).1):=by
  (rw[Us (by rw[d,Wu (X5 a j) (by first|exact Vy (cf:=cf) (ct:=ct) (x:=c) ‹_› ‹_› ‹_› l ‹_› ‹_› ‹_› | exact XI (cf:=cf) ‹_› ‹_› ‹_› ‹_› ‹_› | exact XJ (ct:=ct) ‹_› ‹_› ‹_› ‹_› ‹_›)];rfl)];done)
 have c1:(false:Bool)=((l5V r.1.length (QY s.2.2.1 r.2) sig).2):=by
  (rw[Us (by rw[d,Wu (X5 a j) (by first|exact Vy (cf:=cf) (ct:=ct) (x:=c) ‹_› ‹_› ‹_› l ‹_› ‹_› ‹_› | exact XI (cf:=cf) ‹_› ‹_› ‹_› ‹_› ‹_› | exact XJ (ct:=ct) ‹_› ‹_› ‹_› ‹_› ‹_›)];rfl)];done)
 exact fr_ Y (e:=by rw[c0,← c1] <;> rfl)
 have M:¬(lb.1=sig):=QL v
 refine w9 ?_
 refine Xc (fun q=>∃(c:UInt8),((cf=63→c=ct)∧(¬cf=63→c=cf))∧q=⟨[(2,lI sig),(3,lP 0 0),(4,lP 1 0),(8,lR 5),(10,lI (p:Int)),(12,lP 6 0),(13,lP 7 0),(14,lf (.dat .u8 c)),(38,lf (.dat U2 r.2)),(39,lI (r.2.length:Int)),(40,lI (i:Int))],[bx 0 164 [dI s.1.1,.dat Yv s.1.2,.dat Qj s.2.1,.dat XK s.2.2.1,dS s.2.2.2],bx 1 227 [.dat Qd r.1,.dat U2 r.2],ar 5 5 .u8 b,bx 6 229 [dI mv.1,dI mv.2.1,dI mv.2.2],bx 7 183 [dI lb.1,dB lb.2]]⟩) ?_ fun X=> ?_
 rintro q ⟨c,l,rfl⟩
 refine Xc (fun q=>(c=63∨ct=63∨ct=c)∧q=⟨[(2,lI sig),(3,lP 0 0),(4,lP 1 0),(8,lR 5),(10,lI (p:Int)),(12,lP 6 0),(13,lP 7 0),(14,lf (.dat .u8 c)),(38,lf (.dat U2 r.2)),(39,lI (r.2.length:Int)),(40,lI (i:Int))],[bx 0 164 [dI s.1.1,.dat Yv s.1.2,.dat Qj s.2.1,.dat XK s.2.2.1,dS s.2.2.2],bx 1 227 [.dat Qd r.1,.dat U2 r.2],ar 5 5 .u8 b,bx 6 229 [dI mv.1,dI mv.2.1,dI mv.2.2],bx 7 183 [dI lb.1,dB lb.2]]⟩) ?_ fun J=> ?_
 rintro q ⟨a6,rfl⟩
 refine w6 ?_
 refine lc (QO (e:= .u8) (z':=c) (Qa rfl) rfl I rfl (Qm rfl) rfl UA rfl rfl)<|w5 ?_
 refine alI 92 fun _=> ?_
 refine w2 ?_
 obtain ⟨e5,b0⟩:∃z,(b.set ((mv.1).toNat) c)[(mv.2.2).toNat]? =some z:=⟨_,ak (by first|omega|(simp only[ax];omega))⟩
 refine lc (QO (e:= .u8) (z':=c) (Qa rfl) rfl b0 rfl (Qm rfl) rfl UA rfl rfl)<|w6 ?_
 exact Qc<|Zb ⟨i+1,((b.set ((mv.1).toNat) c).set ((mv.2.2).toNat) c),by omega,rfl,d.trans (congrArg (QoW sig (QY s.2.2.1 r.2) (r.1.length - p)) (Qlc (X5 a j) (by first|exact Qlu (cf:=cf) (ct:=ct) (x:=c) ‹_› ‹_› ‹_› l a6|exact Qit (cf:=cf) (ct:=ct) ‹_› Z a0 a5 a7 ‹_› ‹_›))),(by simp only[ax];exact K),rfl⟩ (by omega)<|wp [] ⟨rfl,rfl,(Qg rfl),trivial⟩
 refine w3 ?_
 refine lc (QW (Qa rfl) (QS 63 rfl) rfl)<|w_ ?_
 cases E:(!decide (c=63))
 have T:(c=63):=QB E
 refine w16 ?_
 refine w3 ?_
 exact Yf (J _ ⟨(by exact .inl ‹_›),rfl⟩)<|wo []
 have T:¬(c=63):=QL E
 refine w5 ?_
 refine lgy rfl rfl (QW (Qa rfl) (QS 63 rfl) rfl)<|w2 ?_
 cases F:(!decide (ct=63))
 have U:(ct=63):=QB F
 refine w11 ?_
 exact Yf (J _ ⟨(by exact .inr (.inl ‹_›)),rfl⟩)<|wo []
 have U:¬(ct=63):=QL F
 refine w9 ?_
 cases G:(!decide (ct=c))
 have V:(ct=c):=QB G
 refine w2 ?_
 exact Yf (J _ ⟨(by exact .inr (.inr ‹_›)),rfl⟩)<|wo []
 have V:¬(ct=c):=QL G
 refine w6 ?_
 have c2:((⟨#[]⟩:BA):BA)=((l5V r.1.length (QY s.2.2.1 r.2) sig).1):=by
  (rw[Us (by rw[d,Wu (X5 a j) (by first|exact Vy (cf:=cf) (ct:=ct) (x:=c) ‹_› ‹_› ‹_› l ‹_› ‹_› ‹_› | exact XI (cf:=cf) ‹_› ‹_› ‹_› ‹_› ‹_› | exact XJ (ct:=ct) ‹_› ‹_› ‹_› ‹_› ‹_›)];rfl)];done)
 have c3:(false:Bool)=((l5V r.1.length (QY s.2.2.1 r.2) sig).2):=by
  (rw[Us (by rw[d,Wu (X5 a j) (by first|exact Vy (cf:=cf) (ct:=ct) (x:=c) ‹_› ‹_› ‹_› l ‹_› ‹_› ‹_› | exact XI (cf:=cf) ‹_› ‹_› ‹_› ‹_› ‹_› | exact XJ (ct:=ct) ‹_› ‹_› ‹_› ‹_› ‹_›)];rfl)];done)
 exact fr_ Y (e:=by rw[c2,← c3] <;> rfl)
 refine w3 ?_
 refine lc (Zf (Qa rfl) (QS 63 rfl) rfl)<|w_ ?_
 cases H:(decide (cf=63))
 have W:=ab H
 refine w2 ?_
 exact Yf (X _ ⟨cf,(by exact ⟨fun h=>absurd h ‹_›,fun _=>rfl⟩),rfl⟩)<|wo []
 have W:=aa H
 refine w9 ?_
 exact Yf (X _ ⟨ct,(by exact ⟨fun _=>rfl,fun h=>absurd ‹_› h⟩),rfl⟩)<|wo []
 have a2:=aa a1
 refine w12 ?_
 obtain ⟨e6,b3⟩:=gx (QaS r.1.length k) k
 refine lc (QO (e:= .u8) (z':=63) (Qa rfl) rfl b3 rfl (Evl.ev (QS 63 rfl)) rfl UA rfl rfl)<|Qc<|w4 ?_
 exact Qc<|l0_<|wp [] ⟨rfl,rfl,(Qg (Qrn (by omega))),trivial⟩
def Qeo (s:Qma)(r:List BA×(List (Int×Int×Int)))(p:∀m∈r.2,MvOk r.1.length s.2.2.1.length m)(c:r.1.length≤1000000)(o:s.2.1.length≤1000000):FC prog 189 [(true,[dI s.1.1,.dat Yv s.1.2,.dat Qj s.2.1,.dat XK s.2.2.1,dS s.2.2.2]),(true,[.dat Qd r.1,.dat U2 r.2])] [] 0 (WB 3 .int (WS r.1.length (QY s.2.2.1 r.2) s.2.1.length)):=by
 refine Ql func189 rfl rfl ntmps189 fun t i q d u h g=>w_ ?_
 refine xbx 0 ?_
 refine xbx 1 ?_
 refine w13 ?_
 refine AC.wk (Wk.nilS 2 5 3 .int rfl (Fresh.of rfl) (nlr rfl))<|lp0 s.2.1.length (fun k=>⟨[(2,lP 0 0),(3,lP 1 0),(4,lf (.val (.slice none 0 0))),(5,lR 3),(11,lI (s.2.1.length:Int)),(12,lI (k:Int))],[bx 0 164 [dI s.1.1,.dat Yv s.1.2,.dat Qj s.2.1,.dat XK s.2.2.1,dS s.2.2.2],bx 1 227 [.dat Qd r.1,.dat U2 r.2],ar 3 3 .int (WS r.1.length (QY s.2.2.1 r.2) k)]⟩) ?_ fun k _=> ?_
 exact wp [(3,2)] ⟨rfl,rfl,(Qg rfl),trivial⟩
 have l:=QqJ r.1.length (QY s.2.2.1 r.2) k
 refine w4 ?_
 cases a:(decide ((k:Int)<(s.2.1.length:Int)))
 have b:=ab a
 refine w8 ?_
 refine fo_ i ?_
 rw[show k=s.2.1.length by omega]
 have b:=aa a
 refine w12 ?_
 refine lc (dK (KH s r (k:Int) p c) QfL)<|w10 ?_
 cases j:((l5V r.1.length (QY s.2.2.1 r.2) (k:Int)).2)
 refine w4 ?_
 refine lc (dBs 4 (e:= .int) Ye)<|lc (dA 5 Xg)<|w_ ?_
 refine Qc<|w4 ?_
 exact Qc<|l0_<|wp [(3,5)] ⟨rfl,rfl,(Qg (by exact QtA ‹_›)),trivial⟩
 refine w6 ?_
 exact Qc<|l0_<|wp [] ⟨rfl,rfl,(Qg (by exact QqK ‹_›)),trivial⟩
structure Rok (m:Nat) (st:RS):Prop where
  one:1≤st.1.length
  most:st.1.length≤300
  nd:st.1.Nodup
  mv:∀v∈st.2.1,MvOk st.1.length m v
section
variable {n:XZ}{k f:Nat}{mk:BA}{t:Int}{ts:List Int}{st:RS}{s:ZF}{l:List BA}{x:BA}
def Qt9 (h:0≤YW l x):YW l x<l.length:=by
 unfold YW Zj at h ⊢
 cases a:l.findIdx? (fun y=>decide (y=x)) with
 | none=>rw[a] at h;simp at h
 | some i=>
  obtain ⟨b,_⟩:=bY.1 a
  simp;omega
def Qrp (h:¬0≤YW l x):x∉l:=fun b=>by
 unfold YW Zj at h
 cases a:l.findIdx? (fun y=>decide (y=x)) with
 | none=>
  have:=List.findIdx?_eq_none_iff.1 a x b
  simp at this
 | some i=>rw[a] at h;simp at h
def MvOk.grow {a b m:Nat}{v:DMv}(h:MvOk a m v)(hab:a≤b):MvOk b m v:=by
 obtain ⟨⟨c,g⟩,d,e,i⟩:=h
 exact ⟨⟨c,by omega⟩,d,e,by omega⟩
def QAH (q:k<st.1.length)(g:∀t∈ts,0≤t∧t<n.2.length)(h:Rok n.2.length st):Rok n.2.length (goT n k mk ts st).1∧(goT n k mk ts st).1.2.1.length≤st.2.1.length+ts.length∧st.1.length≤(goT n k mk ts st).1.1.length:=by
 induction ts generalizing st with
 | nil=>rw[goT];exact ⟨h,by simp,aP _⟩
 | cons t ts u=>
  have r:=g t (aA ..)
  have d:∀t∈ts,0≤t∧t<n.2.length:=fun t h=>g t (az _ h)
  rw[goT]
  split
  ·exact ⟨h,by simp,aP _⟩
  ·split
   ·rename_i i
    have p:=Qt9 i
    obtain ⟨j,m,o⟩:=u (st:=(st.1,st.2.1++[((k:Int),t,YW st.1 (YL n mk t).1)],st.2.2)) q d ⟨h.one,h.most,h.nd,fun v c=>by
     rcases aO.1 c with c|c
     ·exact h.mv v c
     ·rw[aI.1 c];exact ⟨⟨dD _,by simpa using q⟩,r,i,p⟩⟩
    exact ⟨j,by simp at m ⊢;omega,o⟩
   ·rename_i i
    split
    ·exact ⟨h,by simp,aP _⟩
    ·rename_i z
     have A:=h.most
     obtain ⟨j,m,o⟩:=u (st:=(st.1++[(YL n mk t).1],st.2.1++[((k:Int),t,(st.1.length:Int))],st.2.2++[((k:Int),t,(st.1.length:Int))])) (by simp;omega) d ⟨by simp,by simp;omega,
      bz.2 ⟨h.nd,by simp,fun a w b y e=>Qrp i (by rw[aI.1 y] at e;exact e▸w)⟩,fun v c=>by
       rcases aO.1 c with c|c
       ·exact (h.mv v c).grow (by simp)
       ·rw[aI.1 c];exact ⟨⟨dD _,by simp;omega⟩,r,dD _,by simp;omega⟩⟩
     exact ⟨j,by simp at m ⊢;omega,by simp at o;omega⟩
def QAF (r:n.2.length≤24)(h:Rok n.2.length st)(q:st.2.1.length≤24*k):Rok n.2.length (goK n f k st).1∧(goK n f k st).1.2.1.length≤24*(k+f):=by
 induction f generalizing k st with
 | zero=>rw[goK];exact ⟨h,by omega⟩
 | succ f g=>
  rw[goK]
  cases e:st.1[k]? with
  | none=>exact ⟨h,by show st.2.1.length≤_;omega⟩
  | some mk=>
   obtain ⟨a,j,m⟩:=QAH (mk:=mk) (ts:=JT n mk) (ae.1 e).1 (fun t d=>by
    obtain ⟨i,c⟩:=aG.1 d
    exact Vr c) h
   have o:=QkF n mk
   show Rok n.2.length (if _ then _ else _:RS×Qkl).1∧(if _ then _ else _:RS×Qkl).1.2.1.length≤_
   split
   ·obtain ⟨b,p⟩:=g (k:=k+1) a (by omega)
    exact ⟨b,by omega⟩
   ·exact ⟨a,by omega⟩
def Qvt (a:StgOk s):Rok s.2.2.1.length (Zr s).1∧(Zr s).1.2.1.length≤7224:=by
 have h:=QAF (n:=s.1) (k:=0) (f:=301) (st:=([s.2.2.2],[],[((0:Int),(0:Int),(0:Int))])) a.net.2.1 ⟨by simp,by simp,by simp,by simp⟩ (by simp)
 rw[← a.len] at h
 exact h
end
def Qlp {ss:List Qs}(h:Z4 ss):ss.length≤24:=by
 have:=h.2.2
 omega
section
variable [∀s,Decidable (StgOk s)]{s:ZF}
def Jj (h:¬StgOk s):Qp s=(Qot,false):=if_neg fun a=>h a.1
def XO (h:(exV s).2.2.2=false):Qp s=(Qot,false):=if_neg fun a=>by
 have:(Zr s).2.2.2=false:=h
 rw[this] at a
 cases a.2
def Jk (a:StgOk s)(h:(exV s).2.2.2=true):Qp s=((exV s).1,true):=if_pos ⟨a,h⟩
def Yt (h:(Qp s).2=true):StgOk s∧1≤(Qp s).1.1.length∧(Qp s).1.1.length≤300∧(Qp s).1.1.Nodup∧(∀v∈(Qp s).1.2,MvOk (Qp s).1.1.length s.2.2.1.length v)∧(Qp s).1.2.length≤7224:=by
 unfold Qp at h ⊢
 split
 ·rename_i a
  obtain ⟨b,c⟩:=Qvt a.1
  exact ⟨a.1,b.one,b.most,b.nd,b.mv,c⟩
 ·rename_i a
  rw[if_neg a] at h
  cases h
end
section
variable {s:ZF}
def Qjb (h:¬0≤(l4V s).2.2.2.1)(a:(l4V s).2.2.2.2=false):(exV s).2.2.2=true:=by
 have h:¬0≤(Zr s).2.2.1:=h
 have a:(!(Zr s).2.2.2&&decide ((Zr s).2.2.1<0))=false:=a
 show (Zr s).2.2.2=true
 rw[ay (by omega)] at a
 simpa using a
def Qja (h:¬0≤(l4V s).2.2.2.1)(a:(l4V s).2.2.2.2=true):(exV s).2.2.2=false:=by
 have a:(!(Zr s).2.2.2&&decide ((Zr s).2.2.1<0))=true:=a
 rw[aH] at a
 show (Zr s).2.2.2=false
 simpa using a.1
end
def Qrz {n:XZ}{k:Nat}{mk:BA}{ts:List Int}{st:RS}(h:(goT n k mk ts st).2.2.2=true):(goT n k mk ts st).2.2.1= -1:=by
 induction ts generalizing st with
 | nil=>rw[goT]
 | cons t ts c=>
  rw[goT] at h ⊢
  split
  ·rename_i a;rw[if_pos a] at h;cases h
  ·rename_i a
   rw[if_neg a] at h
   split
   ·rename_i b;rw[if_pos b] at h;exact c h
   ·rename_i b
    rw[if_neg b] at h
    split
    ·rfl
    ·rename_i d;rw[if_neg d] at h;exact c h
def Qry {n:XZ}{f k:Nat}{st:RS}(h:(goK n f k st).2.2.2=true):(goK n f k st).2.2.1= -1:=by
 induction f generalizing k st with
 | zero=>rw[goK]
 | succ f c=>
  rw[goK] at h ⊢
  cases b:st.1[k]? with
  | none=>rfl
  | some mk=>
   rw[b] at h
   simp only at h ⊢
   split
   ·rename_i a;rw[if_pos a] at h;exact c h
   ·rename_i a;rw[if_neg a] at h;exact Qrz h
def Qi9 {s:ZF}(h:0≤(l4V s).2.2.2.1):(exV s).2.2.2=false:=by
 have h:0≤(Zr s).2.2.1:=h
 show (Zr s).2.2.2=false
 cases a:(Zr s).2.2.2 with
 | false=>rfl
 | true=>
  have:=Qry (n:=s.1) (f:=301) (k:=0) (st:=([s.2.2.2],[],[((0:Int),(0:Int),(0:Int))])) a
  have b:(Zr s).2.2.1= -1:=this
  omega
def Qea (s:Qma)[∀s,Decidable (StgOk s)]:FC prog 188 [(true,[dI s.1.1,.dat Yv s.1.2,.dat Qj s.2.1,.dat XK s.2.2.1,dS s.2.2.2])] [] 0 (Is (PV.tup [(true,[.ref 0,.ref 1]),(false,[dB ((Qp s).2)])]) [ar 0 9 .str (((Qp s).1).1),ar 1 229 QI (((Qp s).1).2)]):=by
 refine Ql func188 rfl rfl ntmps188 fun v e u g w q o=>w_ ?_
 refine xbx 0 ?_
 refine lc (xal 1 QzO Qj3)<|w5 ?_
 refine lc (dK (WF s) Je)<|w2 ?_
 cases a:(decide (StgOk s))
 have b:=ab a
 refine w2 ?_
 refine lc (Qh QeB rfl (ao.1 rfl) rfl rfl)<|w3 ?_
 refine AC.wk (Qo 2 (p:=1) (off:=0) 9 .str rfl rfl (Fresh.of rfl) (nlr rfl))<|AC.wk (Qo 3 (p:=1) (off:=1) 229 QI rfl rfl (Fresh.of rfl) (nlr rfl))<|w_ ?_
 have h:(false:Bool)=((Qp s).2):=by
  (rw[Jj ‹_›];done)
 exact fi_ [(0,2),(1,3)] e ⟨(Qg (by (rw[Jj ‹_›];rfl))),(Qg (by (rw[Jj ‹_›];rfl))),trivial⟩ (h0:=by rw[← h] <;> rfl)
 have b:=aa a
 refine w4 ?_
 refine lc (dG 4 (Qen s ‹_›) Qnd)<|lc (xal 7 QB3 Qe5)<|w8 ?_
 cases c:(decide (0≤((l4V s).2.2.2.1)))
 have d:=ab c
 refine w4 ?_
 cases r:((l4V s).2.2.2.2)
 refine w9 ?_
 have i:(true:Bool)=((Qp s).2):=by
  (rw[Jk ‹_› (Qjb ‹_› ‹_›)];done)
 exact fi_ [(0,4),(1,5)] e ⟨(Qg (by (rw[Jk ‹_› (Qjb ‹_› ‹_›)];rfl))),(Qg (by (rw[Jk ‹_› (Qjb ‹_› ‹_›)];rfl))),trivial⟩ (h0:=by rw[← i] <;> rfl)
 refine w2 ?_
 refine lc (Qh QeB rfl (ao.1 rfl) rfl rfl)<|w3 ?_
 refine AC.wk (Qo 8 (p:=1) (off:=0) 9 .str rfl rfl (Fresh.of rfl) (nlr rfl))<|AC.wk (Qo 9 (p:=1) (off:=1) 229 QI rfl rfl (Fresh.of rfl) (nlr rfl))<|w_ ?_
 have j:(false:Bool)=((Qp s).2):=by
  (rw[XO (Qja ‹_› ‹_›)];done)
 exact fi_ [(0,8),(1,9)] e ⟨(Qg (by (rw[XO (Qja ‹_› ‹_›)];rfl))),(Qg (by (rw[XO (Qja ‹_› ‹_›)];rfl))),trivial⟩ (h0:=by rw[← j] <;> rfl)
 have d:=aa c
 refine w6 ?_
 refine lc (Qh QeB rfl (ao.1 rfl) rfl rfl)<|w3 ?_
 refine AC.wk (Qo 10 (p:=1) (off:=0) 9 .str rfl rfl (Fresh.of rfl) (nlr rfl))<|AC.wk (Qo 11 (p:=1) (off:=1) 229 QI rfl rfl (Fresh.of rfl) (nlr rfl))<|w_ ?_
 have m:(false:Bool)=((Qp s).2):=by
  (rw[XO (Qi9 ‹_›)];done)
 exact fi_ [(0,10),(1,11)] e ⟨(Qg (by (rw[XO (Qi9 ‹_›)];rfl))),(Qg (by (rw[XO (Qi9 ‹_›)];rfl))),trivial⟩ (h0:=by rw[← m] <;> rfl)
end Go.Proofs.YtjfpbcmfbnnooaaGreat
