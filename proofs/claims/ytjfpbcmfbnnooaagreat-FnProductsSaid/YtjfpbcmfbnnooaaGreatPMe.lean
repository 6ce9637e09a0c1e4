import Derived.Test.YtjfpbcmfbnnooaaGreatPMf
set_option linter.all false
namespace Go.Proofs.YtjfpbcmfbnnooaaGreat
open Go.RowKit Tryz
set_option maxRecDepth 100000
set_option maxHeartbeats 4000000
def QcD (c:DSg)(n:DNl)(S:List DPs)(j:Nat):List DFl:=(Vc c n (stA S j)).map fun q=>((j:Int),q.2,((S.idxOf q.1:Nat):Int))
def Qcu (c:DSg)(n:DNl)(S:List DPs)(k:Nat):List DFl:=(List.range k).flatMap (QcD c n S)
structure PrI (c:DSg) (n:DNl) (k:Nat) (p:DPr):Prop where
  ok:∀b∈p.1,Wm c n b
  fir:p.1[0]? =some (Xs c n)
  fl:p.2.1=Qcu c n p.1 k
  mem:∀j,j<k→∀q∈Vc c n (stA p.1 j),q.1∈p.1
  re:∀j:Nat,0<j→j<p.1.length→∃f∈p.2.1,f.2.2=(j:Int)∧0≤f.1∧f.1<(j:Int)
  le:k≤p.1.length
section
variable {c:DSg}{n:DNl}{b:DPs}{k m i j f:Nat}{p:DPr}{q:List DPs×List DFl}{S r:List DPs}{x:DPs}{v:DFl}{w:Int}
def Que {α β:Type}{l:List α}{f g:α→List β}(h:∀x∈l,f x=g x):l.flatMap f=l.flatMap g:=by
 induction l with
 | nil=>rfl
 | cons x l d=>rw[di,di,h x (aA ..),d fun y a=>h y (az _ a)]
def QdA (h:S[k]? =some b):stA S k=b:=by unfold stA;rw[h];rfl
def Qe2 (h:k<S.length):stA (S++r) k=stA S k:=by unfold stA;rw[bm h]
def QxJ (h:x∈S):(S++r).idxOf x=S.idxOf x:=by rw[List.idxOf_append,if_pos h]
theorem QAO (h:x∈S):S[S.idxOf x]? =some x:=by
 grind
theorem Qai (k:Int):∀(L:List (DPs×Int)) (q:List DPs×List DFl),
 (∃r,(L.foldl (adB k) q).1=q.1++r)∧(L.foldl (adB k) q).2=q.2++L.map (fun p=>(k,p.2,(((L.foldl (adB k) q).1.idxOf p.1:Nat):Int)))∧(∀p∈L,p.1∈(L.foldl (adB k) q).1)∧
 (∀x∈(L.foldl (adB k) q).1,x∈q.1∨∃p∈L,p.1=x)∧(∀j:Nat,q.1.length≤j→j<(L.foldl (adB k) q).1.length→∃f∈(L.foldl (adB k) q).2,f.2.2=(j:Int)∧f.1=k)∧(L.foldl (adB k) q).1.length≤q.1.length+L.length
 | [],q=>⟨⟨[],by simp⟩,by simp,fun p C=>absurd C bO,fun x D=> .inl D,fun j d a=>by have a:j<q.1.length:=a;omega,aP _⟩
 | p::L,q=>by
  obtain ⟨⟨r,d⟩,a,H,A,B,h⟩:=Qai k L (adB k q p)
  rw[bn]
  generalize I:L.foldl (adB k) (adB k q p)=Q at*
  have z:(adB k q p).2=q.2++[(k,p.2,((q.1.idxOf p.1:Nat):Int))]:=rfl
  by_cases s:p.1∈q.1
  ·have g:(adB k q p).1=q.1:=if_pos s
   grind
  ·have g:(adB k q p).1=q.1++[p.1]:=if_neg s
   rw[g] at d A B h
   rw[z] at a
   refine ⟨⟨[p.1]++r,by rw[d,aM]⟩,?_,fun y E=> ?_,fun y E=> ?_,fun j F G=> ?_,by rw[av];rw[ai,cy] at h;omega⟩
   ·grind
   ·grind
   ·grind
   ·by_cases e:j=q.1.length
    ·refine ⟨(k,p.2,((q.1.idxOf p.1:Nat):Int)),?_,?_,rfl⟩
     ·rw[a];simp
     ·grind
    ·grind
def Qyz (a:j<S.length)(h:∀q∈Vc c n (stA S j),q.1∈S):QcD c n (S++r) j=QcD c n S j:=by
 unfold QcD
 rw[Qe2 a]
 refine List.map_congr_left fun q d=> ?_
 rw[QxJ (h q d)]
def HR:Qcu c n S (k+1)=Qcu c n S k++QcD c n S k:=by unfold Qcu;rw[bk,cF];simp
def PrI.start (h:GoP c n):PrI c n 0 ([Xs c n],[],[]):=
 ⟨fun b d=>by rw[aI.1 d];exact QAz h,rfl,rfl,fun j g=>absurd g (aS j),fun j s a=>by have a:j<1:=a;omega,aL _⟩
theorem Qqr {y:DPs×Int}(a:y∈Vc c n b):∃k,k<n.2.length∧flB c n b k=true∧y.1=flS c n b k∧y.2=(k:Int):=by
 unfold Vc YE X3 at a
 grind
def PrI.step (h:PrI c n k p)(O:GoP c n)(B:k<p.1.length):PrI c n (k+1) (exP c n k p):=by
 obtain ⟨⟨r,z⟩,J,K,L,M,R⟩:=Qai (k:Int) (Vc c n (stA p.1 k)) (p.1,p.2.1)
 have G:Wm c n (stA p.1 k):=h.ok _ (by rw[QdA (ak B)];exact cZ B)
 have a:(exP c n k p).1=p.1++r:=z
 have H:(exP c n k p).2.1=p.2.1++QcD c n (p.1++r) k:=by
  show ((Vc c n (stA p.1 k)).foldl (adB (k:Int)) (p.1,p.2.1)).2=_
  rw[J]
  unfold QcD
  rw[Qe2 B,z]
 have d:∀j,j<k+1→∀q∈Vc c n (stA (p.1++r) j),q.1∈p.1++r:=fun j A q C=>by
  by_cases e:j=k
  ·subst e
   rw[Qe2 B] at C
   have:=K q C
   rwa [z] at this
  ·rw[Qe2 (by omega)] at C
   exact aU _ (h.mem j (by omega) q C)
 refine ⟨fun b N=> ?_,?_,?_,?_,fun j F s=> ?_,?_⟩
 ·rcases L b N with g|⟨y,P,rfl⟩
  ·exact h.ok b g
  ·obtain ⟨T,F,s,I,_⟩:=Qqr P
   rw[I];exact QxA O G F s
 ·rw[a,bm (by omega)];exact h.fir
 ·rw[H,a,HR,h.fl]
  congr 1
  unfold Qcu
  refine Que fun j A=> ?_
  have A:=bC.1 A
  exact (Qyz (by omega) (h.mem j A)).symm
 ·rw[a];exact d
 ·rw[a] at s
  by_cases e:j<p.1.length
  ·obtain ⟨f,D,E⟩:=h.re j F e
   exact ⟨f,by rw[H];exact aU _ D,E⟩
  ·obtain ⟨f,D,E,Q⟩:=M j (by show p.1.length≤j;omega) (by rw[z];exact s)
   exact ⟨f,D,E,by omega,by omega⟩
 ·rw[a,ai];omega
def Qvn (h:k<p.1.length)(a:k≤600):prG c n (601 - k) k p=if 600<(exP c n k p).1.length then (([],[],[]),false) else prG c n (601 - (k+1)) (k+1) (exP c n k p):=by
 rw[show 601 - k=(601 - (k+1))+1 by omega,prG,if_pos h]
def QBq (h:p.1.length≤k)(a:k≤600):prG c n (601 - k) k p=(p,true):=by
 rw[show 601 - k=(600 - k)+1 by omega,prG,if_neg (by omega)]
def Qvm (d:GoP c n):∀(f k:Nat) (p:DPr),PrI c n k p→p.1.length≤600→(prG c n f k p).2=true→PrI c n (prG c n f k p).1.1.length (prG c n f k p).1∧(prG c n f k p).1.1.length≤600
 | 0,k,p,_,_,h=>by cases h
 | f+1,k,p,hI,hl,h=>by
  rw[prG] at h ⊢
  split at h
  ·rename_i a
   rw[if_pos a]
   split at h
   ·cases h
   ·rename_i g
    rw[if_neg g]
    exact Qvm d f (k+1) _ (hI.step d a) (by omega) h
  ·rename_i a
   rw[if_neg a]
   have s:=hI.le
   have e:k=p.1.length:=by omega
   subst e
   exact ⟨hI,hl⟩
variable [∀c,Decidable (SgOk c)][∀n,Decidable (QV n)]
def QpU (h:¬GoP c n):Q3 c n=(([],[],[]),false):=if_neg h
def QpT (h:GoP c n):Q3 c n=prG c n (601 - 0) 0 ([Xs c n],[],[]):=if_pos h
def Qyj (h:(Q3 c n).2=true):GoP c n∧PrI c n (Q3 c n).1.1.length (Q3 c n).1∧(Q3 c n).1.1.length≤600:=by
 by_cases g:GoP c n
 ·rw[QpT g] at h ⊢
  exact ⟨g,Qvm g _ _ _ (PrI.start g) (by show 1≤600;omega) h⟩
 ·rw[QpU g] at h;cases h
end
def Qa6 (p:DPr):Prop:=(1≤(p.1.length:Int)∧(p.1.length:Int)≤600)∧(p.2.1.length:Int)≤6000∧∀f∈p.2.1,(0≤f.1∧f.1≤(p.1.length:Int) - 1)∧(0≤f.2.2∧f.2.2≤(p.1.length:Int) - 1)∧(0≤f.2.1∧f.2.1≤23)
instance (p:DPr):Decidable (Qa6 p):=inferInstanceAs (Decidable (_∧_))
section
variable {c:DSg}{n:DNl}{b:DPs}{k m i j:Nat}{p:DPr}{x:DPs}{v:DFl}{w:Int}
theorem PrI.flips (h:PrI c n p.1.length p)(y:n.2.length≤24):∀f∈p.2.1,(0≤f.1∧f.1≤(p.1.length:Int) - 1)∧(0≤f.2.2∧f.2.2≤(p.1.length:Int) - 1)∧(0≤f.2.1∧f.2.1≤23):=fun f a=>by
 rw[h.fl] at a
 obtain ⟨j,d,a⟩:=cj.1 a
 obtain ⟨q,g,rfl⟩:=aW.1 a
 have d:=bC.1 d
 obtain ⟨k,z,A,B,C⟩:=Qqr g
 have s:=List.idxOf_lt_length_of_mem (h.mem j d q g)
 grind
def QpD (h:PrI c n p.1.length p)(y:k<p.1.length):∃r,p.2.1=Qcu c n p.1 k++(QcD c n p.1 k++r):=by
 rw[h.fl]
 obtain ⟨d,a⟩:∃d,p.1.length=(k+1)+d:=⟨p.1.length - (k+1),by omega⟩
 generalize p.1.length=L at a
 subst a
 induction d with
 | zero=>exact ⟨[],by rw[bH,ec,HR]⟩
 | succ d s=>
  obtain ⟨r,g⟩:=s
  exact ⟨r++QcD c n p.1 (k+1+d),by rw[← bX,HR,g,aM,aM]⟩
def QjC (hb:p.1[k]? =some b):(QcD c n p.1 k).length=(YE c n b n.2.length).length:=by
 unfold QcD Vc
 rw[aC,QdA hb,dx]
 have:=(WL (c:=c) (n:=n) (b:=b) (m:=n.2.length)).1;omega
def Qvc (hb:p.1[k]? =some b):(Qcu c n p.1 (k+1)).length=(Qcu c n p.1 k).length+(YE c n b n.2.length).length:=by
 rw[HR,ai,QjC hb]
def QuG (h:PrI c n p.1.length p)(hb:p.1[k]? =some b)(d:(YE c n b n.2.length)[i]? =some x):(Qcu c n p.1 k).length+i<p.2.1.length:=by
 obtain ⟨r,a⟩:=QpD h (ae.1 hb).1
 have g:=(ae.1 d).1
 rw[a,ai,ai,QjC hb];omega
def QuF (h:PrI c n p.1.length p)(hb:p.1[k]? =some b)(g:(YE c n b n.2.length)[i]? =some x)(A:(X3 c n b n.2.length)[i]? =some w)(hv:p.2.1[(Qcu c n p.1 k).length+i]? =some v):
 v.1=(k:Int)∧v.2.1=w∧(0≤v.2.2∧v.2.2<(p.1.length:Int))∧p.1[v.2.2.toNat]? =some x:=by
 have a:=(ae.1 hb).1
 obtain ⟨r,z⟩:=QpD h a
 have y:=(ae.1 g).1
 have s:(Vc c n b)[i]? =some (x,w):=by
  unfold Vc
  rw[cP]
  exact ⟨g,A⟩
 have d:x∈p.1:=h.mem k a (x,w) (by rw[QdA hb];exact ah s)
 have e:v=((k:Int),w,((p.1.idxOf x:Nat):Int)):=by
  rw[z,bw (by omega),bE,bm (by rw[QjC hb];exact y)] at hv
  unfold QcD at hv
  rw[QdA hb,bl,s] at hv
  exact (bD hv).symm
 subst e
 have B:=List.idxOf_lt_length_of_mem d
 exact ⟨rfl,rfl,⟨by show (0:Int)≤((_:Nat):Int);omega,by show ((_:Nat):Int)<_;omega⟩,by rw[bW];exact QAO d⟩
end
def YQ (far:List Int)(k:Int):Int:=(far[k.toNat]?).getD (-1)
def bkB (far:List Int)(k:Int)(e:Int×Int):Bool:=decide (e.2=k)&&decide (YQ far e.1=YQ far k - 1)
def bkG (far:List Int)(l:List (Int×Int)):Nat→Int→List Int→List Int
 | 0,_,out=>out
 | f+1,k,out=>if 0<YQ far k then bkG far l f ((l[(Zj (bkB far k) l).toNat]?).getD (0,0)).1 (out++[Zj (bkB far k) l]) else out
def KU (n:Nat)(l:List (Int×Int))(k:Int):List Int×Bool:=if YQ (Q6 n l) k<0 then ([],false) else ((bkG (Q6 n l) l (YQ (Q6 n l) k).toNat k []).reverse,true)
def DI (es:List (Int×Int))(out:List Int):Prop:=out[0]? =some 0∧∀(i:Nat) v,out[i]? =some v→0≤v→(v=0∧i=0)∨(0<v∧∃o,(o,(i:Int))∈es∧0≤o∧out[o.toNat]? =some (v - 1))
section
variable {n k i f:Nat}{es:List (Int×Int)}{e:Int×Int}{l ts q out:List Int}{o t c w u:Int}{st:List Int×List Int}
theorem DI.set (h:DI es out)(G:out[t.toNat]? =some c)(I:c<0)(L:out[o.toNat]? =some w)(E:0≤w)(H:(o,t)∈es)(J:0≤o)(K:0≤t):DI es (out.set t.toNat (w+1)):=by
 have a:∀s:Nat,∀z,out[s]? =some z→0≤z→(out.set t.toNat (w+1))[s]? =some z:=fun s z M h=>by
  grind
 refine ⟨a _ _ h.1 (cR 0),fun i v d D=> ?_⟩
 by_cases e:t.toNat=i
 ·grind
 ·rw[bh e] at d
  rcases h.2 i v d D with g|⟨y,F,A,B,C⟩
  ·exact .inl g
  ·exact .inr ⟨y,F,A,B,a _ _ C (by omega)⟩
def Ql0 (y:∀e∈es,InE n e):∀(ts:List Int) (st:List Int×List Int),BI n es st→o∈st.2→(∀t∈ts,(o,t)∈es)→DI es st.1→DI es (bfT o ts st).1
 | [],st,_,_,_,hd=>hd
 | t::ts,st,h,ho,he,hd=>by
  have a:=he t (aA ..)
  obtain ⟨⟨d,_⟩,g,s⟩:=y _ a
  have d:0≤o:=d
  have g:0≤t:=g
  have s:t<(n:Int):=s
  obtain ⟨c,z⟩:∃c,st.1[t.toNat]? =some c:=⟨_,ak (by rw[h.len];omega)⟩
  obtain ⟨w,B,C⟩:=(h.q o ho).2.2
  rw[bfT,z,B]
  simp only[ap]
  split
  ·rename_i D
   have E:=BI.step (out:=st.1) (q:=st.2) h y ho a z D B
   exact Ql0 y ts _ E (aO.2 (.inl ho)) (fun t A=>he t (az _ A)) (hd.set z D B C a d g)
  ·exact Ql0 y ts st h ho (fun t A=>he t (az _ A)) hd
def Qti (d:∀e∈es,InE n e):∀(f k:Nat) (st:List Int×List Int),BI n es st→DI es st.1→DI es (bfK (YH n es) f k st)
 | 0,k,st,_,hd=>hd
 | f+1,k,st,h,hd=>by
  rw[bfK]
  cases C:st.2[k]? with
  | none=>exact hd
  | some o=>
   simp only
   have g:=ah C
   obtain ⟨A,B⟩:=(h.q o g).1
   obtain ⟨a,z⟩:∃a,(YH n es)[o.toNat]? =some a:=⟨_,ak (by rw[KO];omega)⟩
   rw[z,ap]
   have y:∀t,t∈a↔(o,t)∈es:=fun t=>by
    have:=Qdw (t:=t) d z
    rwa [show ((o.toNat:Nat):Int)=o by omega] at this
   exact Qti d f (k+1) (bfT o a st) (Qex d a st h g (fun t s=>(y t).1 s)).1 (Ql0 d a st h g (fun t s=>(y t).1 s) hd)
theorem QiU (d:1≤n)(g:∀e∈es,InE n e):DI es (Q6 n es):=by
 refine Qti g (n+1) 0 _ (BI.start d) ⟨bj (by simp;omega),fun i v a h=> ?_⟩
 have a:((List.replicate n (-1:Int)).set 0 0)[i]? =some v:=a
 by_cases e:0=i
 ·grind
 ·grind
def X0 (h:l[u.toNat]? =some c):YQ l u=c:=by unfold YQ;rw[h];rfl
def Qt4 (s:1≤n)(y:∀e∈es,InE n e)(B:0≤u)(h:0<YQ (Q6 n es) u):∃e∈es,bkB (Q6 n es) u e=true:=by
 cases a:(Q6 n es)[u.toNat]? with
 | none=>unfold YQ at h;rw[a] at h;exact absurd h (by decide)
 | some v=>
  rw[X0 a] at h
  rcases (QiU s y).2 u.toNat v a (by omega) with ⟨z,_⟩|⟨_,o,d,A,g⟩
  ·omega
  ·refine ⟨_,d,?_⟩
   unfold bkB
   rw[aH,bI,bI,X0 a,X0 g]
   exact ⟨by show ((u.toNat:Nat):Int)=u;omega,rfl⟩
def Qt5 (g:1≤n)(s:∀e∈es,InE n e)(y:0≤u)(h:YQ (Q6 n es) u=0):u=0:=by
 cases a:(Q6 n es)[u.toNat]? with
 | none=>unfold YQ at h;rw[a] at h;exact absurd h (by decide)
 | some v=>
  rw[X0 a] at h
  rcases (QiU g s).2 u.toNat v a (by omega) with ⟨_,d⟩|⟨d,_⟩ <;> omega
def QC7 (a:1≤n)(d:∀e∈es,InE n e):YQ (Q6 n es) 0=0:=X0 (u:=0) (QiU a d).1
def Qxu (z:1≤n)(B:∀e∈es,InE n e)(h:Rch es u):0≤YQ (Q6 n es) u:=by
 obtain ⟨r,g,s⟩:=Qah z B
 have A:u∈[0]++r:=by
  induction h with
  | zero=>simp
  | step _ y C=>exact s _ C _ y
 obtain ⟨_,_,v,a,d⟩:=g.q u A
 have a:(Q6 n es)[u.toNat]? =some v:=a
 rw[X0 a];exact d
theorem QiZ (g:1≤n)(h:∀e∈es,InE n e): -1≤YQ (Q6 n es) u∧YQ (Q6 n es) u≤(n:Int):=by
 obtain ⟨r,d,z⟩:=Qah g h
 cases a:(Q6 n es)[u.toNat]? with
 | none=>unfold YQ;rw[a];exact ⟨by decide,by show (-1:Int)≤_;omega⟩
 | some v=>
  rw[X0 a]
  have s:=d.rng v (ah a)
  have y:=d.q_le
  grind
theorem Qup {α:Type}{p:α→Bool}{l:List α}(h:∃e∈l,p e=true):∃(i:Nat) (e:α),Zj p l=(i:Int)∧l[i]? =some e∧p e=true:=by
 unfold Zj
 cases g:l.findIdx? p with
 | none=>
  grind
 | some i=>
  obtain ⟨a,d,_⟩:=bY.1 g
  exact ⟨i,l[i],rfl,ak a,d⟩
def QoI (y:1≤n)(g:∀e∈es,InE n e)(z:0≤u)(h:0<YQ (Q6 n es) u):∃(i:Nat) (e:Int×Int),Zj (bkB (Q6 n es) u) es=(i:Int)∧es[i]? =some e∧(0≤e.1∧e.1<(n:Int))∧YQ (Q6 n es) e.1=YQ (Q6 n es) u - 1:=by
 obtain ⟨i,e,s,d,a⟩:=Qup (Qt4 y g z h)
 unfold bkB at a
 rw[aH,bI,bI] at a
 exact ⟨i,e,s,d,(g e (ah d)).1,a.2⟩
def QCJ (h:0<YQ l u)(hi:Zj (bkB l u) es=(i:Int))(a:es[i]? =some e)(d:YQ l e.1=YQ l u - 1):bkG l es (YQ l u).toNat u out=bkG l es (YQ l e.1).toNat e.1 (out++[(i:Int)]):=by
 rw[show (YQ l u).toNat=(YQ l e.1).toNat+1 by omega,bkG,if_pos h,hi,bW,a];rfl
def Qtm (h:¬0<YQ l u):bkG l es (YQ l u).toNat u out=out:=by rw[show (YQ l u).toNat=0 by omega,bkG]
theorem Qtl (a:1≤n)(d:∀e∈es,InE n e):∀(f:Nat) (u:Int) (out:List Int),0≤u→YQ (Q6 n es) u=(f:Int)→(bkG (Q6 n es) es f u out).length=out.length+f∧∀x∈bkG (Q6 n es) es f u out,x∈out∨(0≤x∧x<(es.length:Int))
 | 0,u,out,_,_=>⟨rfl,fun x z=> .inl z⟩
 | f+1,u,out,hu,h=>by
  obtain ⟨i,e,g,s,y,A⟩:=QoI a d hu (by omega)
  obtain ⟨B,C⟩:=Qtl a d f e.1 (out++[(i:Int)]) y.1 (by omega)
  rw[bkG,if_pos (by omega),g,bW,s,ap]
  grind
def Qog (h:YQ (Q6 n es) u<0):KU n es u=([],false):=if_pos h
def QjE (h:¬YQ (Q6 n es) u<0):KU n es u=((bkG (Q6 n es) es (YQ (Q6 n es) u).toNat u []).reverse,true):=if_neg h
def QjD (a:1≤n)(d:∀e∈es,InE n e)(y:0≤u):((KU n es u).1.length:Int)≤(n:Int)∧(∀x∈(KU n es u).1,0≤x∧x<(es.length:Int))∧(Rch es u→(KU n es u).2=true∧((KU n es u).1.length=0↔u=0)):=by
 have A:=QiZ (u:=u) a d
 by_cases h:YQ (Q6 n es) u<0
 ·rw[Qog h]
  exact ⟨by simp,fun x s=>absurd s bO,fun q=>by have:=Qxu a d q;omega⟩
 ·rw[QjE h]
  obtain ⟨g,z⟩:=Qtl a d (YQ (Q6 n es) u).toNat u [] y (by omega)
  have g:(bkG (Q6 n es) es (YQ (Q6 n es) u).toNat u []).length=0+(YQ (Q6 n es) u).toNat:=g
  refine ⟨by rw[List.length_reverse,g];omega,fun x s=> ?_,fun _=>⟨rfl,?_⟩⟩
  ·rcases z x (List.mem_reverse.1 s) with h|h
   ·cases h
   ·exact h
  ·rw[List.length_reverse,g]
   constructor
   ·intro e;exact Qt5 a d y (by omega)
   ·intro e;subst e;rw[QC7 a d];rfl
end
def Uz (l:List DFl):List (Int×Int):=l.map fun f=>(f.1,f.2.2)
def Jx (p:DPr)(k:Int):List DFl×Bool:=((KU p.1.length (Uz p.2.1) k).1.map fun i=>(p.2.1[i.toNat]?).getD (0,0,0),(KU p.1.length (Uz p.2.1) k).2)
def ShK (p:DPr)(k:Int):Prop:=Qa6 p∧(0≤k∧k≤(p.1.length:Int) - 1)
instance (p:DPr) (k:Int):Decidable (ShK p k):=inferInstanceAs (Decidable (_∧_))
def Uy (p:DPr)(k:Int):List Int×Bool:=if ShK p k∧(Jx p k).2=true then ((Jx p k).1.map fun f=>f.2.1,true) else ([],false)
section
variable {c:DSg}{n:DNl}{k j:Nat}{p:DPr}{u:Int}
def QjL (h:Qa6 p):∀e∈Uz p.2.1,InE p.1.length e:=fun e d=>by
 obtain ⟨f,g,rfl⟩:=aW.1 d
 have a:=h.2.2 f g
 exact ⟨⟨a.1.1,by show f.1<_;omega⟩,a.2.1.1,by show f.2.2<_;omega⟩
def PrI.rch (h:PrI c n p.1.length p):∀j:Nat,j<p.1.length→Rch (Uz p.2.1) (j:Int):=fun j=>by
 induction j using Nat.strongRecOn with
 | ind j z=>
  intro y
  by_cases a:j=0
  ·subst a;exact .zero
  ·obtain ⟨f,d,g,A,B⟩:=h.re j (by omega) y
   have s:=z f.1.toNat (by omega) (by omega)
   refine .step s (aW.2 ⟨f,d,?_⟩)
   rw[g,show ((f.1.toNat:Nat):Int)=f.1 by omega]
def PrI.prok (h:PrI c n p.1.length p)(d:n.2.length≤24)(s:p.1.length≤600)(a:(p.2.1.length:Int)≤6000):Qa6 p:=by
 have g:=(ae.1 h.fir).1
 exact ⟨⟨by omega,by omega⟩,a,h.flips d⟩
def QxT (h:PrI c n p.1.length p)(B:n.2.length≤24)(y:p.1.length≤600)(z:(p.2.1.length:Int)≤6000)(A:k<p.1.length):(Uy p (k:Int)).2=true∧((Uy p (k:Int)).1.length=0↔k=0):=by
 have a:=h.prok B y z
 have d:=QjD (n:=p.1.length) (es:=Uz p.2.1) (u:=(k:Int)) (by have:=a.1.1;omega) (QjL a) (by omega)
 obtain ⟨g,s⟩:=d.2.2 (h.rch k A)
 have e:Uy p (k:Int)=((Jx p (k:Int)).1.map fun f=>f.2.1,true):=if_pos ⟨⟨a,by omega,by omega⟩,g⟩
 rw[e]
 refine ⟨rfl,?_⟩
 show ((Jx p (k:Int)).1.map _).length=0↔_
 unfold Jx
 rw[aC,aC,s];omega
end
def Qn9 (s t:BA):Bool:=decide (t.size≤s.size)&&decide (s.extract 0 t.size=t)
section
variable {n:DNl}{code v s t:BA}{k m:Nat}{b:Bool}
def Qp1:rpB ⟨#[48]⟩ m=Qet m:=by
 have h:∀m,Lib.repeatL [48] m=List.replicate m (48:UInt8):=fun m=>by
  induction m with
  | zero=>rfl
  | succ m a=>rw[Lib.repeatL,a];rfl
 exact congrArg (fun l:List UInt8=>(⟨l.toArray⟩:BA)) (h m)
def QEX:code=code++Qet 0:=by
 refine dQ (dp.1 ?_)
 rw[cN,cG]
 show _=code.data.toList++[]
 rw[bH]
def QEZ (h:v=code++Qet m):v++(⟨#[48]⟩:BA)=code++Qet (m+1):=by
 rw[h,ByteArray.append_assoc,Qy3]
end
def Ww (s:BA)(t:BA):FC prog 235 [(false,[dS s]),(false,[dS t])] [] 0 (QJ (lB (Qn9 s t))):=by
 refine Ql func235 rfl rfl ntmps235 fun j d i e o g f=>w7 ?_
 refine alS 7 fun _=> ?_
 refine w3 ?_
 cases a:(decide ((t.size:Int)≤(s.size:Int)))
 have c:=ab a
 refine w10 ?_
 refine fqB d ?_
 (unfold Qn9;rw[aj (by omega)];rfl)
 have c:=aa a
 refine w3 ?_
 refine lgy rfl rfl (show Does _ _ _ _ (St.put _ 14 (lf (dS (s.extract 0 ((t.size:Int)).toNat)))) from QT (l:=none) (h:=(some (t.size:Int))) (Qa rfl) (by exact trivial) (by exact (Qa rfl)) Yd rfl (by first|omega|(simp only[aq,ap];omega)) (by first|omega|(simp only[aq,ap];omega)) (by first|omega|(simp only[aq,ap];omega)))<|w6 ?_
 refine fqB d ?_
 (unfold Qn9;simp;omega)
def HI (s:BA)(t:BA):FC prog 161 [(false,[dS s]),(false,[dS t])] [] 0 (QJ (lB (Qn9 s t))):=by
 refine Ql func161 rfl rfl ntmps161 fun g e f a h d c=>w6 ?_
 refine lc (dK (Ww s t) Qm1)<|w3 ?_
 exact fe_ e
def Qga (n:Ua)(code:BA)(i:QV n)(p:Q7 code (n.1.length:Int)):FC prog 160 [(true,[.dat Qj n.1,.dat Zk n.2]),(false,[dS code])] [] 0 (QJ (lf (dS (QbM n code)))):=by
 have C:=i.1.2.1
 have D:=i.1.2.2
 have A:=p.2
 have E:=i.1.1.2.2
 refine Ql func160 rfl rfl ntmps160 fun H z G w I y x=>w_ ?_
 refine xbx 0 ?_
 refine w10 ?_
 refine lc (dK (Qrl (⟨#[48]⟩:BA) ((n.2.length:Int) - (code.size:Int)) (by omega) (by decide)) Qm0)<|lc (QX (Qa rfl) (Qa rfl) rfl (by first|omega|(simp only[aE,aR,Qao,ZJ];omega)))<|w9 ?_
 refine Qy (fun r u=>∃(k:Nat) (c:Int) (a:BA),r=n.2.length - k∧(QbM n code=Qg0 n (n.2.length - k) k a)∧(Q7 a (n.2.length:Int))∧(c=(k:Int)∧code.size≤k∧k≤n.2.length)∧u=⟨[(2,lP 0 0),(4,lf (dS (⟨#[]⟩:BA))),(5,lf (dS a)),(6,lI c)],[bx 0 48 [.dat Qj n.1,.dat Zk n.2]]⟩) ⟨code.size,(code.size:Int),code++(rpB (⟨#[48]⟩:BA) (((n.2.length:Int) - (code.size:Int))).toNat),rfl,(by rw[Qp1,show ((n.2.length:Int) - (code.size:Int)).toNat=n.2.length - code.size by omega];rfl),(by rw[Qp1,show ((n.2.length:Int) - (code.size:Int)).toNat=n.2.length - code.size by omega];have d:=Qhe (m:=n.2.length - code.size) p;rwa [show (n.1.length:Int)+((n.2.length - code.size:Nat):Int)=(n.2.length:Int) by omega] at d),⟨rfl,aP _,by omega⟩,rfl⟩ ?_ ?_
 exact wo []
 rintro r u ⟨k,c,a,B,o,j,q,rfl⟩
 have F:=j.2
 refine w7 ?_
 cases f:(decide (c<(a.size:Int)))
 have g:=ab f
 refine w8 ?_
 refine fqS z ?_
 (rw[o,Qqf (by omega)])
 have g:=aa f
 refine w4 ?_
 apply dV (i2 24 _ _ (io 26 (lf (dS (a.extract 0 (c).toNat)))::i3 27 _ _ _ [io 30 (lB (nxW n a c)),io 31 (lf (.dat .u8 (if (nxW n a c) then 49 else 48))),⟨some 32,lR 1,[ar 1 5 .u8 ([if (nxW n a c) then 49 else 48])]⟩,io 33 (lf (dS (⟨#[if (nxW n a c) then 49 else 48]⟩:BA))),io 34 (lf (dS ((a.extract 0 (c).toNat)++(⟨#[if (nxW n a c) then 49 else 48]⟩:BA)))),io 35 (lf (dS a)),io 36 (lI c),io 37 (lI (c+1)),io 38 (lf (dS (a.extract (c+1).toNat a.size))),io 39 (lf (dS (((a.extract 0 (c).toNat)++(⟨#[if (nxW n a c) then 49 else 48]⟩:BA))++(a.extract (c+1).toNat a.size)))),io 5 _])) [0,1,0,7,15,31,7,7,7,7,0,2047,4095,4095,2047,0,0]
 refine z2 ?_
 refine zz (fun _ d=>ac (show Does _ _ _ _ (St.put _ 26 (lf (dS (a.extract 0 (c).toNat)))) from QT (l:=none) (h:=(some c)) (d.v rfl) (by exact trivial) (by exact (d.v rfl)) Yd rfl (by first|omega|(simp only[aq,ap];omega)) (by first|omega|(simp only[aq,ap];omega)) (by first|omega|(simp only[aq,ap];omega))) rfl)<|z3 ?_
 refine zz (fun _ d=>ac (dK (Kv n a c i j (by omega)) QfN) rfl)<|zz (fun _ d=>ac (dK (QdR (nxW n a c)) QhQ) rfl)<|zz (fun _ d=>ac (dBs 1 (e:= .u8) Qqq) rfl)<|zz (fun _ d=>ac (Y5 (ys:=[if (nxW n a c) then 49 else 48]) (He (d.v rfl) (d.n 1 rfl)) Wq JR Yd rfl) rfl)<|zz (fun _ d=>ac (QX (d.v rfl) (d.v rfl) rfl (by first|omega|(simp only[aE,aR,Qao,ZJ];omega))) rfl)<|z3 ?_
 exact zz (fun _ d=>ac (show Does _ _ _ _ (St.put _ 38 (lf (dS (a.extract (c+1).toNat a.size)))) from QT (l:=(some (c+1))) (h:=none) (d.v rfl) (by exact (d.v rfl)) (by exact trivial) Yd rfl (by first|omega|(simp only[aq,ap];omega)) (by first|omega|(simp only[aq,ap];omega)) (by first|omega|(simp only[aq,ap];omega))) rfl)<|zz (fun _ d=>ac (QX (d.v rfl) (d.v rfl) rfl (by first|omega|(simp only[aE,aR,Qao,ZJ];omega))) rfl)<|y1
 refine w5 ?_
 exact Qc<|Zb ⟨(k+1),(c+1),(((a.extract 0 (c).toNat)++(⟨#[if (nxW n a c) then 49 else 48]⟩:BA))++(a.extract (c+1).toNat a.size)),rfl,(by rw[o,QvT (by omega)];obtain ⟨rfl,_⟩:=q;rfl),(by obtain ⟨rfl,_⟩:=q;exact QgS j (by omega)),⟨by omega,by omega,by omega⟩,rfl⟩ (by omega)<|wo []
def Qci (n:Ua)(code:BA)(p:QV n)(r:Q7 code (n.1.length:Int)):FC prog 167 [(true,[.dat Qj n.1,.dat Zk n.2]),(false,[dS code])] [] 0 (QJ (lf (dS (QbM n code)))):=by
 have E:=p.1.2.1
 have F:=p.1.2.2
 have B:=r.2
 refine Ql func167 rfl rfl ntmps167 fun J z I w K y x=>w_ ?_
 refine xbx 0 ?_
 refine w8 ?_
 refine Qy (fun i j=>∃(m:Nat) (f:BA),i=n.2.length - (code.size+m)∧(f=code++Qet m)∧(code.size+m≤n.2.length)∧j=⟨[(2,lP 0 0),(4,lf (dS (⟨#[]⟩:BA))),(5,lf (dS f))],[bx 0 48 [.dat Qj n.1,.dat Zk n.2]]⟩) ⟨0,code,rfl,QEX,(by omega),rfl⟩ ?_ ?_
 exact wo []
 rintro i j ⟨m,f,C,l,L,rfl⟩
 have H:f.size=code.size+m:=by rw[l,aE,Qhf]
 refine w3 ?_
 refine alS 8 fun _=> ?_
 refine w6 ?_
 cases g:(decide ((f.size:Int)<(n.2.length:Int)))
 have h:=ab g
 refine w11 ?_
 refine Qy (fun i j=>∃(k:Nat) (a:Int) (c:BA),i=n.2.length - k∧(QbM n code=Qg0 n (n.2.length - k) k c)∧(Q7 c (n.2.length:Int))∧(a=(k:Int)∧n.1.length≤k∧k≤n.2.length)∧j=⟨[(2,lP 0 0),(4,lf (dS (⟨#[]⟩:BA))),(5,lf (dS c)),(6,lI a)],[bx 0 48 [.dat Qj n.1,.dat Zk n.2]]⟩) ⟨n.1.length,(n.1.length:Int),f,rfl,(by rw[l,show m=n.2.length - code.size by omega,show n.1.length=code.size by omega];rfl),(by rw[l];have A:=Qhe (m:=m) r;rwa [show (n.1.length:Int)+(m:Int)=(n.2.length:Int) by omega] at A),⟨rfl,aP _,by omega⟩,rfl⟩ ?_ ?_
 exact wo []
 rintro i j ⟨k,a,c,D,q,o,u,rfl⟩
 have G:=o.2
 refine w8 ?_
 cases d:(decide (a<(n.2.length:Int)))
 have e:=ab d
 refine w8 ?_
 refine fqS z ?_
 (rw[q,Qqf (by omega)])
 have e:=aa d
 refine w10 ?_
 refine lc (dK (JK n c a p o (by omega)) QfJ)<|lc (dK (Yu (nxW n c a)) XE)<|lc (dK (Xk c a (Z0 (nxW n c a)) (by omega) ⟨by omega,by rw[ZV];decide⟩) W0)<|w_ ?_
 refine Qc<|w5 ?_
 exact Qc<|Zb ⟨(k+1),(a+1),(Wz c a (Z0 (nxW n c a))),rfl,(by rw[q,QvT (by omega)];obtain ⟨rfl,_⟩:=u;rfl),(by obtain ⟨rfl,_⟩:=u;exact QgS o (by omega)),⟨by omega,by omega,by omega⟩,rfl⟩ (by omega)<|wo []
 have h:=aa g
 refine w5 ?_
 refine lc (QX (Qa rfl) (Evl.str rfl) rfl (by first|omega|(simp only[aE,ZJ];omega)))<|w_ ?_
 exact Qc<|Zb ⟨(m+1),(f++(⟨#[48]⟩:BA)),rfl,(QEZ l),(by omega),rfl⟩ (by omega)<|wo []
end Go.Proofs.YtjfpbcmfbnnooaaGreat
