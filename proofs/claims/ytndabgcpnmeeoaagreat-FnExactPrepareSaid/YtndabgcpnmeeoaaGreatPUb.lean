/- Walks over abstract states: the block of states in which a state signal is set, both sides. -/
import Derived.Test.YtndabgcpnmeeoaaGreatPUa
set_option linter.unusedSimpArgs false
set_option linter.unusedVariables false
set_option linter.unusedSectionVars false
namespace Go.Proofs.YtndabgcpnmeeoaaGreat
open Go.RowKit
set_option maxRecDepth 100000
set_option maxHeartbeats 4000000
abbrev Wc (a:DAr)(l:Int×Bool):Prop:=a.2.1=l.1∧a.2.2.1=l.2
def ixE (as_:List DAr):List (Int×Int):=as_.zipIdx.map fun x=>(x.1.1,(x.2:Int))
inductive ClS (as_:List DAr) (p r:Int×Bool):Int→Prop
  | base {a:DAr}:a∈as_→Wc a p→ClS as_ p r a.2.2.2
  | step {a:DAr}:a∈as_→ClS as_ p r a.1→¬Wc a r→ClS as_ p r a.2.2.2
def WJ (p:Int×Bool)(l:List Int)(a:DAr):List Int:=if Wc a p then XH ltI a.2.2.2 l else l
def ZU (r:Int×Bool)(l:List Int)(a:DAr):List Int:=if a.1∈l∧¬Wc a r then XH ltI a.2.2.2 l else l
def QZ {α:Type}(f:α→α):Nat→α→α
 | 0,x=>x
 | n+1,x=>f (QZ f n x)
def Qn (c:DSg)(p r:Int×Bool):List Int:=QZ (fun l=>c.2.2.foldl (ZU r) l) c.2.1.length (c.2.2.foldl (WJ p) [])
theorem QkW {α:Type}{f:α→α}{I:α→Prop}{m:α→Nat}{n:Nat}(g:∀x,I x→I (f x))(u:∀x,I x→m x≤n)(s:∀x,I x→f x=x∨m x < m (f x)){x:α}(v:I x):f (QZ f n x)=QZ f n x:=by
 have d:∀k,I (QZ f k x):=fun k=>by
  induction k with
  | zero=>exact v
  | succ k e=>exact g _ e
 have t:∀k,f (QZ f k x)=QZ f k x∨k≤m (QZ f k x):=fun k=>by
  induction k with
  | zero=>exact .inr (aG _)
  | succ k e=>
   rcases e with h | h
   ·exact .inl (by show f (f (QZ f k x))=f (QZ f k x); rw[h,h])
   ·rcases s _ (d k) with b | b
    ·exact .inl (by show f (f (QZ f k x))=f (QZ f k x); rw[b,b])
    ·exact .inr (by show k+1≤m (f (QZ f k x)); omega)
 rcases t n with h | h
 ·exact h
 ·rcases s _ (d n) with b | b
  ·exact b
  ·have:=u _ (g _ (d n)); omega
section
variable {c:DSg}{as_:List DAr}{a:DAr}{p r:Int×Bool}{k i j n:Nat}{l out ts ys L:List Int}{seen:List Bool}{x y o q at_:Int}
theorem Qcl:(ixE as_).length=as_.length:=by simp[ixE]
theorem QnV (b:as_[k]? =some a):(ixE as_)[k]? =some (a.1,(k:Int)):=by simp[ixE,List.getElem?_zipIdx,b]
theorem Qpe {e:Int×Int}:e∈ixE as_↔∃(j:Nat) (a:DAr),as_[j]? =some a∧e=(a.1,(j:Int)):=by
 rw[aN]
 constructor
 ·rintro ⟨j,d⟩
  have f:=(ai.1 d).1
  rw[Qcl] at f
  have b:as_[j]? =some as_[j]:=ae f
  rw[QnV b] at d
  exact ⟨j,_,b,by simpa using d.symm⟩
 ·rintro ⟨j,a,b,rfl⟩; exact ⟨j,QnV b⟩
theorem Qae (v:∀a∈as_,0≤a.1)(f:(Q9 n (ixE as_))[i]? =some ys):x∈ys↔∃(j:Nat) (a:DAr),as_[j]? =some a∧a.1=(i:Int)∧x=(j:Int):=by
 have u:i < n:=by have:=(ai.1 f).1; rw[Xa] at this; exact this
 have h:=QhZ (es:=ixE as_) (l:=List.replicate n []) (i:=i) (t:=x) (fun e s=>by obtain ⟨j,a,b,rfl⟩:=Qpe.1 s; exact v a (ah b))
 have d:((ixE as_).foldl QcR (List.replicate n []))[i]? =some ys:=f
 rw[d] at h
 simp only[aw,bS,u,if_true,cO,aA,true_and,false_or] at h
 rw[h,Qpe]
 constructor
 ·rintro ⟨j,a,b,e⟩; exact ⟨j,a,b,by have:=congrArg Prod.fst e; exact this.symm,congrArg Prod.snd e⟩
 ·rintro ⟨j,a,b,g,m⟩; exact ⟨j,a,b,by rw[g,m]⟩
theorem JJ:∀{l:List Int} {lo hi:Int},l.Pairwise (fun x y=>ltI x y=true)→(∀x∈l,lo≤x∧x < hi)→lo≤hi→(l.length:Int)≤hi - lo
 | [],_,_,_,_,h=>by simp; omega
 | x :: l,lo,hi,h1,h2,h3=>by
  obtain ⟨d,e⟩:=bH.1 h1
  have g:=h2 x (az ..)
  have:=JJ (l:=l) (lo:=x+1) (hi:=hi) e (fun y b=>by have f:=d y b; have m:=h2 y (ay _ b); simp only[ltI,aQ] at f; omega) (by omega)
  simp only[au]; omega
theorem QqG (h:l.Nodup)(e:∀x∈l,0≤x∧x < (n:Int)):l.length≤n:=by
 have b:(VR l).Nodup:=(Qbs l).nodup_iff.2 h
 have d:(VR l).Pairwise fun x y=>ltI x y=true:=by
  have:=(Qcj l).and b
  exact this.imp fun ⟨g,m⟩=>by simp only[ltI,aQ]; omega
 have:=JJ d (lo:=0) (hi:=n) (fun x f=>e x (Qdn.1 f)) (by omega)
 rw[Qdm] at this
 omega
abbrev Qp0 (l:List Int):Prop:=l.Pairwise fun x y=>ltI x y=true
theorem JE:∀(x:Int) (l:List Int),XH ltI x l=l∨(XH ltI x l).length=l.length+1
 | x,[]=> .inr rfl
 | x,y :: l=>by
  unfold XH
  split
  ·rcases JE x l with h | h
   ·exact .inl (by rw[h])
   ·exact .inr (by simp[h])
  ·split
   ·exact .inl rfl
   ·exact .inr rfl
theorem Qld:ZU r l a=l∨(ZU r l a).length=l.length+1:=by
 unfold ZU
 split
 ·exact JE _ _
 ·exact .inl rfl
theorem QcC:∀(as_:List DAr) (l:List Int),as_.foldl (ZU r) l=l∨l.length < (as_.foldl (ZU r) l).length
 | [],l=> .inl rfl
 | a :: as_,l=>by
  rw[aW]
  rcases QcC as_ (ZU r l a) with h | h <;> rcases Qld (r:=r) (l:=l) (a:=a) with b | b
  ·exact .inl (by rw[h,b])
  ·exact .inr (by rw[h]; omega)
  ·rw[b] at h ⊢; exact .inr h
  ·exact .inr (by omega)
structure BlS (c:DSg) (p r:Int×Bool) (l:List Int):Prop where
  str:Qp0 l
  cl:∀x∈l,ClS c.2.2 p r x
theorem BlS.put (h:BlS c p r l)(d:ClS c.2.2 p r x):BlS c p r (XH ltI x l):=⟨QgL VG h.str,fun y b=>by
 rcases WD.1 b with rfl | b
 ·exact d
 ·exact h.cl y b⟩
theorem H9:∀{as_:List DAr} {l:List Int},(∀a∈as_,a∈c.2.2)→BlS c p r l→BlS c p r (as_.foldl (WJ p) l)∧(∀x∈l,x∈as_.foldl (WJ p) l)∧∀a∈as_,Wc a p→a.2.2.2∈as_.foldl (WJ p) l
 | [],l,_,h=>⟨h,fun x d=>d,fun a s=>by cases s⟩
 | a :: as_,l,hs,h=>by
  have g:BlS c p r (WJ p l a)∧(∀x∈l,x∈WJ p l a)∧(Wc a p→a.2.2.2∈WJ p l a):=by
   unfold WJ
   split
   ·rename_i m
    exact ⟨h.put (.base (hs a (az ..)) m),fun x d=>WD.2 (.inr d),fun _=>WD.2 (.inl rfl)⟩
   ·rename_i m
    exact ⟨h,fun x d=>d,fun f=>absurd f m⟩
  obtain ⟨t,i2,i3⟩:=H9 (l:=WJ p l a) (fun b e=>hs b (ay _ e)) g.1
  refine ⟨t,fun x d=>i2 x (g.2.1 x d),fun b e f=> ?_⟩
  rcases aK.1 e with rfl | e
  ·exact i2 _ (g.2.2 f)
  ·exact i3 b e f
theorem Y9:∀{as_:List DAr} {l:List Int},(∀a∈as_,a∈c.2.2)→BlS c p r l→BlS c p r (as_.foldl (ZU r) l)∧(∀x∈l,x∈as_.foldl (ZU r) l)∧∀a∈as_,a.1∈l→¬Wc a r→a.2.2.2∈as_.foldl (ZU r) l
 | [],l,_,h=>⟨h,fun x d=>d,fun a u=>by cases u⟩
 | a :: as_,l,hs,h=>by
  have e:BlS c p r (ZU r l a)∧(∀x∈l,x∈ZU r l a)∧(a.1∈l→¬Wc a r→a.2.2.2∈ZU r l a):=by
   unfold ZU
   split
   ·rename_i g
    exact ⟨h.put (.step (hs a (az ..)) (h.cl _ g.1) g.2),fun x d=>WD.2 (.inr d),fun _ _=>WD.2 (.inl rfl)⟩
   ·rename_i g
    exact ⟨h,fun x d=>d,fun e t=>absurd ⟨e,t⟩ g⟩
  obtain ⟨v,i2,i3⟩:=Y9 (l:=ZU r l a) (fun b f=>hs b (ay _ f)) e.1
  refine ⟨v,fun x d=>i2 x (e.2.1 x d),fun b f s m=> ?_⟩
  rcases aK.1 f with rfl | f
  ·exact i2 _ (e.2.2 s m)
  ·exact i3 b f (e.2.1 _ s) m
theorem QiT (d:∀a∈as_,0≤a.2.2.2∧a.2.2.2 < (n:Int))(h:ClS as_ p r x):0≤x∧x < (n:Int):=by
 cases h with
 | base b _=>exact d _ b
 | step b _ _=>exact d _ b
theorem Qck {f:List Int→List Int}(d:∀l,BlS c p r l→BlS c p r (f l)∧∀x∈l,x∈f l)(h:BlS c p r l):∀k,BlS c p r (QZ f k l)∧∀x∈l,x∈QZ f k l
 | 0=>⟨h,fun x b=>b⟩
 | k+1=>by
  obtain ⟨e,g⟩:=Qck d h k
  obtain ⟨m,s⟩:=d _ e
  exact ⟨m,fun x b=>s x (g x b)⟩
theorem Jb (c:DSg)(p r:Int×Bool):BlS c p r (Qn c p r):=
 (Qck (fun l b=>⟨(Y9 (fun _ h=>h) b).1,(Y9 (fun _ h=>h) b).2.1⟩) (H9 (fun _ h=>h) ⟨bZ,fun x d=>by cases d⟩).1 _).1
theorem QlT (B:∀a∈c.2.2,InR c.2.1.length a):x∈Qn c p r↔ClS c.2.2 p r x:=by
 have z:BlS c p r ([]:List Int):=⟨bZ,fun x u=>by cases u⟩
 obtain ⟨v,D,w⟩:=H9 (as_:=c.2.2) (fun _ h=>h) z
 have t:∀a∈c.2.2,0≤a.2.2.2∧a.2.2.2 < (c.2.1.length:Int):=fun a A=>(B a A).2
 have s:=QkW (f:=fun l=>c.2.2.foldl (ZU r) l) (I:=BlS c p r) (m:=List.length) (n:=c.2.1.length) (fun l d=>(Y9 (fun _ h=>h) d).1)
  (fun l d=>by have:=JJ d.str (lo:=0) (hi:=c.2.1.length) (fun x u=>QiT t (d.cl x u)) (by omega); omega) (fun l _=>QcC _ _) v
 have b:=(Qck (f:=fun l=>c.2.2.foldl (ZU r) l) (fun l d=>⟨(Y9 (fun _ h=>h) d).1,(Y9 (fun _ h=>h) d).2.1⟩) v c.2.1.length)
 refine ⟨(Jb c p r).cl x,fun h=> ?_⟩
 induction h with
 | base e g=>exact b.2 _ (w _ e g)
 | step e _ g C=>
  have:=(Y9 (r:=r) (fun _ h=>h) b.1).2.2 _ e C g
  rw[s] at this
  exact this
def mkS (n:Nat)(l:List Int):List Bool:=l.foldl (fun s x=>s.set x.toNat true) (List.replicate n false)
theorem Qpl:(mkS n l).length=n:=by
 unfold mkS
 have:∀(l:List Int) (s:List Bool),(l.foldl (fun s x=>s.set x.toNat true) s).length=s.length:=fun l=>by
  induction l with
  | nil=>intro s; rfl
  | cons x l b=>intro s; rw[aW,b,ap]
 rw[this]; simp
theorem QsQ (b:l[k]? =some x):(mkS n (l.take k)).set x.toNat true=mkS n (l.take (k+1)):=by
 unfold mkS
 rw[QO b,bm]; rfl
theorem Qwe (b:∀x∈l,0≤x∧x < (n:Int))(h0:0≤x)(h:x < (n:Int)):(mkS n l)[x.toNat]? =some true↔x∈l:=by
 unfold mkS
 have:∀(l:List Int) (s:List Bool),s.length=n→(∀x∈l,0≤x∧x < (n:Int))→((l.foldl (fun s x=>s.set x.toNat true) s)[x.toNat]? =some true↔s[x.toNat]? =some true∨x∈l):=fun l=>by
  induction l with
  | nil=>intro s _ _; simp
  | cons y l g=>
   intro s d b
   have m:=b y (az ..)
   rw[aW,g _ (by rw[ap]; exact d) fun z f=>b z (ay _ f),aK]
   by_cases e:x=y
   ·subst e
    rw[aM (by omega)]; simp
   ·rw[aX (by omega)]; simp[e]
 rw[this l _ (by simp) b]
 simp[bS]
structure BlI (c:DSg) (p r:Int×Bool) (at_:Int) (out:List Int) (seen:List Bool):Prop where
  rng:0≤at_∧at_≤(out.length:Int)
  nd:out.Nodup
  q:∀x∈out,(0≤x∧x < (c.2.1.length:Int))∧ClS c.2.2 p r x
  sn:seen.length=c.2.1.length
  se:∀x,0≤x→x < (c.2.1.length:Int)→(seen[x.toNat]? =some true↔x∈out)
  base:∀a∈c.2.2,Wc a p→a.2.2.2∈out
  cl:∀(j:Nat) (o:Int),(j:Int) < at_→out[j]? =some o→∀a∈c.2.2,a.1=o→¬Wc a r→a.2.2.2∈out
theorem QjD:x∈swL as_ p↔∃a∈as_,Wc a p∧a.2.2.2=x:=by
 unfold swL
 simp only[bF,cn,aQ]
 constructor
 ·rintro ⟨a,⟨b,d⟩,e⟩; exact ⟨a,b,d,e⟩
 ·rintro ⟨a,b,d,e⟩; exact ⟨a,⟨b,d⟩,e⟩
theorem QjE (d:∀a∈c.2.2,InR c.2.1.length a)(h:out=ofG ltI (swL c.2.2 p))(e:x∈out):0≤x∧x < (c.2.1.length:Int):=by
 subst h
 obtain ⟨a,b,_,rfl⟩:=QjD.1 ((Qcz VG _).1 e)
 exact (d a b).2
theorem Qwz (b:∀a∈c.2.2,InR c.2.1.length a)(h:out=ofG ltI (swL c.2.2 p)):out.length≤c.2.1.length:=by
 have:=JJ (l:=out) (lo:=0) (hi:=c.2.1.length) (by rw[h]; exact QeM VG _) (fun x d=>QjE b h d) (by omega)
 omega
theorem Qq9 (h:Qp0 l):l.Nodup:=h.imp fun h=>by simp only[ltI,aQ] at h; omega
theorem BlI.start (e:∀a∈c.2.2,InR c.2.1.length a)(h:out=ofG ltI (swL c.2.2 p))(f:seen=mkS c.2.1.length out):BlI c p r 0 out seen where
 rng:=by omega
 nd:=by rw[h]; exact Qq9 (QeM VG _)
 q x hx:=⟨QjE e h hx,by
  rw[h] at hx
  obtain ⟨a,b,d,rfl⟩:=QjD.1 ((Qcz VG _).1 hx)
  exact .base b d⟩
 sn:=by rw[f,Qpl]
 se x h0 b:=by rw[f]; exact Qwe (fun y g=>QjE e h g) h0 b
 base a b d:=by rw[h]; exact (Qcz VG _).2 (QjD.2 ⟨a,b,d,rfl⟩)
 cl j o hj:=by omega
theorem BlI.few (h:BlI c p r at_ out seen):out.length≤c.2.1.length:=QqG h.nd fun x b=>(h.q x b).1
theorem BlI.inr (h:BlI c p r at_ out seen)(b:out[k]? =some x):0≤x∧x < (c.2.1.length:Int):=(h.q x (ah b)).1
theorem BlI.push (h:BlI c p r at_ out seen)(I:∀a∈c.2.2,InR c.2.1.length a)(H:o∈out)(s:a∈c.2.2)(z:a.1=o)(A:¬Wc a r)(J:seen[a.2.2.2.toNat]? =some false):BlI c p r at_ (out++[a.2.2.2]) (seen.set a.2.2.2.toNat true):=by
 have f:=(I a s).2
 have m:a.2.2.2∉out:=fun G=>by have:=(h.se _ f.1 f.2).2 G; rw[J] at this; cases this
 have E:=h.sn
 refine ⟨by have:=h.rng; simp; omega, ?_,fun x d=> ?_,by rw[ap]; exact E,fun x w B=> ?_,fun b g F=>aT _ (h.base b g F),fun j K C d b g u v=> ?_⟩
 ·rw[bu]
  exact ⟨h.nd,by simp,fun x d y t e=>by rw[aS] at t; rw[e,t] at d; exact m d⟩
 ·rcases aP.1 d with d | d
  ·exact h.q x d
  ·rw[aS] at d; subst d
   exact ⟨f, .step s (by rw[z]; exact (h.q o H).2) A⟩
 ·rw[aP,aS]
  by_cases e:x=a.2.2.2
  ·subst e; rw[aM (by omega)]; simp
  ·rw[aX (by omega),h.se x w B]; simp[e]
 ·have D:=h.rng
  rw[bo (by omega)] at d
  exact aT _ (h.cl j K C d b g u v)
theorem BlI.next (h:BlI c p r at_ out seen)(h0:at_ < (out.length:Int))(f:out[at_.toNat]? =some o)(d:∀a∈c.2.2,a.1=o→¬Wc a r→a.2.2.2∈out):BlI c p r (at_+1) out seen:=by
 refine ⟨by have:=h.rng; omega,h.nd,h.q,h.sn,h.se,h.base,fun j g m b=> ?_⟩
 by_cases e:(j:Int)=at_
 ·have:j=at_.toNat:=by omega
  subst this
  rw[f] at b; cases b
  exact d
 ·exact h.cl j g (by omega) b
theorem BlI.fin (h:BlI c p r at_ out seen)(g:∀a∈c.2.2,InR c.2.1.length a)(h0:¬at_ < (out.length:Int)):ofG ltI out=Qn c p r:=by
 refine TO.ext VG (QeM VG _) (Jb c p r).str fun x=> ?_
 rw[Qcz VG,QlT g]
 refine ⟨fun e=>(h.q x e).2,fun e=> ?_⟩
 induction e with
 | base b d=>exact h.base _ b d
 | step b _ d m=>
  obtain ⟨j,f⟩:=aN.1 m
  have:=(ai.1 f).1
  exact h.cl j _ (by omega) f _ b rfl d
theorem QwX {b:Nat}{d ar:DAr}(g:as_[b]? =some d)(m:d.1=((o.toNat:Nat):Int))(h:q=(b:Int))(e:as_[q.toNat]? =some ar)(h0:0≤o):ar.1=o:=by
 rw[h] at e
 have f:as_[b]? =some ar:=by simpa using e
 rw[g] at f; cases f; omega
theorem Qt4 (h:∀a∈c.2.2,InR c.2.1.length a)(s:(Q9 n (ixE c.2.2))[o.toNat]? =some ts)(h0:0≤o)(g:∀(j:Nat) (q:Int),j < i→ts[j]? =some q→∀a,c.2.2[q.toNat]? =some a→¬Wc a r→a.2.2.2∈out)(hi:ts.length≤i):
 ∀a∈c.2.2,a.1=o→¬Wc a r→a.2.2.2∈out:=fun a d t f=>by
 obtain ⟨j,e⟩:=aN.1 d
 have b:(j:Int)∈ts:=(Qae (fun a d=>(h a d).1.1) s).2 ⟨j,a,e,by omega,rfl⟩
 obtain ⟨m,b⟩:=aN.1 b
 have:=(ai.1 b).1
 exact g m _ (by omega) b a (by simpa using e) f
end
section
variable {c:DSg}{as_:List DAr}{a:DAr}{p r:Int×Bool}{k i j n:Nat}{l:List Int}
theorem Qlh (b:as_[k]? =some a)(h:Wc a p):XH ltI a.2.2.2 ((as_.take k).foldl (WJ p) [])=(as_.take (k+1)).foldl (WJ p) []:=by
 rw[QO b,bm]; simp[WJ,h]
theorem QpB (b:as_[k]? =some a)(h:¬Wc a p):(as_.take k).foldl (WJ p) []=(as_.take (k+1)).foldl (WJ p) []:=by
 rw[QO b,bm]; simp[WJ,h]
theorem Qdw (d:as_[k]? =some a)(b:a.1∈(as_.take k).foldl (ZU r) l)(h:¬Wc a r):XH ltI a.2.2.2 ((as_.take k).foldl (ZU r) l)=(as_.take (k+1)).foldl (ZU r) l:=by
 rw[QO d,bm]; simp only[aW,ck]; rw[ZU,if_pos ⟨b,h⟩]
theorem K1 (b:as_[k]? =some a)(h:¬(a.1∈(as_.take k).foldl (ZU r) l∧¬Wc a r)):(as_.take k).foldl (ZU r) l=(as_.take (k+1)).foldl (ZU r) l:=by
 rw[QO b,bm]; simp only[aW,ck]; rw[ZU,if_neg h]
theorem Qs8:((as_).foldl (WJ p) []).length≤as_.length:=by
 have:∀(as_:List DAr) (l:List Int),(as_.foldl (WJ p) l).length≤l.length+as_.length:=fun as_=>by
  induction as_ with
  | nil=>intro l; simp
  | cons a as_ b=>
   intro l
   have d:=b (WJ p l a)
   have e:(WJ p l a).length≤l.length+1:=by
    unfold WJ
    split
    ·rcases JE a.2.2.2 l with h | h
     ·rw[h]; omega
     ·omega
    ·omega
   rw[aW,au]; omega
 simpa using this as_ []
theorem Qud (t:∀a∈c.2.2,InR c.2.1.length a)(j i:Nat):((c.2.2.take i).foldl (ZU r) (QZ (fun l=>c.2.2.foldl (ZU r) l) j (c.2.2.foldl (WJ p) []))).length≤c.2.1.length:=by
 have m:BlS c p r ([]:List Int):=⟨bZ,fun x d=>by cases d⟩
 have s:=(Qck (f:=fun l=>c.2.2.foldl (ZU r) l) (fun l g=>⟨(Y9 (fun _ h=>h) g).1,(Y9 (fun _ h=>h) g).2.1⟩) (H9 (as_:=c.2.2) (fun _ h=>h) m).1 j).1
 have e:=(Y9 (r:=r) (as_:=c.2.2.take i) (fun a b=>List.mem_of_mem_take b) s).1
 have:=JJ e.str (lo:=0) (hi:=c.2.1.length) (fun x d=>QiT (fun a b=>(t a b).2) (e.cl x d)) (by omega)
 omega
end
theorem Kz (c:Zi)(F:∀a∈c.2.2,InR c.2.1.length a)(K:c.2.2.length≤4000∧c.2.1.length≤300):FC Tryz.prog 410 [(true,[.dat Ql c.1, .dat Qo c.2.1, .dat Qw c.2.2])] [] 0 (YB 123 Qz (Q9 c.2.1.length (ixE c.2.2))):=by
 refine Qv Tryz.func410 rfl rfl Tryz.ntmps410 fun I B H w J A z=> ?_
 refine w_ ?_
 refine xbx 0 ?_
 refine w5 ?_
 refine alL 7 fun _=> ?_
 refine w_ ?_
 refine lc (XB 1 (e:=Qz) (n:=c.2.1.length) (Qa rfl) (Qa rfl) W5 Qpm rfl (by omega) (by omega) rfl (Fresh.of rfl) (nlr rfl)) ?_
 refine w6 ?_
 refine alL 11 fun _=> ?_
 refine w4 ?_
 refine lp0 c.2.2.length (fun k=>⟨[(2,lf (.val (.slice none 0 0))),(3,lR 2),(11,lf (.dat Qw c.2.2)),(12,lI (c.2.2.length:Int)),(13,lI (k:Int))],[(2,some (.arr 123 Qz (Q9 c.2.1.length ((ixE c.2.2).take k))))]⟩) ?_ fun k _=> ?_
 exact wp [(2,1)] ⟨(Qe (by simp only[cH]; rfl)),trivial⟩
 refine w4 ?_
 cases h:(decide ((k:Int) < (c.2.2.length:Int)))
 have m:=aa h
 refine w7 ?_
 refine Qd<|fo_ B ?_
 ·(rw[QT (by rw[Qcl]; omega)]; done)
 have m:=ab h
 refine w6 ?_
 obtain ⟨ar,s⟩:=gx c.2.2 k
 refine w2 ?_
 refine lc (xal 3 QD QU) ?_
 refine w3 ?_
 obtain ⟨⟨C,D⟩,_⟩:=F _ (ah s)
 have E:=Xa (n:=c.2.1.length) (es:=(ixE c.2.2).take k)
 obtain ⟨ys,f⟩:=gx (Q9 c.2.1.length ((ixE c.2.2).take k)) ar.1.toNat
 have G:=KU f
 have u:((ixE c.2.2).take k).length≤c.2.2.length:=by simp only[ao,Qcl]; omega
 have d:=Qr2 f
 have g:ar.1.toNat*1+0 < (Zh Qz (Q9 c.2.1.length ((ixE c.2.2).take k))).length:=by rw[Ui]; show ar.1.toNat*1+0 < (Q9 c.2.1.length ((ixE c.2.2).take k)).length*1; omega
 refine AC.wk (QiF (q:=2) rfl (by omega))<|AC.wk (H0 4 (q:=2) (p:=ar.1.toNat*1+0) (E':=3) (e':= .int) (ys:=ys) rfl (d) (Fresh.of rfl) (aD rfl)) ?_
 apply dV (i6 18 _ _ _ _ _ _ [io 24 (lf (.ept 2 1 ((ar.1).toNat) 0)),io 25 (lR 4),io 26 _,⟨some 27,lR 5,[(5,some (.arr 3 .int ([(k:Int)])))]⟩,⟨some 28,lR 6,[(6,some (.arr 3 .int (ys++([(k:Int)])))),(4,none),(5,none)]⟩,io 29 (lf (.ept 2 1 ((ar.1).toNat) 0)),⟨none,lf (.val undef),[(2,some (.obx 123 1 ((Q9 c.2.1.length ((ixE c.2.2).take k)).length) (Zh Qz (Q9 c.2.1.length ((ixE c.2.2).take k))) [((ar.1).toNat*1+0, .ref 6),(ar.1.toNat*1+0, .ref 4)]))]⟩]) [0,1,1,7,15,15,7,7,255,255,7,0,0]
 refine z6 ?_
 refine zz (fun _ b=>ac (Wa (b.v rfl) (b.en 2 rfl) (b.v rfl) W5 Xh rfl (by omega) (by omega)) rfl) ?_
 refine zz (fun _ b=>ac (K7 (b.v rfl) (b.n 2 rfl) (show (ovr _ _)[ar.1.toNat*1+0]? =some (.ref 4) from by simp only[ovr,bN,ap,g,d,eq_self,if_true,if_false,↓reduceIte]) (b.n 4 rfl) Xh rfl) rfl) ?_
 refine z_ ?_
 refine zz (fun _ b=>ac (dBs 5 (e:= .int) Yk) rfl) ?_
 refine zz (fun _ b=>ac (dA 6 XP) rfl) ?_
 refine zz (fun _ b=>ac (Wa (b.v rfl) (b.en 2 rfl) (b.v rfl) W5 Xh rfl (by omega) (by omega)) rfl) ?_
 refine zz (fun _ b=>ac (QdM (t:=4) (b.v rfl) (b.n 2 rfl) (show (ovr _ _)[ar.1.toNat*1+0]? =some (.ref 4) from by simp only[ovr,bN,ap,g,d,eq_self,if_true,if_false,↓reduceIte]) (b.v rfl) (b.n 6 rfl) Xh) rfl) ?_
 exact zN
 refine w_ ?_
 refine AC.wk (QbH (q:=2) (t:=6) (p:=ar.1.toNat*1+0) rfl (by simp only[ovr,bN,ap,g,d,eq_self,if_true,if_false,↓reduceIte]) rfl) ?_
 refine AC.wk (Qfg (q:=2) (e:=Qz) ((Q9 c.2.1.length ((ixE c.2.2).take k)).set ar.1.toNat (ys++[(k:Int)])) rfl (by simp only[ap]) (by simp only[ovr,cA]; exact Qfq f)) ?_
 refine w3 ?_
 refine Qb ?_
 refine l0_ ?_
 exact wp [] ⟨(Qe (QgD (e:=(ar.1,(k:Int))) (QnV s) f)),trivial⟩
theorem Qc7 (c:Zi)(p:JY)(r:JY)(E:∀a∈c.2.2,InR c.2.1.length a)(hl:c.2.2.length≤4000∧c.2.1.length≤300):FC Tryz.prog 575 [(true,[.dat Ql c.1, .dat Qo c.2.1, .dat Qw c.2.2]),(true,[dI p.1,dB p.2]),(true,[dI r.1,dB r.2])] [] 0 (YB 3 .int (Qn c p r)):=by
 have c2:=Xa (n:=c.2.1.length) (es:=ixE c.2.2)
 refine Qv Tryz.func575 rfl rfl Tryz.ntmps575 fun O_ hO c7 b0 X_ b2 b1=> ?_
 refine acG 1 0 fun _=> ?_
 refine acG 2 0 fun _=> ?_
 refine w_ ?_
 refine xbx 0 ?_
 refine xbx 1 ?_
 refine xbx 2 ?_
 refine w2 ?_
 apply dW (i2 16 _ _ (⟨some 18,lR 3,[(3,some (.arr 3 .int (ofG ltI (swL c.2.2 p))))]⟩ :: io 19 (lP 0 1) :: io 20 (lf (.dat Qo c.2.1)) :: io 21 (lI (c.2.1.length:Int)) :: ⟨some 22,lR 4,[(4,some (.arr 4 .bool (List.replicate c.2.1.length (Ty.zero .bool))))]⟩ :: io 23 (ag [.dat Ql c.1, .dat Qo c.2.1, .dat Qw c.2.2]) :: io 24 (lf (.dat Vz (Q9 c.2.1.length (ixE c.2.2)))) :: io 7 (lR 3) :: i2 8 _ _ [])) [0,1,0,7,7,7,7,127,120,120,0,0]
 refine z2 ?_
 refine zz (fun _ m=>ac (dO 3 (Qc8 c p (by omega)) Qny) rfl) ?_
 refine z3 ?_
 refine zz (fun _ m=>ac (XB 4 (e:= .bool) (n:=c.2.1.length) (m.v rfl) (m.v rfl) QjO Qvm rfl (by omega) (by omega) rfl (m.fr 4 rfl) (nlr rfl)) rfl) ?_
 refine z_ ?_
 refine zz (fun _ m=>ac (dK (Kz c E hl).frozen QfN) rfl) ?_
 exact y3
 refine w7 ?_
 refine QP (fun M N=>∃(k:Nat) (d:List Int) (f:List Bool),k≤d.length∧M=d.length - k∧(d=ofG ltI (swL c.2.2 p))∧(f=mkS c.2.1.length (d.take k))∧N=⟨[(3,lP 0 0),(5,lP 2 0),(6,lf (.val (.slice none 0 0))),(7,lR 5),(8,lR 6),(9,lf (.dat Vz (Q9 c.2.1.length (ixE c.2.2)))),(25,lR 5),(26,lI ((ofG ltI (swL c.2.2 p)).length:Int)),(27,lI (k:Int))],[bx 0 28 [.dat Ql c.1, .dat Qo c.2.1, .dat Qw c.2.2],bx 2 75 [dI r.1,dB r.2],(5,some (.arr 3 .int d)),(6,some (.arr 4 .bool f))]⟩) ⟨0,ofG ltI (swL c.2.2 p),List.replicate c.2.1.length (Ty.zero .bool),aG _,rfl,rfl,rfl,rfl⟩ ?_ ?_
 exact wp [(5,3),(6,4)] ⟨rfl,rfl,(Qe (by first | rfl | simp)),(Qe (by first | rfl | simp)),trivial⟩
 rintro M N ⟨k,d,f,b9,c0,z,hS,rfl⟩
 have a9:f.length=c.2.1.length:=by rw[hS,Qpl]
 have c5:d.length=(ofG ltI (swL c.2.2 p)).length:=by rw[z]
 have c3:=Qwz E z
 refine w4 ?_
 cases U:(decide ((k:Int) < ((ofG ltI (swL c.2.2 p)).length:Int)))
 have V:=aa U
 refine w8 ?_
 refine QP (fun M N=>∃(at_:Int) (out:List Int) (seen:List Bool),M=((c.2.1.length:Int) - at_).toNat∧(BlI c p r at_ out seen)∧N=⟨[(3,lP 0 0),(5,lP 2 0),(6,lf (.val (.slice none 0 0))),(7,lR 7),(8,lR 8),(9,lf (.dat Vz (Q9 c.2.1.length (ixE c.2.2)))),(12,lI at_)],[bx 0 28 [.dat Ql c.1, .dat Qo c.2.1, .dat Qw c.2.2],bx 2 75 [dI r.1,dB r.2],(7,some (.arr 3 .int out)),(8,some (.arr 4 .bool seen))]⟩) ⟨0,d,f,rfl,(BlI.start E z (by rw[hS,QT (by rw[z]; omega)])),rfl⟩ ?_ ?_
 exact wo [(7,5),(8,6)]
 rintro M N ⟨at_,out,seen,c1,O,rfl⟩
 have b4:=O.rng
 have b3:=O.few
 have b5:=O.sn
 refine w7 ?_
 cases W:(decide (at_ < (out.length:Int)))
 have X:=aa W
 refine w5 ?_
 refine lc (dP 9 [(0,7)] (Qb5 out (by have:=O.few; omega)) QfG) ?_
 refine w2 ?_
 refine Qd<|fo_ hO ?_
 exact O.fin E (by omega)
 have X:=ab W
 refine w9 ?_
 obtain ⟨o,I⟩:=gx out ((at_).toNat)
 have c4:=O.inr I
 refine w_ ?_
 refine alI 45 fun _=> ?_
 obtain ⟨ts,J⟩:=gx (Q9 c.2.1.length (ixE c.2.2)) ((o).toNat)
 have a3:∀x,x∈ts↔_:=fun x=>Qae (x:=x) (fun a B=>(E a B).1.1) J
 refine w2 ?_
 refine alL 47 fun _=> ?_
 refine w4 ?_
 refine QP (fun M N=>∃(i:Nat) (g:List Int) (b:List Bool),i≤ts.length∧M=ts.length - i∧(BlI c p r at_ g b)∧(g[at_.toNat]? =some o)∧(∀(j:Nat) (q:Int),j < i→ts[j]? =some q→∀a,c.2.2[q.toNat]? =some a→¬Wc a r→a.2.2.2∈g)∧N=⟨[(3,lP 0 0),(5,lP 2 0),(6,lf (.val (.slice none 0 0))),(7,lR 10),(8,lR 11),(9,lf (.dat Vz (Q9 c.2.1.length (ixE c.2.2)))),(12,lI at_),(35,lI at_),(37,lI (out.length:Int)),(38,lB true),(41,lf (.dat Vz (Q9 c.2.1.length (ixE c.2.2)))),(43,lI at_),(45,lI o),(46,lf (.elt Qz ts 0)),(47,lf (.dat Qz ts)),(48,lI (ts.length:Int)),(49,lI (i:Int))],[bx 0 28 [.dat Ql c.1, .dat Qo c.2.1, .dat Qw c.2.2],bx 2 75 [dI r.1,dB r.2],(10,some (.arr 3 .int g)),(11,some (.arr 4 .bool b))]⟩) ⟨0,out,seen,aG _,rfl,O,I,(fun j q hj=>absurd hj (bg j)),rfl⟩ ?_ ?_
 exact wo [(10,7),(11,8)]
 rintro M N ⟨i,g,b,a7,a8,t,A,P,rfl⟩
 have a4:=t.few
 have a5:=t.sn
 have a0:=(ai.1 A).1
 refine w4 ?_
 cases G:(decide ((i:Int) < (ts.length:Int)))
 have S:=aa G
 refine w7 ?_
 refine Qb<|QW ⟨(at_+1),g,b,rfl,(t.next (by omega) A (Qt4 E J (by omega) P (by omega))),rfl⟩ (by omega) ?_
 exact wo [(7,10),(8,11)]
 have S:=ab G
 refine w5 ?_
 obtain ⟨q,u⟩:=gx ts i
 obtain ⟨jq,aq,Y,a2,hq⟩:=(a3 _).1 (ah u)
 have b8:=(ai.1 Y).1
 refine w2 ?_
 refine alI 52 fun _=> ?_
 refine w6 ?_
 obtain ⟨ar,s⟩:=gx c.2.2 ((q).toNat)
 have T:=E _ (ah s)
 obtain ⟨⟨b6,b7⟩,Q,R⟩:=T
 have a1:ar.1=o:=QwX Y a2 hq s (by omega)
 refine w2 ?_
 refine lc (xal 12 QD QU) ?_
 refine w2 ?_
 cases H:(Ty.beq QF (ar.2.1,ar.2.2.1) r)
 obtain ⟨sb,D⟩:=gx b ((ar.2.2.2).toNat)
 have F:=D
 apply dW (io 58 _ :: io 59 (ag [dI ar.2.1,dB ar.2.2.1]) :: io 60 _ :: io 61 (lB true) :: i4 62 _ _ _ _ (io 66 (lf (.ept 11 1 ((ar.2.2.2).toNat) 0)) :: io 67 (lB sb) :: i2 68 _ _ [])) [0,0,3,0,0,0,32,32,0,0,0,0]
 refine z_ ?_
 refine zz (fun _ m=>ac (dK (Zf ar) Y2) rfl) ?_
 refine z_ ?_
 refine zz (fun _ m=>ac (QH (QaJ (H)) (QcL Qbc Qbb (m.w rfl) (m.w rfl) (p:=(ar.2.1,ar.2.2.1)) (q:=r) rfl rfl rfl)) rfl) ?_
 refine z4 ?_
 refine zz (fun _ m=>day rfl (m.k rfl) (QI (e:= .bool) (m.v rfl) (m.en 11 rfl) (m.v rfl) QjO QcK rfl (by omega) (by first | omega | (simp only[ap]; omega))) rfl)<|zz (fun _ m=>day rfl (m.k rfl) (Q5 (e:= .bool) (m.v rfl) (m.n 11 rfl) D rfl QcK rfl rfl) rfl) ?_
 exact y2
 cases a6:(sb)
 refine w5 ?_
 refine alI 72 fun _=> ?_
 refine w_ ?_
 refine lc (QA (e:= .bool) (z':=true) (Qa rfl) rfl D rfl (Evl.ev Zb) rfl QcK rfl rfl) ?_
 refine w5 ?_
 refine lc (dBs 13 (e:= .int) Yk) ?_
 refine lc (dA 14 XP) ?_
 refine w_ ?_
 refine Qb ?_
 refine w4 ?_
 refine Qb ?_
 refine QW ⟨i+1,(g++([ar.2.2.2])),(b.set ((ar.2.2.2).toNat) true),by omega,rfl,(by exact t.push E (ah A) (ah s) a1 (Qn2 ‹_›) (F.trans (congrArg some ‹_›))),(by (rw[bo a0]; exact A)),(fun j q0 hj h a B C=>if e:j=i then (by subst e; cases (u).symm.trans h; cases (s).symm.trans B; first | exact aR _ (aS.2 rfl) | exact (t.se _ Q R).1 (F.trans (congrArg some ‹_›)) | exact absurd (Qbt ‹_›) C) else (by first | exact P j q0 (by omega) h a B C | exact aT _ (P j q0 (by omega) h a B C))),rfl⟩ (by omega) ?_
 exact wp [(10,14)] ⟨rfl,rfl,(Qe (by first | rfl | simp)),(Qe (by first | rfl | simp)),trivial⟩
 refine w6 ?_
 refine Qb<|QW ⟨i+1,g,b,by omega,rfl,(by exact t),(by exact A),(fun j q0 hj h a B C=>if e:j=i then (by subst e; cases (u).symm.trans h; cases (s).symm.trans B; first | exact aR _ (aS.2 rfl) | exact (t.se _ Q R).1 (F.trans (congrArg some ‹_›)) | exact absurd (Qbt ‹_›) C) else (by first | exact P j q0 (by omega) h a B C | exact aT _ (P j q0 (by omega) h a B C))),rfl⟩ (by omega) ?_
 exact wo []
 apply dW (io 58 _ :: io 59 (ag [dI ar.2.1,dB ar.2.2.1]) :: io 60 _ :: io 61 (lB false) :: i8 62 _ _ _ _ _ _ _ _ []) [0,0,3,0,0,0,32,32,0,0,0,0]
 refine z_ ?_
 refine zz (fun _ m=>ac (dK (Zf ar) Y2) rfl) ?_
 refine z_ ?_
 refine zz (fun _ m=>ac (QH (QaJ (H)) (QcL Qbc Qbb (m.w rfl) (m.w rfl) (p:=(ar.2.1,ar.2.2.1)) (q:=r) rfl rfl rfl)) rfl) ?_
 exact y8
 refine w6 ?_
 refine Qb<|QW ⟨i+1,g,b,by omega,rfl,(by exact t),(by exact A),(fun j q0 hj h a B C=>if e:j=i then (by subst e; cases (u).symm.trans h; cases (s).symm.trans B; first | exact aR _ (aS.2 rfl) | exact (t.se _ Q R).1 (F.trans (congrArg some ‹_›)) | exact absurd (Qbt ‹_›) C) else (by first | exact P j q0 (by omega) h a B C | exact aT _ (P j q0 (by omega) h a B C))),rfl⟩ (by omega) ?_
 exact wo []
 have V:=ab U
 refine w6 ?_
 obtain ⟨x0,K⟩:=gx d k
 have c6:=QjE E z (ah K)
 refine w_ ?_
 refine alI 30 fun _=> ?_
 refine w6 ?_
 obtain ⟨c8,Z⟩:=gx f ((x0).toNat)
 refine lc (QA (e:= .bool) (z':=true) (Qa rfl) rfl Z rfl (Evl.ev Zb) rfl QcK rfl rfl)<|Qb ?_
 refine w4 ?_
 refine Qb<|QW ⟨k+1,d,(f.set ((x0).toNat) true),by omega,rfl,z,(by rw[hS]; exact QsQ K),rfl⟩ (by omega) ?_
 exact wp [] ⟨rfl,rfl,rfl,(Qe (by first | rfl | simp)),trivial⟩
theorem Qdg (c:Zi)(p:JY)(r:JY)(K:∀a∈c.2.2,InR c.2.1.length a)(P:c.2.2.length≤4000∧c.2.1.length≤300):FC Tryz.prog 494 [(true,[.dat Ql c.1, .dat Qo c.2.1, .dat Qw c.2.2]),(true,[dI p.1,dB p.2]),(true,[dI r.1,dB r.2])] [] 0 (YB 3 .int (Qn c p r)):=by
 refine Qv Tryz.func494 rfl rfl Tryz.ntmps494 fun N I M F O H G=> ?_
 refine acG 1 0 fun _=> ?_
 refine acG 2 0 fun _=> ?_
 refine w_ ?_
 refine xbx 0 ?_
 refine xbx 1 ?_
 refine xbx 2 ?_
 refine w9 ?_
 refine alL 13 fun _=> ?_
 refine w4 ?_
 refine AC.wk (Wk.nilS 3 7 3 .int rfl (Fresh.of rfl) (nlr rfl)) ?_
 refine lp0 c.2.2.length (fun k=>⟨[(3,lP 0 0),(4,lP 1 0),(5,lP 2 0),(6,lf (.val (.slice none 0 0))),(7,lR 4),(13,lf (.dat Qw c.2.2)),(14,lI (c.2.2.length:Int)),(15,lI (k:Int))],[bx 0 28 [.dat Ql c.1, .dat Qo c.2.1, .dat Qw c.2.2],bx 1 75 [dI p.1,dB p.2],bx 2 75 [dI r.1,dB r.2],ar 4 3 .int ((c.2.2.take k).foldl (WJ p) [])]⟩) ?_ fun k _=> ?_
 exact wp [(4,3)] ⟨rfl,rfl,rfl,(Qe (by simp only[cH,ck])),trivial⟩
 have E:=Qs8 (p:=p) (as_:=c.2.2.take k)
 have J:(c.2.2.take k).length≤c.2.2.length:=by simp only[ao]; omega
 refine w4 ?_
 cases A:(decide ((k:Int) < (c.2.2.length:Int)))
 have B:=aa A
 refine w7 ?_
 refine alL 31 fun _=> ?_
 refine w4 ?_
 refine lp0 c.2.1.length (fun j=>⟨[(3,lP 0 0),(5,lP 2 0),(6,lf (.val (.slice none 0 0))),(7,lR 5),(32,lI (c.2.1.length:Int)),(33,lI (j:Int))],[bx 0 28 [.dat Ql c.1, .dat Qo c.2.1, .dat Qw c.2.2],bx 2 75 [dI r.1,dB r.2],ar 5 3 .int (QZ (fun l=>c.2.2.foldl (ZU r) l) j (c.2.2.foldl (WJ p) []))]⟩) ?_ fun j _=> ?_
 exact wp [(5,4)] ⟨rfl,rfl,(Qe (by rw[QT (by omega)]; rfl)),trivial⟩
 refine w4 ?_
 cases C:(decide ((j:Int) < (c.2.1.length:Int)))
 have D:=aa C
 refine w7 ?_
 refine Qd<|fo_ I ?_
 (unfold Qn; congr 1; omega)
 have D:=ab C
 refine w7 ?_
 refine alL 36 fun _=> ?_
 refine w4 ?_
 refine lp0 c.2.2.length (fun i=>⟨[(3,lP 0 0),(5,lP 2 0),(6,lf (.val (.slice none 0 0))),(7,lR 6),(32,lI (c.2.1.length:Int)),(33,lI (j:Int)),(34,lB true),(35,lP 0 2),(36,lf (.dat Qw c.2.2)),(37,lI (c.2.2.length:Int)),(38,lI (i:Int))],[bx 0 28 [.dat Ql c.1, .dat Qo c.2.1, .dat Qw c.2.2],bx 2 75 [dI r.1,dB r.2],ar 6 3 .int ((c.2.2.take i).foldl (ZU r) (QZ (fun l=>c.2.2.foldl (ZU r) l) j (c.2.2.foldl (WJ p) [])))]⟩) ?_ fun i _=> ?_
 exact wp [(6,5)] ⟨rfl,rfl,(Qe (by simp only[cH,ck])),trivial⟩
 have E:=Qud (c:=c) (p:=p) (r:=r) K j i
 refine w4 ?_
 cases h:(decide ((i:Int) < (c.2.2.length:Int)))
 have u:=aa h
 refine w6 ?_
 refine Qb ?_
 refine l0_ ?_
 exact wp [(5,6)] ⟨rfl,rfl,(Qe (by rw[QT (by omega)]; rfl)),trivial⟩
 have u:=ab h
 refine w5 ?_
 obtain ⟨e,b⟩:=gx c.2.2 i
 refine w2 ?_
 refine lc (xal 7 QD QU) ?_
 refine w6 ?_
 refine alI 44 fun _=> ?_
 refine lc (dB_ (ZZ ((c.2.2.take i).foldl (ZU r) (QZ (fun l=>c.2.2.foldl (ZU r) l) j (c.2.2.foldl (WJ p) []))) e.1) YZ) ?_
 refine w_ ?_
 cases m:(decide (e.1∈((c.2.2.take i).foldl (ZU r) (QZ (fun l=>c.2.2.foldl (ZU r) l) j (c.2.2.foldl (WJ p) [])))))
 have v:=aa m
 refine w15 ?_
 refine Qb ?_
 refine l0_ ?_
 exact wp [] ⟨rfl,rfl,(Qe (by first | exact Qdw b ‹_› ‹_› | exact K1 b (fun g=>absurd g.1 ‹_›) | exact K1 b (fun g=>absurd ‹_› g.2))),trivial⟩
 have v:=ab m
 refine w5 ?_
 refine lgy rfl rfl (dK (Ke e r.1 r.2) Qa4) ?_
 refine w3 ?_
 cases s:(decide (e.2.1=r.1∧e.2.2.1=r.2))
 have w:=aa s
 refine w5 ?_
 refine alI 57 fun _=> ?_
 refine lc (dP 8 [(0,6)] (Vb ((c.2.2.take i).foldl (ZU r) (QZ (fun l=>c.2.2.foldl (ZU r) l) j (c.2.2.foldl (WJ p) []))) e.2.2.2 (by omega)) Jj) ?_
 refine w_ ?_
 refine Qb ?_
 refine w4 ?_
 refine Qb ?_
 refine l0_ ?_
 exact wp [(6,8)] ⟨rfl,rfl,(Qe (by first | exact Qdw b ‹_› ‹_› | exact K1 b (fun g=>absurd g.1 ‹_›) | exact K1 b (fun g=>absurd ‹_› g.2))),trivial⟩
 have w:=ab s
 refine w6 ?_
 refine Qb ?_
 refine l0_ ?_
 exact wp [] ⟨rfl,rfl,(Qe (by first | exact Qdw b ‹_› ‹_› | exact K1 b (fun g=>absurd g.1 ‹_›) | exact K1 b (fun g=>absurd ‹_› g.2))),trivial⟩
 have B:=ab A
 refine w5 ?_
 obtain ⟨f,d⟩:=gx c.2.2 k
 refine w2 ?_
 refine lc (xal 9 QD QU) ?_
 refine w8 ?_
 refine lc (dK (Ke f p.1 p.2) Qa4) ?_
 refine w_ ?_
 cases t:(decide (f.2.1=p.1∧f.2.2.1=p.2))
 have z:=aa t
 refine w6 ?_
 refine Qb ?_
 refine l0_ ?_
 exact wp [] ⟨rfl,rfl,rfl,(Qe (by first | exact Qlh d ‹_› | exact QpB d ‹_›)),trivial⟩
 have z:=ab t
 refine w5 ?_
 refine alI 27 fun _=> ?_
 refine lc (dP 10 [(0,4)] (Vb ((c.2.2.take k).foldl (WJ p) []) f.2.2.2 (by omega)) Jj) ?_
 refine w_ ?_
 refine Qb ?_
 refine w4 ?_
 refine Qb ?_
 refine l0_ ?_
 exact wp [(4,10)] ⟨rfl,rfl,rfl,(Qe (by first | exact Qlh d ‹_› | exact QpB d ‹_›)),trivial⟩
end Go.Proofs.YtndabgcpnmeeoaaGreat
