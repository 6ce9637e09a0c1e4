/- Walks over abstract states: the block of states in which a state signal is set, both sides. -/
import Derived.Test.YtjfpbcmfbnnooaaGreatGUa
set_option linter.unusedSimpArgs false
set_option linter.unusedVariables false
set_option linter.unusedSectionVars false
namespace Go.Proofs.YtjfpbcmfbnnooaaGreat
open Go.RowKit
set_option maxRecDepth 100000
set_option maxHeartbeats 4000000
abbrev UW (a:DAr)(l:Int×Bool):Prop:=a.2.1=l.1∧a.2.2.1=l.2
def ixE (as_:List DAr):List (Int×Int):=as_.zipIdx.map fun x=>(x.1.1,(x.2:Int))
inductive ClS (as_:List DAr) (p r:Int×Bool):Int→Prop
  | base {a:DAr}:a∈as_→UW a p→ClS as_ p r a.2.2.2
  | step {a:DAr}:a∈as_→ClS as_ p r a.1→¬UW a r→ClS as_ p r a.2.2.2
def QiK (p:Int×Bool)(l:List Int)(a:DAr):List Int:=if UW a p then Zg ltI a.2.2.2 l else l
def W0 (r:Int×Bool)(l:List Int)(a:DAr):List Int:=if a.1∈l∧¬UW a r then Zg ltI a.2.2.2 l else l
def Jf {α:Type}(f:α→α):Nat→α→α
 | 0,x=>x
 | n+1,x=>f (Jf f n x)
def Qai (c:DSg)(p r:Int×Bool):List Int:=Jf (fun l=>c.2.2.foldl (W0 r) l) c.2.1.length (c.2.2.foldl (QiK p) [])
theorem Qsc {α:Type}{f:α→α}{I:α→Prop}{m:α→Nat}{n:Nat}(e:∀x,I x→I (f x))(t:∀x,I x→m x≤n)(u:∀x,I x→f x=x∨m x<m (f x)){x:α}(g:I x):f (Jf f n x)=Jf f n x:=by
 have s:∀k,I (Jf f k x):=fun k=>by
  induction k with
  | zero=>exact g
  | succ k b=>exact e _ b
 have d:∀k,f (Jf f k x)=Jf f k x∨k≤m (Jf f k x):=fun k=>by
  induction k with
  | zero=>exact .inr (aL _)
  | succ k b=>
   grind [Jf]
 rcases d n with h|h
 ·exact h
 ·grind
section
variable {c:DSg}{as_:List DAr}{a:DAr}{p r:Int×Bool}{k i j n:Nat}{l out ts ys L:List Int}{seen:List Bool}{x y o q at_:Int}
theorem Qbz:(ixE as_).length=as_.length:=by simp[ixE]
theorem Qmy (b:as_[k]? =some a):(ixE as_)[k]? =some (a.1,(k:Int)):=by simp[ixE,List.getElem?_zipIdx,b]
theorem QnT {e:Int×Int}:e∈ixE as_↔∃(j:Nat) (a:DAr),as_[j]? =some a∧e=(a.1,(j:Int)):=by
 rw[aK]
 constructor
 ·rintro ⟨j,d⟩
  have f:=(ai.1 d).1
  rw[Qbz] at f
  have b:as_[j]? =some as_[j]:=ao f
  rw[Qmy b] at d
  exact ⟨j,_,b,by simpa using d.symm⟩
 ·rintro ⟨j,a,b,rfl⟩;exact ⟨j,Qmy b⟩
theorem Qht (g:∀a∈as_,0≤a.1)(b:(Zn n (ixE as_))[i]? =some ys):x∈ys↔∃(j:Nat) (a:DAr),as_[j]? =some a∧a.1=(i:Int)∧x=(j:Int):=by
 have s:i<n:=by have:=(ai.1 b).1;rw[XA] at this;exact this
 have h:=Qhj (es:=ixE as_) (l:=List.replicate n []) (i:=i) (t:=x) (fun e f=>by obtain ⟨j,a,d,rfl⟩:=QnT.1 f;exact g a (ae d))
 have m:((ixE as_).foldl QbZ (List.replicate n []))[i]? =some ys:=b
 grind [List.length_replicate,QnT]
theorem QiR:∀{l:List Int} {lo hi:Int},l.Pairwise (fun x y=>ltI x y=true)→(∀x∈l,lo≤x∧x<hi)→lo≤hi→(l.length:Int)≤hi - lo
 | [],_,_,_,_,h=>by simp;omega
 | x::l,lo,hi,h1,h2,h3=>by
  obtain ⟨d,e⟩:=bA.1 h1
  have g:=h2 x (aB ..)
  have:=QiR (l:=l) (lo:=x+1) (hi:=hi) e (fun y b=>by have f:=d y b;have m:=h2 y (aA _ b);simp only[ltI,aU] at f;omega) (by omega)
  simp only[av];omega
theorem QpO (h:l.Nodup)(e:∀x∈l,0≤x∧x<(n:Int)):l.length≤n:=by
 have b:(QfF l).Nodup:=(QaG l).nodup_iff.2 h
 have d:(QfF l).Pairwise fun x y=>ltI x y=true:=by
  have:=(Qip l).and b
  grind [ltI]
 have:=QiR d (lo:=0) (hi:=n) (fun x f=>e x (QpI.1 f)) (by omega)
 rw[QpH] at this
 omega
abbrev Qyj (l:List Int):Prop:=l.Pairwise fun x y=>ltI x y=true
theorem Qf2:∀(x:Int) (l:List Int),Zg ltI x l=l∨(Zg ltI x l).length=l.length+1
 | x,[]=> .inr rfl
 | x,y::l=>by
  unfold Zg
  split
  ·rcases Qf2 x l with h|h
   ·exact .inl (by rw[h])
   ·exact .inr (by simp[h])
  ·split
   ·exact .inl rfl
   ·exact .inr rfl
theorem Qkc:W0 r l a=l∨(W0 r l a).length=l.length+1:=by
 unfold W0
 split
 ·exact Qf2 _ _
 ·exact .inl rfl
theorem QbK:∀(as_:List DAr) (l:List Int),as_.foldl (W0 r) l=l∨l.length<(as_.foldl (W0 r) l).length
 | [],l=> .inl rfl
 | a::as_,l=>by
  rw[bC]
  rcases QbK as_ (W0 r l a) with h|h <;> rcases Qkc (r:=r) (l:=l) (a:=a) with b|b
  ·exact .inl (by rw[h,b])
  ·exact .inr (by rw[h];omega)
  ·rw[b] at h ⊢;exact .inr h
  ·exact .inr (by omega)
structure BlS (c:DSg) (p r:Int×Bool) (l:List Int):Prop where
  str:Qyj l
  cl:∀x∈l,ClS c.2.2 p r x
theorem BlS.put (h:BlS c p r l)(d:ClS c.2.2 p r x):BlS c p r (Zg ltI x l):=⟨J5 Uc h.str,fun y b=>by
 rcases Yg.1 b with rfl|b
 ·exact d
 ·exact h.cl y b⟩
theorem Qcs:∀{as_:List DAr} {l:List Int},(∀a∈as_,a∈c.2.2)→BlS c p r l→BlS c p r (as_.foldl (QiK p) l)∧(∀x∈l,x∈as_.foldl (QiK p) l)∧∀a∈as_,UW a p→a.2.2.2∈as_.foldl (QiK p) l
 | [],l,_,h=>⟨h,fun x d=>d,fun a s=>by cases s⟩
 | a::as_,l,hs,h=>by
  have g:BlS c p r (QiK p l a)∧(∀x∈l,x∈QiK p l a)∧(UW a p→a.2.2.2∈QiK p l a):=by
   unfold QiK
   split
   ·rename_i m
    exact ⟨h.put (.base (hs a (aB ..)) m),fun x d=>Yg.2 (.inr d),fun _=>Yg.2 (.inl rfl)⟩
   ·rename_i m
    exact ⟨h,fun x d=>d,fun f=>absurd f m⟩
  obtain ⟨t,i2,i3⟩:=Qcs (l:=QiK p l a) (fun b e=>hs b (aA _ e)) g.1
  refine ⟨t,fun x d=>i2 x (g.2.1 x d),fun b e f=> ?_⟩
  rcases aJ.1 e with rfl|e
  ·exact i2 _ (g.2.2 f)
  ·exact i3 b e f
theorem WD:∀{as_:List DAr} {l:List Int},(∀a∈as_,a∈c.2.2)→BlS c p r l→BlS c p r (as_.foldl (W0 r) l)∧(∀x∈l,x∈as_.foldl (W0 r) l)∧∀a∈as_,a.1∈l→¬UW a r→a.2.2.2∈as_.foldl (W0 r) l
 | [],l,_,h=>⟨h,fun x e=>e,fun a t=>by cases t⟩
 | a::as_,l,hs,h=>by
  have f:BlS c p r (W0 r l a)∧(∀x∈l,x∈W0 r l a)∧(a.1∈l→¬UW a r→a.2.2.2∈W0 r l a):=by
   unfold W0
   split
   ·rename_i g
    exact ⟨h.put (.step (hs a (aB ..)) (h.cl _ g.1) g.2),fun x e=>Yg.2 (.inr e),fun _ _=>Yg.2 (.inl rfl)⟩
   ·grind
  obtain ⟨u,i2,i3⟩:=WD (l:=W0 r l a) (fun b d=>hs b (aA _ d)) f.1
  refine ⟨u,fun x e=>i2 x (f.2.1 x e),fun b d s m=> ?_⟩
  rcases aJ.1 d with rfl|d
  ·exact i2 _ (f.2.2 s m)
  ·exact i3 b d (f.2.1 _ s) m
theorem Quf (d:∀a∈as_,0≤a.2.2.2∧a.2.2.2<(n:Int))(h:ClS as_ p r x):0≤x∧x<(n:Int):=by
 cases h with
 | base b _=>exact d _ b
 | step b _ _=>exact d _ b
theorem QfG {f:List Int→List Int}(d:∀l,BlS c p r l→BlS c p r (f l)∧∀x∈l,x∈f l)(h:BlS c p r l):∀k,BlS c p r (Jf f k l)∧∀x∈l,x∈Jf f k l
 | 0=>⟨h,fun x b=>b⟩
 | k+1=>by
  obtain ⟨e,g⟩:=QfG d h k
  obtain ⟨m,s⟩:=d _ e
  exact ⟨m,fun x b=>s x (g x b)⟩
theorem Qex (c:DSg)(p r:Int×Bool):BlS c p r (Qai c p r):=
 (QfG (fun l b=>⟨(WD (fun _ h=>h) b).1,(WD (fun _ h=>h) b).2.1⟩) (Qcs (fun _ h=>h) ⟨cC,fun x d=>by cases d⟩).1 _).1
theorem QkQ (B:∀a∈c.2.2,InR c.2.1.length a):x∈Qai c p r↔ClS c.2.2 p r x:=by
 have z:BlS c p r ([]:List Int):=⟨cC,fun x u=>by cases u⟩
 obtain ⟨v,D,w⟩:=Qcs (as_:=c.2.2) (fun _ h=>h) z
 have t:∀a∈c.2.2,0≤a.2.2.2∧a.2.2.2<(c.2.1.length:Int):=fun a A=>(B a A).2
 have s:=Qsc (f:=fun l=>c.2.2.foldl (W0 r) l) (I:=BlS c p r) (m:=List.length) (n:=c.2.1.length) (fun l d=>(WD (fun _ h=>h) d).1)
  (fun l d=>by have:=QiR d.str (lo:=0) (hi:=c.2.1.length) (fun x u=>Quf t (d.cl x u)) (by omega);omega) (fun l _=>QbK _ _) v
 have b:=(QfG (f:=fun l=>c.2.2.foldl (W0 r) l) (fun l d=>⟨(WD (fun _ h=>h) d).1,(WD (fun _ h=>h) d).2.1⟩) v c.2.1.length)
 refine ⟨(Qex c p r).cl x,fun h=> ?_⟩
 induction h with
 | base e g=>exact b.2 _ (w _ e g)
 | step e _ g C=>
  have:=(WD (r:=r) (fun _ h=>h) b.1).2.2 _ e C g
  rw[s] at this
  exact this
def mkS (n:Nat)(l:List Int):List Bool:=l.foldl (fun s x=>s.set x.toNat true) (List.replicate n false)
theorem Qvc:(mkS n l).length=n:=by
 unfold mkS
 have:∀(l:List Int) (s:List Bool),(l.foldl (fun s x=>s.set x.toNat true) s).length=s.length:=fun l=>by
  induction l with
  | nil=>intro s;rfl
  | cons x l b=>intro s;rw[bC,b,aD]
 rw[this];simp
theorem Qxw (b:∀x∈l,0≤x∧x<(n:Int))(h0:0≤x)(d:x<(n:Int)):(mkS n l)[x.toNat]? =some true↔x∈l:=by
 unfold mkS
 have:∀(l:List Int) (s:List Bool),s.length=n→(∀x∈l,0≤x∧x<(n:Int))→((l.foldl (fun s x=>s.set x.toNat true) s)[x.toNat]? =some true↔s[x.toNat]? =some true∨x∈l):=fun l=>by
  induction l with
  | nil=>intro s _ _;simp
  | cons y l e=>
   grind [List.mem_cons_self,List.length_set,List.mem_cons_of_mem,List.getElem?_set_self,List.getElem?_set_ne]
 rw[this l _ (by simp) b]
 simp[cv]
structure BlI (c:DSg) (p r:Int×Bool) (at_:Int) (out:List Int) (seen:List Bool):Prop where
  rng:0≤at_∧at_≤(out.length:Int)
  nd:out.Nodup
  q:∀x∈out,(0≤x∧x<(c.2.1.length:Int))∧ClS c.2.2 p r x
  sn:seen.length=c.2.1.length
  se:∀x,0≤x→x<(c.2.1.length:Int)→(seen[x.toNat]? =some true↔x∈out)
  base:∀a∈c.2.2,UW a p→a.2.2.2∈out
  cl:∀(j:Nat) (o:Int),(j:Int)<at_→out[j]? =some o→∀a∈c.2.2,a.1=o→¬UW a r→a.2.2.2∈out
theorem QiS:x∈swL as_ p↔∃a∈as_,UW a p∧a.2.2.2=x:=by
 simp_all [swL,bd,bP]
theorem Qtr (d:∀a∈c.2.2,InR c.2.1.length a)(h:out=ofG ltI (swL c.2.2 p))(e:x∈out):0≤x∧x<(c.2.1.length:Int):=by
 subst h
 obtain ⟨a,b,_,rfl⟩:=QiS.1 ((WL Uc _).1 e)
 exact (d a b).2
theorem Qqi (h:Qyj l):l.Nodup:=h.imp fun h=>by simp only[ltI,aU] at h;omega
theorem BlI.start (e:∀a∈c.2.2,InR c.2.1.length a)(h:out=ofG ltI (swL c.2.2 p))(f:seen=mkS c.2.1.length out):BlI c p r 0 out seen where
 rng:=by omega
 nd:=by rw[h];exact Qqi (WM Uc _)
 q x hx:=⟨Qtr e h hx,by
  rw[h] at hx
  obtain ⟨a,b,d,rfl⟩:=QiS.1 ((WL Uc _).1 hx)
  exact .base b d⟩
 sn:=by rw[f,Qvc]
 se x h0 b:=by rw[f];exact Qxw (fun y g=>Qtr e h g) h0 b
 base a b d:=by rw[h];exact (WL Uc _).2 (QiS.2 ⟨a,b,d,rfl⟩)
 cl j o hj:=by omega
theorem BlI.few (h:BlI c p r at_ out seen):out.length≤c.2.1.length:=QpO h.nd fun x b=>(h.q x b).1
theorem BlI.inr (h:BlI c p r at_ out seen)(b:out[k]? =some x):0≤x∧x<(c.2.1.length:Int):=(h.q x (ae b)).1
theorem BlI.push (h:BlI c p r at_ out seen)(I:∀a∈c.2.2,InR c.2.1.length a)(H:o∈out)(s:a∈c.2.2)(z:a.1=o)(A:¬UW a r)(J:seen[a.2.2.2.toNat]? =some false):BlI c p r at_ (out++[a.2.2.2]) (seen.set a.2.2.2.toNat true):=by
 have f:=(I a s).2
 have m:a.2.2.2∉out:=fun G=>by have:=(h.se _ f.1 f.2).2 G;rw[J] at this;cases this
 have E:=h.sn
 refine ⟨by have:=h.rng;simp;omega,?_,fun x d=> ?_,by rw[aD];exact E,fun x w B=> ?_,fun b g F=>aS _ (h.base b g F),fun j K C d b g u v=> ?_⟩
 ·rw[bj]
  exact ⟨h.nd,by simp,fun x d y t e=>by rw[aF] at t;rw[e,t] at d;exact m d⟩
 ·rcases aQ.1 d with d|d
  ·exact h.q x d
  ·rw[aF] at d;subst d
   exact ⟨f,.step s (by rw[z];exact (h.q o H).2) A⟩
 ·rw[aQ,aF]
  by_cases e:x=a.2.2.2
  ·subst e;rw[bk (by omega)];simp
  ·rw[be (by omega),h.se x w B];simp[e]
 ·have D:=h.rng
  rw[bo (by omega)] at d
  exact aS _ (h.cl j K C d b g u v)
theorem BlI.next (h:BlI c p r at_ out seen)(h0:at_<(out.length:Int))(m:out[at_.toNat]? =some o)(f:∀a∈c.2.2,a.1=o→¬UW a r→a.2.2.2∈out):BlI c p r (at_+1) out seen:=by
 refine ⟨by have:=h.rng;omega,h.nd,h.q,h.sn,h.se,h.base,fun j d g b=> ?_⟩
 by_cases e:(j:Int)=at_
 ·grind
 ·exact h.cl j d (by omega) b
theorem QAp (h:BlI c p r at_ out seen)(g:∀a∈c.2.2,InR c.2.1.length a)(h0:¬at_<(out.length:Int)):ofG ltI out=Qai c p r:=by
 refine TO.ext Uc (WM Uc _) (Qex c p r).str fun x=> ?_
 rw[WL Uc,QkQ g]
 refine ⟨fun e=>(h.q x e).2,fun e=> ?_⟩
 induction e with
 | base b d=>exact h.base _ b d
 | step b _ d m=>
  obtain ⟨j,f⟩:=aK.1 m
  have:=(ai.1 f).1
  exact h.cl j _ (by omega) f _ b rfl d
end
section
variable {c:DSg}{as_:List DAr}{a:DAr}{p r:Int×Bool}{k i j n:Nat}{l:List Int}
end
theorem Qch (c:ZM)(F:∀a∈c.2.2,InR c.2.1.length a)(K:c.2.2.length≤4000∧c.2.1.length≤300):FC Tryz.prog 274 [(true,[.dat Ql c.1,.dat Qb c.2.1,.dat QA c.2.2])] [] 0 (Xv 62 Qs (Zn c.2.1.length (ixE c.2.2))):=by
 refine Qj Tryz.func274 rfl rfl Tryz.ntmps274 fun I B H w J A z=> ?_
 refine w_ ?_
 refine xbx 0 ?_
 refine w5 ?_
 refine alL 7 fun _=> ?_
 refine w_ ?_
 refine lc (Vy 1 (e:=Qs) (n:=c.2.1.length) (Qa rfl) (Qa rfl) Wm QsB rfl (by omega) (by omega) rfl (Fresh.of rfl) (nlr rfl)) ?_
 refine w6 ?_
 refine alL 11 fun _=> ?_
 refine w4 ?_
 refine lp0 c.2.2.length (fun k=>⟨[(2,lf (.val (.slice none 0 0))),(3,lR 2),(11,lf (.dat QA c.2.2)),(12,lI (c.2.2.length:Int)),(13,lI (k:Int))],[(2,some (.arr 62 Qs (Zn c.2.1.length ((ixE c.2.2).take k))))]⟩) ?_ fun k _=> ?_
 exact wp [(2,1)] ⟨(Qm (by simp only[List.take_zero];rfl)),trivial⟩
 refine w4 ?_
 cases h:(decide ((k:Int)<(c.2.2.length:Int)))
 have m:=aa h
 refine w7 ?_
 refine Qe<|fo_ B ?_
 ·(rw[ZD (by rw[Qbz];omega)];done)
 have m:=ab h
 refine w6 ?_
 obtain ⟨ar,s⟩:=gx c.2.2 k
 refine w2 ?_
 refine lc (xal 3 Yq YJ) ?_
 refine w3 ?_
 obtain ⟨⟨C,D⟩,_⟩:=F _ (ae s)
 have E:=XA (n:=c.2.1.length) (es:=(ixE c.2.2).take k)
 obtain ⟨ys,f⟩:=gx (Zn c.2.1.length ((ixE c.2.2).take k)) ar.1.toNat
 have G:=Ko f
 have u:((ixE c.2.2).take k).length≤c.2.2.length:=by simp only[ap,Qbz];omega
 have d:=Qrl f
 have g:ar.1.toNat*1+0<(Zr Qs (Zn c.2.1.length ((ixE c.2.2).take k))).length:=by rw[VQ];show ar.1.toNat*1+0<(Zn c.2.1.length ((ixE c.2.2).take k)).length*1;omega
 refine AC.wk (Qdy (q:=2) rfl (by omega))<|AC.wk (Hl 4 (q:=2) (p:=ar.1.toNat*1+0) (E':=3) (e':= .int) (ys:=ys) rfl (d) (Fresh.of rfl) (aE rfl)) ?_
 apply dV (i6 18 _ _ _ _ _ _ [io 24 (lf (.ept 2 1 ((ar.1).toNat) 0)),io 25 (lR 4),io 26 _,⟨some 27,lR 5,[(5,some (.arr 3 .int ([(k:Int)])))]⟩,⟨some 28,lR 6,[(6,some (.arr 3 .int (ys++([(k:Int)])))),(4,none),(5,none)]⟩,io 29 (lf (.ept 2 1 ((ar.1).toNat) 0)),⟨none,lf (.val undef),[(2,some (.obx 62 1 ((Zn c.2.1.length ((ixE c.2.2).take k)).length) (Zr Qs (Zn c.2.1.length ((ixE c.2.2).take k))) [((ar.1).toNat*1+0,.ref 6),(ar.1.toNat*1+0,.ref 4)]))]⟩]) [0,1,1,7,15,15,7,7,255,255,7,0,0]
 refine z6 ?_
 refine zz (fun _ b=>ac (YQ (b.v rfl) (b.en 2 rfl) (b.v rfl) Wm XK rfl (by omega) (by omega)) rfl) ?_
 refine zz (fun _ b=>ac (Kz (b.v rfl) (b.n 2 rfl) (show (ovr _ _)[ar.1.toNat*1+0]? =some (.ref 4) from by simp only[ovr,bJ,aD,g,d,dJ,if_true,if_false,↓reduceIte]) (b.n 4 rfl) XK rfl) rfl) ?_
 refine z_ ?_
 refine zz (fun _ b=>ac (dBs 5 (e:= .int) Xt) rfl) ?_
 refine zz (fun _ b=>ac (dA 6 Vh) rfl) ?_
 refine zz (fun _ b=>ac (YQ (b.v rfl) (b.en 2 rfl) (b.v rfl) Wm XK rfl (by omega) (by omega)) rfl) ?_
 refine zz (fun _ b=>ac (Uv (t:=4) (b.v rfl) (b.n 2 rfl) (show (ovr _ _)[ar.1.toNat*1+0]? =some (.ref 4) from by simp only[ovr,bJ,aD,g,d,dJ,if_true,if_false,↓reduceIte]) (b.v rfl) (b.n 6 rfl) XK) rfl) ?_
 exact zN
 refine w_ ?_
 refine AC.wk (Qa5 (q:=2) (t:=6) (p:=ar.1.toNat*1+0) rfl (by simp only[ovr,bJ,aD,g,d,dJ,if_true,if_false,↓reduceIte]) rfl) ?_
 refine AC.wk (Qa4 (q:=2) (e:=Qs) ((Zn c.2.1.length ((ixE c.2.2).take k)).set ar.1.toNat (ys++[(k:Int)])) rfl (by simp only[aD]) (by simp only[ovr,dt];exact Qez f)) ?_
 refine w3 ?_
 refine Qd ?_
 refine l0_ ?_
 exact wp [] ⟨(Qm (QfR (e:=(ar.1,(k:Int))) (Qmy s) f)),trivial⟩
def sg0 (n:Nat)(block:List Int):List UInt8:=(List.range n).map fun k:Nat=>if (k:Int)∈block then (49:UInt8) else 48
def Qsr (block:List Int)(s:List UInt8)(a:DAr):List UInt8:=if¬a.1∈block∧a.2.2.2∈block then s.set a.2.2.2.toNat 43 else if a.1∈block∧¬a.2.2.2∈block then s.set a.2.2.2.toNat 45 else s
def inA (c:DSg)(a:DAr):Bool:=decide (a.2.1<0)||decide (((c.1[a.2.1.toNat]?).getD (ByteArray.empty,0)).2=1)
def sAt (s:List UInt8)(x:Int):UInt8:=(s[x.toNat]?).getD 0
def H9 (c:DSg)(block:List Int)(s:List UInt8)(a:DAr):List UInt8:=if (sAt s a.1=43∨sAt s a.1=45)∧inA c a=true∧(a.1∈block↔a.2.2.2∈block) then s.set a.2.2.2.toNat (sAt s a.1) else s
def QsK (c:DSg)(block:List Int)(s:List UInt8):List UInt8:=c.2.2.foldl (H9 c block) s
def Qzn (c:DSg)(block:List Int):List UInt8:=c.2.2.foldl (Qsr block) (sg0 c.2.1.length block)
def QBv (c:DSg)(block:List Int):List UInt8:=Jf (QsK c block) c.2.1.length (Qzn c block)
def Qz3 (c:DSg)(block:List Int):ByteArray:=⟨(QBv c block).toArray⟩
structure SI (n:Nat) (block:List Int) (s:List UInt8):Prop where
  len:s.length=n
  at_:∀x:Int,0≤x→x<(n:Int)→(x∈block∧(sAt s x=49∨sAt s x=43))∨(¬x∈block∧(sAt s x=48∨sAt s x=45))
def nMk (s:List UInt8):Nat:=(s.filter fun x=>decide (x=43∨x=45)).length
def cMk (s:List UInt8):Nat:=(s.filter fun x=> !decide (x=43∨x=45)).length
section
variable {c:DSg}{as_:List DAr}{a:DAr}{block:List Int}{k i n m:Nat}{s s2 sg:List UInt8}{x y:Int}{z zf zt u v:UInt8}{ch:Bool}
theorem QpM {α:Type}{l:List α}{j:Nat}{w:α}(h:l[j]? =some w):l.set j w=l:=by
 apply bM
 intro i
 by_cases e:j=i
 ·grind
 ·rw[be e]
theorem Qvy (h:s[x.toNat]? =some z):sAt s x=z:=by unfold sAt;rw[h];rfl
theorem Qvz (e:s.length=n)(h0:0≤y)(b:y<(n:Int))(d:0≤x):sAt (s.set y.toNat z) x=if x=y then z else sAt s x:=by
 grind [sAt,List.getElem?_set_self,List.getElem?_set_ne]
theorem SI.set (h:SI n block s)(h0:0≤y)(d:y<(n:Int))(g:(y∈block∧z=43)∨(¬y∈block∧z=45)):SI n block (s.set y.toNat z):=by
 refine ⟨by rw[aD];exact h.len,fun x b f=> ?_⟩
 rw[Qvz h.len h0 d b]
 by_cases e:x=y
 ·grind
 ·rw[if_neg e];exact h.at_ x b f
theorem QAw (h:SI n block s)(b:InR n a):SI n block (Qsr block s a):=by
 unfold Qsr
 split
 ·rename_i g;exact h.set b.2.1 b.2.2 (.inl ⟨g.2,rfl⟩)
 ·split
  ·rename_i g;exact h.set b.2.1 b.2.2 (.inr ⟨g.2,rfl⟩)
  ·exact h
theorem SI.val (h:SI n block s)(b:InR n a)(f:sAt s a.1=43∨sAt s a.1=45)(g:a.1∈block↔a.2.2.2∈block):(a.2.2.2∈block∧sAt s a.1=43)∨(¬a.2.2.2∈block∧sAt s a.1=45):=by
 rcases h.at_ a.1 b.1.1 b.1.2 with ⟨d,e⟩|⟨d,e⟩
 ·grind
 ·grind
theorem QjO (q:UInt8→Bool):∀{s:List UInt8} {j:Nat} {u v:UInt8},s[j]? =some u→q u=false→q v=true→((s.set j v).filter q).length=(s.filter q).length+1
 | [],j,u,v,h,_,_=>by simp at h
 | w::s,0,u,v,h,h1,h2=>by
  simp at h;subst h
  simp[h1,h2]
 | w::s,j+1,u,v,h,h1,h2=>by
  have b:=QjO q (s:=s) (j:=j) (by simpa using h) h1 h2
  grind
theorem Qhd (q:UInt8→Bool):∀{s:List UInt8} {j:Nat} {u v:UInt8},s[j]? =some u→q u=true→q v=false→((s.set j v).filter q).length+1=(s.filter q).length
 | [],j,u,v,h,_,_=>by simp at h
 | w::s,0,u,v,h,h1,h2=>by
  simp at h;subst h
  simp[h1,h2]
 | w::s,j+1,u,v,h,h1,h2=>by
  have b:=Qhd q (s:=s) (j:=j) (by simpa using h) h1 h2
  grind
theorem QmK (h:SI n block s)(b:InR n a):SI n block (H9 c block s a)∧(H9 c block s a=s∨(nMk s<nMk (H9 c block s a)∧cMk (H9 c block s a)<cMk s)):=by
 unfold H9
 split
 ·rename_i g
  have o:=h.val b g.1 g.2.2
  refine ⟨h.set b.2.1 b.2.2 o,?_⟩
  have r:=h.len
  have j:s[a.2.2.2.toNat]? =some (sAt s a.2.2.2):=by
   unfold sAt
   rw[ao (by have:=b.2;omega)];rfl
  by_cases e:sAt s a.2.2.2=sAt s a.1
  ·exact .inl (by rw[← e];exact QpM j)
  ·right
   have l:¬(sAt s a.2.2.2=43∨sAt s a.2.2.2=45):=fun l=>by
    rcases h.at_ a.2.2.2 b.2.1 b.2.2 with ⟨d,p⟩|⟨d,p⟩ <;> rcases o with ⟨f,q⟩|⟨f,q⟩
    ·grind
    ·exact f d
    ·exact d f
    ·grind
   constructor
   ·grind [nMk,QjO]
   ·unfold cMk
    have:=Qhd (fun x=> !decide (x=43∨x=45)) j (by simp only[ay l];rfl) (v:=sAt s a.1) (by simp only[aN g.1];rfl)
    omega
 ·exact ⟨h,.inl rfl⟩
structure PI (c:DSg) (block:List Int) (sg:List UInt8) (i:Nat) (s:List UInt8) (ch:Bool):Prop where
  si:SI c.2.1.length block s
  eq:QsK c block sg=(c.2.2.drop i).foldl (H9 c block) s
  no:ch=false→s=sg
  yes:ch=true→cMk s<cMk sg
  le:cMk s≤cMk sg
theorem PI.start (h:SI c.2.1.length block sg):PI c block sg 0 sg false:=⟨h,rfl,fun _=>rfl,(fun h=>by cases h),aO _⟩
theorem QnC (b:as_[i]? =some a):as_.drop i=a::as_.drop (i+1):=by
 grind [List.getElem?_eq_some_iff,List.drop_eq_getElem_cons]
theorem PI.skip (h:PI c block sg i s ch)(d:c.2.2[i]? =some a)(b:H9 c block s a=s):PI c block sg (i+1) s ch:=⟨h.si,by rw[h.eq,QnC d,bC,b],h.no,h.yes,h.le⟩
theorem QAI (h:PI c block sg i s ch)(q:∀a∈c.2.2,InR c.2.1.length a)(d:c.2.2[i]? =some a)(j:s[a.1.toNat]? =some u)(t:s[a.2.2.2.toNat]? =some v)(o:u=43∨u=45)(hi:inA c a=true)(hb:a.1∈block↔a.2.2.2∈block)(p:¬v=u):PI c block sg (i+1) (s.set a.2.2.2.toNat u) true:=by
 have l:=q a (ae d)
 have b:H9 c block s a=s.set a.2.2.2.toNat u:=by
  unfold H9
  rw[Qvy j,if_pos ⟨o,hi,hb⟩]
 obtain ⟨f,g⟩:=QmK (c:=c) h.si l
 rw[b] at f g
 have r:¬s.set a.2.2.2.toNat u=s:=fun e=>by
  grind
 have w:=(g.resolve_left r).2
 have:=h.le
 exact ⟨f,by rw[h.eq,QnC d,bC,b],(fun h=>by cases h),fun _=>by omega,by omega⟩
theorem PI.end_ (h:PI c block sg i s ch)(hi:c.2.2.length≤i):s=QsK c block sg:=by rw[h.eq,bR hi];rfl
theorem Qix {c:DSg}{a:DAr}(h:KD (c.1.length:Int) (a.2.1,a.2.2.1)):a.2.1<(c.1.length:Int):=by
 rcases h with h|h
 ·have:=h.2;simp only at this;omega
 ·have:=h.1;simp only at this;omega
end
def sgF (n:Nat)(block:List Int)(k:Nat):List UInt8:=sg0 k block++List.replicate (n - k) 0
def okB (c:DSg)(p r:Int×Bool):Bool:=Qwk c (Qz3 c (Qai c p r))&&(decide (0<((Qai c p r).length:Int))&&decide (((Qai c p r).length:Int)<(c.2.1.length:Int)))
def QBJ (c:DSg)(p r:Int×Bool):ByteArray:=if okB c p r=true then Qz3 c (Qai c p r) else ⟨#[]⟩
section
variable {c:DSg}{as_:List DAr}{a:DAr}{block:List Int}{k i j n:Nat}{s:List UInt8}{u:UInt8}{p r:Int×Bool}{x:Qy}
end
end Go.Proofs.YtjfpbcmfbnnooaaGreat
