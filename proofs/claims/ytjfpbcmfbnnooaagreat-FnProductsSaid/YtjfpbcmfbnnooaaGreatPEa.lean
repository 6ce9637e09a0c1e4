import Derived.Test.YtjfpbcmfbnnooaaGreatPFz
set_option linter.all false
namespace Go.Proofs.YtjfpbcmfbnnooaaGreat
open Go.RowKit Tryz
set_option maxRecDepth 100000
set_option maxHeartbeats 4000000
def swL (as_:List DAr)(l:Int×Bool):List Int:=(as_.filter fun a=>decide (a.2.1=l.1∧a.2.2.1=l.2)).map fun a=>a.2.2.2
def Ya (c:DSg)(sig:Int):Bool:=decide (0≤sig)&&decide (((c.1[sig.toNat]?).getD (ByteArray.empty,0)).2=1)
def Qt (l:List Qs)(k:Nat):List Int:=((List.range k).filter fun i=> !decide (((l[i]?).getD (ByteArray.empty,0)).2=1)).map fun i=>((i:Nat):Int)
def QHt (c:DSg):BA:=if Zj (fun x:Qs=>decide (x.1=(⟨#[122,48]⟩:BA))) c.1<0 then ⟨#[122,48]⟩ else if Zj (fun x:Qs=>decide (x.1=(⟨#[122,49]⟩:BA))) c.1<0 then ⟨#[122,49]⟩ else ⟨#[122,50]⟩
section
variable {c:DSg}{l:List Int}{as_:List DAr}{a:DAr}{p:Int×Bool}{k:Nat}{n m y sig:Int}{x:Qs}{ss:List Qs}
theorem QrO (b:ss[k]? =some x)(h:¬x.2=1):Qt ss k++[(k:Int)]=Qt ss (k+1):=by
 unfold Qt
 rw[bk,bg,aT];simp[b,h]
theorem Qvf (b:ss[k]? =some x)(h:x.2=1):Qt ss k=Qt ss (k+1):=by
 unfold Qt
 rw[bk,bg,aT];simp[b,h]
def XQ:(Qt ss k).length≤k:=by unfold Qt;rw[aC];exact bi (bR ..) (by simp)
def QxM (h:¬0≤sig):false=Ya c sig:=by unfold Ya;rw[aj h];rfl
theorem Qi5 (h:0≤sig)(b:c.1[sig.toNat]? =some x):decide (x.2=1)=Ya c sig:=by unfold Ya;rw[ay h,b];rfl
def QBt (b:∀j:Nat,(j:Int)<m→∀y,l[j]? =some y→y<n)(h:l[m.toNat]? =some n):l=Zc ltI n l:=
 (Qdx (k:=m.toNat) (fun j e y d=>by have:=b j (by omega) y d;simp[ltI,this]) h (by simp[ltI])).symm
def QBs (d:∀j:Nat,(j:Int)<m→∀y,l[j]? =some y→y<n)(h0:0≤m)(e:m≤(l.length:Int))(h:∀y,l[m.toNat]? =some y→¬y<n∧y≠n):l.take m.toNat++n::l.drop m.toNat=Zc ltI n l:=
 (Qjw (k:=m.toNat) (fun j f y b=>by have:=d j (by omega) y b;simp[ltI,this]) (by omega) fun y b=>by have:=h y b;simp[ltI,this]).symm
def QpW (d:∀j:Nat,(j:Int)<m→∀y,l[j]? =some y→y<n)(h0:0≤m)(b:m≤(l.length:Int))(h:∀y,l[m.toNat]? =some y→¬y<n∧y≠n):
 (([]++(l.take (0+m.toNat)).drop 0)++[n])++(l.take (m.toNat+(l.length - m.toNat))).drop m.toNat=Zc ltI n l:=by
 rw[← QBs d h0 b h,show m.toNat+(l.length - m.toNat)=l.length by omega,dN]
 simp
abbrev QGX:List BA:=[(⟨#[122,48]⟩:BA),(⟨#[122,49]⟩:BA)]
end
theorem X9 (l:List Int)(n:Int):FC prog 186 [(false,[.dat Qv l]),(false,[dI n])] [] 0 (QJ (lB (decide (n∈l)))):=by
 refine Ql func186 rfl rfl ntmps186 fun w o u q z s r=>w6 ?_
 refine alL 7 fun _=> ?_
 refine w4 ?_
 refine lpK l.length (fun k=>∀j,j<k→∀y,l[j]? =some y→¬y=n) (fun k=>⟨[(1,lI n),(7,lf (.dat Qv l)),(8,lI (l.length:Int)),(9,lI (k:Int))],[]⟩) ((fun j i=>absurd i (aS j))) ?_ fun k _ g=> ?_
 exact wo []
 refine w4 ?_
 cases b:(decide ((k:Int)<(l.length:Int)))
 have d:=ab b
 refine w7 ?_
 refine fqB o ?_
 first|exact (aj fun t=>by obtain ⟨j,i⟩:=aG.1 t;exact g j (by have:=(ae.1 i).1;omega) n i rfl).symm
 have d:=aa b
 refine w5 ?_
 obtain ⟨v,h⟩:=gx l k
 refine w9 ?_
 cases e:(decide (v=n))
 have f:=ab e
 refine w6 ?_
 exact Qc<|lK_ ((Z5 g h ‹_›))<|wo []
 have f:=aa e
 refine w5 ?_
 exact fqB o<|(ay (by have:=ah h;simp_all)).symm
theorem QaR (l:List Int)(n:Int)(I:l.length≤1000000000):FC prog 258 [(false,[.ref 0]),(false,[dI n])] [ar 0 3 .int l] 0 (WB 3 .int (Zc ltI n l)):=by
 refine Ql func258 rfl rfl ntmps258 fun G q F w H B A=>w8 ?_
 refine Qy (fun u v=>∃(m:Int),u=((l.length:Int) - m).toNat∧(0≤m∧m≤(l.length:Int))∧(∀j:Nat,(j:Int)<m→∀y,l[j]? =some y→y<n)∧v=⟨[(0,lR 0),(1,lI n),(4,lf (.val (.slice none 0 0))),(5,lI m)],[ar 0 3 .int l]⟩) ⟨0,rfl,(by omega),(fun j C=>by omega),rfl⟩ ?_ ?_
 exact wo []
 rintro u v ⟨m,D,J,o,rfl⟩
 refine w7 ?_
 cases d:(decide (m<(l.length:Int)))
 have f:=ab d
 refine w16 ?_
 refine w2 ?_
 have r:(decide (m<(l.length:Int)))=false:=d
 try rw[r]
 refine w11 ?_
 refine lc (dBs 1 (e:= .int) Ye)<|w2 ?_
 refine lc (Wt (e:= .int) (a:=0) (b:=(m).toNat) (l:=none) (h:=(some m)) (Qa rfl) rfl (by exact trivial) (by exact (Qa rfl)) ZX Zv rfl (by first|(simp only[aq,ap];omega)|omega|(simp only[aq,ap,ai,au,aQ];omega)) (by first|(simp only[aq,ap];omega)|omega|(simp only[aq,ap,ai,au,aQ];omega)) (by first|(simp only[aq,ap];omega)|omega|(simp only[aq,ap,ai,au,aQ];omega)) (by first|rfl|simp) (by first|rfl|simp))<|lc (Zg 2 (Qa rfl) rfl (V7 (e:= .int) (Qa rfl) rfl (by omega)) rfl ZX Xg (by first|omega|(simp only[ai,aC,au,av,aB];omega)|(simp only[ai,aX,au,av,aB];omega)) rfl (Fresh.of rfl) (nlr rfl))<|w5 ?_
 refine lc (dBs 3 (e:= .int) Ye)<|lc (dA 4 Xg)<|w6 ?_
 refine lc (Wt (e:= .int) (a:=(m).toNat) (b:=l.length - (m).toNat) (l:=(some m)) (h:=none) (Qa rfl) rfl (by exact (Qa rfl)) (by exact trivial) ZX Zv rfl (by first|(simp only[aq,ap];omega)|omega|(simp only[aq,ap,ai,au,aQ];omega)) (by first|(simp only[aq,ap];omega)|omega|(simp only[aq,ap,ai,au,aQ];omega)) (by first|(simp only[aq,ap];omega)|omega|(simp only[aq,ap,ai,au,aQ];omega)) (by first|rfl|simp) (by first|rfl|simp))<|lc (Zg 5 (Qa rfl) rfl (V7 (e:= .int) (Qa rfl) rfl (by omega)) rfl ZX Xg (by first|omega|(simp only[ai,aC,au,av,aB];omega)|(simp only[ai,aX,au,av,aB];omega)) rfl (Fresh.of rfl) (nlr rfl))<|w3 ?_
 refine fo_ q ?_
 exact QpW o (by omega) (by omega) (fun z t=>by simp_all)
 have f:=aa d
 refine w3 ?_
 obtain ⟨y,E⟩:=gx l ((m).toNat)
 refine w5 ?_
 cases g:(decide (y<n))
 have i:=ab g
 refine w10 ?_
 have s:(decide (m<(l.length:Int)))=true:=d
 try rw[s]
 refine w8 ?_
 refine cd_ (fun _ _=> ?_) fun _ _=> ?_
 refine w2 ?_
 refine lc (dBs 6 (e:= .int) Ye)<|w2 ?_
 refine lc (Wt (e:= .int) (a:=0) (b:=(m).toNat) (l:=none) (h:=(some m)) (Qa rfl) rfl (by exact trivial) (by exact (Qa rfl)) ZX Zv rfl (by first|(simp only[aq,ap];omega)|omega|(simp only[aq,ap,ai,au,aQ];omega)) (by first|(simp only[aq,ap];omega)|omega|(simp only[aq,ap,ai,au,aQ];omega)) (by first|(simp only[aq,ap];omega)|omega|(simp only[aq,ap,ai,au,aQ];omega)) (by first|rfl|simp) (by first|rfl|simp))<|lc (Zg 7 (Qa rfl) rfl (V7 (e:= .int) (Qa rfl) rfl (by omega)) rfl ZX Xg (by first|omega|(simp only[ai,aC,au,av,aB];omega)|(simp only[ai,aX,au,av,aB];omega)) rfl (Fresh.of rfl) (nlr rfl))<|w5 ?_
 refine lc (dBs 8 (e:= .int) Ye)<|lc (dA 9 Xg)<|w6 ?_
 refine lc (Wt (e:= .int) (a:=(m).toNat) (b:=l.length - (m).toNat) (l:=(some m)) (h:=none) (Qa rfl) rfl (by exact (Qa rfl)) (by exact trivial) ZX Zv rfl (by first|(simp only[aq,ap];omega)|omega|(simp only[aq,ap,ai,au,aQ];omega)) (by first|(simp only[aq,ap];omega)|omega|(simp only[aq,ap,ai,au,aQ];omega)) (by first|(simp only[aq,ap];omega)|omega|(simp only[aq,ap,ai,au,aQ];omega)) (by first|rfl|simp) (by first|rfl|simp))<|lc (Zg 10 (Qa rfl) rfl (V7 (e:= .int) (Qa rfl) rfl (by omega)) rfl ZX Xg (by first|omega|(simp only[ai,aC,au,av,aB];omega)|(simp only[ai,aX,au,av,aB];omega)) rfl (Fresh.of rfl) (nlr rfl))<|w3 ?_
 refine fo_ q ?_
 exact QpW o (by omega) (by omega) (fun z t=>by simp_all)
 refine w5 ?_
 refine fo_ q ?_
 exact QBt o (by simp_all)
 have i:=aa g
 refine w7 ?_
 exact Qc<|Zb ⟨(m+1),rfl,(by omega),(fun j C z t=>by by_cases e:j=m.toNat <;> first|(subst e;simp_all;done)|exact o j (by omega) z t),rfl⟩ (by omega)<|wo []
def Uq (l:List BA)(o:l.length≤1000000000):FC prog 288 [(false,[.dat Qd l])] [] 0 (WB 9 .str l):=by
 refine Ql func288 rfl rfl ntmps288 fun i g h b j f d=>w4 ?_
 refine lc (dBs 0 (e:= .str) Wd)<|w_ ?_
 refine lc (Zg 1 (Qa rfl) rfl (Evl.rep (Qa rfl)) rfl Vd Ub (by first|omega|(simp only[ai,aC,au,av,aB];omega)|(simp only[ai,aX,au,av,aB];omega)) rfl (Fresh.of rfl) (nlr rfl))<|w3 ?_
 refine fo_ g ?_
 rfl
abbrev Kj (a:DAr)(l:Int×Bool):Prop:=a.2.1=l.1∧a.2.2.1=l.2
def ixE (as_:List DAr):List (Int×Int):=as_.zipIdx.map fun x=>(x.1.1,(x.2:Int))
inductive ClS (as_:List DAr) (p r:Int×Bool):Int→Prop
  | base {a:DAr}:a∈as_→Kj a p→ClS as_ p r a.2.2.2
  | step {a:DAr}:a∈as_→ClS as_ p r a.1→¬Kj a r→ClS as_ p r a.2.2.2
def Qjv (p:Int×Bool)(l:List Int)(a:DAr):List Int:=if Kj a p then Zc ltI a.2.2.2 l else l
def Vw (r:Int×Bool)(l:List Int)(a:DAr):List Int:=if a.1∈l∧¬Kj a r then Zc ltI a.2.2.2 l else l
def Ze {α:Type}(f:α→α):Nat→α→α
 | 0,x=>x
 | n+1,x=>f (Ze f n x)
def Qa8 (c:DSg)(p r:Int×Bool):List Int:=Ze (fun l=>c.2.2.foldl (Vw r) l) c.2.1.length (c.2.2.foldl (Qjv p) [])
theorem Quz {α:Type}{f:α→α}{I:α→Prop}{m:α→Nat}{n:Nat}(e:∀x,I x→I (f x))(t:∀x,I x→m x≤n)(u:∀x,I x→f x=x∨m x<m (f x)){x:α}(g:I x):f (Ze f n x)=Ze f n x:=by
 have s:∀k,I (Ze f k x):=fun k=>by
  induction k with
  | zero=>exact g
  | succ k b=>exact e _ b
 have d:∀k,f (Ze f k x)=Ze f k x∨k≤m (Ze f k x):=fun k=>by
  induction k with
  | zero=>exact .inr (aL _)
  | succ k b=>
   grind [Ze]
 rcases d n with h|h
 ·exact h
 ·grind
section
variable {c:DSg}{as_:List DAr}{a:DAr}{p r:Int×Bool}{k i j n:Nat}{l out ts ys L:List Int}{seen:List Bool}{x y o q at_:Int}
def QjM:∀{l:List Int} {lo hi:Int},l.Pairwise (fun x y=>ltI x y=true)→(∀x∈l,lo≤x∧x<hi)→lo≤hi→(l.length:Int)≤hi - lo
 | [],_,_,_,_,h=>by simp;omega
 | x::l,lo,hi,h1,h2,h3=>by
  obtain ⟨d,e⟩:=bK.1 h1
  have g:=h2 x (aA ..)
  have:=QjM (l:=l) (lo:=x+1) (hi:=hi) e (fun y b=>by have f:=d y b;have m:=h2 y (az _ b);simp only[ltI,aY] at f;omega) (by omega)
  simp only[av];omega
theorem QrM (h:l.Nodup)(e:∀x∈l,0≤x∧x<(n:Int)):l.length≤n:=by
 have b:(Qgp l).Nodup:=(QbD l).nodup_iff.2 h
 have d:(Qgp l).Pairwise fun x y=>ltI x y=true:=by
  have:=(Qi6 l).and b
  grind [ltI]
 have:=QjM d (lo:=0) (hi:=n) (fun x f=>e x (QrC.1 f)) (by omega)
 rw[QrB] at this
 omega
abbrev QCq (l:List Int):Prop:=l.Pairwise fun x y=>ltI x y=true
def QgL:∀(x:Int) (l:List Int),Zc ltI x l=l∨(Zc ltI x l).length=l.length+1
 | x,[]=> .inr rfl
 | x,y::l=>by
  unfold Zc
  split
  ·rcases QgL x l with h|h
   ·exact .inl (by rw[h])
   ·exact .inr (by simp[h])
  ·split
   ·exact .inl rfl
   ·exact .inr rfl
def Qla:Vw r l a=l∨(Vw r l a).length=l.length+1:=by
 unfold Vw
 split
 ·exact QgL _ _
 ·exact .inl rfl
def QcA:∀(as_:List DAr) (l:List Int),as_.foldl (Vw r) l=l∨l.length<(as_.foldl (Vw r) l).length
 | [],l=> .inl rfl
 | a::as_,l=>by
  rw[bn]
  rcases QcA as_ (Vw r l a) with h|h <;> rcases Qla (r:=r) (l:=l) (a:=a) with b|b
  ·exact .inl (by rw[h,b])
  ·exact .inr (by rw[h];omega)
  ·rw[b] at h ⊢;exact .inr h
  ·exact .inr (by omega)
structure BlS (c:DSg) (p r:Int×Bool) (l:List Int):Prop where
  str:QCq l
  cl:∀x∈l,ClS c.2.2 p r x
def BlS.put (h:BlS c p r l)(d:ClS c.2.2 p r x):BlS c p r (Zc ltI x l):=⟨KQ Xt h.str,fun y b=>by
 rcases Z2.1 b with rfl|b
 ·exact d
 ·exact h.cl y b⟩
def Qdo:∀{as_:List DAr} {l:List Int},(∀a∈as_,a∈c.2.2)→BlS c p r l→BlS c p r (as_.foldl (Qjv p) l)∧(∀x∈l,x∈as_.foldl (Qjv p) l)∧∀a∈as_,Kj a p→a.2.2.2∈as_.foldl (Qjv p) l
 | [],l,_,h=>⟨h,fun x d=>d,fun a s=>by cases s⟩
 | a::as_,l,hs,h=>by
  have g:BlS c p r (Qjv p l a)∧(∀x∈l,x∈Qjv p l a)∧(Kj a p→a.2.2.2∈Qjv p l a):=by
   unfold Qjv
   split
   ·rename_i m
    exact ⟨h.put (.base (hs a (aA ..)) m),fun x d=>Z2.2 (.inr d),fun _=>Z2.2 (.inl rfl)⟩
   ·rename_i m
    exact ⟨h,fun x d=>d,fun f=>absurd f m⟩
  obtain ⟨t,i2,i3⟩:=Qdo (l:=Qjv p l a) (fun b e=>hs b (az _ e)) g.1
  refine ⟨t,fun x d=>i2 x (g.2.1 x d),fun b e f=> ?_⟩
  rcases aK.1 e with rfl|e
  ·exact i2 _ (g.2.2 f)
  ·exact i3 b e f
theorem W6:∀{as_:List DAr} {l:List Int},(∀a∈as_,a∈c.2.2)→BlS c p r l→BlS c p r (as_.foldl (Vw r) l)∧(∀x∈l,x∈as_.foldl (Vw r) l)∧∀a∈as_,a.1∈l→¬Kj a r→a.2.2.2∈as_.foldl (Vw r) l
 | [],l,_,h=>⟨h,fun x e=>e,fun a t=>by cases t⟩
 | a::as_,l,hs,h=>by
  have f:BlS c p r (Vw r l a)∧(∀x∈l,x∈Vw r l a)∧(a.1∈l→¬Kj a r→a.2.2.2∈Vw r l a):=by
   unfold Vw
   split
   ·rename_i g
    exact ⟨h.put (.step (hs a (aA ..)) (h.cl _ g.1) g.2),fun x e=>Z2.2 (.inr e),fun _ _=>Z2.2 (.inl rfl)⟩
   ·grind
  obtain ⟨u,i2,i3⟩:=W6 (l:=Vw r l a) (fun b d=>hs b (az _ d)) f.1
  refine ⟨u,fun x e=>i2 x (f.2.1 x e),fun b d s m=> ?_⟩
  rcases aK.1 d with rfl|d
  ·exact i2 _ (f.2.2 s m)
  ·exact i3 b d (f.2.1 _ s) m
def Qw2 (d:∀a∈as_,0≤a.2.2.2∧a.2.2.2<(n:Int))(h:ClS as_ p r x):0≤x∧x<(n:Int):=by
 cases h with
 | base b _=>exact d _ b
 | step b _ _=>exact d _ b
def Qgq {f:List Int→List Int}(d:∀l,BlS c p r l→BlS c p r (f l)∧∀x∈l,x∈f l)(h:BlS c p r l):∀k,BlS c p r (Ze f k l)∧∀x∈l,x∈Ze f k l
 | 0=>⟨h,fun x b=>b⟩
 | k+1=>by
  obtain ⟨e,g⟩:=Qgq d h k
  obtain ⟨m,s⟩:=d _ e
  exact ⟨m,fun x b=>s x (g x b)⟩
def Qfq (c:DSg)(p r:Int×Bool):BlS c p r (Qa8 c p r):=
 (Qgq (fun l b=>⟨(W6 (fun _ h=>h) b).1,(W6 (fun _ h=>h) b).2.1⟩) (Qdo (fun _ h=>h) ⟨co,fun x d=>by cases d⟩).1 _).1
def Ql1 (B:∀a∈c.2.2,InR c.2.1.length a):x∈Qa8 c p r↔ClS c.2.2 p r x:=by
 have z:BlS c p r ([]:List Int):=⟨co,fun x u=>by cases u⟩
 obtain ⟨v,D,w⟩:=Qdo (as_:=c.2.2) (fun _ h=>h) z
 have t:∀a∈c.2.2,0≤a.2.2.2∧a.2.2.2<(c.2.1.length:Int):=fun a A=>(B a A).2
 have s:=Quz (f:=fun l=>c.2.2.foldl (Vw r) l) (I:=BlS c p r) (m:=List.length) (n:=c.2.1.length) (fun l d=>(W6 (fun _ h=>h) d).1)
  (fun l d=>by have:=QjM d.str (lo:=0) (hi:=c.2.1.length) (fun x u=>Qw2 t (d.cl x u)) (by omega);omega) (fun l _=>QcA _ _) v
 have b:=(Qgq (f:=fun l=>c.2.2.foldl (Vw r) l) (fun l d=>⟨(W6 (fun _ h=>h) d).1,(W6 (fun _ h=>h) d).2.1⟩) v c.2.1.length)
 refine ⟨(Qfq c p r).cl x,fun h=> ?_⟩
 induction h with
 | base e g=>exact b.2 _ (w _ e g)
 | step e _ g C=>
  have:=(W6 (r:=r) (fun _ h=>h) b.1).2.2 _ e C g
  rw[s] at this
  exact this
def mkS (n:Nat)(l:List Int):List Bool:=l.foldl (fun s x=>s.set x.toNat true) (List.replicate n false)
def Qx1:(mkS n l).length=n:=by
 unfold mkS
 have:∀(l:List Int) (s:List Bool),(l.foldl (fun s x=>s.set x.toNat true) s).length=s.length:=fun l=>by
  induction l with
  | nil=>intro s;rfl
  | cons x l b=>intro s;rw[bn,b,ax]
 rw[this];simp
theorem QA6 (b:∀x∈l,0≤x∧x<(n:Int))(h0:0≤x)(d:x<(n:Int)):(mkS n l)[x.toNat]? =some true↔x∈l:=by
 unfold mkS
 have:∀(l:List Int) (s:List Bool),s.length=n→(∀x∈l,0≤x∧x<(n:Int))→((l.foldl (fun s x=>s.set x.toNat true) s)[x.toNat]? =some true↔s[x.toNat]? =some true∨x∈l):=fun l=>by
  induction l with
  | nil=>intro s _ _;simp
  | cons y l e=>
   grind [List.mem_cons_self,List.length_set,List.mem_cons_of_mem,List.getElem?_set_self,List.getElem?_set_ne]
 rw[this l _ (by simp) b]
 simp[ck]
structure BlI (c:DSg) (p r:Int×Bool) (at_:Int) (out:List Int) (seen:List Bool):Prop where
  rng:0≤at_∧at_≤(out.length:Int)
  nd:out.Nodup
  q:∀x∈out,(0≤x∧x<(c.2.1.length:Int))∧ClS c.2.2 p r x
  sn:seen.length=c.2.1.length
  se:∀x,0≤x→x<(c.2.1.length:Int)→(seen[x.toNat]? =some true↔x∈out)
  base:∀a∈c.2.2,Kj a p→a.2.2.2∈out
  cl:∀(j:Nat) (o:Int),(j:Int)<at_→out[j]? =some o→∀a∈c.2.2,a.1=o→¬Kj a r→a.2.2.2∈out
theorem QjN:x∈swL as_ p↔∃a∈as_,Kj a p∧a.2.2.2=x:=by
 simp_all [swL,aW,bA]
def Qv0 (d:∀a∈c.2.2,InR c.2.1.length a)(h:out=ofG ltI (swL c.2.2 p))(e:x∈out):0≤x∧x<(c.2.1.length:Int):=by
 subst h
 obtain ⟨a,b,_,rfl⟩:=QjN.1 ((Qan Xt _).1 e)
 exact (d a b).2
def Qsg (h:QCq l):l.Nodup:=h.imp fun h=>by simp only[ltI,aY] at h;omega
def BlI.start (e:∀a∈c.2.2,InR c.2.1.length a)(h:out=ofG ltI (swL c.2.2 p))(f:seen=mkS c.2.1.length out):BlI c p r 0 out seen where
 rng:=by omega
 nd:=by rw[h];exact Qsg (Ve Xt _)
 q x hx:=⟨Qv0 e h hx,by
  rw[h] at hx
  obtain ⟨a,b,d,rfl⟩:=QjN.1 ((Qan Xt _).1 hx)
  exact .base b d⟩
 sn:=by rw[f,Qx1]
 se x h0 b:=by rw[f];exact QA6 (fun y g=>Qv0 e h g) h0 b
 base a b d:=by rw[h];exact (Qan Xt _).2 (QjN.2 ⟨a,b,d,rfl⟩)
 cl j o hj:=by omega
def BlI.few (h:BlI c p r at_ out seen):out.length≤c.2.1.length:=QrM h.nd fun x b=>(h.q x b).1
def BlI.inr (h:BlI c p r at_ out seen)(b:out[k]? =some x):0≤x∧x<(c.2.1.length:Int):=(h.q x (ah b)).1
def BlI.push (h:BlI c p r at_ out seen)(I:∀a∈c.2.2,InR c.2.1.length a)(H:o∈out)(s:a∈c.2.2)(z:a.1=o)(A:¬Kj a r)(J:seen[a.2.2.2.toNat]? =some false):BlI c p r at_ (out++[a.2.2.2]) (seen.set a.2.2.2.toNat true):=by
 have f:=(I a s).2
 have m:a.2.2.2∉out:=fun G=>by have:=(h.se _ f.1 f.2).2 G;rw[J] at this;cases this
 have E:=h.sn
 refine ⟨by have:=h.rng;simp;omega,?_,fun x d=> ?_,by rw[ax];exact E,fun x w B=> ?_,fun b g F=>aU _ (h.base b g F),fun j K C d b g u v=> ?_⟩
 ·rw[bz]
  exact ⟨h.nd,by simp,fun x d y t e=>by rw[aI] at t;rw[e,t] at d;exact m d⟩
 ·rcases aO.1 d with d|d
  ·exact h.q x d
  ·rw[aI] at d;subst d
   exact ⟨f,.step s (by rw[z];exact (h.q o H).2) A⟩
 ·rw[aO,aI]
  by_cases e:x=a.2.2.2
  ·subst e;rw[bj (by omega)];simp
  ·rw[bh (by omega),h.se x w B];simp[e]
 ·have D:=h.rng
  rw[bm (by omega)] at d
  exact aU _ (h.cl j K C d b g u v)
theorem BlI.next (h:BlI c p r at_ out seen)(h0:at_<(out.length:Int))(m:out[at_.toNat]? =some o)(f:∀a∈c.2.2,a.1=o→¬Kj a r→a.2.2.2∈out):BlI c p r (at_+1) out seen:=by
 refine ⟨by have:=h.rng;omega,h.nd,h.q,h.sn,h.se,h.base,fun j d g b=> ?_⟩
 by_cases e:(j:Int)=at_
 ·grind
 ·exact h.cl j d (by omega) b
def QE2 (h:BlI c p r at_ out seen)(g:∀a∈c.2.2,InR c.2.1.length a)(h0:¬at_<(out.length:Int)):ofG ltI out=Qa8 c p r:=by
 refine TO.ext Xt (Ve Xt _) (Qfq c p r).str fun x=> ?_
 rw[Qan Xt,Ql1 g]
 refine ⟨fun e=>(h.q x e).2,fun e=> ?_⟩
 induction e with
 | base b d=>exact h.base _ b d
 | step b _ d m=>
  obtain ⟨j,f⟩:=aG.1 m
  have:=(ae.1 f).1
  exact h.cl j _ (by omega) f _ b rfl d
end
section
variable {c:DSg}{as_:List DAr}{a:DAr}{p r:Int×Bool}{k i j n:Nat}{l:List Int}
end
def sg0 (n:Nat)(block:List Int):List UInt8:=(List.range n).map fun k:Nat=>if (k:Int)∈block then (49:UInt8) else 48
def QuU (block:List Int)(s:List UInt8)(a:DAr):List UInt8:=if¬a.1∈block∧a.2.2.2∈block then s.set a.2.2.2.toNat 43 else if a.1∈block∧¬a.2.2.2∈block then s.set a.2.2.2.toNat 45 else s
def inA (c:DSg)(a:DAr):Bool:=decide (a.2.1<0)||decide (((c.1[a.2.1.toNat]?).getD (ByteArray.empty,0)).2=1)
def sAt (s:List UInt8)(x:Int):UInt8:=(s[x.toNat]?).getD 0
def QaV (c:DSg)(block:List Int)(s:List UInt8)(a:DAr):List UInt8:=if (sAt s a.1=43∨sAt s a.1=45)∧inA c a=true∧(a.1∈block↔a.2.2.2∈block) then s.set a.2.2.2.toNat (sAt s a.1) else s
def QzA (c:DSg)(block:List Int)(s:List UInt8):List UInt8:=c.2.2.foldl (QaV c block) s
def QDB (c:DSg)(block:List Int):List UInt8:=c.2.2.foldl (QuU block) (sg0 c.2.1.length block)
def QGI (c:DSg)(block:List Int):List UInt8:=Ze (QzA c block) c.2.1.length (QDB c block)
def QEo (c:DSg)(block:List Int):BA:=⟨(QGI c block).toArray⟩
structure SI (n:Nat) (block:List Int) (s:List UInt8):Prop where
  len:s.length=n
  at_:∀x:Int,0≤x→x<(n:Int)→(x∈block∧(sAt s x=49∨sAt s x=43))∨(¬x∈block∧(sAt s x=48∨sAt s x=45))
def nMk (s:List UInt8):Nat:=(s.filter fun x=>decide (x=43∨x=45)).length
def cMk (s:List UInt8):Nat:=(s.filter fun x=> !decide (x=43∨x=45)).length
section
variable {c:DSg}{as_:List DAr}{a:DAr}{block:List Int}{k i n m:Nat}{s s2 sg:List UInt8}{x y:Int}{z zf zt u v:UInt8}{ch:Bool}
theorem QrH {α:Type}{l:List α}{j:Nat}{w:α}(h:l[j]? =some w):l.set j w=l:=by
 apply bL
 intro i
 by_cases e:j=i
 ·grind
 ·rw[bh e]
def Qyw (h:s[x.toNat]? =some z):sAt s x=z:=by unfold sAt;rw[h];rfl
theorem Qyx (e:s.length=n)(h0:0≤y)(b:y<(n:Int))(d:0≤x):sAt (s.set y.toNat z) x=if x=y then z else sAt s x:=by
 grind [sAt,List.getElem?_set_self,List.getElem?_set_ne]
theorem SI.set (h:SI n block s)(h0:0≤y)(d:y<(n:Int))(g:(y∈block∧z=43)∨(¬y∈block∧z=45)):SI n block (s.set y.toNat z):=by
 refine ⟨by rw[ax];exact h.len,fun x b f=> ?_⟩
 rw[Qyx h.len h0 d b]
 by_cases e:x=y
 ·grind
 ·rw[if_neg e];exact h.at_ x b f
def QE9 (h:SI n block s)(b:InR n a):SI n block (QuU block s a):=by
 unfold QuU
 split
 ·rename_i g;exact h.set b.2.1 b.2.2 (.inl ⟨g.2,rfl⟩)
 ·split
  ·rename_i g;exact h.set b.2.1 b.2.2 (.inr ⟨g.2,rfl⟩)
  ·exact h
theorem SI.val (h:SI n block s)(b:InR n a)(f:sAt s a.1=43∨sAt s a.1=45)(g:a.1∈block↔a.2.2.2∈block):(a.2.2.2∈block∧sAt s a.1=43)∨(¬a.2.2.2∈block∧sAt s a.1=45):=by
 rcases h.at_ a.1 b.1.1 b.1.2 with ⟨d,e⟩|⟨d,e⟩
 ·grind
 ·grind
theorem QkL (q:UInt8→Bool):∀{s:List UInt8} {j:Nat} {u v:UInt8},s[j]? =some u→q u=false→q v=true→((s.set j v).filter q).length=(s.filter q).length+1
 | [],j,u,v,h,_,_=>by simp at h
 | w::s,0,u,v,h,h1,h2=>by
  simp at h;subst h
  simp[h1,h2]
 | w::s,j+1,u,v,h,h1,h2=>by
  have b:=QkL q (s:=s) (j:=j) (by simpa using h) h1 h2
  grind
theorem QhY (q:UInt8→Bool):∀{s:List UInt8} {j:Nat} {u v:UInt8},s[j]? =some u→q u=true→q v=false→((s.set j v).filter q).length+1=(s.filter q).length
 | [],j,u,v,h,_,_=>by simp at h
 | w::s,0,u,v,h,h1,h2=>by
  simp at h;subst h
  simp[h1,h2]
 | w::s,j+1,u,v,h,h1,h2=>by
  have b:=QhY q (s:=s) (j:=j) (by simpa using h) h1 h2
  grind
theorem QnX (h:SI n block s)(b:InR n a):SI n block (QaV c block s a)∧(QaV c block s a=s∨(nMk s<nMk (QaV c block s a)∧cMk (QaV c block s a)<cMk s)):=by
 unfold QaV
 split
 ·rename_i g
  have o:=h.val b g.1 g.2.2
  refine ⟨h.set b.2.1 b.2.2 o,?_⟩
  have r:=h.len
  have j:s[a.2.2.2.toNat]? =some (sAt s a.2.2.2):=by
   unfold sAt
   rw[ak (by have:=b.2;omega)];rfl
  by_cases e:sAt s a.2.2.2=sAt s a.1
  ·exact .inl (by rw[← e];exact QrH j)
  ·right
   have l:¬(sAt s a.2.2.2=43∨sAt s a.2.2.2=45):=fun l=>by
    rcases h.at_ a.2.2.2 b.2.1 b.2.2 with ⟨d,p⟩|⟨d,p⟩ <;> rcases o with ⟨f,q⟩|⟨f,q⟩
    ·grind
    ·exact f d
    ·exact d f
    ·grind
   constructor
   ·grind [nMk,QkL]
   ·unfold cMk
    have:=QhY (fun x=> !decide (x=43∨x=45)) j (by simp only[aj l];rfl) (v:=sAt s a.1) (by simp only[ay g.1];rfl)
    omega
 ·exact ⟨h,.inl rfl⟩
structure PI (c:DSg) (block:List Int) (sg:List UInt8) (i:Nat) (s:List UInt8) (ch:Bool):Prop where
  si:SI c.2.1.length block s
  eq:QzA c block sg=(c.2.2.drop i).foldl (QaV c block) s
  no:ch=false→s=sg
  yes:ch=true→cMk s<cMk sg
  le:cMk s≤cMk sg
def PI.start (h:SI c.2.1.length block sg):PI c block sg 0 sg false:=⟨h,rfl,fun _=>rfl,(fun h=>by cases h),aP _⟩
theorem Qo3 (b:as_[i]? =some a):as_.drop i=a::as_.drop (i+1):=by
 grind [List.getElem?_eq_some_iff,List.drop_eq_getElem_cons]
def PI.skip (h:PI c block sg i s ch)(d:c.2.2[i]? =some a)(b:QaV c block s a=s):PI c block sg (i+1) s ch:=⟨h.si,by rw[h.eq,Qo3 d,bn,b],h.no,h.yes,h.le⟩
theorem QFk (h:PI c block sg i s ch)(q:∀a∈c.2.2,InR c.2.1.length a)(d:c.2.2[i]? =some a)(j:s[a.1.toNat]? =some u)(t:s[a.2.2.2.toNat]? =some v)(o:u=43∨u=45)(hi:inA c a=true)(hb:a.1∈block↔a.2.2.2∈block)(p:¬v=u):PI c block sg (i+1) (s.set a.2.2.2.toNat u) true:=by
 have l:=q a (ah d)
 have b:QaV c block s a=s.set a.2.2.2.toNat u:=by
  unfold QaV
  rw[Qyw j,if_pos ⟨o,hi,hb⟩]
 obtain ⟨f,g⟩:=QnX (c:=c) h.si l
 rw[b] at f g
 have r:¬s.set a.2.2.2.toNat u=s:=fun e=>by
  grind
 have w:=(g.resolve_left r).2
 have:=h.le
 exact ⟨f,by rw[h.eq,Qo3 d,bn,b],(fun h=>by cases h),fun _=>by omega,by omega⟩
def QxR {c:DSg}{a:DAr}(h:K0 (c.1.length:Int) (a.2.1,a.2.2.1)):a.2.1<(c.1.length:Int):=by
 rcases h with h|h
 ·have:=h.2;simp only at this;omega
 ·have:=h.1;simp only at this;omega
end
def sgF (n:Nat)(block:List Int)(k:Nat):List UInt8:=sg0 k block++List.replicate (n - k) 0
def okB (c:DSg)(p r:Int×Bool):Bool:=Qzz c (QEo c (Qa8 c p r))&&(decide (0<((Qa8 c p r).length:Int))&&decide (((Qa8 c p r).length:Int)<(c.2.1.length:Int)))
def QG7 (c:DSg)(p r:Int×Bool):BA:=if okB c p r=true then QEo c (Qa8 c p r) else ⟨#[]⟩
section
variable {c:DSg}{as_:List DAr}{a:DAr}{block:List Int}{k i j n:Nat}{s:List UInt8}{u:UInt8}{p r:Int×Bool}{x:Qs}
end
structure SgW (c:DSg):Prop where
  sig8:c.1.length≤8
  some_:1≤c.2.1.length∧c.2.1.length≤300
  few:c.2.2.length≤4000
  arcs:∀a∈c.2.2,InR c.2.1.length a∧K0 (c.1.length:Int) (a.2.1,a.2.2.1)
def SgOk.w {c:DSg}(h:SgOk c):SgW c:=⟨h.sigs.2.2,h.some_,h.few,fun a b=>⟨We (h.arcs a b),(h.arcs a b).2.2.1⟩⟩
def mkV (l:Int×Bool):Int:=(if l.2=true then 2 else 1)*2 ^ (2*l.1).toNat
def orA (s:List Int)(a:DAr):List Int:=if 0≤a.2.1 then s.set a.1.toNat (((((s[a.1.toNat]?).getD 0).toNat ||| (mkV (a.2.1,a.2.2.1)).toNat:Nat)):Int) else s
def QHr (n:Nat)(as_:List DAr):List Int:=as_.foldl orA (List.replicate n 0)
def mAt (l:List Int)(x:Int):Int:=(l[x.toNat]?).getD 0
def QzH (m:Int)(s:Int):Bool:=decide ((((m / 2 ^ (2*s).toNat).toNat &&& (3:Int).toNat:Nat):Int)=0)
def QHk (masks pair:List Int)(s:Int):Bool:= !(QzH (mAt masks (mAt pair 0)) s==QzH (mAt masks (mAt pair 1)) s)
def Zq (c:DSg)(k s:Int):Bool:=c.2.2.any fun a=>decide (a.1=k∧a.2.1=s)
def cdA (c:DSg)(j:Nat):BA:=(c.2.1[j]?).getD ByteArray.empty
def WR (c:DSg)(f:Nat→Nat→Bool)(i k:Nat):List (List Int):=((List.range k).filter fun j=>decide (i<j)&&(decide (cdA c j=cdA c i)&&f i j)).map fun j:Nat=>[(i:Int),(j:Int)]
def YZ (c:DSg)(f:Nat→Nat→Bool)(i:Nat):List (List Int):=(List.range i).flatMap fun i=>WR c f i c.2.1.length
def QAh (c:DSg)(i j:Nat):Bool:=(Qt c.1 c.1.length).any fun s=> !(Zq c i s==Zq c j s)
def QkB (c:DSg):List (List Int):=YZ c (QAh c) c.2.1.length
section
variable {c:DSg}{as_:List DAr}{a:DAr}{i j k n:Nat}{f g:Nat→Nat→Bool}{s x y m:Int}{l masks pair:List Int}{u v:BA}
def QeQ (h:l[x.toNat]? =some y):mAt l x=y:=by unfold mAt;rw[h];rfl
def Qoe:WR c f i (i+1)=[]:=by
 unfold WR
 rw[List.map_eq_nil_iff,List.filter_eq_nil_iff]
 intro j b
 rw[bC] at b
 simp;intro h;omega
def Qvy (h:i<k)(d:c.2.1[k]? =some u)(hv:c.2.1[i]? =some v)(e:u=v)(b:f i k=true):WR c f i k++[[(i:Int),(k:Int)]]=WR c f i (k+1):=by
 unfold WR
 rw[bk,bg,aT]
 simp[h,cdA,d,hv,e,b]
def Qys (h:¬(cdA c k=cdA c i∧f i k=true)):WR c f i k=WR c f i (k+1):=by
 unfold WR
 rw[bk,bg,aT]
 have:(decide (i<k)&&(decide (cdA c k=cdA c i)&&f i k))=false:=by
  cases b:decide (cdA c k=cdA c i)&&f i k with
  | false=>simp
  | true=>simp only[aH,aY] at b;exact absurd b h
 simp[this]
def QoN (h:c.2.1[k]? =some u):cdA c k=u:=by unfold cdA;rw[h];rfl
def V2:YZ c f i++WR c f i c.2.1.length=YZ c f (i+1):=by
 unfold YZ
 rw[bk,cF];simp
def Qlm:(WR c f i k).length≤k:=by unfold WR;rw[aC];exact bi (bR ..) (by simp)
def Qs1:(YZ c f i).length≤i*c.2.1.length:=by
 induction i with
 | zero=>simp[YZ]
 | succ i b=>
  rw[← V2,ai,Nat.succ_mul]
  have:=Qlm (c:=c) (f:=f) (i:=i) (k:=c.2.1.length)
  omega
def Qko (b:c.2.1.length≤300)(hi:i≤c.2.1.length):(YZ c f i).length≤90000:=by
 have d:=Qs1 (c:=c) (f:=f) (i:=i)
 have e:i*c.2.1.length≤300*300:=cO (by omega) b
 omega
theorem Qvx {p:List Int}(h:p∈WR c f i k):∃j:Nat,j<k∧i<j∧p=[(i:Int),(j:Int)]:=by
 unfold WR at h
 obtain ⟨j,b,rfl⟩:=aW.1 h
 rw[bA,bC] at b
 simp only[aH,aY] at b
 exact ⟨j,b.1,b.2.1,rfl⟩
def Qll (q:List Int→Bool):(WR c f i k).filter q=WR c (fun i j=>f i j&&q [(i:Int),(j:Int)]) i k:=by
 unfold WR
 rw[List.filter_map,List.filter_filter]
 congr 1
 apply List.filter_congr
 intro j _
 simp only[Function.comp]
 cases decide (i<j) <;> cases decide (cdA c j=cdA c i) <;> cases f i j <;> simp
def Qkp (q:List Int→Bool):(YZ c f n).filter q=YZ c (fun i j=>f i j&&q [(i:Int),(j:Int)]) n:=by
 induction n with
 | zero=>rfl
 | succ n b=>rw[← V2,← V2,bg,b,Qll]
def QlT (h:∀i j,i<n→j<c.2.1.length→f i j=g i j):YZ c f n=YZ c g n:=by
 induction n with
 | zero=>rfl
 | succ n d=>
  rw[← V2,← V2,d fun i j e b=>h i j (by omega) b]
  congr 1
  unfold WR
  congr 1
  apply List.filter_congr
  intro j b
  rw[bC] at b
  rw[h n j (by omega) b]
end
section
variable {c:DSg}{f:Nat→Nat→Bool}{i:Nat}{m:Int}{u v:BA}
def QC4 (b:m≤(c.2.1.length:Int))(d:¬m<(c.2.1.length:Int)):YZ c f i++WR c f i m.toNat=YZ c f (i+1):=by rw[show m.toNat=c.2.1.length by omega,V2]
def QCS (h:(i:Int)<m)(d:c.2.1[m.toNat]? =some u)(hv:c.2.1[i]? =some v)(e:v=u)(b:f i m.toNat=true):(YZ c f i++WR c f i m.toNat)++[[(i:Int),m]]=YZ c f i++WR c f i (m+1).toNat:=by
 rw[show (m+1).toNat=m.toNat+1 by omega,← Qvy (by omega) d hv e.symm b,aM,show ((m.toNat:Nat):Int)=m by omega]
def QCR (h:(i:Int)<m)(b:c.2.1[m.toNat]? =some u)(hv:c.2.1[i]? =some v)(e:¬v=u):YZ c f i++WR c f i m.toNat=YZ c f i++WR c f i (m+1).toNat:=by
 rw[show (m+1).toNat=m.toNat+1 by omega,← Qys fun g=>e (by rw[← QoN b,← QoN hv];exact g.1.symm)]
end
def Qzk {c:DSg}{i:Nat}{m:Int}{u v:BA}(h:(i:Int)<m)(b:c.2.1[m.toNat]? =some u)(hv:c.2.1[i]? =some v)(e:v=u):(YZ c (fun _ _=>true) i++WR c (fun _ _=>true) i m.toNat)++[[(i:Int),m]]=YZ c (fun _ _=>true) i++WR c (fun _ _=>true) i (m+1).toNat:=QCS h b hv e rfl
def QC5 {c:DSg}{i:Nat}{m:Int}{u v:BA}(h:(i:Int)<m)(b:c.2.1[m.toNat]? =some u)(hv:c.2.1[i]? =some v)(e:¬v=u):YZ c (fun _ _=>true) i++WR c (fun _ _=>true) i m.toNat=YZ c (fun _ _=>true) i++WR c (fun _ _=>true) i (m+1).toNat:=QCR h b hv e
def QHj (c:DSg)(s:BA):Bool:=c.2.2.any fun a=>QFH s a&&Ya c a.2.1
def QDT (f:DAr→Bool)(as_:List DAr)(k:Nat):List Int:=((List.range k).filter fun i=>match as_[i]? with|some a=>f a|none=>false).map fun i=>((i:Nat):Int)
def exL (c:DSg)(q sig:Int)(up:Bool):Bool:=c.2.2.any fun a=>decide (a.1=q∧a.2.1=sig∧a.2.2.1=up)
def QAj (c:DSg)(sig:Int)(up:Bool)(a:DAr):Bool:= !decide (a.2.1=sig)&&(exL c a.1 sig up&& !exL c a.2.2.2 sig up)
def QFI (c:DSg)(sig:Int)(a:DAr):Bool:=QAj c sig false a||QAj c sig true a
abbrev QCY (c:DSg)(sig:Int)(k:Nat):List Int:=QDT (QFI c sig) c.2.2 k
def QFJ (c:DSg)(k:Nat):Int:=((Qt c.1 k).map fun s=>((QCY c s c.2.2.length).length:Int)).sum
def QHl (c:DSg):Int:=QFJ c c.1.length
def QGw (sig:Int)(up:Bool)(l:List Int)(a:DAr):List Int:=if a.2.1=sig∧a.2.2.1=up then Zc ltI a.1 l else l
def exS (sig:Int)(up:Bool)(as_:List DAr):List Int:=as_.foldl (QGw sig up) []
def QAi (c:DSg)(sig:Int)(up:Bool)(l:List Int)(k:Nat):List Int:=(QDT (QAj c sig up) c.2.2 k).foldl (fun l i=>Zc ltI i l) l
def QHm (c:DSg)(sig:Int):Nat→List Int
 | 0=>[]
 | 1=>QAi c sig false [] c.2.2.length
 | _=>QAi c sig true (QAi c sig false [] c.2.2.length) c.2.2.length
section
variable {c:DSg}{as_:List DAr}{a:DAr}{i j k n:Nat}{s:BA}{sig q x y:Int}{up:Bool}{l:List Int}{f g:DAr→Bool}
def QHn (c:DSg)(l:List Int):Int:=(l.map fun s=>((QCY c s c.2.2.length).length:Int)).sum
end
section
variable {c:DSg}{as_:List DAr}{a:DAr}{i j k n:Nat}{s q:Int}{z:Qs}
def Qxr (e:c.2.2[k]? =some a)(b:a.1=q)(d:a.2.1=s):true=Zq c q s:=(bG.2 ⟨a,ah e,ay ⟨b,d⟩⟩).symm
def QAp (e:∀j,j<k→∀a,c.2.2[j]? =some a→¬(a.1=q∧a.2.1=s))(f:c.2.2.length≤k):false=Zq c q s:=(bV.2 fun a d=>by
 obtain ⟨j,b⟩:=aG.1 d
 have:=(ae.1 b).1
 simpa using e j (by omega) a b).symm
end
def Zo (c:Yw)(k:Int)(sig:Int):FC prog 77 [(true,[.dat Qj c.1,.dat Qd c.2.1,.dat Qq c.2.2]),(false,[dI k]),(false,[dI sig])] [] 0 (QJ (lB (Zq c k sig))):=by
 refine Ql func77 rfl rfl ntmps77 fun y p x t A v u=>w_ ?_
 refine xbx 0 ?_
 refine w6 ?_
 refine alL 10 fun _=> ?_
 refine w4 ?_
 refine lpK c.2.2.length (fun i=>∀j,j<i→∀a,c.2.2[j]? =some a→¬(a.1=k∧a.2.1=sig)) (fun i=>⟨[(1,lI k),(2,lI sig),(10,lf (.dat Qq c.2.2)),(11,lI (c.2.2.length:Int)),(12,lI (i:Int))],[]⟩) ((fun j w=>absurd w (aS j))) ?_ fun i _ e=> ?_
 exact wo []
 refine w4 ?_
 cases h:(decide ((i:Int)<(c.2.2.length:Int)))
 have l:=ab h
 refine w7 ?_
 refine fqB p ?_
 first|exact QAp e (by omega)
 have l:=aa h
 refine w5 ?_
 obtain ⟨r,f⟩:=gx c.2.2 i
 refine w2 ?_
 refine lc (xal 1 Yi Yp)<|w8 ?_
 cases m:(decide (r.1=k))
 have o:=ab m
 refine w12 ?_
 exact Qc<|lK_ ((Z5 e f (by first|(exact fun g=>absurd g.1 ‹_›)|(exact fun g=>absurd g.2 ‹_›))))<|wo []
 have o:=aa m
 refine w6 ?_
 cases b:(decide (r.2.1=sig))
 have d:=ab b
 refine w6 ?_
 exact Qc<|lK_ ((Z5 e f (by first|(exact fun g=>absurd g.1 ‹_›)|(exact fun g=>absurd g.2 ‹_›))))<|wo []
 have d:=aa b
 refine w5 ?_
 exact fqB p<|Qxr f ‹_› ‹_›
attribute [local irreducible] TF
abbrev QzS:Type:=Z3×Z3
set_option maxRecDepth 100000
set_option maxHeartbeats 4000000
def inv (h:Int)(a:DAr):Bool:=decide (a.2.1= -1)||decide (a.2.1=h)
inductive Ch (rs:List DAr) (h:Int) (S:Int→Prop):Int→Prop
  | base {u:Int}:S u→Ch rs h S u
  | step {a:DAr}:Ch rs h S a.1→a∈rs→inv h a=true→Ch rs h S a.2.2.2
def stS (h:Int)(S:List Int)(a:DAr):List Int:=if inv h a=true∧a.1∈S then Zc ltI a.2.2.2 S else S
def stP (h:Int)(rs:List DAr)(S:List Int):List Int:=rs.foldl (stS h) S
def stN (h:Int)(rs:List DAr):Nat→List Int→List Int
 | 0,S=>S
 | k+1,S=>stP h rs (stN h rs k S)
def stl (c:DSg)(h:Int)(S:List Int):List Int:=stN h c.2.2 c.2.1.length S
@[reducible] def Srt (S:List Int):Prop:=S.Pairwise fun x y=>ltI x y=true
section
variable {rs as_:List DAr}{a:DAr}{h:Int}{S T_:List Int}{P Q:Int→Prop}{u v:Int}{n k:Nat}
def Ch.mono (e:∀u,P u→Ch rs h Q u)(k:Ch rs h P u):Ch rs h Q u:=by
 induction k with
 | base b=>exact e _ b
 | step _ c d f=>exact .step f c d
theorem Ch.congr (b:∀u,P u↔Q u):Ch rs h P u↔Ch rs h Q u:=⟨Ch.mono fun _ k=> .base ((b _).1 k),Ch.mono fun _ k=> .base ((b _).2 k)⟩
def Qqe (b:u∈S):u∈stS h S a:=by
 unfold stS;split
 ·exact Z2.2 (.inr b)
 ·exact b
def QjK (b:u∈S):u∈stP h as_ S:=by
 induction as_ generalizing S with
 | nil=>exact b
 | cons a l c=>exact c (Qqe b)
def QyI (b:u∈S):u∈stN h rs k S:=by
 induction k with
 | zero=>exact b
 | succ k c=>exact QjK c
def QyK (b:Srt S):Srt (stS h S a):=by
 unfold stS;split
 ·exact KQ Xt b
 ·exact b
def Qqd (b:Srt S):Srt (stP h as_ S):=by
 induction as_ generalizing S with
 | nil=>exact b
 | cons a l c=>exact c (QyK b)
def Jy (b:Srt S):Srt (stN h rs k S):=by
 induction k with
 | zero=>exact b
 | succ k c=>exact Qqd c
def QBR (c:∀a∈as_,a∈rs)(d:∀u∈S,Ch rs h P u):∀u∈stP h as_ S,Ch rs h P u:=by
 induction as_ generalizing S with
 | nil=>exact d
 | cons a l i=>
  refine i (fun b g=>c b (az _ g)) fun u e=> ?_
  unfold stS at e
  split at e
  ·rename_i f
   rcases Z2.1 e with rfl|h2
   ·exact .step (d _ f.2) (c a (aA ..)) f.1
   ·exact d _ h2
  ·exact d _ e
def QvR (b:∀u∈S,Ch rs h P u):∀u∈stN h rs k S,Ch rs h P u:=by
 induction k with
 | zero=>exact b
 | succ k c=>exact QBR (fun _ h=>h) c
def QyJ (c:a∈as_)(hi:inv h a=true)(d:a.1∈S):a.2.2.2∈stP h as_ S:=by
 induction as_ generalizing S with
 | nil=>cases c
 | cons b l e=>
  rcases aK.1 c with rfl|c
  ·refine QjK (as_:=l) ?_
   unfold stS;rw[if_pos ⟨hi,d⟩]
   exact Z2.2 (.inl rfl)
  ·exact e c (Qqe d)
def Qiq (b:Srt S):S.Nodup:=b.imp fun h e=>by subst e;simp[ltI] at h
def Qdv {α:Type}[DecidableEq α]:∀{l m:List α},l.Nodup→(∀x∈l,x∈m)→l.length≤m.length
 | [],_,_,_=>aL _
 | a::l,m,hn,hs=>by
  obtain ⟨d,f⟩:=bP.1 hn
  have b:=hs a (aA ..)
  have g:=Qdv (m:=m.erase a) f fun x c=>(List.mem_erase_of_ne (fun e=>d (by rw[← e];exact c))).2 (hs x (az _ c))
  rw[List.length_erase_of_mem b] at g
  have:=List.length_pos_of_mem b
  rw[av];omega
def QjJ (i:Srt S)(b:∀u∈S,0≤u∧u<(n:Int)):S.length≤n:=by
 have c:(S.map Int.toNat).Nodup:=by
  unfold List.Nodup
  rw[List.pairwise_map]
  exact (Qiq i).imp_of_mem fun f g h e=>h (by have:=b _ f;have:=b _ g;omega)
 have d:(S.map Int.toNat) ⊆ List.range n:=fun x l=>by
  obtain ⟨u,j,rfl⟩:=aW.1 l
  have:=b u j
  exact bC.2 (by omega)
 have:=Qdv c d
 rwa [aC,dh] at this
def Qqc (f:∀a∈rs,0≤a.2.2.2∧a.2.2.2<(n:Int))(e:∀u∈S,0≤u∧u<(n:Int)):∀u∈stN h rs k S,0≤u∧u<(n:Int):=by
 have d:∀u,Ch rs h (fun v=>v∈S) u→0≤u∧u<(n:Int):=fun u c=>by
  induction c with
  | base b=>exact e _ b
  | step _ b _ _=>exact f _ b
 exact fun u c=>d u (QvR (P:=fun v=>v∈S) (fun v g=> .base g) u c)
def QAW (e:Srt S)(i:Srt T_)(b:∀u∈S,u∈T_):T_=S∨S.length<T_.length:=by
 by_cases d:∀x∈T_,x∈S
 ·exact .inl (Xt.ext i e fun x=>⟨d x,b x⟩)
 ·obtain ⟨x,j⟩:=Classical.not_forall.1 d
  obtain ⟨f,g⟩:=Classical.not_imp.1 j
  have:=Qdv (l:=x::S) (m:=T_) (bP.2 ⟨g,Qiq e⟩) fun y c=>by
   rcases aK.1 c with rfl|c
   ·exact f
   ·exact b y c
  rw[av] at this
  exact .inr this
def Qqb (c:Srt S)(b:stP h rs (stN h rs k S)=stN h rs k S):∀j,stN h rs (k+j) S=stN h rs k S
 | 0=>rfl
 | j+1=>by rw[← bX,stN,Qqb c b j,b]
def QvS (c:Srt S):(∃j,j<k∧stP h rs (stN h rs j S)=stN h rs j S)∨S.length+k≤(stN h rs k S).length:=by
 induction k with
 | zero=>exact .inr (aP _)
 | succ k f=>
  rcases f with ⟨j,d,b⟩|d
  ·exact .inl ⟨j,by omega,b⟩
  ·rcases QAW (Jy (h:=h) (rs:=rs) (k:=k) c) (Qqd (Jy c)) (fun u e=>QjK (h:=h) (as_:=rs) e) with b|b
   ·exact .inl ⟨k,by omega,b⟩
   ·right;rw[stN];omega
def QgW (f:Srt S)(p:∀a∈rs,0≤a.2.2.2∧a.2.2.2<(n:Int))(o:∀u∈S,0≤u∧u<(n:Int)):∀u,u∈stN h rs n S↔Ch rs h (fun v=>v∈S) u:=by
 have m:stP h rs (stN h rs n S)=stN h rs n S:=by
  rcases QvS (rs:=rs) (h:=h) (k:=n) f with ⟨j,e,c⟩|e
  ·have b:=Qqb f c (n - j)
   rw[show j+(n - j)=n by omega] at b
   rw[b,c]
  ·have c:=QjJ (Jy (h:=h) (rs:=rs) (k:=n) f) (Qqc p o)
   have b:S=[]:=bF (by omega)
   subst b
   have g:∀(l:List DAr),stP h l []=[]:=fun l=>by
    induction l with
    | nil=>rfl
    | cons a l d=>show stP h l (stS h [] a)=[];rw[show stS h [] a=[] from if_neg (by simp)];exact d
   have i:∀k,stN h rs k []=[]:=fun k=>by
    induction k with
    | zero=>rfl
    | succ k d=>rw[stN,d,g]
   rw[i,g]
 refine fun u=>⟨QvR (fun v r=> .base r) u,fun q=> ?_⟩
 induction q with
 | base e=>exact QyI e
 | step _ c b d=>rw[← m];exact QyJ c b d
def clA (rs:List DAr)(h u:Int)(out:List Int):List Int:=rs.foldl (fun out a=>if a.1=u∧inv h a=true∧¬a.2.2.2∈out then out++[a.2.2.2] else out) out
def clL (rs:List DAr)(h:Int):Nat→Nat→List Int→List Int
 | 0,_,out=>out
 | f+1,k,out=>match out[k]? with
  | none=>out
  | some u=>clL rs h f (k+1) (clA rs h u out)
def QiQ:∃r,clA as_ h u S=S++r:=by
 unfold clA
 induction as_ generalizing S with
 | nil=>exact ⟨[],(bH _).symm⟩
 | cons a l b=>
  rw[bn]
  split
  ·obtain ⟨r,c⟩:=b (S:=S++[a.2.2.2])
   exact ⟨a.2.2.2::r,by rw[c,aM];rfl⟩
  ·exact b
def QqI (b:S.Nodup):(clA as_ h u S).Nodup:=by
 unfold clA
 induction as_ generalizing S with
 | nil=>exact b
 | cons a l d=>
  rw[bn]
  split
  ·rename_i f
   exact d (bz.2 ⟨b,by simp,fun x g y c e=>by rw[aI] at c;subst c;subst e;exact f.2.2 g⟩)
  ·exact d b
def QAa (c:∀a∈as_,a∈rs)(i:Ch rs h P u)(e:∀v∈S,Ch rs h P v):∀v∈clA as_ h u S,Ch rs h P v:=by
 unfold clA
 induction as_ generalizing S with
 | nil=>exact e
 | cons a l j=>
  rw[bn]
  refine j (fun b g=>c b (az _ g)) ?_
  split
  ·rename_i f
   intro v d
   rcases aO.1 d with d|d
   ·exact e v d
   ·rw[aI] at d;subst d
    exact .step (by rw[f.1];exact i) (c a (aA ..)) f.2.1
  ·exact e
def Qw1 (d:a∈as_)(hi:inv h a=true)(i:a.1=u):a.2.2.2∈clA as_ h u S:=by
 induction as_ generalizing S with
 | nil=>cases d
 | cons b l e=>
  rcases aK.1 d with rfl|d
  ·unfold clA
   rw[bn]
   split
   ·obtain ⟨r,c⟩:=QiQ (as_:=l) (h:=h) (u:=u) (S:=S++[a.2.2.2])
    unfold clA at c
    rw[c];simp
   ·rename_i f
    obtain ⟨r,c⟩:=QiQ (as_:=l) (h:=h) (u:=u) (S:=S)
    unfold clA at c
    rw[c]
    exact aU _ (Classical.byContradiction fun g=>f ⟨i,hi,g⟩)
  ·unfold clA at e ⊢
   rw[bn];exact e d
structure ClI (rs:List DAr) (h:Int) (P:Int→Prop) (k:Nat) (out:List Int):Prop where
  nod:out.Nodup
  ch:∀v∈out,Ch rs h P v
  bas:∀v,P v→v∈out
  don:∀(j:Nat) w,j<k→out[j]? =some w→∀a∈rs,a.1=w→inv h a=true→a.2.2.2∈out
  le:k≤out.length
def ClI.zero (e:S.Nodup)(c:∀v,P v↔v∈S):ClI rs h P 0 S:=⟨e,fun v b=> .base ((c v).2 b),fun v b=>(c v).1 b,fun j w d=>absurd d (aS _),aL _⟩
def ClI.step {out:List Int}(g:ClI rs h P k out)(f:out[k]? =some u):ClI rs h P (k+1) (clA rs h u out):=by
 obtain ⟨r,c⟩:=QiQ (as_:=rs) (h:=h) (u:=u) (S:=out)
 have o:=(ae.1 f).1
 refine ⟨QqI g.nod,QAa (fun _ h=>h) (g.ch u (ah f)) g.ch,fun v p=>by rw[c];exact aU _ (g.bas v p),fun j w q b a i e l=> ?_,by rw[c,ai];omega⟩
 by_cases m:j=k
 ·subst m
  have b:out[j]? =some w:=by rw[c,bm o] at b;exact b
  rw[f] at b;cases b
  exact Qw1 i l e
 ·have d:j<out.length:=by omega
  rw[c,bm d] at b
  rw[c];exact aU _ (g.don j w (by omega) b a i e l)
end
def QrA (b:UInt8):Bool:=b==43||b==45
def sgB (up:Bool):BA:=if up=true then ⟨#[43]⟩ else ⟨#[45]⟩
def wdA (c:DSg)(a:DAr):BA:=((c.1[a.2.1.toNat]?).getD (ByteArray.empty,0)).1++sgB a.2.2.1
def tl (t:BA):List UInt8:=t.data.toList
def QFg (l:List UInt8):Prop:=l=[]∨∃l0 s,l=l0++[s]∧QrA s=true
def Qv4 (s t:BA):tl (s++t)=tl s++tl t:=by simp[tl]
end Go.Proofs.YtjfpbcmfbnnooaaGreat
