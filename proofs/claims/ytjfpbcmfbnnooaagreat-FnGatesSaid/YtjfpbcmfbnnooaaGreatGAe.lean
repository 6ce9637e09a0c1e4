/- Abstract states: regions that draw their order: their head's operations in whatever order, each by what it does to the state; then the tail in order. No program is named here. -/
import Derived.Test.YtjfpbcmfbnnooaaGreatGAr
set_option linter.unusedSimpArgs false
set_option linter.unusedVariables false
set_option linter.unusedSectionVars false
namespace Go.Proofs.YtjfpbcmfbnnooaaGreat
open Go.RowKit
structure Item where
  d:Option Nat
  pv:PV
  T:Tab
@[reducible] def Qdr (tm:List (Nat×PV)):Option Nat→PV→List (Nat×PV)
 | some d,pv=>(d,pv)::tm
 | none,_=>tm
def pTm:List Item→(Nat→Bool)→Nat→List (Nat×PV)→List (Nat×PV)
 | [],_,_,acc=>acc
 | it::l,D,k,acc=>pTm l D (k+1) (match D k with
  | true=>Qdr acc it.d it.pv
  | false=>acc)
def pTb:List Item→(Nat→Bool)→Nat→Tab→Tab
 | [],_,_,acc=>acc
 | it::l,D,k,acc=>pTb l D (k+1) (match D k with
  | true=>it.T++acc
  | false=>acc)
@[reducible] def stD (plan:List Item) (s0:St) (D:Nat→Bool):St:=⟨pTm plan D 0 s0.tm,pTb plan D 0 s0.tab⟩
theorem K0 (a:List (Nat×PV))(o:Option Nat)(pv:PV)(t:Nat):lk (Qdr a o pv) t=if o=some t then some pv else lk a t:=by
 cases o with
 | none=>simp[Qdr]
 | some d=>
  grind [XT,Option.some.injEq]
theorem QbG {D c:Nat→Bool}{t:Nat}:∀{l:List Item} {k:Nat} {acc a:List (Nat×PV)},(∀j it,l[j]? =some it→it.d=some t→D (k+j)=c (k+j))→lk acc t=lk a t→lk (pTm l D k acc) t=lk (pTm l c k a) t
 | [],_,_,_,_,h=>h
 | it::l,k,acc,a,hw,h=>by
  refine QbG (l:=l) (k:=k+1) (fun j b f g=> ?_) ?_
  ·have:=hw (j+1) b (by simpa using f) g
   rwa [show k+1+j=k+(j+1) by omega]
  ·by_cases e:it.d=some t
   ·have:=hw 0 it rfl e
    rw[dn] at this
    grind [lk,K0]
   ·grind [lk,K0]
def Eqv (T T':Tab):Prop:=∀q,T.ent q=T'.ent q
def Qu7 (q:Nat)(T:Tab):Bool:=inB q (T.map (·.1))
theorem KK (U T:Tab)(q:Nat):Tab.ent (U++T) q=if q∈U.map (·.1) then U.ent q else T.ent q:=by
 induction U with
 | nil=>simp
 | cons x U a=>
  grind [Qg]
theorem Kr {D c:Nat→Bool}{q:Nat}:∀{l:List Item} {k:Nat} {acc a:Tab},(∀j it,l[j]? =some it→q∈it.T.map (·.1)→D (k+j)=c (k+j))→acc.ent q=a.ent q→(pTb l D k acc).ent q=(pTb l c k a).ent q
 | [],_,_,_,_,h=>h
 | it::l,k,acc,a,hw,h=>by
  refine Kr (l:=l) (k:=k+1) (fun j b e f=> ?_) ?_
  ·have:=hw (j+1) b (by simpa using e) f
   rwa [show k+1+j=k+(j+1) by omega]
  ·by_cases d:q∈it.T.map (·.1)
   ·have:=hw 0 it rfl d
    rw[dn] at this
    grind [KK]
   ·grind [Tab.ent,KK]
def KF (D:Nat→Bool)(i:Nat):Nat→Bool:=fun k=>match Nat.beq k i with
 | true=>true
 | false=>D k
theorem Qa7 (D:Nat→Bool)(i:Nat):KF D i i=true:=by simp[KF]
theorem WI (D:Nat→Bool){i k:Nat}(h:k≠i):KF D i k=D k:=by
 grind [Nat.beq,Nat.eq_of_beq_eq_true,KF]
theorem Qod {D:Nat→Bool}{t:Nat}:∀{l:List Item} {k i:Nat} {it:Item} {acc:List (Nat×PV)},l[i]? =some it→D (k+i)=false→(∀j a,l[j]? =some a→j≠i→D (k+j)=true→a.d≠none→a.d≠it.d)→
 lk (pTm l (KF D (k+i)) k acc) t=lk (Qdr (pTm l D k acc) it.d it.pv) t
 | [],_,_,_,_,h,_,_=>by simp at h
 | x::l,k,0,it,acc,h,g,hd=>by
  have u:x=it:=by simpa using h
  subst u
  have g:D k=false:=g
  show lk (pTm l (KF D k) (k+1) (match KF D k k with|true=>Qdr acc x.d x.pv|false=>acc)) t=lk (Qdr (pTm l D (k+1) (match D k with|true=>Qdr acc x.d x.pv|false=>acc)) x.d x.pv) t
  rw[Qa7,g]
  show lk (pTm l (KF D k) (k+1) (Qdr acc x.d x.pv)) t=lk (Qdr (pTm l D (k+1) acc) x.d x.pv) t
  rw[K0]
  by_cases b:x.d=some t
  ·rw[if_pos b]
   have p:∀(l:List Item) (m:Nat) (acc:List (Nat×PV)),(∀j a,l[j]? =some a→D (m+j)=true→a.d≠some t)→k<m→lk acc t=some x.pv→lk (pTm l (KF D k) m acc) t=some x.pv:=by
    intro l
    induction l with
    | nil=>intro m acc _ _ h;exact h
    | cons y l v=>
     intro m acc q w h
     refine v (m+1) _ (fun j a c e=>q (j+1) a (by simpa using c) (by rwa [show m+(j+1)=m+1+j by omega])) (by omega) ?_
     rw[WI D (show m≠k by omega)]
     cases n:D m with
     | false=>exact h
     | true=>
      have:=q 0 y rfl n
      simp only[K0,if_neg this]
      exact h
   exact p l (k+1) _ (fun j a c e f=>hd (j+1) a (by simpa using c) (by omega) (by rwa [show k+(j+1)=k+1+j by omega]) (by rw[f];simp) (by rw[f,b])) (by omega) (by rw[K0,if_pos b])
  ·rw[if_neg b]
   refine QbG (fun j a c z=>WI D (by omega)) ?_
   simp[K0,b]
 | x::l,k,i+1,it,acc,h,g,hd=>by
  have:=Qod (D:=D) (t:=t) (l:=l) (k:=k+1) (i:=i) (it:=it) (acc:=match D k with|true=>Qdr acc x.d x.pv|false=>acc) (by simpa using h) (by rwa [show k+1+i=k+(i+1) by omega]) fun j a c r e=>hd (j+1) a (by simpa using c) (by omega) (by rwa [show k+(j+1)=k+1+j by omega])
  rw[show k+1+i=k+(i+1) by omega] at this
  show lk (pTm l (KF D (k+(i+1))) (k+1) (match KF D (k+(i+1)) k with|true=>Qdr acc x.d x.pv|false=>acc)) t=_
  rw[WI D (show k≠k+(i+1) by omega)]
  exact this
theorem Qoc {D:Nat→Bool}{q:Nat}:∀{l:List Item} {k i:Nat} {it:Item} {acc:Tab},l[i]? =some it→D (k+i)=false→(∀j a,l[j]? =some a→i<j→D (k+j)=true→q∈it.T.map (·.1)→q∉a.T.map (·.1))→
 (pTb l (KF D (k+i)) k acc).ent q=Tab.ent (it.T++pTb l D k acc) q
 | [],_,_,_,_,h,_,_=>by simp at h
 | x::l,k,0,it,acc,h,e,hd=>by
  have r:x=it:=by simpa using h
  subst r
  have e:D k=false:=e
  show (pTb l (KF D k) (k+1) (match KF D k k with|true=>x.T++acc|false=>acc)).ent q=Tab.ent (x.T++pTb l D (k+1) (match D k with|true=>x.T++acc|false=>acc)) q
  rw[Qa7,e]
  show (pTb l (KF D k) (k+1) (x.T++acc)).ent q=Tab.ent (x.T++pTb l D (k+1) acc) q
  rw[KK]
  by_cases b:q∈x.T.map (·.1)
  ·rw[if_pos b]
   have g:∀(l:List Item) (m:Nat) (acc:Tab),(∀j a,l[j]? =some a→D (m+j)=true→q∉a.T.map (·.1))→k<m→acc.ent q=x.T.ent q→(pTb l (KF D k) m acc).ent q=x.T.ent q:=by
    intro l
    induction l with
    | nil=>intro m acc _ _ h;exact h
    | cons y l t=>
     intro m acc n u h
     refine t (m+1) _ (fun j a d c=>n (j+1) a (by simpa using d) (by rwa [show m+(j+1)=m+1+j by omega])) (by omega) ?_
     rw[WI D (show m≠k by omega)]
     cases f:D m with
     | false=>exact h
     | true=>
      have:=n 0 y rfl f
      simp only[KK,if_neg this]
      exact h
   exact g l (k+1) _ (fun j a d c=>hd (j+1) a (by simpa using d) (by omega) (by rwa [show k+(j+1)=k+1+j by omega]) b) (by omega) (by rw[KK,if_pos b])
  ·grind [Kr,WI,KK]
 | x::l,k,i+1,it,acc,h,e,hd=>by
  have:=Qoc (D:=D) (q:=q) (l:=l) (k:=k+1) (i:=i) (it:=it) (acc:=match D k with|true=>x.T++acc|false=>acc) (by simpa using h) (by rwa [show k+1+i=k+(i+1) by omega]) fun j a d p c=>hd (j+1) a (by simpa using d) (by omega) (by rwa [show k+(j+1)=k+1+j by omega])
  grind [pTb,KF,WI]
theorem Qoe {D:Nat→Bool}{t:Nat}{pv:PV}:∀{l:List Item} {k:Nat} {acc:List (Nat×PV)},lk (pTm l D k acc) t=some pv→(∃j it,l[j]? =some it∧D (k+j)=true∧it.pv=pv)∨lk acc t=some pv
 | [],_,_,h=> .inr h
 | x::l,k,acc,h=>by
  rcases Qoe (l:=l) h with ⟨j,it,a,f,e⟩|a
  ·exact .inl ⟨j+1,it,by simpa using a,by rwa [show k+(j+1)=k+1+j by omega],e⟩
  ·cases b:D k with
   | false=>rw[b] at a;exact .inr a
   | true=>
    rw[b] at a
    simp only[K0] at a
    by_cases c:x.d=some t
    ·rw[if_pos c] at a
     cases a
     exact .inl ⟨0,x,rfl,b,rfl⟩
    ·rw[if_neg c] at a;exact .inr a
theorem QiJ {D:Nat→Bool}{q:Nat}{e:Ent}:∀{l:List Item} {k:Nat} {acc:Tab},(pTb l D k acc).ent q=some e→(∃j it,l[j]? =some it∧D (k+j)=true∧it.T.ent q=some e)∨acc.ent q=some e
 | [],_,_,h=> .inr h
 | x::l,k,acc,h=>by
  rcases QiJ (l:=l) h with ⟨j,it,a,f,d⟩|a
  ·exact .inl ⟨j+1,it,by simpa using a,by rwa [show k+(j+1)=k+1+j by omega],d⟩
  ·cases b:D k with
   | false=>rw[b] at a;exact .inr a
   | true=>
    rw[b] at a
    simp only[KK] at a
    by_cases c:q∈x.T.map (·.1)
    ·rw[if_pos c] at a
     exact .inl ⟨0,x,rfl,b,a⟩
    ·rw[if_neg c] at a;exact .inr a
theorem Rg.ext {A:Amb}{s s':St}{gh:Gh}{a:Act}{w:World}(r:Rg A s gh a w)(l:∀i,lk s'.tm i=lk s.tm i)(d:∀q,s'.tab.ent q=s.tab.ent q):Rg A s' gh a w:=by
 have b:∀q,s'.tab.al q↔s.tab.al q:=fun q=>by unfold Tab.al;rw[d]
 have c:s'.tab.al=s.tab.al:=funext fun q=>propext (b q)
 exact ⟨⟨fun q e h=>by rw[c];exact r.cx.en q e (by rw[← d];exact h),fun q f g j=>r.cx.dj q f ((b q).1 g) ((b f).1 j),fun q h=>r.cx.nd q ((b q).1 h),fun q h=>r.cx.no q ((b q).1 h),r.cx.nl⟩,
  r.sz,r.df,fun i m h=>by rw[c];exact r.tm i m (by rw[← l];exact h),r.gw,r.kp,r.fr,fun q h=>r.ox q ((b q).1 h),fun q k h=>r.hh q k ((b q).1 h),r.xn⟩
def Acts (A:Amb)(P:Program)(ops:Array Oper)(o:Oper)(s s':St):Prop:=∀a w K Q,R A s a w→(∀a' w',R A s' a' w'→K a' w')→if Region.wanted o (yielded ops a.tmps)=true then o.wp P a w K Q else K (a.put o.dst undef) w
section
variable {A:Amb}{P:Program}{ops:Array Oper}{o:Oper}{s s':St}
theorem Acts.of (c:o.guard=none)(h:Does A P o s s'):Acts A P ops o s s':=fun a w K Q r b=>by
 rw[if_pos (by simp[Region.wanted,c])]
 exact h a w K Q r b
theorem Qqx {j d:Nat}{b:Bool}(i:o.guard=some (j,b))(g:(ops[j]?).bind (·.dst)=some d)(hb:lk s.tm d=some (lf (dB b)))(h:Does A P o s s'):Acts A P ops o s s':=fun a w K Q r f=>by
 obtain ⟨e,c⟩:=r
 rw[if_pos (by simp[Region.wanted,i,K4 g hb c])]
 exact h a w K Q ⟨e,c⟩ f
theorem QtK {j d c:Nat}{b:Bool}(i:o.guard=some (j,b))(h:(ops[j]?).bind (·.dst)=some d)(hb:lk s.tm d=some (lf (dB (!b))))(l:o.dst=some c)(k:Nat.blt c A.n=true):Acts A P ops o s (s.put c (lf (.val undef))):=fun a w K Q r g=>by
 obtain ⟨f,e⟩:=r
 rw[if_neg (by simp[Region.wanted,i,K4 h hb e]),l]
 exact g _ _ ⟨f,e.put (aE k) (pv:=lf (.val undef)) ⟨_,rfl,rfl⟩⟩
end
@[reducible] def QrB (deps:List (List Nat)) (i:Nat):Nat→Bool:=fun k=>inB k (deps.getD i [])
def QeE (ops:Array Oper)(deps:List (List Nat))(n:Nat):Bool:=(List.range n).all fun i=>match ops[i]? with
 | some o=>(deps.getD i []).all fun k=>o.after.toList.any fun e=>Region.binds .any e&&(Nat.beq e.on k||inB k (deps.getD e.on []))
 | none=>false
def Qf1 (plan:List Item)(deps:List (List Nat)):Bool:=(List.range plan.length).all fun i=>(List.range plan.length).all fun j=>match plan[i]?,plan[j]? with
 | some a,some b=>(Nat.beq i j||(match a.d,b.d with
  | some x,some y=> !(Nat.beq x y)
  | _,_=>true))&&(!(Nat.blt i j)||inB i (deps.getD j [])||(a.T.map (·.1)).all fun q=> !(Qu7 q b.T))
 | _,_=>false
def Qwp (plan:List Item)(deps:List (List Nat))(i t:Nat):Bool:=(List.range plan.length).all fun j=>match plan[j]? with
 | some it=>(match it.d with
  | some d=> !(Nat.beq d t)
  | none=>true)||inB j (deps.getD i [])||inB i (deps.getD j [])
 | none=>false
def QyU (plan:List Item)(deps:List (List Nat))(i q:Nat):Bool:=(List.range plan.length).all fun j=>match plan[j]? with
 | some it=> !(Qu7 q it.T)||inB j (deps.getD i [])||Nat.beq j i||inB i (deps.getD j [])
 | none=>false
def QyT (plan:List Item)(deps:List (List Nat))(i q j:Nat):Bool:=(List.range plan.length).all fun m=>match plan[m]? with
 | some it=> !(Qu7 q it.T)||inB m (deps.getD i [])||Nat.beq m i||inB i (deps.getD m [])||Nat.beq m j
 | none=>false
@[reducible] def QyQ (deps:List (List Nat)) (i j:Nat):Nat→Bool:=fun k=>inB k (deps.getD i [])||Nat.beq k j
def QzD (plan:List Item)(deps:List (List Nat))(s0:St)(i q:Nat):Bool:=Qmt s0 q&&(List.range plan.length).all fun j=>match plan[j]? with
 | some it=>Nat.beq j i||inB i (deps.getD j [])|| !(inB q (it.pv.tags++ZS it.T))
 | none=>false
structure At (plan:List Item) (deps:List (List Nat)) (s0:St) (i:Nat) (s:St):Prop where
  tm:∀t,Qwp plan deps i t=true→lk s.tm t=lk (pTm plan (QrB deps i) 0 s0.tm) t
  en:∀q,QyU plan deps i q=true→s.tab.ent q=(pTb plan (QrB deps i) 0 s0.tab).ent q
  fr:∀q,QzD plan deps s0 i q=true→Fresh s q
  en2:∀q j,QyT plan deps i q j=true→s.tab.ent q=(pTb plan (QrB deps i) 0 s0.tab).ent q∨s.tab.ent q=(pTb plan (QyQ deps i j) 0 s0.tab).ent q
section
variable {A:Amb}{P:Program}{plan:List Item}{deps:List (List Nat)}{s0:St}
theorem Qio {q:Nat}{l:List Nat}:inB q l=true↔q∈l:=by
 induction l with
 | nil=>simp[inB]
 | cons r b a=>
  grind [inB,Nat.beq,Nat.eq_of_beq_eq_true,Nat.beq_refl]
theorem QbA {q:Nat}{T:Tab}:Qu7 q T=true↔q∈T.map (·.1):=Qio
theorem YK {n i:Nat}{f:Nat→Bool}(h:(List.range n).all f=true)(hi:i<n):f i=true:=au.1 h i (bH.2 hi)
theorem Qys {D:Nat→Bool}(g:∀k,k<plan.length→D k=true→∀j,inB j (deps.getD k [])=true→D j=true){i:Nat}(hi:i<plan.length)(c:D i=false)(f:∀j,inB j (deps.getD i [])=true→D j=true):At plan deps s0 i (stD plan s0 D):=by
 refine ⟨fun t G=>QbG (fun j n x l=> ?_) rfl,fun q y=>Kr (fun j n x l=> ?_) rfl,fun q y=> ?_,fun q j y=> ?_⟩
 ·have p:j<plan.length:=(ai.1 x).1
  have a:=YK G p
  simp only[x,l,dl,Bool.not_true,Bool.false_or,ci] at a
  grind
 ·have p:j<plan.length:=(ai.1 x).1
  have a:=YK y p
  simp only[x,QbA.2 l,Bool.not_true,Bool.false_or,ci] at a
  rw[bw]
  rcases a with (a|a)|a
  ·exact (f j a).trans a.symm
  ·have a:=aZ a
   subst a
   show D j=inB j (deps.getD j [])
   cases b:inB j (deps.getD j []) with
   | true=>rw[f j b]
   | false=>exact c
  ·grind
 ·simp only[QzD,aM] at y
  have C:=Fresh.of y.1
  have E:∀j n,plan[j]? =some n→D j=true→q∉n.pv.tags++ZS n.T:=fun j n x d u=>by
   have p:j<plan.length:=(ai.1 x).1
   have a:=YK y.2 p
   simp only[x,ci,bT] at a
   rcases a with (a|a)|a
   ·rw[aZ a,c] at d;cases d
   ·have:=g j p d i a;rw[c] at this;cases this
   ·exact QfD a u
  refine ⟨fun t H h u=> ?_,fun r e h u=> ?_,fun ⟨e,h⟩=> ?_⟩
  ·rcases Qoe h with ⟨j,n,a,b,rfl⟩|a
   ·exact E j n a (by simpa using b) (aS _ u)
   ·exact C.tm t H a u
  ·rcases QiJ h with ⟨j,n,a,b,z⟩|a
   ·exact E j n a (by simpa using b) (aW _ ((Zw z).2 q u))
   ·exact C.en r e a u
  ·rcases QiJ h with ⟨j,n,a,b,z⟩|a
   ·exact E j n a (by simpa using b) (aW _ (Zw z).1)
   ·exact C.al ⟨e,a⟩
 ·have F:inB i (deps.getD i [])=false:=by
   cases b:inB i (deps.getD i []) with
   | true=>have:=f i b;rw[c] at this;cases this
   | false=>rfl
  cases d:D j with
  | false=>
   refine .inl (Kr (fun m n u l=> ?_) rfl)
   have w:m<plan.length:=(ai.1 u).1
   have a:=YK y w
   simp only[u,QbA.2 l,Bool.not_true,Bool.false_or,ci] at a
   rw[bw]
   have v:D m=false→D m=inB m (deps.getD i []):=fun h=>by
    cases b:inB m (deps.getD i []) with
    | true=>have:=f m b;rw[h] at this;cases this
    | false=>exact h
   rcases a with ((a|a)|a)|a
   ·exact (f m a).trans a.symm
   ·have a:=aZ a
    subst a
    exact v c
   ·refine v ?_
    cases b:D m with
    | true=>have:=g m w b i a;rw[c] at this;cases this
    | false=>rfl
   ·have a:=aZ a
    subst a
    exact v d
  | true=>
   refine .inr (Kr (fun m n u l=> ?_) rfl)
   have w:m<plan.length:=(ai.1 u).1
   have a:=YK y w
   simp only[u,QbA.2 l,Bool.not_true,Bool.false_or,ci] at a
   rw[bw]
   have v:D m=false→D m=(inB m (deps.getD i [])||Nat.beq m j):=fun h=>by
    rw[h]
    cases b:inB m (deps.getD i []) with
    | true=>have:=f m b;rw[h] at this;cases this
    | false=>
     cases z:Nat.beq m j with
     | true=>have z:=aZ z;subst z;rw[d] at h;cases h
     | false=>rfl
   rcases a with ((a|a)|a)|a
   ·show D m=(inB m (deps.getD i [])||Nat.beq m j)
    rw[f m a,a];rfl
   ·have a:=aZ a
    subst a
    exact v c
   ·refine v ?_
    cases b:D m with
    | true=>have:=g m w b i a;rw[c] at this;cases this
    | false=>rfl
   ·have B:=aZ a
    subst B
    show D m=(inB m (deps.getD i [])||Nat.beq m m)
    rw[d,dl,Bool.or_true]
@[reducible] def Qa6 (s:St) (it:Item):St:=⟨Qdr s.tm it.d it.pv,it.T++s.tab⟩
theorem QkC {ops:Array Oper}{Q:Exit→Act→World→Prop}(hn:ops.size=plan.length)(hd:QeE ops deps plan.length=true)(hp:Qf1 plan deps=true)(hH:Qbx ops plan.length=true)
 (H:∀i o it,ops[i]? =some o→plan[i]? =some it→∀s,At plan deps s0 i s→Acts A P ops o s (Qa6 s it))
 (hQ : ∀ a w,R A (stD plan s0 fun _ => true) a w → Q .normal a w) : ∀ (f : Nat) (b : Array Bool) (a : Act) (w : World),b.size = plan.length → ((List.range plan.length).filter fun i => !(b.getD i true)).length ≤ f →
  (∀k,k<plan.length→b.getD k false=true→∀j,inB j (deps.getD k [])=true→b.getD j false=true)→R A (stD plan s0 fun k=>b.getD k false) a w→wpAnyH P .any ops Q (fun _=>True) f b a w:=by
 have z:∀(b:Array Bool) (a:Act) (w:World),b.size=plan.length→Region.ready .any ops b=[]→R A (stD plan s0 fun k=>b.getD k false) a w→Q .normal a w:=fun b a w G T r=>by
  have b1:=QkM (ops:=ops) (n:=plan.length) hH G (fun i L h=>by
   rw[hn,Nat.sub_self,Array.replicate_zero,Array.append_empty] at h
   rw[T] at h;cases h) (by omega)
  refine hQ a w ?_
  obtain ⟨gh,r⟩:=r
  have e:∀k,k<plan.length→b.getD k false=true:=fun k hk=>by
   grind
  refine ⟨gh,r.ext (fun t=>QbG (fun j it m _=> ?_) rfl) fun q=>Kr (fun j it m _=> ?_) rfl⟩
  ·rw[bw,e j (ai.1 m).1]
  ·rw[bw,e j (ai.1 m).1]
 have a4:∀(b:Array Bool) (a:Act) (w:World) (i:Nat) (K:Act→World→Prop),b.size=plan.length→
  (∀k,k<plan.length→b.getD k false=true→∀j,inB j (deps.getD k [])=true→b.getD j false=true)→R A (stD plan s0 fun k=>b.getD k false) a w→i∈Region.ready .any ops b→
  (∀N U,(∀k,k<plan.length→(b.setIfInBounds i true).getD k false=true→∀j,inB j (deps.getD k [])=true→(b.setIfInBounds i true).getD j false=true)→R A (stD plan s0 fun k=>(b.setIfInBounds i true).getD k false) N U→K N U)→wpOp P ops Q i K a w:=fun b a w i K G c r L hK=>by
  obtain ⟨b0,o,F,J⟩:=mem_ready.1 L
  have a0:i<ops.size:=(bX.1 F).1
  have u:i<plan.length:=by omega
  have B:b.getD i false=false:=by
   have:i<b.size:=by omega
   simpa [this] using b0
  have Y:∀j,inB j (deps.getD i [])=true→b.getD j false=true:=fun j m=>by
   have v:=YK hd u
   simp only[F] at v
   have p:=au.1 v j (Qio.1 m)
   obtain ⟨e,he,O⟩:=bu.1 p
   simp only[aM,ci] at O
   have h4:=J e (by simpa using he) O.1
   rcases O.2 with h5|h5
   ·rw[← aZ h5];exact h4
   ·have h6:e.on<plan.length:=by
     have h7:=YK hH u
     simp only[F,aM,Array.all_eq_true_iff_forall_mem,ci,bT,aU] at h7
     have:=h7.1 e (by simpa using he)
     rw[O.1] at this
     have h8:e.on<i:=by simpa using this
     omega
    exact c e.on h6 h4 j h5
  have y:plan[i]? =some plan[i]:=ao u
  have a6:=Qys (s0:=s0) (D:=fun k=>b.getD k false) c u B Y
  have W:=H i o plan[i] F y _ a6
  have I:∀k,(b.setIfInBounds i true).getD k false=KF (fun k=>b.getD k false) i k:=fun k=>by
   by_cases e:k=i
   ·subst e
    rw[Qa7]
    have:k<b.size:=by omega
    simp[this]
   ·rw[WI _ e]
    simp only[bU]
    rw[Array.getElem?_setIfInBounds_ne (fun h=>e h.symm)]
  unfold wpOp
  simp only[F]
  have g:=W a w K Q r fun N U r'=>by
   refine hK N U (fun k hk h j m=> ?_) ?_
   ·rw[I] at h ⊢
    by_cases e:k=i
    ·subst e
     have:=Y j m
     by_cases V:j=k
     ·rw[V,Qa7]
     ·rw[WI _ V];exact this
    ·rw[WI _ e] at h
     have:=c k hk h j m
     by_cases V:j=i
     ·rw[V,Qa7]
     ·rw[WI _ V];exact this
   ·obtain ⟨gh,r'⟩:=r'
    have Z:(fun k=>(b.setIfInBounds i true).getD k false)=KF (fun k=>b.getD k false) i:=funext I
    rw[Z]
    refine ⟨gh,r'.ext (fun t=> ?_) fun q=> ?_⟩
    ·have:=Qod (D:=fun k=>b.getD k false) (t:=t) (l:=plan) (k:=0) (i:=i) (acc:=s0.tm) y (by simpa using B) fun j jt m a9 _ a2 a1=>by
      have E:j<plan.length:=(ai.1 m).1
      have v:=YK (YK hp u) E
      simp only[y,m,aM,ci] at v
      rcases v.1 with p|p
      ·exact a9 (aZ p).symm
      ·cases X:plan[i].d with
       | none=>rw[a1,X] at a2;exact a2 rfl
       | some x=>
        rw[a1,X] at p
        simp at p
     rw[bw] at this
     exact this
    ·have:=Qoc (D:=fun k=>b.getD k false) (q:=q) (l:=plan) (k:=0) (i:=i) (acc:=s0.tab) y (by simpa using B) fun j jt m M a5 S a8=>by
      have E:j<plan.length:=(ai.1 m).1
      have v:=YK (YK hp u) E
      simp only[y,m,aM,ci,bT] at v
      rcases v.2 with (p|p)|p
      ·have O:Nat.blt i j=true:=cI M
       rw[O] at p;cases p
      ·have:=c j E (by simpa using a5) i p
       rw[B] at this;cases this
      ·have:=au.1 p q S
       rw[QbA.2 a8] at this
       cases this
     rw[bw] at this
     exact this
  by_cases hw:Region.wanted o (yielded ops a.tmps)=true
  ·rw[if_pos hw] at g ⊢
   exact .inl g
  ·rw[if_neg hw] at g ⊢
   exact g
 intro f
 induction f with
 | zero=>
  intro b a w G hc c r
  have T:Region.ready .any ops b=[]:=by
   refine List.eq_nil_iff_forall_not_mem.2 fun i L=> ?_
   obtain ⟨v,o,F,_⟩:=mem_ready.1 L
   have a0:i<ops.size:=(bX.1 F).1
   have S:i∈(List.range plan.length).filter fun i=> !(b.getD i true):=bP.2 ⟨bH.2 (by omega),by rw[v];rfl⟩
   rw[bi (by omega:((List.range plan.length).filter fun i=> !(b.getD i true)).length=0)] at S
   cases S
  exact ⟨T,z b a w G T r⟩
 | succ f ih=>
  intro b a w G hc c r
  refine ⟨fun T=>z b a w G T r,fun i L=> ?_⟩
  refine a4 b a w i _ G c r L fun N U C r'=>⟨trivial,ih _ N U (by simpa using G) ?_ C r'⟩
  obtain ⟨v,o,F,_⟩:=mem_ready.1 L
  have a0:i<ops.size:=(bX.1 F).1
  have M:i<b.size:=by omega
  have a3:((List.range plan.length).filter fun k=> !((b.setIfInBounds i true).getD k true))=((List.range plan.length).filter fun k=> !(b.getD k true)).filter fun k=>decide (k≠i):=by
   rw[List.filter_filter]
   refine List.filter_congr fun k hk=> ?_
   by_cases e:k=i
   ·subst e;simp[M]
   ·simp only[bU]
    rw[Array.getElem?_setIfInBounds_ne (fun h=>e h.symm)]
    simp[e]
  have S:i∈(List.range plan.length).filter fun k=> !(b.getD k true):=bP.2 ⟨bH.2 (by omega),by rw[v];rfl⟩
  have b2:(((List.range plan.length).filter fun k=> !(b.getD k true)).filter fun k=>decide (k≠i)).length<((List.range plan.length).filter fun k=> !(b.getD k true)).length:=by
   refine Nat.lt_of_le_of_ne (cq _ _) fun a7=> ?_
   have:=List.length_filter_eq_length_iff.1 a7 i S
   simp at this
  rw[a3]
  omega
theorem R.drew {s:St}{a:Act}{w:World}(r:R A s a w):R A s a w.drew:=by
 obtain ⟨c,r⟩:=r
 exact ⟨c,by
  have h:=r.step (T:=s.tab) (gh':=c) (w':=w.drew) ⟨fun q e h=>(r.cx.en q e h).mono (fun _ _ h=>⟨h,rfl⟩) (fun g b=>⟨b,rfl⟩) rfl rfl fun _ _=>rfl,r.cx.dj,r.cx.nd,r.cx.no,r.cx.nl⟩ (fun q h=> .inl ⟨h,rfl,fun _=>rfl⟩) (fun g b=>⟨b,rfl⟩) ⟨rfl,rfl,rfl,aO _⟩ (fun _ _ _=>rfl) (fun g b=> .inl b) fun q d g b=> .inr ⟨q,d,b⟩
  exact h⟩
theorem QtG {id:Nat}{l:List Oper}{Q:Exit→St→Prop}(plan:List Item)(deps:List (List Nat))(u:P.follows .mixedOrders=true)(g:l.length=plan.length)(d:(QeE l.toArray deps plan.length&&Qf1 plan deps&&Qbx l.toArray plan.length)=true)
 (H:∀i o it,l[i]? =some o→plan[i]? =some it→∀s,At plan deps s0 i s→Acts A P l.toArray o s (Qa6 s it)) (k:Q .normal (stD plan s0 fun _=>true)):AC A P (.region id l.toArray true) Q s0:=fun a w r=>by
 simp only[aM] at d
 refine wp_region_held (S:=fun _=>True) u (QkC (s0:=s0) (by simpa using g) d.1.1 d.1.2 d.2 (fun i o it v f=>H i o it (by simpa using v) f) (fun a w r=>⟨_,k,r⟩) _ _ a _ (by simpa using g) ?_ ?_ ?_)
 ·refine bh (cq _ _) ?_
  simp[g]
 ·intro j y h
  simp[bU,Array.getElem?_replicate] at h
  split at h <;> simp at h
 ·have n:=r.drew
  obtain ⟨p,n⟩:=n
  have e:∀j,(Array.replicate l.toArray.size false).getD j false=false:=fun j=>by
   simp only[bU,Array.getElem?_replicate]
   split <;> rfl
  refine ⟨p,n.ext (fun t=> ?_) fun q=> ?_⟩
  ·show lk (pTm plan _ 0 s0.tm) t=lk s0.tm t
   have:∀(l:List Item) (k:Nat) (b:List (Nat×PV)) (D:Nat→Bool),(∀j,D j=false)→pTm l D k b=b:=by
    intro l
    induction l with
    | nil=>intro k b D _;rfl
    | cons x l m=>intro k b D c;show pTm l D (k+1) _=b;rw[c k];exact m _ _ _ c
   rw[this _ _ _ _ e]
  ·show (pTb plan _ 0 s0.tab).ent q=s0.tab.ent q
   have:∀(l:List Item) (k:Nat) (b:Tab) (D:Nat→Bool),(∀j,D j=false)→pTb l D k b=b:=by
    intro l
    induction l with
    | nil=>intro k b D _;rfl
    | cons x l m=>intro k b D c;show pTb l D (k+1) _=b;rw[c k];exact m _ _ _ c
   rw[this _ _ _ _ e]
end
section
variable {A:Amb}{P:Program}{s:St}{x y z:Operand}{d:Nat}{T T' ty:TypeId}{pos:String}{af:Array Edge}{g:Option (Nat×Bool)}
theorem Qel {c:Bool×List LV}(h:Evl A s x (dB true))(i:Ev A s y c)(f:Nat.blt d A.n=true):Does A P ⟨some d,.pick x y z,ty,pos,af,g⟩ s (s.put d (.cm c.1 c.2)):=
 Qi rfl f fun e a w r=>⟨a.eval y,by
  simp only[execOp,h.b r,asBool,aw,aY,aG,if_true],i e a w r⟩
theorem Qek {c:Bool×List LV}(h:Evl A s x (dB false))(i:Ev A s z c)(f:Nat.blt d A.n=true):Does A P ⟨some d,.pick x y z,ty,pos,af,g⟩ s (s.put d (.cm c.1 c.2)):=
 Qi rfl f fun e a w r=>⟨a.eval z,by
  simp only[execOp,h.b r,asBool,aw,aY,aG,if_false,cd],i e a w r⟩
def Qhb (offs:List (Nat×Nat)):List LV→List (Nat×List LV)→Option (List LV)
 | cs,[]=>some cs
 | cs,(i,ls)::rest=>match offs[i]? with
  | some (off,sz)=>match Nat.beq ls.length sz&&Nat.ble (off+sz) cs.length with
   | true=>Qhb offs (splice cs off ls) rest
   | false=>none
  | none=>none
def bld (P:Program)(T:TypeId)(offs:List (Nat×Nat))(t:Ty):Prop:=
 ∃fs,P.underlying T=some (.struct fs)∧(∀w,(fs.mapM fun (f:Field)=>do pure (f.offset,← sizeOf f.type)).run P w= .ok offs.toArray w)∧zer P T=some (.agg t.zeros.toArray)
def plB (P:Program):List Field→List (Nat×Nat)→Bool
 | [],[]=>true
 | f::fs,(o,s)::ps=>Nat.beq f.offset o&&(match P.info? f.type with
  | some i=>Nat.beq i.size s
  | none=>false)&&plB P fs ps
 | _,_=>false
theorem QaN {P:Program}{w:World}:∀{b:List Field} {offs:List (Nat×Nat)},plB P b offs=true→(b.mapM fun (f:Field)=>(do pure (f.offset,← sizeOf f.type):Sem (Nat×Nat))).run P w= .ok offs w
 | [],[],_=>by simp
 | [],_::_,h=>by cases h
 | _::_,[],h=>by cases h
 | f::b,(o,s)::ps,h=>by
  simp only[plB,aM] at h
  have j:=aZ h.1.1
  have e:=QaN (P:=P) (w:=w) h.2
  have a:=h.1.2
  cases c:P.info? f.type with
  | none=>rw[c] at a;cases a
  | some i=>
   rw[c] at a
   have l:=aZ a
   subst j;subst l
   simp only[List.mapM_cons,aw,sizeOf,typeInfo,c,aY,aG,run_program]
   simp only[sizeOf,typeInfo] at e
   rw[e]
   simp
theorem Y2 {P:Program}{T:TypeId}{a:List Field}{offs:List (Nat×Nat)}{t:Ty}(c:P.underlying T=some (.struct a.toArray))(b:plB P a offs=true)(e:zer P T=some (.agg t.zeros.toArray)):bld P T offs t:=
 ⟨_,c,fun w=>by
  rw[List.mapM_toArray]
  have:=QaN (P:=P) (w:=w) b
  simp only[map_eq_pure_bind,aw,this,aG,aY],e⟩
theorem Qbw {al:Nat→Prop}{gh:Gh}{w:World}{offs:List (Nat×Nat)}:∀{ps:List (Nat×List LV)} {vs:List Value} {cs ls:List LV} {cur:Array Value},Qhb offs cs ps=some ls→vs.length=ps.length→
 (∀(i:Nat) (p:Nat×List LV) (v:Value),ps[i]? =some p→vs[i]? =some v→∃us,v.cells=us.toArray∧LVs al gh w p.2 us)→LVs al gh w cs cur.toList→
 ∃b,Instr.fill (offs.toArray[·]?) cur ((ps.map (·.1)).zip vs)=some b∧LVs al gh w ls b.toList
 | [],vs,cs,ls,cur,h,hl,_,hc=>by
  have:vs=[]:=bi (by simpa using hl)
  subst this
  cases h
  exact ⟨cur,rfl,hc⟩
 | (i,l)::ps,[],_,_,_,_,hl,_,_=>by simp at hl
 | (i,l)::ps,v::vs,cs,ls,cur,h,hl,hv,hc=>by
  obtain ⟨us,D,H⟩:=hv 0 (i,l) v rfl rfl
  unfold Qhb at h
  cases u:offs[i]? with
  | none=>rw[u] at h;cases h
  | some p=>
   obtain ⟨a,q⟩:=p
   rw[u] at h
   simp only at h
   cases m:Nat.beq l.length q&&Nat.ble (a+q) cs.length with
   | false=>rw[m] at h;cases h
   | true=>
    rw[m] at h
    simp only[aM] at m
    have M:=aZ m.1
    have N:=aE m.2
    have f:LVs al gh w l us:=H
    have Q:=f.len
    have C:=hc.len
    have o:=hc.splice f (off:=a)
    have E:=Qhm us a cur 0 (by simp at C;omega)
    generalize I:List.foldl (fun (cs:Array Value) (p:Value×Nat)=>cs.setIfInBounds (a+p.2) p.1) cur (us.zipIdx 0)=F at E
    have r:F.toList=cur.toList.take a++us++cur.toList.drop (a+us.length):=by simpa using E
    rw[← r] at o
    obtain ⟨b,K,L⟩:=Qbw (ps:=ps) (vs:=vs) h (by simpa using hl) (fun j p v J B=>hv (j+1) p v (by simpa using J) (by simpa using B)) o
    refine ⟨b,?_,L⟩
    have n:v.cells.size=q:=by rw[D];simp;omega
    have G:a+v.cells.size≤cur.size:=by rw[n];simp at C;omega
    show (match offs.toArray[i]? with
     | none=>none
     | some (a,size)=>if (decide (v.cells.size≠size)||decide (a+v.cells.size > cur.size))=true then none else Instr.fill _ (v.cells.zipIdx.foldl (fun cs (x:Value×Nat)=>match x with|(c,j)=>cs.setIfInBounds (a+j) c) cur) _)=some b
    rw[show offs.toArray[i]? =some (a,q) by simpa using u]
    have e:(decide (v.cells.size≠q)||decide (a+v.cells.size > cur.size))=false:=by
     simp only[de,decide_eq_false_iff_not,ne_eq,Decidable.not_not,Nat.not_lt]
     exact ⟨n,by omega⟩
    have t:v.cells.zipIdx.foldl (fun cs (x:Value×Nat)=>match x with|(c,j)=>cs.setIfInBounds (a+j) c) cur=F:=by
     rw[← I,← Array.foldl_toList,Array.toList_zipIdx,D]
    simp only[e,t]
    exact K
theorem Qk {t:Ty}{offs:List (Nat×Nat)}{f:Array (Nat×Operand)}{j:List (Bool×List LV)}{ls:List LV}(hb:bld P T offs t)(hv:EvL A s (f.toList.map (·.2)) j)(u:∀c∈j,Zj s.tab c.2=true)
 (hf:Qhb offs t.zlv ((f.toList.map (·.1)).zip (j.map (·.2)))=some ls) (hn:Nat.blt d A.n=true):Does A P ⟨some d,.build T f,ty,pos,af,g⟩ s (s.put d (ag ls)):=
 Qi rfl hn fun F a w r=>by
  obtain ⟨fs,V,W,J⟩:=hb
  have G:=hv.cms r
  have S:=G.len
  generalize R:(f.toList.map (·.2)).map a.eval=B at*
  have a0:f.toList.length=B.length:=by rw[← R];simp
  have o:∀(E:List (Bool×List LV)) (B:List Value),CmsR s.tab.al F w E B→(∀c∈E,Zj s.tab c.2=true)→∀(i:Nat) (c:Bool×List LV) (v:Value),E[i]? =some c→B[i]? =some v→∃U,v.cells=U.toArray∧LVs s.tab.al F w c.2 U:=by
   intro E
   induction E with
   | nil=>intro B _ _ i c v h;simp at h
   | cons c E L=>
    rintro B ⟨v,N,rfl,H,M⟩ u i I v' D m
    cases i with
    | zero=>
     simp at D m
     subst D;subst m
     have D:=u c (aB ..)
     obtain ⟨b,ls⟩:=c
     exact CmR.cells H fun hb=>by
      subst hb
      obtain ⟨l,rfl,q1⟩:=H
      simp only[Zj,cW] at D
      obtain ⟨J,X⟩:=WN D
      exact q1.oneCell X J fun q ⟨e,he⟩=>(r.cx.en q e he).oneCell
    | succ i=>exact L N M (fun c D=>u c (aA _ D)) i I v' (by simpa using D) (by simpa using m)
  have K:((f.toList.map (·.1)).zip (j.map (·.2))).length=B.length:=by rw[List.length_zip,aH,aH];omega
  obtain ⟨C,H,M⟩:=Qbw (al:=s.tab.al) (gh:=F) (w:=w) (cur:=t.zeros.toArray) hf K.symm (fun i p v hp m=>by
   have hi:=List.getElem?_zip_eq_some.1 hp
   have Q:=hi.2
   rw[bn] at Q
   obtain ⟨I,Y,Z⟩:=cA.1 Q
   rw[← Z]
   exact o j B G u i I v Y m) (by simpa using Wu s.tab.al F w t)
  refine ⟨.agg C,?_,C.toList,by simp,M⟩
  have hz:(((f.toList.map (·.1)).zip (j.map (·.2))).map (·.1)).zip B=(f.map fun p=>(p.1,a.eval p.2)).toList:=by
   rw[List.map_fst_zip (by rw[aH,aH];omega),cY,← R,du]
   generalize f.toList=pl
   induction pl with
   | nil=>rfl
   | cons p ps L=>simp[L]
  rw[hz] at H
  simp only[execOp,Instr.build,aw,XP J,aG,run_underlying V,W,Value.cells]
  rw[H]
  simp
end
def ActsL (A:Amb)(P:Program)(ops:Array Oper)(plan:List Item)(deps:List (List Nat))(s0:St):List Oper→List Item→Nat→Prop
 | o::l,it::p,i=>(∀s,At plan deps s0 i s→Acts A P ops o s (Qa6 s it))∧ActsL A P ops plan deps s0 l p (i+1)
 | [],_,_=>True
 | _::_,[],_=>True
theorem ActsL.get {A:Amb}{P:Program}{ops:Array Oper}{b:List Item}{a:List (List Nat)}{s0:St}:∀{l:List Oper} {p:List Item} {k:Nat},ActsL A P ops b a s0 l p k→∀i o it,l[i]? =some o→p[i]? =some it→∀s,At b a s0 (k+i) s→Acts A P ops o s (Qa6 s it)
 | [],_,_,_,i,o,it,h,_=>by simp at h
 | _::_,[],_,_,i,o,it,_,h=>by simp at h
 | o'::l,it'::p,k,⟨h1,h2⟩,0,o,it,ho,hi=>by
  simp at ho hi
  subst ho;subst hi
  exact h1
 | o'::l,it'::p,k,⟨h1,h2⟩,i+1,o,it,ho,hi=>by
  have:=ActsL.get h2 i o it (by simpa using ho) (by simpa using hi)
  rwa [show k+1+i=k+(i+1) by omega] at this
theorem Qed {A:Amb}{P:Program}{s0:St}{id:Nat}{l:List Oper}{Q:Exit→St→Prop}(a:List Item)(b:List (List Nat))(f:P.follows .mixedOrders=true)(h:l.length=a.length)(c:(QeE l.toArray b a.length&&Qf1 a b&&Qbx l.toArray a.length)=true)
 (H:ActsL A P l.toArray a b s0 l a 0) (k:Q .normal (stD a s0 fun _=>true)):AC A P (.region id l.toArray true) Q s0:=
 QtG a b f h c (fun i o m j e s n=>ActsL.get H i o m j e s (by rwa [bw])) k
theorem QrM {A:Amb}{s:St}{x:Operand}{E:TypeId}{e:Ty}{l:List e.Den}(h:Evl A s x (.dat (.sl E e) l)):∀gh a w,Rg A s gh a w→l.length≤9223372036854775807:=fun gh a w r=>by
 have:=QuP h gh a w r
 unfold maxLen at this;omega
theorem Qpu {A:Amb}{s:St}{x:Operand}{b:ByteArray}(h:Evl A s x (dS b)):∀gh a w,Rg A s gh a w→b.size≤9223372036854775807:=fun gh a w r=>by
 have:=QrN h gh a w r
 unfold maxLen at this;omega
theorem Qqu {A:Amb}{P:Program}{s:St}{Q:Exit→St→Prop}{c:Operand}{x y:Code}(a:Evl A s c (dB true))(h:AC A P x Q s):AC A P (.cond c x y) Q s:=QaV a (fun _=>h) fun h=>by cases h
theorem Qqt {A:Amb}{P:Program}{s:St}{Q:Exit→St→Prop}{c:Operand}{x y:Code}(a:Evl A s c (dB false))(h:AC A P y Q s):AC A P (.cond c x y) Q s:=QaV a (fun h=>by cases h) fun _=>h
@[reducible] def Qah (O:PV→Tab→Prop) (k:Nat):PV→Tab→Prop:=fun p T0=>∃pv T' ρ,p=pv.ren (rn ρ)∧HasE ⟨[],T0⟩ ρ T'∧Wz (T'.map fun x=>rn ρ x.1)=true∧idB ρ k=true∧O pv T'
theorem FC.ren {P:Program}{f:FuncId}{args:List (Bool×List LV)}{T:Tab}{k:Nat}{O:PV→Tab→Prop}(h:FC P f args T k (Qah O k)):FC P f args T k O:=fun E w Q D G=>
 Calls.mono (h E w Q D G) fun e R H=>by
  obtain ⟨v,M,C,l,j,⟨L,T',ρ,rfl,u,I,hid,F⟩,b,K,n,J⟩:=H
  have a:∀q,T'.al q→C.al (rn ρ q):=fun q ⟨e,h⟩=>⟨_,u.get h⟩
  have m:∀q i,T'.al q→T'.al i→rn ρ q=rn ρ i→q=i:=fun q i j o h=>JH I j o h
  refine ⟨v,L,T',l.via (rn ρ),j,F,⟨fun q e h=> ?_,fun q i j o t=>b.dj _ _ (a q j) (a i o) fun h=>t (m q i j o h),fun q h=>b.nd _ (a q h),fun q h=>b.no _ (a q h),b.nl⟩,
   (PVR.ren.1 K).mono (fun q _ p=>⟨a q p,rfl⟩) (fun g r=>⟨r,rfl⟩),⟨n.gw,n.kp,n.nn,fun q h=>n.ox _ (a q h)⟩,fun q B h=> ?_⟩
  ·exact (EntR.ren.1 (b.en _ _ (u.get h))).mono (fun N _ p=>⟨a N p,rfl⟩) (fun g r=>⟨r,rfl⟩) rfl rfl fun _ _=>rfl
  ·have c:=QjV hid q B
   have:=J (rn ρ q) (by rw[c];exact B) (a q h)
   rw[c] at this
   show l.h (rn ρ q)=_
   rw[c]
   exact this
section
variable {A:Amb}{P:Program}{fn:Func}{s:St}{O:PV→Tab→Prop}{k:Nat}
theorem QdR (pv:PV)(T':Tab)(ρ:List (Nat×Nat))(a:Res A P fn s (pv.ren (rn ρ)))(b:HasE ⟨[],s.tab⟩ ρ T')(c:Wz (T'.map fun x=>rn ρ x.1)=true)(e:idB ρ k=true)(f:O pv T'):fin A P fn (Qah O k) .ret s:=
 ⟨_,a,pv,T',ρ,rfl,b,c,e,f⟩
theorem QnP:∀k,idB [] k=true
 | 0=>rfl
 | k+1=>by simp[idB,rn,lk,QnP k]
theorem Ki {pv a:PV}(h:Res A P fn s a)(e:a=pv)(b:pv.tags=[]):fin A P fn (Qah (QK pv) k) .ret s:=by
 subst e
 exact QdR a [] [] (by rw[PV.ren_id b];exact h) trivial rfl (QnP k) ⟨rfl,rfl⟩
theorem QuQ {q:Nat}{E:TypeId}{e:Ty}{xs zs:List e.Den}(h:Res A P fn s (lf (.ref q)))(a:s.tab.ent q=some (.arr E e xs))(b:xs=zs):fin A P fn (Qah (Xv E e zs) 0) .ret s:=by
 subst b
 refine QdR (lf (.ref 0)) [(0,some (.arr E e xs))] [(0,q)] h ⟨?_,trivial⟩ rfl rfl ⟨rfl,rfl⟩
 exact a
theorem Rs.cell {a t q n:Nat}{E:TypeId}{cs:List LV}(h:lk s.tm a=some (lf (.ptr q 0)))(i:s.tab.ent q=some (.box E cs))(p:tsh P t=some (true,n))(B:cs.length=n):Rs A P s (.cell a t) (true,cs):=fun l ac w r=>by
 obtain ⟨g,m,c⟩:=Qa h l ac w r ⟨_,i⟩
 obtain ⟨D,b,e,F,o,f⟩:=r.cx.en q _ i
 rw[m] at e
 cases e
 refine ⟨.agg b,?_,b.toList,by simp,f⟩
 have C:=XV (w:=w) p g 0 b.toList (by rw[f.len];exact B) fun j u v=>by
  simp only[World.cell?,o]
  simpa using v
 have c:ac.tmps.getD a undef= .pointer (some ⟨g,0,none⟩):=c
 simp only[Qvs,c,asAddr,aw,aY,aG,C]
theorem QqL {a t q n:Nat}{E:TypeId}{l:LV}(h:lk s.tm a=some (lf (.ptr q 0)))(f:s.tab.ent q=some (.box E [l]))(B:tsh P t=some (false,n)):Rs A P s (.cell a t) (false,[l]):=fun i ac w r=>by
 obtain ⟨g,j,c⟩:=Qa h i ac w r ⟨_,f⟩
 obtain ⟨D,b,e,F,m,o⟩:=r.cx.en q _ f
 rw[j] at e
 cases e
 obtain ⟨v,H,p,u,G⟩:=o
 have C:w.cell? ⟨g,0,none⟩=some v:=by
  simp only[World.cell?,m]
  have:b.toList[0]? =some v:=by rw[p];rfl
  simpa using this
 have c:ac.tmps.getD a undef= .pointer (some ⟨g,0,none⟩):=c
 refine ⟨v,?_,l,rfl,u⟩
 simp only[Qvs,c,asAddr,aw,aY,aG,Yy B _ v C]
end
theorem QV {A:Amb}{I:Nat→St→Prop}{m:Nat}{c:St}{a:Nat}{b:St}(h:I a b)(e:a<m)(f:Wk A c b):∃a b,a<m∧Wk A c b∧I a b:=⟨a,b,e,f,h⟩
theorem Qm {E:TypeId}{e:Ty}{xs ys:List e.Den}(h:xs=ys):some (Ent.arr E e xs)=some (Ent.arr E e ys):=congrArg (fun z=>some (Ent.arr E e z)) h
theorem QyV {E:TypeId}{xs ys:List UInt8}(h:xs=ys):some (Ent.bys E xs)=some (Ent.bys E ys):=congrArg (fun z=>some (Ent.bys E z)) h
theorem nlr {a b:Nat}(h:Nat.ble a b=true):a≤b:=aE h
theorem QaW {A:Amb}{P:Program}{Q:Exit→St→Prop}{s:St}{a z:Code}(I:St→Prop)(h:∀s,I s→AC A P z Q s)(k:(∀s,I s→AC A P z Q s)→AC A P (.seq a z) Q s):AC A P (.seq a z) Q s:=k h
theorem Qi3 {A:Amb}{P:Program}{Q:Exit→St→Prop}{s:St}{a b z:Code}(I:St→Prop)(h:∀s,I s→AC A P z Q s)(k:(∀s,I s→AC A P z Q s)→AC A P (.seq a (.seq b z)) Q s):AC A P (.seq a (.seq b z)) Q s:=k h
theorem Qi4 {A:Amb}{P:Program}{Q:Exit→St→Prop}{s:St}{a b c z:Code}(I:St→Prop)(h:∀s,I s→AC A P z Q s)(k:(∀s,I s→AC A P z Q s)→AC A P (.seq a (.seq b (.seq c z))) Q s):AC A P (.seq a (.seq b (.seq c z))) Q s:=k h
theorem XH {A:Amb}{P:Program}{c:Code}{Q:Exit→St→Prop}{s s':St}(h:AC A P c Q s')(k:Wk A s s'):AC A P c Q s:=AC.wk k h
theorem QG {p:Prop}[Decidable p](h:(!decide p)=true):¬p:=by simpa using h
theorem Qz {p:Prop}[Decidable p](h:(!decide p)=false):p:=by simpa using h
theorem QE {α:Type _}{l:List α}{k:Nat}{x:α}(h:l[k]? =some x):l.take (k+1)=l.take k++[x]:=by
 obtain ⟨a,b⟩:=ai.1 h
 rw[bQ a,b]
theorem ZD {α:Type _}{l:List α}{k:Nat}(h:l.length≤k):l.take k=l:=aP h
theorem QhY {P:Program}{f:FuncId}{args:List (Bool×List LV)}{b:Bool}(h:∀(gh:Gh) (w:World) (vs:List Value),CmsR (Tab.al []) gh w args vs→Calls P f vs.toArray w (RetB (b=true) w)):FC P f args [] 0 (QK (lf (dB b))):=fun gh w vs l m=>
 Calls.mono (h gh w vs m) fun e p o=>by
  obtain ⟨j,rfl,r,c⟩:=o
  have n:j=b:=by cases j <;> cases b <;> simp_all
  subst n
  exact ⟨_,_,[],gh,rfl,⟨rfl,rfl⟩,Wj ZF gh p fun g a=>ba (l.nl g a) c.size,⟨_,rfl,ZN⟩,⟨c.grw,fun g a _=>Below.block c g a,fun g a=> .inl a,fun q i=>absurd i (ZF q)⟩,fun q i=>absurd i (by omega)⟩
theorem CmsR.agg1 {al:Nat→Prop}{gh:Gh}{w:World}{t:Ty}{x:t.Den}{vs:List Value}(h:CmsR al gh w [(true,leaves t x)] vs):∃us,vs=[.agg us.toArray]∧Rep t w us x:=by
 obtain ⟨v,a,rfl,⟨us,rfl,b⟩,c⟩:=h
 rw[show a=[] from c]
 exact ⟨us,rfl,(LVs.rd b).rep⟩
theorem CmsR.leaf1 {al:Nat→Prop}{gh:Gh}{w:World}{t:Ty}{x:t.Den}{vs:List Value}(h:CmsR al gh w [(false,[.dat t x])] vs):∃v,vs=[v]∧Rep t w [v] x:=by
 obtain ⟨v,a,rfl,⟨l,b,c⟩,e⟩:=h
 simp only[aI,and_true] at b
 subst b
 rw[show a=[] from e]
 exact ⟨v,rfl,c.rep⟩
end Go.Proofs.YtjfpbcmfbnnooaaGreat
