import Derived.Test.YtjfpbcmfbnnooaaGreatPAr
set_option linter.all false
namespace Go.Proofs.YtjfpbcmfbnnooaaGreat
open Go.RowKit Tryz
structure Item where
  d:Option Nat
  pv:PV
  T:Tab
@[reducible] def Qcx (tm:List (Nat×PV)):Option Nat→PV→List (Nat×PV)
 | some d,pv=>(d,pv)::tm
 | none,_=>tm
def pTm:List Item→(Nat→Bool)→Nat→List (Nat×PV)→List (Nat×PV)
 | [],_,_,acc=>acc
 | it::l,D,k,acc=>pTm l D (k+1) (match D k with
  | true=>Qcx acc it.d it.pv
  | false=>acc)
def pTb:List Item→(Nat→Bool)→Nat→Tab→Tab
 | [],_,_,acc=>acc
 | it::l,D,k,acc=>pTb l D (k+1) (match D k with
  | true=>it.T++acc
  | false=>acc)
@[reducible] def stD (plan:List Item) (s0:St) (D:Nat→Bool):St:=⟨pTm plan D 0 s0.tm,pTb plan D 0 s0.tab⟩
theorem Js (a:List (Nat×PV))(o:Option Nat)(pv:PV)(t:Nat):lk (Qcx a o pv) t=if o=some t then some pv else lk a t:=by
 cases o with
 | none=>simp[Qcx]
 | some d=>
  grind [UW,Option.some.injEq]
theorem HT {D c:Nat→Bool}{t:Nat}:∀{l:List Item} {k:Nat} {acc a:List (Nat×PV)},(∀j it,l[j]? =some it→it.d=some t→D (k+j)=c (k+j))→lk acc t=lk a t→lk (pTm l D k acc) t=lk (pTm l c k a) t
 | [],_,_,_,_,h=>h
 | it::l,k,acc,a,hw,h=>by
  refine HT (l:=l) (k:=k+1) (fun j b f g=> ?_) ?_
  ·have:=hw (j+1) b (by simpa using f) g
   rwa [show k+1+j=k+(j+1) by omega]
  ·by_cases e:it.d=some t
   ·have:=hw 0 it rfl e
    rw[ec] at this
    grind [lk,Js]
   ·grind [lk,Js]
def Eqv (T T':Tab):Prop:=∀q,T.ent q=T'.ent q
def QxP (q:Nat)(T:Tab):Bool:=inB q (T.map (·.1))
theorem K8 (U T:Tab)(q:Nat):Tab.ent (U++T) q=if q∈U.map (·.1) then U.ent q else T.ent q:=by
 induction U with
 | nil=>simp
 | cons x U a=>
  grind [Qi]
theorem Uu {D c:Nat→Bool}{q:Nat}:∀{l:List Item} {k:Nat} {acc a:Tab},(∀j it,l[j]? =some it→q∈it.T.map (·.1)→D (k+j)=c (k+j))→acc.ent q=a.ent q→(pTb l D k acc).ent q=(pTb l c k a).ent q
 | [],_,_,_,_,h=>h
 | it::l,k,acc,a,hw,h=>by
  refine Uu (l:=l) (k:=k+1) (fun j b e f=> ?_) ?_
  ·have:=hw (j+1) b (by simpa using e) f
   rwa [show k+1+j=k+(j+1) by omega]
  ·by_cases d:q∈it.T.map (·.1)
   ·have:=hw 0 it rfl d
    rw[ec] at this
    grind [K8]
   ·grind [Tab.ent,K8]
def VS (D:Nat→Bool)(i:Nat):Nat→Bool:=fun k=>match Nat.beq k i with
 | true=>true
 | false=>D k
def UQ (D:Nat→Bool)(i:Nat):VS D i i=true:=by simp[VS]
theorem Xu (D:Nat→Bool){i k:Nat}(h:k≠i):VS D i k=D k:=by
 grind [Nat.beq,Nat.eq_of_beq_eq_true,VS]
def QpK {D:Nat→Bool}{t:Nat}:∀{l:List Item} {k i:Nat} {it:Item} {acc:List (Nat×PV)},l[i]? =some it→D (k+i)=false→(∀j a,l[j]? =some a→j≠i→D (k+j)=true→a.d≠none→a.d≠it.d)→
 lk (pTm l (VS D (k+i)) k acc) t=lk (Qcx (pTm l D k acc) it.d it.pv) t
 | [],_,_,_,_,h,_,_=>by simp at h
 | x::l,k,0,it,acc,h,g,hd=>by
  have u:x=it:=by simpa using h
  subst u
  have g:D k=false:=g
  show lk (pTm l (VS D k) (k+1) (match VS D k k with|true=>Qcx acc x.d x.pv|false=>acc)) t=lk (Qcx (pTm l D (k+1) (match D k with|true=>Qcx acc x.d x.pv|false=>acc)) x.d x.pv) t
  rw[UQ,g]
  show lk (pTm l (VS D k) (k+1) (Qcx acc x.d x.pv)) t=lk (Qcx (pTm l D (k+1) acc) x.d x.pv) t
  rw[Js]
  by_cases b:x.d=some t
  ·rw[if_pos b]
   have p:∀(l:List Item) (m:Nat) (acc:List (Nat×PV)),(∀j a,l[j]? =some a→D (m+j)=true→a.d≠some t)→k<m→lk acc t=some x.pv→lk (pTm l (VS D k) m acc) t=some x.pv:=by
    intro l
    induction l with
    | nil=>intro m acc _ _ h;exact h
    | cons y l v=>
     intro m acc q w h
     refine v (m+1) _ (fun j a c e=>q (j+1) a (by simpa using c) (by rwa [show m+(j+1)=m+1+j by omega])) (by omega) ?_
     rw[Xu D (show m≠k by omega)]
     cases n:D m with
     | false=>exact h
     | true=>
      have:=q 0 y rfl n
      simp only[Js,if_neg this]
      exact h
   exact p l (k+1) _ (fun j a c e f=>hd (j+1) a (by simpa using c) (by omega) (by rwa [show k+(j+1)=k+1+j by omega]) (by rw[f];simp) (by rw[f,b])) (by omega) (by rw[Js,if_pos b])
  ·rw[if_neg b]
   refine HT (fun j a c z=>Xu D (by omega)) ?_
   simp[Js,b]
 | x::l,k,i+1,it,acc,h,g,hd=>by
  have:=QpK (D:=D) (t:=t) (l:=l) (k:=k+1) (i:=i) (it:=it) (acc:=match D k with|true=>Qcx acc x.d x.pv|false=>acc) (by simpa using h) (by rwa [show k+1+i=k+(i+1) by omega]) fun j a c r e=>hd (j+1) a (by simpa using c) (by omega) (by rwa [show k+(j+1)=k+1+j by omega])
  rw[show k+1+i=k+(i+1) by omega] at this
  show lk (pTm l (VS D (k+(i+1))) (k+1) (match VS D (k+(i+1)) k with|true=>Qcx acc x.d x.pv|false=>acc)) t=_
  rw[Xu D (show k≠k+(i+1) by omega)]
  exact this
theorem QpI {D:Nat→Bool}{q:Nat}:∀{l:List Item} {k i:Nat} {it:Item} {acc:Tab},l[i]? =some it→D (k+i)=false→(∀j a,l[j]? =some a→i<j→D (k+j)=true→q∈it.T.map (·.1)→q∉a.T.map (·.1))→
 (pTb l (VS D (k+i)) k acc).ent q=Tab.ent (it.T++pTb l D k acc) q
 | [],_,_,_,_,h,_,_=>by simp at h
 | x::l,k,0,it,acc,h,e,hd=>by
  have r:x=it:=by simpa using h
  subst r
  have e:D k=false:=e
  show (pTb l (VS D k) (k+1) (match VS D k k with|true=>x.T++acc|false=>acc)).ent q=Tab.ent (x.T++pTb l D (k+1) (match D k with|true=>x.T++acc|false=>acc)) q
  rw[UQ,e]
  show (pTb l (VS D k) (k+1) (x.T++acc)).ent q=Tab.ent (x.T++pTb l D (k+1) acc) q
  rw[K8]
  by_cases b:q∈x.T.map (·.1)
  ·rw[if_pos b]
   have g:∀(l:List Item) (m:Nat) (acc:Tab),(∀j a,l[j]? =some a→D (m+j)=true→q∉a.T.map (·.1))→k<m→acc.ent q=x.T.ent q→(pTb l (VS D k) m acc).ent q=x.T.ent q:=by
    intro l
    induction l with
    | nil=>intro m acc _ _ h;exact h
    | cons y l t=>
     intro m acc n u h
     refine t (m+1) _ (fun j a d c=>n (j+1) a (by simpa using d) (by rwa [show m+(j+1)=m+1+j by omega])) (by omega) ?_
     rw[Xu D (show m≠k by omega)]
     cases f:D m with
     | false=>exact h
     | true=>
      have:=n 0 y rfl f
      simp only[K8,if_neg this]
      exact h
   exact g l (k+1) _ (fun j a d c=>hd (j+1) a (by simpa using d) (by omega) (by rwa [show k+(j+1)=k+1+j by omega]) b) (by omega) (by rw[K8,if_pos b])
  ·grind [Uu,Xu,K8]
 | x::l,k,i+1,it,acc,h,e,hd=>by
  have:=QpI (D:=D) (q:=q) (l:=l) (k:=k+1) (i:=i) (it:=it) (acc:=match D k with|true=>x.T++acc|false=>acc) (by simpa using h) (by rwa [show k+1+i=k+(i+1) by omega]) fun j a d p c=>hd (j+1) a (by simpa using d) (by omega) (by rwa [show k+(j+1)=k+1+j by omega])
  grind [pTb,VS,Xu]
def QpL {D:Nat→Bool}{t:Nat}{pv:PV}:∀{l:List Item} {k:Nat} {acc:List (Nat×PV)},lk (pTm l D k acc) t=some pv→(∃j it,l[j]? =some it∧D (k+j)=true∧it.pv=pv)∨lk acc t=some pv
 | [],_,_,h=> .inr h
 | x::l,k,acc,h=>by
  rcases QpL (l:=l) h with ⟨j,it,a,f,e⟩|a
  ·exact .inl ⟨j+1,it,by simpa using a,by rwa [show k+(j+1)=k+1+j by omega],e⟩
  ·cases b:D k with
   | false=>rw[b] at a;exact .inr a
   | true=>
    rw[b] at a
    simp only[Js] at a
    by_cases c:x.d=some t
    ·rw[if_pos c] at a
     cases a
     exact .inl ⟨0,x,rfl,b,rfl⟩
    ·rw[if_neg c] at a;exact .inr a
def Qjt {D:Nat→Bool}{q:Nat}{e:Ent}:∀{l:List Item} {k:Nat} {acc:Tab},(pTb l D k acc).ent q=some e→(∃j it,l[j]? =some it∧D (k+j)=true∧it.T.ent q=some e)∨acc.ent q=some e
 | [],_,_,h=> .inr h
 | x::l,k,acc,h=>by
  rcases Qjt (l:=l) h with ⟨j,it,a,f,d⟩|a
  ·exact .inl ⟨j+1,it,by simpa using a,by rwa [show k+(j+1)=k+1+j by omega],d⟩
  ·cases b:D k with
   | false=>rw[b] at a;exact .inr a
   | true=>
    rw[b] at a
    simp only[K8] at a
    by_cases c:q∈x.T.map (·.1)
    ·rw[if_pos c] at a
     exact .inl ⟨0,x,rfl,b,a⟩
    ·rw[if_neg c] at a;exact .inr a
def Rg.ext {A:Amb}{s s':St}{gh:Gh}{a:Act}{w:World}(r:Rg A s gh a w)(l:∀i,lk s'.tm i=lk s.tm i)(d:∀q,s'.tab.ent q=s.tab.ent q):Rg A s' gh a w:=by
 have b:∀q,s'.tab.al q↔s.tab.al q:=fun q=>by unfold Tab.al;rw[d]
 have c:s'.tab.al=s.tab.al:=funext fun q=>propext (b q)
 exact ⟨⟨fun q e h=>by rw[c];exact r.cx.en q e (by rw[← d];exact h),fun q f g j=>r.cx.dj q f ((b q).1 g) ((b f).1 j),fun q h=>r.cx.nd q ((b q).1 h),fun q h=>r.cx.no q ((b q).1 h),r.cx.nl⟩,
  r.sz,r.df,fun i m h=>by rw[c];exact r.tm i m (by rw[← l];exact h),r.gw,r.kp,r.fr,fun q h=>r.ox q ((b q).1 h),fun q k h=>r.hh q k ((b q).1 h),r.xn⟩
def Acts (A:Amb)(P:Program)(ops:Array Oper)(o:Oper)(s s':St):Prop:=∀a w K Q,R A s a w→(∀a' w',R A s' a' w'→K a' w')→if Region.wanted o (yielded ops a.tmps)=true then o.wp P a w K Q else K (a.put o.dst undef) w
section
variable {A:Amb}{P:Program}{ops:Array Oper}{o:Oper}{s s':St}
def Acts.of (c:o.guard=none)(h:Does A P o s s'):Acts A P ops o s s':=fun a w K Q r b=>by
 rw[if_pos (by simp[Region.wanted,c])]
 exact h a w K Q r b
def QsD {j d:Nat}{b:Bool}(i:o.guard=some (j,b))(g:(ops[j]?).bind (·.dst)=some d)(hb:lk s.tm d=some (lf (dB b)))(h:Does A P o s s'):Acts A P ops o s s':=fun a w K Q r f=>by
 obtain ⟨e,c⟩:=r
 rw[if_pos (by simp[Region.wanted,i,JB g hb c])]
 exact h a w K Q ⟨e,c⟩ f
def Qwo {j d c:Nat}{b:Bool}(i:o.guard=some (j,b))(h:(ops[j]?).bind (·.dst)=some d)(hb:lk s.tm d=some (lf (dB (!b))))(l:o.dst=some c)(k:Nat.blt c A.n=true):Acts A P ops o s (s.put c (lf (.val undef))):=fun a w K Q r g=>by
 obtain ⟨f,e⟩:=r
 rw[if_neg (by simp[Region.wanted,i,JB h hb e]),l]
 exact g _ _ ⟨f,e.put (aD k) (pv:=lf (.val undef)) ⟨_,rfl,rfl⟩⟩
end
@[reducible] def QtN (deps:List (List Nat)) (i:Nat):Nat→Bool:=fun k=>inB k (deps.getD i [])
def QaO (ops:Array Oper)(deps:List (List Nat))(n:Nat):Bool:=(List.range n).all fun i=>match ops[i]? with
 | some o=>(deps.getD i []).all fun k=>o.after.toList.any fun e=>Region.binds .any e&&(Nat.beq e.on k||inB k (deps.getD e.on []))
 | none=>false
def QaY (plan:List Item)(deps:List (List Nat)):Bool:=(List.range plan.length).all fun i=>(List.range plan.length).all fun j=>match plan[i]?,plan[j]? with
 | some a,some b=>(Nat.beq i j||(match a.d,b.d with
  | some x,some y=> !(Nat.beq x y)
  | _,_=>true))&&(!(Nat.blt i j)||inB i (deps.getD j [])||(a.T.map (·.1)).all fun q=> !(QxP q b.T))
 | _,_=>false
def QzK (plan:List Item)(deps:List (List Nat))(i t:Nat):Bool:=(List.range plan.length).all fun j=>match plan[j]? with
 | some it=>(match it.d with
  | some d=> !(Nat.beq d t)
  | none=>true)||inB j (deps.getD i [])||inB i (deps.getD j [])
 | none=>false
def QC1 (plan:List Item)(deps:List (List Nat))(i q:Nat):Bool:=(List.range plan.length).all fun j=>match plan[j]? with
 | some it=> !(QxP q it.T)||inB j (deps.getD i [])||Nat.beq j i||inB i (deps.getD j [])
 | none=>false
def QC0 (plan:List Item)(deps:List (List Nat))(i q j:Nat):Bool:=(List.range plan.length).all fun m=>match plan[m]? with
 | some it=> !(QxP q it.T)||inB m (deps.getD i [])||Nat.beq m i||inB i (deps.getD m [])||Nat.beq m j
 | none=>false
@[reducible] def QCX (deps:List (List Nat)) (i j:Nat):Nat→Bool:=fun k=>inB k (deps.getD i [])||Nat.beq k j
def QDQ (plan:List Item)(deps:List (List Nat))(s0:St)(i q:Nat):Bool:=QnG s0 q&&(List.range plan.length).all fun j=>match plan[j]? with
 | some it=>Nat.beq j i||inB i (deps.getD j [])|| !(inB q (it.pv.tags++ZU it.T))
 | none=>false
structure At (plan:List Item) (deps:List (List Nat)) (s0:St) (i:Nat) (s:St):Prop where
  tm:∀t,QzK plan deps i t=true→lk s.tm t=lk (pTm plan (QtN deps i) 0 s0.tm) t
  en:∀q,QC1 plan deps i q=true→s.tab.ent q=(pTb plan (QtN deps i) 0 s0.tab).ent q
  fr:∀q,QDQ plan deps s0 i q=true→Fresh s q
  en2:∀q j,QC0 plan deps i q j=true→s.tab.ent q=(pTb plan (QtN deps i) 0 s0.tab).ent q∨s.tab.ent q=(pTb plan (QCX deps i j) 0 s0.tab).ent q
section
variable {A:Amb}{P:Program}{plan:List Item}{deps:List (List Nat)}{s0:St}
theorem Qi3 {q:Nat}{l:List Nat}:inB q l=true↔q∈l:=by
 induction l with
 | nil=>simp[inB]
 | cons r b a=>
  grind [inB,Nat.beq,Nat.eq_of_beq_eq_true,Nat.beq_refl]
def Qcp {q:Nat}{T:Tab}:QxP q T=true↔q∈T.map (·.1):=Qi3
def YV {n i:Nat}{f:Nat→Bool}(h:(List.range n).all f=true)(hi:i<n):f i=true:=ao.1 h i (bC.2 hi)
theorem QoD {D:Nat→Bool}(g:∀k,k<plan.length→D k=true→∀j,inB j (deps.getD k [])=true→D j=true){i:Nat}(hi:i<plan.length)(c:D i=false)(f:∀j,inB j (deps.getD i [])=true→D j=true):At plan deps s0 i (stD plan s0 D):=by
 refine ⟨fun t G=>HT (fun j n x l=> ?_) rfl,fun q y=>Uu (fun j n x l=> ?_) rfl,fun q y=> ?_,fun q j y=> ?_⟩
 ·have p:j<plan.length:=(ae.1 x).1
  have a:=YV G p
  simp only[x,l,eb,Bool.not_true,Bool.false_or,ci] at a
  grind
 ·have p:j<plan.length:=(ae.1 x).1
  have a:=YV y p
  simp only[x,Qcp.2 l,Bool.not_true,Bool.false_or,ci] at a
  rw[bJ]
  rcases a with (a|a)|a
  ·exact (f j a).trans a.symm
  ·have a:=aZ a
   subst a
   show D j=inB j (deps.getD j [])
   cases b:inB j (deps.getD j []) with
   | true=>rw[f j b]
   | false=>exact c
  ·grind
 ·simp only[QDQ,aH] at y
  have C:=Fresh.of y.1
  have E:∀j n,plan[j]? =some n→D j=true→q∉n.pv.tags++ZU n.T:=fun j n x d u=>by
   have p:j<plan.length:=(ae.1 x).1
   have a:=YV y.2 p
   simp only[x,ci,cA] at a
   rcases a with (a|a)|a
   ·rw[aZ a,c] at d;cases d
   ·have:=g j p d i a;rw[c] at this;cases this
   ·exact Qgl a u
  refine ⟨fun t H h u=> ?_,fun r e h u=> ?_,fun ⟨e,h⟩=> ?_⟩
  ·rcases QpL h with ⟨j,n,a,b,rfl⟩|a
   ·exact E j n a (by simpa using b) (aU _ u)
   ·exact C.tm t H a u
  ·rcases Qjt h with ⟨j,n,a,b,z⟩|a
   ·exact E j n a (by simpa using b) (bd _ ((Zw z).2 q u))
   ·exact C.en r e a u
  ·rcases Qjt h with ⟨j,n,a,b,z⟩|a
   ·exact E j n a (by simpa using b) (bd _ (Zw z).1)
   ·exact C.al ⟨e,a⟩
 ·have F:inB i (deps.getD i [])=false:=by
   cases b:inB i (deps.getD i []) with
   | true=>have:=f i b;rw[c] at this;cases this
   | false=>rfl
  cases d:D j with
  | false=>
   refine .inl (Uu (fun m n u l=> ?_) rfl)
   have w:m<plan.length:=(ae.1 u).1
   have a:=YV y w
   simp only[u,Qcp.2 l,Bool.not_true,Bool.false_or,ci] at a
   rw[bJ]
   have v:D m=false→D m=inB m (deps.getD i []):=fun h=>by
    cases b:inB m (deps.getD i []) with
    | true=>have:=f m b;rw[h] at this;cases this
    | false=>exact h
   rcases a with ((a|a)|a)|a
   ·exact (f m a).trans a.symm
   ·have a:=aZ a
    subst a
    exact v c
   ·refine v ?_
    cases b:D m with
    | true=>have:=g m w b i a;rw[c] at this;cases this
    | false=>rfl
   ·have a:=aZ a
    subst a
    exact v d
  | true=>
   refine .inr (Uu (fun m n u l=> ?_) rfl)
   have w:m<plan.length:=(ae.1 u).1
   have a:=YV y w
   simp only[u,Qcp.2 l,Bool.not_true,Bool.false_or,ci] at a
   rw[bJ]
   have v:D m=false→D m=(inB m (deps.getD i [])||Nat.beq m j):=fun h=>by
    rw[h]
    cases b:inB m (deps.getD i []) with
    | true=>have:=f m b;rw[h] at this;cases this
    | false=>
     cases z:Nat.beq m j with
     | true=>have z:=aZ z;subst z;rw[d] at h;cases h
     | false=>rfl
   rcases a with ((a|a)|a)|a
   ·show D m=(inB m (deps.getD i [])||Nat.beq m j)
    rw[f m a,a];rfl
   ·have a:=aZ a
    subst a
    exact v c
   ·refine v ?_
    cases b:D m with
    | true=>have:=g m w b i a;rw[c] at this;cases this
    | false=>rfl
   ·have B:=aZ a
    subst B
    show D m=(inB m (deps.getD i [])||Nat.beq m m)
    rw[d,eb,Bool.or_true]
@[reducible] def U6 (s:St) (it:Item):St:=⟨Qcx s.tm it.d it.pv,it.T++s.tab⟩
def QiE {D:Nat→Bool}{i:Nat}{it:Item}{a:Act}{w:World}(E:QaY plan deps=true)(g:∀k,k<plan.length→D k=true→∀j,inB j (deps.getD k [])=true→D j=true)(c:plan[i]? =some it)(f:D i=false)
 (r:R A (U6 (stD plan s0 D) it) a w):R A (stD plan s0 (VS D i)) a w:=by
 obtain ⟨F,J⟩:=r
 have n:i<plan.length:=(ae.1 c).1
 refine ⟨F,J.ext (fun t=> ?_) fun q=> ?_⟩
 ·have:=QpK (D:=D) (t:=t) (l:=plan) (k:=0) (i:=i) (acc:=s0.tm) c (by simpa using f) fun j I p C _ v u=>by
   have e:j<plan.length:=(ae.1 p).1
   have h:=YV (YV E n) e
   simp only[c,p,aH,ci] at h
   rcases h.1 with b|b
   ·exact C (aZ b).symm
   ·cases m:it.d with
    | none=>rw[u,m] at v;exact v rfl
    | some x=>
     rw[u,m] at b
     simp at b
  rw[bJ] at this
  exact this
 ·have:=QpI (D:=D) (q:=q) (l:=plan) (k:=0) (i:=i) (acc:=s0.tab) c (by simpa using f) fun j I p z y H B=>by
   have e:j<plan.length:=(ae.1 p).1
   have h:=YV (YV E n) e
   simp only[c,p,aH,ci,cA] at h
   rcases h.2 with (b|b)|b
   ·have G:Nat.blt i j=true:=cK z
    rw[G] at b;cases b
   ·have:=g j e (by simpa using y) i b
    rw[f] at this;cases this
   ·have:=ao.1 b q H
    rw[Qcp.2 B] at this
    cases this
  rw[bJ] at this
  exact this
def Qhb {ops:Array Oper}{Q:Exit→Act→World→Prop}{n:Nat}(J:(Nat→Bool)→Act→World→Prop)(hn:ops.size=n)(hd:QaO ops deps n=true)(hH:JM ops n=true)
 (hE:∀D a w,(∀k,k<n→D k=true)→J D a w→Q .normal a w)
 (hS : ∀ (D : Nat → Bool) a w i o (K : Act → World → Prop),(∀ k,k<n → D k = true → ∀ j,inB j (deps.getD k []) = true → D j = true) → i<n → ops[i]? = some o → D i = false → (∀ j,inB j (deps.getD i []) = true → D j = true) → J D a w →
  (∀l w',J (VS D i) l w'→K l w')→if Region.wanted o (yielded ops a.tmps)=true then o.wp P a w K Q else K (a.put o.dst undef) w):∀(f:Nat) (b:Array Bool) (a:Act) (w:World),b.size=n→((List.range n).filter fun i=> !(b.getD i true)).length≤f→
  (∀k,k<n→b.getD k false=true→∀j,inB j (deps.getD k [])=true→b.getD j false=true)→J (fun k=>b.getD k false) a w→wpAnyH P .any ops Q (fun _=>True) f b a w:=by
 have g:∀(b:Array Bool) (a:Act) (w:World),b.size=n→Region.ready .any ops b=[]→J (fun k=>b.getD k false) a w→Q .normal a w:=fun b a w q z r=>by
  have C:=QlU (ops:=ops) (n:=n) hH q (fun i v h=>by
   rw[hn,Nat.sub_self,Array.replicate_zero,Array.append_empty] at h
   rw[z] at h;cases h) (by omega)
  refine hE _ a w (fun k N=> ?_) r
  have:=C k N
  have R:k<b.size:=by omega
  simpa [R] using this
 have I:∀(b:Array Bool) (a:Act) (w:World) (i:Nat) (K:Act→World→Prop),b.size=n→
  (∀k,k<n→b.getD k false=true→∀j,inB j (deps.getD k [])=true→b.getD j false=true)→J (fun k=>b.getD k false) a w→i∈Region.ready .any ops b→
  (∀l w',(∀k,k<n→(b.setIfInBounds i true).getD k false=true→∀j,inB j (deps.getD k [])=true→(b.setIfInBounds i true).getD j false=true)→J (fun k=>(b.setIfInBounds i true).getD k false) l w'→K l w')→wpOp P ops Q i K a w:=fun b a w i K q c r v hK=>by
  obtain ⟨W,o,p,u⟩:=mem_ready.1 v
  have G:i<ops.size:=(cp.1 p).1
  have x:i<n:=by omega
  have T:b.getD i false=false:=by
   have:i<b.size:=by omega
   simpa [this] using W
  have E:∀j,inB j (deps.getD i [])=true→b.getD j false=true:=fun j M=>by
   have y:=YV hd x
   simp only[p] at y
   have R:=ao.1 y j (Qi3.1 M)
   obtain ⟨e,he,L⟩:=bG.1 R
   simp only[aH,ci] at L
   have Y:=u e (by simpa using he) L.1
   rcases L.2 with S|S
   ·rw[← aZ S];exact Y
   ·have h6:e.on<n:=by
     have Z:=YV hH x
     simp only[p,aH,Array.all_eq_true_iff_forall_mem,ci,cA,aY] at Z
     have:=Z.1 e (by simpa using he)
     rw[L.1] at this
     have h8:e.on<i:=by simpa using this
     omega
    exact c e.on h6 Y j S
  have t:∀k,(b.setIfInBounds i true).getD k false=VS (fun k=>b.getD k false) i k:=fun k=>by
   by_cases e:k=i
   ·subst e
    rw[UQ]
    have:k<b.size:=by omega
    simp[this]
   ·rw[Xu _ e]
    simp only[bM]
    rw[Array.getElem?_setIfInBounds_ne (fun h=>e h.symm)]
  unfold wpOp
  simp only[p]
  have d:=hS (fun k=>b.getD k false) a w i o K c x p T E r fun l w' X=>by
   refine hK l w' (fun k N h j M=> ?_) ?_
   ·rw[t] at h ⊢
    by_cases e:k=i
    ·subst e
     have:=E j M
     by_cases B:j=k
     ·rw[B,UQ]
     ·rw[Xu _ B];exact this
    ·rw[Xu _ e] at h
     have:=c k N h j M
     by_cases B:j=i
     ·rw[B,UQ]
     ·rw[Xu _ B];exact this
   ·have F:(fun k=>(b.setIfInBounds i true).getD k false)=VS (fun k=>b.getD k false) i:=funext t
    rw[F];exact X
  by_cases hw:Region.wanted o (yielded ops a.tmps)=true
  ·rw[if_pos hw] at d ⊢
   exact .inl d
  ·rw[if_neg hw] at d ⊢
   exact d
 intro f
 induction f with
 | zero=>
  intro b a w q hc c r
  have z:Region.ready .any ops b=[]:=by
   refine List.eq_nil_iff_forall_not_mem.2 fun i v=> ?_
   obtain ⟨y,o,p,_⟩:=mem_ready.1 v
   have G:i<ops.size:=(cp.1 p).1
   have O:i∈(List.range n).filter fun i=> !(b.getD i true):=bA.2 ⟨bC.2 (by omega),by rw[y];rfl⟩
   rw[bF (by omega:((List.range n).filter fun i=> !(b.getD i true)).length=0)] at O
   cases O
  exact ⟨z,g b a w q z r⟩
 | succ f ih=>
  intro b a w q hc c r
  refine ⟨fun z=>g b a w q z r,fun i v=> ?_⟩
  refine I b a w i _ q c r v fun l w' m X=>⟨trivial,ih _ l w' (by simpa using q) ?_ m X⟩
  obtain ⟨y,o,p,_⟩:=mem_ready.1 v
  have G:i<ops.size:=(cp.1 p).1
  have V:i<b.size:=by omega
  have H:((List.range n).filter fun k=> !((b.setIfInBounds i true).getD k true))=((List.range n).filter fun k=> !(b.getD k true)).filter fun k=>decide (k≠i):=by
   rw[List.filter_filter]
   refine List.filter_congr fun k N=> ?_
   by_cases e:k=i
   ·subst e;simp[V]
   ·simp only[bM]
    rw[Array.getElem?_setIfInBounds_ne (fun h=>e h.symm)]
    simp[e]
  have O:i∈(List.range n).filter fun k=> !(b.getD k true):=bA.2 ⟨bC.2 (by omega),by rw[y];rfl⟩
  have a0:(((List.range n).filter fun k=> !(b.getD k true)).filter fun k=>decide (k≠i)).length<((List.range n).filter fun k=> !(b.getD k true)).length:=by
   refine Nat.lt_of_le_of_ne (bR _ _) fun U=> ?_
   have:=List.length_filter_eq_length_iff.1 U i O
   simp at this
  rw[H]
  omega
def QlE {ops:Array Oper}{Q:Exit→Act→World→Prop}(y:ops.size=plan.length)(x:QaO ops deps plan.length=true)(B:QaY plan deps=true)(u:JM ops plan.length=true)
 (H:∀i o it,ops[i]? =some o→plan[i]? =some it→∀s,At plan deps s0 i s→Acts A P ops o s (U6 s it))
 (hQ : ∀ a w,R A (stD plan s0 fun _ => true) a w → Q .normal a w) : ∀ (f : Nat) (b : Array Bool) (a : Act) (w : World),b.size = plan.length → ((List.range plan.length).filter fun i => !(b.getD i true)).length ≤ f →
  (∀k,k<plan.length→b.getD k false=true→∀j,inB j (deps.getD k [])=true→b.getD j false=true)→R A (stD plan s0 fun k=>b.getD k false) a w→wpAnyH P .any ops Q (fun _=>True) f b a w:=
 Qhb (deps:=deps) (n:=plan.length) (fun D a w=>R A (stD plan s0 D) a w) y x u (fun D a w d C=>by
  obtain ⟨p,r⟩:=C
  refine hQ a w ⟨p,r.ext (fun t=>HT (fun j it l _=> ?_) rfl) fun q=>Uu (fun j it l _=> ?_) rfl⟩
  ·rw[bJ,d j (ae.1 l).1]
  ·rw[bJ,d j (ae.1 l).1])
  fun D a w i o K c h z e g r v=>H i o _ z (ak h) _ (QoD c h e g) a w K Q r fun m F E=>v m F (QiE B c (ak h) e E)
def QgH {D:Nat→Bool}(h:∀j,D j=false):∀(l:List Item) (k:Nat) (acc:List (Nat×PV)),pTm l D k acc=acc
 | [],_,_=>rfl
 | x::l,k,acc=>by show pTm l D (k+1) _=acc;rw[h k];exact QgH h l (k+1) acc
def QgG {D:Nat→Bool}(h:∀j,D j=false):∀(l:List Item) (k:Nat) (acc:Tab),pTb l D k acc=acc
 | [],_,_=>rfl
 | x::l,k,acc=>by show pTb l D (k+1) _=acc;rw[h k];exact QgG h l (k+1) acc
def R.drew {s:St}{a:Act}{w:World}(r:R A s a w):R A s a w.drew:=by
 obtain ⟨c,r⟩:=r
 exact ⟨c,by
  have h:=r.step (T:=s.tab) (gh':=c) (w':=w.drew) ⟨fun q e h=>(r.cx.en q e h).mono (fun _ _ h=>⟨h,rfl⟩) (fun g b=>⟨b,rfl⟩) rfl rfl fun _ _=>rfl,r.cx.dj,r.cx.nd,r.cx.no,r.cx.nl⟩ (fun q h=> .inl ⟨h,rfl,fun _=>rfl⟩) (fun g b=>⟨b,rfl⟩) ⟨rfl,rfl,rfl,aP _⟩ (fun _ _ _=>rfl) (fun g b=> .inl b) fun q d g b=> .inr ⟨q,d,b⟩
  exact h⟩
def Qwk {id:Nat}{l:List Oper}{Q:Exit→St→Prop}(plan:List Item)(deps:List (List Nat))(m:P.follows .mixedOrders=true)(d:l.length=plan.length)(b:(QaO l.toArray deps plan.length&&QaY plan deps&&JM l.toArray plan.length)=true)
 (H:∀i o it,l[i]? =some o→plan[i]? =some it→∀s,At plan deps s0 i s→Acts A P l.toArray o s (U6 s it)) (k:Q .normal (stD plan s0 fun _=>true)):AC A P (.region id l.toArray true) Q s0:=fun a w r=>by
 simp only[aH] at b
 refine wp_region_held (S:=fun _=>True) m (QlE (s0:=s0) (by simpa using d) b.1.1 b.1.2 b.2 (fun i o it n c=>H i o it (by simpa using n) c) (fun a w r=>⟨_,k,r⟩) _ _ a _ (by simpa using d) ?_ ?_ ?_)
 ·refine bi (bR _ _) ?_
  simp[d]
 ·intro j p h
  simp[bM,Array.getElem?_replicate] at h
  split at h <;> simp at h
 ·have f:=r.drew
  obtain ⟨g,f⟩:=f
  have e:∀j,(Array.replicate l.toArray.size false).getD j false=false:=fun j=>by
   simp only[bM,Array.getElem?_replicate]
   split <;> rfl
  refine ⟨g,f.ext (fun t=> ?_) fun q=> ?_⟩
  ·show lk (pTm plan _ 0 s0.tm) t=lk s0.tm t
   rw[QgH e]
  ·show (pTb plan _ 0 s0.tab).ent q=s0.tab.ent q
   rw[QgG e]
end
section
variable {A:Amb}{P:Program}{s:St}{x y z:Operand}{d:Nat}{T T' ty:TypeId}{pos:String}{af:Array Edge}{g:Option (Nat×Bool)}
def Qfi {c:Bool×List LV}(h:Evl A s x (dB true))(i:Ev A s y c)(f:Nat.blt d A.n=true):Does A P ⟨some d,.pick x y z,ty,pos,af,g⟩ s (s.put d (.cm c.1 c.2)):=
 Qk rfl f fun e a w r=>⟨a.eval y,by
  simp only[execOp,h.b r,asBool,aw,be,aF,if_true],i e a w r⟩
def Qfh {c:Bool×List LV}(h:Evl A s x (dB false))(i:Ev A s z c)(f:Nat.blt d A.n=true):Does A P ⟨some d,.pick x y z,ty,pos,af,g⟩ s (s.put d (.cm c.1 c.2)):=
 Qk rfl f fun e a w r=>⟨a.eval z,by
  simp only[execOp,h.b r,asBool,aw,be,aF,if_false,cc],i e a w r⟩
def QhW (offs:List (Nat×Nat)):List LV→List (Nat×List LV)→Option (List LV)
 | cs,[]=>some cs
 | cs,(i,ls)::rest=>match offs[i]? with
  | some (off,sz)=>match Nat.beq ls.length sz&&Nat.ble (off+sz) cs.length with
   | true=>QhW offs (splice cs off ls) rest
   | false=>none
  | none=>none
def bld (P:Program)(T:TypeId)(offs:List (Nat×Nat))(t:Ty):Prop:=
 ∃fs,P.underlying T=some (.struct fs)∧(∀w,(fs.mapM fun (f:Field)=>do pure (f.offset,← sizeOf f.type)).run P w= .ok offs.toArray w)∧zer P T=some (.agg t.zeros.toArray)
def plB (P:Program):List Field→List (Nat×Nat)→Bool
 | [],[]=>true
 | f::fs,(o,s)::ps=>Nat.beq f.offset o&&(match P.info? f.type with
  | some i=>Nat.beq i.size s
  | none=>false)&&plB P fs ps
 | _,_=>false
def QbI {P:Program}{w:World}:∀{b:List Field} {offs:List (Nat×Nat)},plB P b offs=true→(b.mapM fun (f:Field)=>(do pure (f.offset,← sizeOf f.type):Sem (Nat×Nat))).run P w= .ok offs w
 | [],[],_=>by simp
 | [],_::_,h=>by cases h
 | _::_,[],h=>by cases h
 | f::b,(o,s)::ps,h=>by
  simp only[plB,aH] at h
  have j:=aZ h.1.1
  have e:=QbI (P:=P) (w:=w) h.2
  have a:=h.1.2
  cases c:P.info? f.type with
  | none=>rw[c] at a;cases a
  | some i=>
   rw[c] at a
   have l:=aZ a
   subst j;subst l
   simp only[List.mapM_cons,aw,sizeOf,typeInfo,c,be,aF,run_program]
   simp only[sizeOf,typeInfo] at e
   rw[e]
   simp
def Z9 {P:Program}{T:TypeId}{a:List Field}{offs:List (Nat×Nat)}{t:Ty}(c:P.underlying T=some (.struct a.toArray))(b:plB P a offs=true)(e:zer P T=some (.agg t.zeros.toArray)):bld P T offs t:=
 ⟨_,c,fun w=>by
  rw[List.mapM_toArray]
  have:=QbI (P:=P) (w:=w) b
  simp only[map_eq_pure_bind,aw,this,aF,be],e⟩
theorem Qcm {al:Nat→Prop}{gh:Gh}{w:World}{offs:List (Nat×Nat)}:∀{ps:List (Nat×List LV)} {vs:List Value} {cs ls:List LV} {cur:Array Value},QhW offs cs ps=some ls→vs.length=ps.length→
 (∀(i:Nat) (p:Nat×List LV) (v:Value),ps[i]? =some p→vs[i]? =some v→∃us,v.cells=us.toArray∧LVs al gh w p.2 us)→LVs al gh w cs cur.toList→
 ∃b,Instr.fill (offs.toArray[·]?) cur ((ps.map (·.1)).zip vs)=some b∧LVs al gh w ls b.toList
 | [],vs,cs,ls,cur,h,hl,_,hc=>by
  have:vs=[]:=bF (by simpa using hl)
  subst this
  cases h
  exact ⟨cur,rfl,hc⟩
 | (i,l)::ps,[],_,_,_,_,hl,_,_=>by simp at hl
 | (i,l)::ps,v::vs,cs,ls,cur,h,hl,hv,hc=>by
  obtain ⟨us,D,H⟩:=hv 0 (i,l) v rfl rfl
  unfold QhW at h
  cases u:offs[i]? with
  | none=>rw[u] at h;cases h
  | some p=>
   obtain ⟨a,o⟩:=p
   rw[u] at h
   simp only at h
   cases m:Nat.beq l.length o&&Nat.ble (a+o) cs.length with
   | false=>rw[m] at h;cases h
   | true=>
    rw[m] at h
    simp only[aH] at m
    have M:=aZ m.1
    have N:=aD m.2
    have f:LVs al gh w l us:=H
    have Q:=f.len
    have C:=hc.len
    have n:=hc.splice f (off:=a)
    have E:=Qh5 us a cur 0 (by simp at C;omega)
    generalize I:List.foldl (fun (cs:Array Value) (p:Value×Nat)=>cs.setIfInBounds (a+p.2) p.1) cur (us.zipIdx 0)=F at E
    have q:F.toList=cur.toList.take a++us++cur.toList.drop (a+us.length):=by simpa using E
    rw[← q] at n
    obtain ⟨b,K,L⟩:=Qcm (ps:=ps) (vs:=vs) h (by simpa using hl) (fun j p v J B=>hv (j+1) p v (by simpa using J) (by simpa using B)) n
    refine ⟨b,?_,L⟩
    have t:v.cells.size=o:=by rw[D];simp;omega
    have G:a+v.cells.size≤cur.size:=by rw[t];simp at C;omega
    show (match offs.toArray[i]? with
     | none=>none
     | some (a,size)=>if (decide (v.cells.size≠size)||decide (a+v.cells.size > cur.size))=true then none else Instr.fill _ (v.cells.zipIdx.foldl (fun cs (x:Value×Nat)=>match x with|(c,j)=>cs.setIfInBounds (a+j) c) cur) _)=some b
    rw[show offs.toArray[i]? =some (a,o) by simpa using u]
    have e:(decide (v.cells.size≠o)||decide (a+v.cells.size > cur.size))=false:=by
     grind
    have r:v.cells.zipIdx.foldl (fun cs (x:Value×Nat)=>match x with|(c,j)=>cs.setIfInBounds (a+j) c) cur=F:=by
     rw[← I,← Array.foldl_toList,Array.toList_zipIdx,D]
    simp only[e,r]
    exact K
theorem Qh {t:Ty}{offs:List (Nat×Nat)}{f:Array (Nat×Operand)}{j:List (Bool×List LV)}{ls:List LV}(hb:bld P T offs t)(hv:EvL A s (f.toList.map (·.2)) j)(u:∀c∈j,QH s.tab c.2=true)
 (hf:QhW offs t.zlv ((f.toList.map (·.1)).zip (j.map (·.2)))=some ls) (hn:Nat.blt d A.n=true):Does A P ⟨some d,.build T f,ty,pos,af,g⟩ s (s.put d (ag ls)):=
 Qk rfl hn fun F a w r=>by
  obtain ⟨fs,U,V,J⟩:=hb
  have G:=hv.cms r
  have R:=G.len
  generalize Q:(f.toList.map (·.2)).map a.eval=B at*
  have a0:f.toList.length=B.length:=by rw[← Q];simp
  have o:∀(E:List (Bool×List LV)) (B:List Value),CmsR s.tab.al F w E B→(∀c∈E,QH s.tab c.2=true)→∀(i:Nat) (c:Bool×List LV) (v:Value),E[i]? =some c→B[i]? =some v→∃S,v.cells=S.toArray∧LVs s.tab.al F w c.2 S:=by
   intro E
   induction E with
   | nil=>intro B _ _ i c v h;simp at h
   | cons c E ih=>
    rintro B ⟨v,M,rfl,H,L⟩ u i I v' D m
    cases i with
    | zero=>
     simp at D m
     subst D;subst m
     have D:=u c (aA ..)
     obtain ⟨b,ls⟩:=c
     exact CmR.cells H fun hb=>by
      subst hb
      obtain ⟨l,rfl,q1⟩:=H
      simp only[QH,cY] at D
      obtain ⟨J,W⟩:=Vf D
      exact q1.oneCell W J fun q ⟨e,Z⟩=>(r.cx.en q e Z).oneCell
    | succ i=>exact ih M L (fun c D=>u c (az _ D)) i I v' (by simpa using D) (by simpa using m)
  have K:((f.toList.map (·.1)).zip (j.map (·.2))).length=B.length:=by rw[dx,aC,aC];omega
  obtain ⟨C,H,L⟩:=Qcm (al:=s.tab.al) (gh:=F) (w:=w) (cur:=t.zeros.toArray) hf K.symm (fun i p v hp m=>by
   have hi:=cP.1 hp
   have N:=hi.2
   rw[bl] at N
   obtain ⟨I,X,Y⟩:=cq.1 N
   rw[← Y]
   exact o j B G u i I v X m) (by simpa using Kl s.tab.al F w t)
  refine ⟨.agg C,?_,C.toList,by simp,L⟩
  have hz:(((f.toList.map (·.1)).zip (j.map (·.2))).map (·.1)).zip B=(f.map fun p=>(p.1,a.eval p.2)).toList:=by
   rw[List.map_fst_zip (by rw[aC,aC];omega),da,← Q,dL]
   grind
  rw[hz] at H
  simp only[execOp,Instr.build,aw,Wc J,aF,run_underlying U,V,Value.cells]
  rw[H]
  simp
end
def ActsL (A:Amb)(P:Program)(ops:Array Oper)(plan:List Item)(deps:List (List Nat))(s0:St):List Oper→List Item→Nat→Prop
 | o::l,it::p,i=>(∀s,At plan deps s0 i s→Acts A P ops o s (U6 s it))∧ActsL A P ops plan deps s0 l p (i+1)
 | [],_,_=>True
 | _::_,[],_=>True
def ActsL.get {A:Amb}{P:Program}{ops:Array Oper}{a:List Item}{deps:List (List Nat)}{s0:St}:∀{l:List Oper} {p:List Item} {k:Nat},ActsL A P ops a deps s0 l p k→∀i o it,l[i]? =some o→p[i]? =some it→∀s,At a deps s0 (k+i) s→Acts A P ops o s (U6 s it)
 | [],_,_,_,i,o,it,h,_=>by simp at h
 | _::_,[],_,_,i,o,it,_,h=>by simp at h
 | o'::l,it'::p,k,⟨h1,h2⟩,0,o,it,ho,hi=>by
  simp at ho hi
  subst ho;subst hi
  exact h1
 | o'::l,it'::p,k,⟨h1,h2⟩,i+1,o,it,ho,hi=>by
  have:=ActsL.get h2 i o it (by simpa using ho) (by simpa using hi)
  rwa [show k+1+i=k+(i+1) by omega] at this
def Qe6 {A:Amb}{P:Program}{s0:St}{id:Nat}{l:List Oper}{Q:Exit→St→Prop}(a:List Item)(deps:List (List Nat))(e:P.follows .mixedOrders=true)(f:l.length=a.length)(b:(QaO l.toArray deps a.length&&QaY a deps&&JM l.toArray a.length)=true)
 (H:ActsL A P l.toArray a deps s0 l a 0) (k:Q .normal (stD a s0 fun _=>true)):AC A P (.region id l.toArray true) Q s0:=
 Qwk a deps e f b (fun i o j h c s m=>ActsL.get H i o j h c s (by rwa [bJ])) k
def Qt2 {A:Amb}{s:St}{x:Operand}{E:TypeId}{e:Ty}{l:List e.Den}(h:Evl A s x (.dat (.sl E e) l)):∀gh a w,Rg A s gh a w→l.length≤9223372036854775807:=fun gh a w r=>by
 have:=Qxt h gh a w r
 unfold maxLen at this;omega
def Qrj {A:Amb}{s:St}{x:Operand}{b:BA}(h:Evl A s x (dS b)):∀gh a w,Rg A s gh a w→b.size≤9223372036854775807:=fun gh a w r=>by
 have:=Qt3 h gh a w r
 unfold maxLen at this;omega
def Qsw {A:Amb}{P:Program}{s:St}{Q:Exit→St→Prop}{c:Operand}{x y:Code}(a:Evl A s c (dB true))(h:AC A P x Q s):AC A P (.cond c x y) Q s:=H7 a (fun _=>h) fun h=>by cases h
def Qsv {A:Amb}{P:Program}{s:St}{Q:Exit→St→Prop}{c:Operand}{x y:Code}(a:Evl A s c (dB false))(h:AC A P y Q s):AC A P (.cond c x y) Q s:=H7 a (fun h=>by cases h) fun _=>h
@[reducible] def Qa7 (O:PV→Tab→Prop) (k:Nat):PV→Tab→Prop:=fun p T0=>∃pv T' ρ,p=pv.ren (rn ρ)∧HasE ⟨[],T0⟩ ρ T'∧WZ (T'.map fun x=>rn ρ x.1)=true∧idB ρ k=true∧O pv T'
def FC.ren {P:Program}{f:FuncId}{args:List (Bool×List LV)}{T:Tab}{k:Nat}{O:PV→Tab→Prop}(h:FC P f args T k (Qa7 O k)):FC P f args T k O:=fun E w Q D G=>
 Calls.mono (h E w Q D G) fun e R H=>by
  obtain ⟨v,M,C,l,j,⟨L,T',ρ,rfl,u,I,hid,F⟩,b,K,n,J⟩:=H
  have a:∀q,T'.al q→C.al (rn ρ q):=fun q ⟨e,h⟩=>⟨_,u.get h⟩
  have m:∀q i,T'.al q→T'.al i→rn ρ q=rn ρ i→q=i:=fun q i j o h=>Ho I j o h
  refine ⟨v,L,T',l.via (rn ρ),j,F,⟨fun q e h=> ?_,fun q i j o t=>b.dj _ _ (a q j) (a i o) fun h=>t (m q i j o h),fun q h=>b.nd _ (a q h),fun q h=>b.no _ (a q h),b.nl⟩,
   (PVR.ren.1 K).mono (fun q _ p=>⟨a q p,rfl⟩) (fun g r=>⟨r,rfl⟩),⟨n.gw,n.kp,n.nn,fun q h=>n.ox _ (a q h)⟩,fun q B h=> ?_⟩
  ·exact (EntR.ren.1 (b.en _ _ (u.get h))).mono (fun N _ p=>⟨a N p,rfl⟩) (fun g r=>⟨r,rfl⟩) rfl rfl fun _ _=>rfl
  ·have c:=QkS hid q B
   have:=J (rn ρ q) (by rw[c];exact B) (a q h)
   rw[c] at this
   show l.h (rn ρ q)=_
   rw[c]
   exact this
section
variable {A:Amb}{P:Program}{fn:Func}{s:St}{O:PV→Tab→Prop}{k:Nat}
def QeL (pv:PV)(T':Tab)(ρ:List (Nat×Nat))(a:Res A P fn s (pv.ren (rn ρ)))(b:HasE ⟨[],s.tab⟩ ρ T')(c:WZ (T'.map fun x=>rn ρ x.1)=true)(e:idB ρ k=true)(f:O pv T'):fin A P fn (Qa7 O k) .ret s:=
 ⟨_,a,pv,T',ρ,rfl,b,c,e,f⟩
def Qpk:∀k,idB [] k=true
 | 0=>rfl
 | k+1=>by simp[idB,rn,lk,Qpk k]
def KJ {pv a:PV}(h:Res A P fn s a)(e:a=pv)(b:pv.tags=[]):fin A P fn (Qa7 (QJ pv) k) .ret s:=by
 subst e
 exact QeL a [] [] (by rw[PV.ren_id b];exact h) trivial rfl (Qpk k) ⟨rfl,rfl⟩
def Qxx {q:Nat}{E:TypeId}{e:Ty}{xs zs:List e.Den}(h:Res A P fn s (lf (.ref q)))(a:s.tab.ent q=some (.arr E e xs))(b:xs=zs):fin A P fn (Qa7 (WB E e zs) 0) .ret s:=by
 subst b
 refine QeL (lf (.ref 0)) [(0,some (.arr E e xs))] [(0,q)] h ⟨?_,trivial⟩ rfl rfl ⟨rfl,rfl⟩
 exact a
def Rs.cell {a t q n:Nat}{E:TypeId}{cs:List LV}(h:lk s.tm a=some (lf (.ptr q 0)))(i:s.tab.ent q=some (.box E cs))(p:tsh P t=some (true,n))(B:cs.length=n):Rs A P s (.cell a t) (true,cs):=fun l ac w r=>by
 obtain ⟨g,m,c⟩:=Qa h l ac w r ⟨_,i⟩
 obtain ⟨D,b,e,F,o,f⟩:=r.cx.en q _ i
 rw[m] at e
 cases e
 refine ⟨.agg b,?_,b.toList,by simp,f⟩
 have C:=Wl (w:=w) p g 0 b.toList (by rw[f.len];exact B) fun j u v=>by
  simp only[World.cell?,o]
  simpa using v
 have c:ac.tmps.getD a undef= .pointer (some ⟨g,0,none⟩):=c
 simp only[Qyq,c,asAddr,aw,be,aF,C]
def QsQ {a t q n:Nat}{E:TypeId}{l:LV}(h:lk s.tm a=some (lf (.ptr q 0)))(f:s.tab.ent q=some (.box E [l]))(B:tsh P t=some (false,n)):Rs A P s (.cell a t) (false,[l]):=fun i ac w r=>by
 obtain ⟨g,j,c⟩:=Qa h i ac w r ⟨_,f⟩
 obtain ⟨D,b,e,F,m,o⟩:=r.cx.en q _ f
 rw[j] at e
 cases e
 obtain ⟨v,H,p,u,G⟩:=o
 have C:w.cell? ⟨g,0,none⟩=some v:=by
  simp only[World.cell?,m]
  have:b.toList[0]? =some v:=by rw[p];rfl
  simpa using this
 have c:ac.tmps.getD a undef= .pointer (some ⟨g,0,none⟩):=c
 refine ⟨v,?_,l,rfl,u⟩
 simp only[Qyq,c,asAddr,aw,be,aF,Yl B _ v C]
end
def Zb {A:Amb}{I:Nat→St→Prop}{m:Nat}{c:St}{a:Nat}{b:St}(h:I a b)(e:a<m)(f:Wk A c b):∃a b,a<m∧Wk A c b∧I a b:=⟨a,b,e,f,h⟩
def Qg {E:TypeId}{e:Ty}{xs ys:List e.Den}(h:xs=ys):some (Ent.arr E e xs)=some (Ent.arr E e ys):=congrArg (fun z=>some (Ent.arr E e z)) h
def QC2 {kb:Bool}{k:Ty}{vb:Bool}{v:Ty}{xs ys:List (k.Den×v.Den)}(h:xs=ys):some (Ent.mp kb k vb v xs)=some (Ent.mp kb k vb v ys):=congrArg (fun z=>some (Ent.mp kb k vb v z)) h
def QC3 {E:TypeId}{xs ys:List UInt8}(h:xs=ys):some (Ent.bys E xs)=some (Ent.bys E ys):=congrArg (fun z=>some (Ent.bys E z)) h
def nlr {a b:Nat}(h:Nat.ble a b=true):a≤b:=aD h
def Xc {A:Amb}{P:Program}{Q:Exit→St→Prop}{s:St}{x0 z:Code}(I:St→Prop)(h:∀s,I s→AC A P z Q s)(k:(∀s,I s→AC A P z Q s)→AC A P (.seq x0 z) Q s):AC A P (.seq x0 z) Q s:=k h
def Qsz {A:Amb}{P:Program}{Q:Exit→St→Prop}{s:St}{x0 a z:Code}(I:St→Prop)(h:∀s,I s→AC A P z Q s)(k:(∀s,I s→AC A P z Q s)→AC A P (.seq x0 (.seq a z)) Q s):AC A P (.seq x0 (.seq a z)) Q s:=k h
def Qj6 {A:Amb}{P:Program}{Q:Exit→St→Prop}{s:St}{x0 a b z:Code}(I:St→Prop)(h:∀s,I s→AC A P z Q s)(k:(∀s,I s→AC A P z Q s)→AC A P (.seq x0 (.seq a (.seq b z))) Q s):AC A P (.seq x0 (.seq a (.seq b z))) Q s:=k h
def QsA {A:Amb}{P:Program}{Q:Exit→St→Prop}{s:St}{x0 a b c z:Code}(I:St→Prop)(h:∀s,I s→AC A P z Q s)(k:(∀s,I s→AC A P z Q s)→AC A P (.seq x0 (.seq a (.seq b (.seq c z)))) Q s):AC A P (.seq x0 (.seq a (.seq b (.seq c z)))) Q s:=k h
def Yf {A:Amb}{P:Program}{c:Code}{Q:Exit→St→Prop}{s s':St}(h:AC A P c Q s')(k:Wk A s s'):AC A P c Q s:=AC.wk k h
def QL {p:Prop}[Decidable p](h:(!decide p)=true):¬p:=by simpa using h
def QB {p:Prop}[Decidable p](h:(!decide p)=false):p:=by simpa using h
def Qr {α:Type _}{l:List α}{k:Nat}{x:α}(h:l[k]? =some x):l.take (k+1)=l.take k++[x]:=by
 obtain ⟨a,b⟩:=ae.1 h
 rw[cd a,b]
def Zy {α:Type _}{l:List α}{k:Nat}(h:l.length≤k):l.take k=l:=aJ h
theorem QcN {P:Program}{f:FuncId}{args:List (Bool×List LV)}{b:Bool}(h:∀(gh:Gh) (w:World) (vs:List Value),CmsR (Tab.al []) gh w args vs→Calls P f vs.toArray w (RetB (b=true) w)):FC P f args [] 0 (QJ (lf (dB b))):=fun gh w vs l m=>
 Calls.mono (h gh w vs m) fun e p o=>by
  obtain ⟨j,rfl,r,c⟩:=o
  have n:j=b:=by cases j <;> cases b <;> simp_all
  subst n
  exact ⟨_,_,[],gh,rfl,⟨rfl,rfl⟩,VA ZO gh p fun g a=>ba (l.nl g a) c.size,⟨_,rfl,ZY⟩,⟨c.grw,fun g a _=>Below.block c g a,fun g a=> .inl a,fun q i=>absurd i (ZO q)⟩,fun q i=>absurd i (by omega)⟩
def CmsR.agg1 {al:Nat→Prop}{gh:Gh}{w:World}{t:Ty}{x:t.Den}{vs:List Value}(h:CmsR al gh w [(true,leaves t x)] vs):∃us,vs=[.agg us.toArray]∧Rep t w us x:=by
 obtain ⟨v,a,rfl,⟨us,rfl,b⟩,c⟩:=h
 rw[show a=[] from c]
 exact ⟨us,rfl,(LVs.rd b).rep⟩
def CmsR.leaf1 {al:Nat→Prop}{gh:Gh}{w:World}{t:Ty}{x:t.Den}{vs:List Value}(h:CmsR al gh w [(false,[.dat t x])] vs):∃v,vs=[v]∧Rep t w [v] x:=by
 obtain ⟨v,a,rfl,⟨l,b,c⟩,e⟩:=h
 simp only[aN,and_true] at b
 subst b
 rw[show a=[] from e]
 exact ⟨v,rfl,c.rep⟩
end Go.Proofs.YtjfpbcmfbnnooaaGreat
