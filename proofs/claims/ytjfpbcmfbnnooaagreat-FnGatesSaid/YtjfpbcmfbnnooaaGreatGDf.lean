/- The traces of a state graph: levels. Plain law. -/
import Derived.Test.YtjfpbcmfbnnooaaGreatGEa
import Derived.Test.YtjfpbcmfbnnooaaGreatGAl
import Derived.Test.YtjfpbcmfbnnooaaGreatGWk
import Derived.Test.YtjfpbcmfbnnooaaGreatGAu
import Derived.Test.YtjfpbcmfbnnooaaGreatGWv
import Derived.Test.YtjfpbcmfbnnooaaGreatGUa
import Derived.Test.YtjfpbcmfbnnooaaGreatGBc
import Derived.Test.YtjfpbcmfbnnooaaGreatGWp
import Derived.Test.YtjfpbcmfbnnooaaGreatGWz
import Derived.Test.YtjfpbcmfbnnooaaGreatGFb
set_option linter.unusedSimpArgs false
set_option linter.unusedVariables false
set_option linter.unusedSectionVars false
namespace Go.Proofs.YtjfpbcmfbnnooaaGreat
open Go.RowKit
set_option maxRecDepth 100000
set_option maxHeartbeats 4000000
inductive Tr (c:DSg) (h:Int):Nat→ByteArray→Int→Prop
  | zero:Tr c h 0 ByteArray.empty 0
  | still {n:Nat} {t:ByteArray} {a:DAr}:Tr c h n t a.1→a∈c.2.2→inv h a=true→Tr c h n t a.2.2.2
  | word {n:Nat} {t:ByteArray} {a:DAr}:Tr c h n t a.1→a∈c.2.2→inv h a=false→Tr c h (n+1) (t++wdA c a) a.2.2.2
@[reducible] def DTx:=ByteArray×List Int×Int
@[reducible] def DLv:=List (ByteArray×List Int)
def Vs (c:DSg)(h:Int)(L:DLv)(s:ByteArray)(v:Int):Prop:=∃q∈L,∃a∈c.2.2,inv h a=false∧a.1∈q.2∧s=q.1++wdA c a∧v=a.2.2.2
structure Lev (c:DSg) (h:Int) (n:Nat) (K:DLv):Prop where
  nod:K.Pairwise fun p q=>p.1≠q.1
  mem:∀p∈K,(∃u,u∈p.2)∧∀u,u∈p.2↔Tr c h n p.1 u
  all:∀t u,Tr c h n t u→∃p∈K,p.1=t
section
variable {c:DSg}{h:Int}{n m:Nat}{s t:ByteArray}{u v:Int}{K L M:DLv}{a:DAr}
theorem Tr.ch {P:Int→Prop}(f:∀u,P u→Tr c h n t u)(k:Ch c.2.2 h P u):Tr c h n t u:=by
 induction k with
 | base b=>exact f _ b
 | step _ d e g=>exact .still g d e
theorem Qd9:Tr c h 0 t u↔t=ByteArray.empty∧Ch c.2.2 h (fun v=>v=0) u:=by
 constructor
 ·intro k
  generalize e:0=n at k
  induction k with
  | zero=>exact ⟨rfl,.base rfl⟩
  | still _ d f b=>exact ⟨(b e).1,.step (b e).2 d f⟩
  | word=>cases e
 ·rintro ⟨rfl,k⟩
  exact Tr.ch (fun u g=>by subst g;exact .zero) k
theorem QvK:Tr c h (n+1) s u↔Ch c.2.2 h (fun v=>∃t,∃a∈c.2.2,inv h a=false∧Tr c h n t a.1∧s=t++wdA c a∧v=a.2.2.2) u:=by
 constructor
 ·intro k
  generalize e:n+1=m at k
  induction k with
  | zero=>cases e
  | still _ b d j=>exact .step (j e) b d
  | word f b d=>
   cases e
   exact .base ⟨_,_,b,d,f,rfl,rfl⟩
 ·exact Tr.ch fun u ⟨t,a,f,b,d,g,i⟩=>by subst g;subst i;exact .word d f b
theorem Lev.vs (g:Lev c h n L):Vs c h L s v↔∃t,∃a∈c.2.2,inv h a=false∧Tr c h n t a.1∧s=t++wdA c a∧v=a.2.2.2:=by
 constructor
 ·rintro ⟨q,d,a,e,f,b,i,j⟩
  exact ⟨q.1,a,e,f,((g.mem q d).2 _).1 b,i,j⟩
 ·rintro ⟨t,a,e,f,b,i,j⟩
  obtain ⟨q,d,rfl⟩:=g.all t _ b
  exact ⟨q,d,a,e,f,((g.mem q d).2 _).2 b,i,j⟩
theorem Lev.next (g:Lev c h n L)(l:M.Pairwise fun p q=>p.1≠q.1)(f:∀p∈M,(∃v,Vs c h L p.1 v)∧∀u,u∈p.2↔Ch c.2.2 h (fun v=>Vs c h L p.1 v) u)(k:∀s v,Vs c h L s v→∃p∈M,p.1=s):Lev c h (n+1) M:=by
 have e:∀s u,Ch c.2.2 h (fun v=>Vs c h L s v) u↔Tr c h (n+1) s u:=fun s u=>(Ch.congr fun _=>g.vs).trans QvK.symm
 refine ⟨l,fun p i=>⟨?_,fun u=>((f p i).2 u).trans (e _ _)⟩,fun t u o=> ?_⟩
 ·obtain ⟨v,j⟩:=(f p i).1
  exact ⟨v,((f p i).2 v).2 (.base j)⟩
 ·have b:=(e t u).2 o
  have d:∃v,Vs c h L t v:=by
   induction b with
   | base d=>exact ⟨_,d⟩
   | step b _ _ r=>exact r ((e _ _).1 b)
  obtain ⟨v,j⟩:=d
  exact k t v j
def H0:List DTx→DTx→List DTx
 | [],x=>[x]
 | y::l,x=>if y.1=x.1∧y.2.2=x.2.2 then (y.1,x.2.1.foldl (fun s k=>Zg ltI k s) y.2.1,y.2.2)::l else y::H0 l x
def arT (c:DSg)(h:Int)(x:DTx)(out:List DTx)(a:DAr):List DTx:=if inv h a=false∧a.1∈x.2.1 then H0 out (x.1++wdA c a,[a.2.2.2],x.2.2+1) else out
def Qvu (c:DSg)(h:Int)(as_:List DAr)(x:DTx)(out:List DTx):List DTx:=as_.foldl (arT c h x) out
def Quo (c:DSg)(h:Int)(L:List DTx)(out:List DTx):List DTx:=L.foldl (fun out x=>Qvu c h c.2.2 x out) out
def QwM (c:DSg)(h:Int)(y:DTx):DTx:=(y.1,stl c h y.2.1,y.2.2)
def Qzz (c:DSg)(h:Int)(L:List DTx):List DTx:=(Quo c h L []).map (QwM c h)
def QaH (c:DSg)(h:Int):Nat→List DTx
 | 0=>[(ByteArray.empty,stl c h [0],0)]
 | n+1=>Qzz c h (QaH c h n)
def unT (L:List DTx):DLv:=L.map fun x=>(x.1,x.2.1)
structure OT (m:Int) (V:ByteArray→Int→Prop) (out:List DTx):Prop where
  many:∀y∈out,y.2.2=m
  nod:out.Pairwise fun p q=>p.1≠q.1
  srt:∀y∈out,Srt y.2.1
  mem:∀y∈out,∀v,v∈y.2.1↔V y.1 v
  wit:∀y∈out,∃v,V y.1 v
  all:∀s v,V s v→∃y∈out,y.1=s
theorem OT.congr {i:Int}{V W:ByteArray→Int→Prop}{out:List DTx}(g:OT i V out)(e:∀s v,V s v↔W s v):OT i W out:=
 ⟨g.many,g.nod,g.srt,fun y d v=>(g.mem y d v).trans (e _ _),fun y d=>(g.wit y d).imp fun v b=>(e _ _).1 b,fun s v b=>g.all s v ((e _ _).2 b)⟩
theorem Qkj {i:Int}:∀{out:List DTx} {y:DTx},(∀y∈out,y.2.2=i)→(out.Pairwise fun p q=>p.1≠q.1)→(y∈H0 out (s,[v],i)↔(y∈out∧y.1≠s)∨(∃z∈out,z.1=s∧y=(z.1,Zg ltI v z.2.1,z.2.2))∨((∀z∈out,z.1≠s)∧y=(s,[v],i)))
 | [],y,_,_=>by simp[H0]
 | z::l,y,hm,hn=>by
  obtain ⟨r,w⟩:=bA.1 hn
  have o:=hm z (aB ..)
  rw[H0]
  by_cases e:z.1=s
  ·rw[if_pos ⟨e,o⟩]
   have A:∀x∈l,x.1≠s:=fun x d g=>r x d (e.trans g.symm)
   simp only[bC,List.foldl_nil,aJ]
   constructor
   ·rintro (rfl|j)
    ·exact .inr (.inl ⟨z,.inl rfl,e,rfl⟩)
    ·exact .inl ⟨.inr j,A y j⟩
   ·rintro (⟨rfl|j,b⟩|⟨x,rfl|d,b,rfl⟩|⟨f,_⟩)
    ·exact absurd e b
    ·exact .inr j
    ·exact .inl rfl
    ·exact absurd b (A x d)
    ·exact absurd e (f z (.inl rfl))
  ·rw[if_neg (fun g=>e g.1)]
   have B:=Qkj (out:=l) (y:=y) (fun x d=>hm x (aA _ d)) w
   rw[aJ,B]
   simp only[aJ]
   constructor
   ·rintro (rfl|⟨f,b⟩|⟨x,d,b,k⟩|⟨f,b⟩)
    ·exact .inl ⟨.inl rfl,e⟩
    ·exact .inl ⟨.inr f,b⟩
    ·exact .inr (.inl ⟨x,.inr d,b,k⟩)
    ·exact .inr (.inr ⟨fun x d=>by rcases d with rfl|d;exact e;exact f x d,b⟩)
   ·rintro (⟨rfl|f,b⟩|⟨x,rfl|d,b,k⟩|⟨f,b⟩)
    ·exact .inl rfl
    ·exact .inr (.inl ⟨f,b⟩)
    ·exact absurd b e
    ·exact .inr (.inr (.inl ⟨x,d,b,k⟩))
    ·exact .inr (.inr (.inr ⟨fun x d=>f x (.inr d),b⟩))
theorem Qki {i:Int}{x:DTx}:∀{out:List DTx},∀y∈H0 out x,y.1=x.1∨∃z∈out,z.1=y.1
 | [],y,hy=>by rw[H0,aF] at hy;subst hy;exact .inl rfl
 | z::l,y,hy=>by
  rw[H0] at hy
  split at hy
  ·rcases aJ.1 hy with rfl|hy
   ·exact .inr ⟨z,aB ..,rfl⟩
   ·exact .inr ⟨y,aA _ hy,rfl⟩
  ·rcases aJ.1 hy with rfl|hy
   ·exact .inr ⟨y,aB ..,rfl⟩
   ·rcases Qki (i:=i) y hy with b|⟨w,d,b⟩
    ·exact .inl b
    ·exact .inr ⟨w,aA _ d,b⟩
theorem Qkk {i:Int}{x:DTx}(e:x.2.2=i):∀{out:List DTx},(∀y∈out,y.2.2=i)→(out.Pairwise fun p q=>p.1≠q.1)→(H0 out x).Pairwise fun p q=>p.1≠q.1
 | [],_,_=>cU ..
 | z::l,hm,hn=>by
  obtain ⟨b,d⟩:=bA.1 hn
  have j:=hm z (aB ..)
  rw[H0]
  split
  ·exact bA.2 ⟨fun y k=>b y k,d⟩
  ·rename_i o
   refine bA.2 ⟨fun y k=> ?_,Qkk e (fun x e=>hm x (aA _ e)) d⟩
   rcases Qki (i:=i) y k with f|⟨w,r,f⟩
   ·exact fun g=>o ⟨g.trans f,j.trans e.symm⟩
   ·rw[← f];exact b w r
theorem OT.step {i:Int}{V:ByteArray→Int→Prop}{out:List DTx}(g:OT i V out):OT i (fun s' f=>V s' f∨(s'=s∧f=v)) (H0 out (s,[v],i)):=by
 have l:=fun y=>Qkj (s:=s) (v:=v) (y:=y) g.many g.nod
 have p:∀z∈out,z.1=s→∀f,f∈Zg ltI v z.2.1↔V s f∨f=v:=fun z b e f=>by
  rw[Yg,g.mem z b f,e];exact Or.comm
 refine ⟨fun y o=> ?_,Qkk rfl g.many g.nod,fun y o=> ?_,fun y o f=> ?_,fun y o=> ?_,fun s' f q=> ?_⟩
 ·rcases (l y).1 o with j|⟨z,b,d,rfl⟩|⟨_,rfl⟩
  ·exact g.many y j.1
  ·exact g.many z b
  ·rfl
 ·rcases (l y).1 o with j|⟨z,b,d,rfl⟩|⟨_,rfl⟩
  ·exact g.srt y j.1
  ·exact J5 Uc (g.srt z b)
  ·exact cU ..
 ·rcases (l y).1 o with j|⟨z,b,d,rfl⟩|⟨j,rfl⟩
  ·rw[g.mem y j.1];exact ⟨.inl,fun k=>k.resolve_right fun e=>j.2 e.1⟩
  ·show f∈Zg ltI v z.2.1↔_
   rw[p z b d,d]
   exact ⟨fun k=>k.imp id fun e=>⟨rfl,e⟩,fun k=>k.imp id fun e=>e.2⟩
  ·show f∈[v]↔_
   rw[aF]
   refine ⟨fun e=> .inr ⟨rfl,e⟩,fun k=>k.elim (fun k=> ?_) fun k=>k.2⟩
   obtain ⟨z,b,e⟩:=g.all _ _ k
   exact absurd e (j z b)
 ·rcases (l y).1 o with j|⟨z,b,d,rfl⟩|⟨_,rfl⟩
  ·exact (g.wit y j.1).imp fun _=> .inl
  ·exact ⟨v,.inr ⟨d,rfl⟩⟩
  ·exact ⟨v,.inr ⟨rfl,rfl⟩⟩
 ·by_cases e:s'=s
  ·subst e
   by_cases k:∃z∈out,z.1=s'
   ·obtain ⟨z,b,d⟩:=k
    exact ⟨_,(l _).2 (.inr (.inl ⟨z,b,d,rfl⟩)),d⟩
   ·exact ⟨_,(l _).2 (.inr (.inr ⟨fun z b d=>k ⟨z,b,d⟩,rfl⟩)),rfl⟩
  ·obtain ⟨z,b,d⟩:=g.all s' f (q.resolve_right fun k=>e k.1)
   exact ⟨z,(l _).2 (.inl ⟨b,by rw[d];exact e⟩),d⟩
theorem QiM {i:Int}{x:DTx}(d:x.2.2+1=i):∀(as_:List DAr) {V:ByteArray→Int→Prop} {out:List DTx},OT i V out→OT i (fun s v=>V s v∨∃a∈as_,inv h a=false∧a.1∈x.2.1∧s=x.1++wdA c a∧v=a.2.2.2) (Qvu c h as_ x out)
 | [],V,out,g=>g.congr fun s v=>by simp
 | a::l,V,out,g=>by
  show OT i _ (Qvu c h l x (arT c h x out a))
  unfold arT
  split
  ·rename_i b
   rw[d]
   refine (QiM d l g.step).congr fun s v=> ?_
   simp only[aJ,exists_eq_or_imp,or_assoc]
   exact or_congr_right (or_congr_left ⟨fun k=>⟨b.1,b.2,k⟩,fun k=>k.2.2⟩)
  ·rename_i b
   refine (QiM d l g).congr fun s v=> ?_
   simp only[aJ,exists_eq_or_imp]
   exact or_congr_right ⟨.inr,fun k=>k.resolve_left fun k=>b ⟨k.1,k.2.1⟩⟩
theorem Qnv {i:Int}:∀(L:List DTx) {V:ByteArray→Int→Prop} {out:List DTx},(∀x∈L,x.2.2+1=i)→OT i V out→OT i (fun s v=>V s v∨Vs c h (unT L) s v) (Quo c h L out)
 | [],V,out,_,g=>g.congr fun s v=>by simp[Vs,unT]
 | x::l,V,out,hm,g=>by
  refine (Qnv l (fun y b=>hm y (aA _ b)) (QiM (hm x (aB ..)) c.2.2 g)).congr fun s v=> ?_
  simp only[Vs,unT,bf,aJ,exists_eq_or_imp,or_assoc]
theorem Qrr {i:Int}{L:List DTx}(b:∀x∈L,x.2.2+1=i):OT i (Vs c h (unT L)) (Quo c h L []):=
 (Qnv L b (V:=fun _ _=>False) ⟨by simp,cC,by simp,by simp,by simp,by simp⟩).congr fun s v=>by simp
end
section
variable {c:DSg}{h:Int}{n m:Nat}{s t:ByteArray}{u v:Int}{K L M A D l1 l2:DLv}{a:DAr}{S T_:List Int}{q p:ByteArray×List Int}
theorem Qq6 (d:SgOk c)(b:a∈c.2.2):0≤a.2.2.2∧a.2.2.2<(c.2.1.length:Int):=by
 have:=d.arcs a b
 obtain ⟨_,e,_⟩:=this
 omega
theorem Qtn (f:SgOk c)(b:Srt S)(e:∀u∈S,0≤u∧u<(c.2.1.length:Int)):∀u,u∈stl c h S↔Ch c.2.2 h (fun v=>v∈S) u:=QmZ b (fun _ d=>Qq6 f d) e
theorem QAf (d:SgOk c)(k:Vs c h L s v):0≤v∧v<(c.2.1.length:Int):=by
 obtain ⟨_,_,a,b,_,_,_,rfl⟩:=k
 exact Qq6 d b
theorem QiY {L:List DTx}{p:ByteArray×List Int}(k:p∈unT L):∃x∈L,p=(x.1,x.2.1):=by
 obtain ⟨x,b,e⟩:=bd.1 k
 exact ⟨x,b,e.symm⟩
theorem QnY (f:SgOk c):∀n,(Lev c h n (unT (QaH c h n))∧(∀x∈QaH c h n,x.2.2=(n:Int)))∧∀x∈QaH c h n,Srt x.2.1:=fun n=>by
 have F:=f.some_
 induction n with
 | zero=>
  have z:∀u,u∈stl c h [0]↔Ch c.2.2 h (fun v=>v=0) u:=fun u=>(Qtn f (cU ..) (fun u r=>by rw[aF] at r;omega) u).trans (Ch.congr fun v=>aF)
  refine ⟨⟨⟨cU ..,fun p l=> ?_,fun t u r=>⟨_,aF.2 rfl,(Qd9.1 r).1.symm⟩⟩,fun x b=>by rw[QaH,aF] at b;subst b;rfl⟩,fun x b=>by rw[QaH,aF] at b;subst b;exact QbQ (cU ..)⟩
  obtain ⟨x,b,rfl⟩:=QiY l
  rw[QaH,aF] at b
  subst b
  exact ⟨⟨0,(z 0).2 (.base rfl)⟩,fun u=>(z u).trans ⟨fun k=>Qd9.2 ⟨rfl,k⟩,fun k=>(Qd9.1 k).2⟩⟩
 | succ n E=>
  obtain ⟨⟨g,B⟩,C⟩:=E
  have o:=Qrr (c:=c) (h:=h) (i:=(n:Int)+1) (L:=QaH c h n) fun x b=>by rw[B x b]
  have j:∀y∈Quo c h (QaH c h n) [],∀u,u∈stl c h y.2.1↔Ch c.2.2 h (fun v=>Vs c h (unT (QaH c h n)) y.1 v) u:=fun y d u=>
   (Qtn f (o.srt y d) (fun v w=>QAf f ((o.mem y d v).1 w)) u).trans (Ch.congr fun v=>o.mem y d v)
  refine ⟨⟨g.next ?_ (fun p l=> ?_) (fun s v w=> ?_),fun x b=> ?_⟩,fun x b=> ?_⟩
  ·unfold unT QaH Qzz
   rw[du,List.pairwise_map]
   exact o.nod
  ·obtain ⟨x,b,rfl⟩:=QiY l
   obtain ⟨y,d,rfl⟩:=bd.1 b
   exact ⟨o.wit y d,j y d⟩
  ·obtain ⟨y,d,e⟩:=o.all s v w
   exact ⟨_,bd.2 ⟨QwM c h y,bd.2 ⟨y,d,rfl⟩,rfl⟩,e⟩
  ·obtain ⟨y,d,rfl⟩:=bd.1 b
   rw[show (QwM c h y).2.2=y.2.2 from rfl,o.many y d];omega
  ·obtain ⟨y,d,rfl⟩:=bd.1 b
   exact QbQ (o.srt y d)
def QpP (L:List DTx)(out:List ByteArray):List ByteArray:=L.foldl (fun o x=>Zg ltB x.1 o) out
def txL (c:DSg)(h:Int):Nat→List ByteArray
 | 0=>QpP (QaH c h 0) []
 | n+1=>QpP (QaH c h (n+1)) (txL c h n)
theorem QfT:∀{L:List DTx} {out:List ByteArray},t∈QpP L out↔t∈out∨∃x∈L,x.1=t
 | [],out=>by simp[QpP]
 | x::l,out=>by
  show t∈QpP l (Zg ltB x.1 out)↔_
  rw[QfT,Yg]
  grind
theorem QfU (b:TO ltB):∀{L:List DTx} {out:List ByteArray},out.Pairwise (fun x y=>ltB x y=true)→(QpP L out).Pairwise (fun x y=>ltB x y=true)
 | [],_,k=>k
 | x::l,out,k=>QfU b (L:=l) (J5 b k)
theorem QoH (b:TO ltB):∀n,(txL c h n).Pairwise (fun x y=>ltB x y=true)
 | 0=>QfU b cC
 | n+1=>QfU b (QoH b n)
theorem Qsl (g:Lev c h n (unT (QaH c h n))):(∃x∈QaH c h n,x.1=t)↔∃u,Tr c h n t u:=by
 constructor
 ·rintro ⟨x,d,rfl⟩
  have e:=g.mem _ (bd.2 ⟨x,d,rfl⟩)
  exact e.1.imp fun u b=>(e.2 u).1 b
 ·rintro ⟨u,b⟩
  obtain ⟨p,f,rfl⟩:=g.all t u b
  obtain ⟨x,d,rfl⟩:=QiY f
  exact ⟨x,d,rfl⟩
theorem QiX (b:SgOk c):∀n,t∈txL c h n↔∃m,m≤n∧∃u,Tr c h m t u
 | 0=>by
  rw[txL,QfT,Qsl (QnY b 0).1.1]
  grind
 | n+1=>by
  rw[txL,QfT,Qsl (QnY b (n+1)).1.1,QiX b n]
  grind
theorem QxX {l:List ByteArray}(b:TO ltB)(k:l.Pairwise (fun x y=>ltB x y=true)):l.Nodup:=k.imp fun h e=>by subst e;exact absurd ((b.irr _).symm.trans h) (by decide)
@[reducible] def QAL (c:DSg) (h m:Int):Prop:=SgOk c∧(-1≤h∧h≤(c.1.length:Int) - 1)∧(0≤m∧m≤6)
def trV (c:DSg)[Decidable (SgOk c)](h m:Int):List ByteArray×Bool:=if QAL c h m∧(txL c h m.toNat).length≤400 then (txL c h m.toNat,true) else ([],false)
theorem Qy7:inv h a=false↔¬a.2.1= -1∧¬a.2.1=h:=by simp[inv]
theorem QAh (l:SgOk c)(y:a∈c.2.2)(hi:inv h a=false):∃N x,tl (wdA c a)=N++[x]∧QpG x=true∧∀b∈N,QpG b=false:=by
 have o:=(l.arcs a y).2.2.1
 have B:0≤a.2.1∧a.2.1≤(c.1.length:Int) - 1:=o.resolve_right fun k=>(Qy7.1 hi).1 k.1
 obtain ⟨g,i⟩:∃g,c.1[a.2.1.toNat]? =some g:=⟨_,ao (by omega)⟩
 have r:=(l.sigs.1 a.2.1.toNat (by omega) g i).1
 refine ⟨tl g.1,if a.2.2.1=true then 43 else 45,?_,by split <;> rfl,fun b z=> ?_⟩
 ·unfold wdA sgB
  rw[Qtt,i]
  split <;> rfl
 ·obtain ⟨k,j⟩:=aK.1 z
  have f:k<g.1.size:=by have:=(ai.1 j).1;simpa [tl] using this
  have w:g.1[k]=b:=by
   have:=(ai.1 j).2
   simp only[tl,Array.getElem_toList] at this
   exact this
  have d:=r.1 k f
  rw[w] at d
  unfold QpG
  simp only[de,beq_eq_false_iff_ne,ne_eq]
  unfold Yu at d
  refine ⟨fun e=> ?_,fun e=> ?_⟩ <;> subst e <;> revert d <;> simp
def cnS (l:List UInt8):Nat:=(l.filter QpG).length
theorem Qtu (g:SgOk c)(k:Tr c h n t u):QAD (tl t)∧cnS (tl t)=n:=by
 induction k with
 | zero=>exact ⟨.inl rfl,rfl⟩
 | still _ _ _ b=>exact b
 | word _ d f b=>
  obtain ⟨N,x,e,i,j⟩:=QAh g d f
  rw[Qtt,e]
  refine ⟨.inr ⟨_,x,(aR ..).symm,i⟩,?_⟩
  grind [QpG,List.filter_eq_nil_iff,cnS,List.length_append]
theorem Qx0 {e:Int}(b:SgOk c)(k:Tr c h n t u)(d:Tr c h m t e):n=m:=(Qtu b k).2.symm.trans (Qtu b d).2
def afS (c:DSg)(S:List Int)(h:Int)(A:DLv)(a:DAr):DLv:=if a.1∈S∧inv h a=false then Js .str A (wdA c a) (((Ve .str A (wdA c a)).getD [])++[a.2.2.2]) else A
def afV (c:DSg)(S:List Int)(h:Int):DLv:=c.2.2.foldl (afS c S h) []
structure AfI (c:DSg) (h:Int) (S:List Int) (rs:List DAr) (A:DLv):Prop where
  nod:A.Pairwise fun p q=>p.1≠q.1
  mem:∀p∈A,(∃v,v∈p.2)∧∀v,v∈p.2↔∃a∈rs,inv h a=false∧a.1∈S∧wdA c a=p.1∧v=a.2.2.2
  all:∀a∈rs,inv h a=false→a.1∈S→∃p∈A,p.1=wdA c a
theorem Qwh {k:Ty}{V:Type}{m:List (k.Den×V)}{x:k.Den}(b:m.Pairwise fun p q=>p.1≠q.1):(∃v,(x,v)∈m∧Ve k m x=some v)∨((∀p∈m,p.1≠x)∧Ve k m x=none):=by
 grind [List.mem_iff_getElem?,K1,Hy]
theorem QaK {k:Ty}{V:Type}{m:List (k.Den×V)}{x:k.Den}{v:V}{p:k.Den×V}(o:m.Pairwise fun p q=>p.1≠q.1):p∈Js k m x v↔(p∈m∧p.1≠x)∨p=(x,v):=by
 have l:=QiG (x:=x) (v:=v) o
 constructor
 ·intro d
  rcases Qj7 d with e|i
  ·exact .inr e
  ·by_cases e:p.1=x
   ·right
    obtain ⟨j,f⟩:=aK.1 d
    have b:=K1 l f e
    rw[Km,if_pos ((k.beq_iff _ _).2 rfl)] at b
    cases b
    exact Prod.ext e rfl
   ·exact .inl ⟨i,e⟩
 ·have b:∀y w,(y,w)∈Js k m x v↔Ve k (Js k m x v) y=some w:=fun y w=>by
   rcases Qwh (x:=y) l with ⟨z,b,r⟩|⟨b,r⟩
   ·grind [List.mem_iff_getElem?,K1]
   ·grind
  rintro (⟨d,e⟩|rfl)
  ·obtain ⟨y,w⟩:=p
   rw[b,Km,if_neg (fun g=>e ((k.beq_iff _ _).1 g).symm)]
   obtain ⟨j,f⟩:=aK.1 d
   exact K1 o f rfl
  ·rw[b,Km,if_pos ((k.beq_iff _ _).2 rfl)]
theorem AfI.zero:AfI c h S [] []:=⟨cC,by simp,by simp⟩
theorem AfI.step {rs:List DAr}(g:AfI c h S rs A):AfI c h S (rs++[a]) (afS c S h A a):=by
 unfold afS
 split
 ·rename_i B
  have C:∀v,v∈((Ve .str A (wdA c a)).getD [])↔∃b∈rs,inv h b=false∧b.1∈S∧wdA c b=wdA c a∧v=b.2.2.2:=fun v=>by
   rcases Qwh (k:= .str) (x:=wdA c a) g.nod with ⟨w,l,o⟩|⟨l,o⟩
   ·rw[o];exact (g.mem _ l).2 v
   ·rw[o]
    refine ⟨fun k=>(by cases k),fun ⟨b,f,i,r,y,_⟩=> ?_⟩
    obtain ⟨p,j,e⟩:=g.all b f i r
    exact absurd (e.trans y) (l p j)
  refine ⟨QiG (k:= .str) g.nod,fun p j=> ?_,fun b d f i=> ?_⟩
  ·rcases (QaK (k:= .str) g.nod).1 j with ⟨j,e⟩|rfl
   ·refine ⟨(g.mem p j).1,fun v=>((g.mem p j).2 v).trans ⟨fun ⟨b,f,i⟩=>⟨b,aS _ f,i⟩,fun ⟨b,f,i,r,y,E⟩=> ?_⟩⟩
    grind
   ·simp_all
  ·rcases aQ.1 d with d|d
   ·obtain ⟨p,j,e⟩:=g.all b d f i
    by_cases z:p.1=wdA c a
    ·exact ⟨_,(QaK (k:= .str) g.nod).2 (.inr rfl),by rw[← e,z]⟩
    ·exact ⟨p,(QaK (k:= .str) g.nod).2 (.inl ⟨j,z⟩),e⟩
   ·rw[aF] at d;subst d
    exact ⟨_,(QaK (k:= .str) g.nod).2 (.inr rfl),rfl⟩
 ·rename_i B
  refine ⟨g.nod,fun p j=>⟨(g.mem p j).1,fun v=>((g.mem p j).2 v).trans ⟨fun ⟨b,f,i⟩=>⟨b,aS _ f,i⟩,fun ⟨b,f,i,r,y⟩=> ?_⟩⟩,fun b d f i=> ?_⟩
  ·grind
  ·rcases aQ.1 d with d|d
   ·exact g.all b d f i
   ·rw[aF] at d;subst d;exact absurd ⟨i,f⟩ B
structure NxI (c:DSg) (h:Int) (V:ByteArray→Int→Prop) (M:DLv):Prop where
  nod:M.Pairwise fun p q=>p.1≠q.1
  mem:∀p∈M,(∃v,V p.1 v)∧∀u,u∈p.2↔Ch c.2.2 h (fun v=>V p.1 v) u
  all:∀s v,V s v→∃p∈M,p.1=s
theorem NxI.congr {V W:ByteArray→Int→Prop}(g:NxI c h V M)(e:∀s v,V s v↔W s v):NxI c h W M:=
 ⟨g.nod,fun p d=>⟨(g.mem p d).1.imp fun v b=>(e _ _).1 b,fun u=>((g.mem p d).2 u).trans (Ch.congr fun v=>e _ _)⟩,fun s v b=>g.all s v ((e _ _).2 b)⟩
theorem NxI.zero:NxI c h (fun _ _=>False) []:=⟨cC,by simp,fun _ _ k=>k.elim⟩
theorem NxI.step {V:ByteArray→Int→Prop}{W:Int→Prop}(g:NxI c h V M)(j:∀v,¬V s v)(l:∀u,u∈T_↔Ch c.2.2 h W u)(o:∃w,W w):NxI c h (fun s' i=>V s' i∨(s'=s∧W i)) (Js .str M s T_):=by
 have f:∀p∈M,p.1≠s:=fun p b e=>by
  obtain ⟨v,d⟩:=(g.mem p b).1
  rw[e] at d;exact j v d
 refine ⟨QiG (k:= .str) g.nod,fun p b=> ?_,fun s' i d=> ?_⟩
 ·rcases (QaK (k:= .str) g.nod).1 b with ⟨b,e⟩|rfl
  ·exact ⟨(g.mem p b).1.imp fun _=> .inl,fun u=>((g.mem p b).2 u).trans (Ch.congr fun v=>⟨.inl,fun k=>k.resolve_right fun k=>e k.1⟩)⟩
  ·grind [Ch.congr]
 ·rcases d with d|⟨rfl,_⟩
  ·obtain ⟨p,b,e⟩:=g.all s' i d
   exact ⟨p,(QaK (k:= .str) g.nod).2 (.inl ⟨b,f p b⟩),e⟩
  ·exact ⟨_,(QaK (k:= .str) g.nod).2 (.inr rfl),rfl⟩
def Vm (c:DSg)(h:Int)(D:DLv)(q:ByteArray×List Int)(E:DLv)(s:ByteArray)(v:Int):Prop:=Vs c h D s v∨∃p∈E,s=q.1++p.1∧v∈p.2
structure OuI (c:DSg) (h:Int) (n:Nat) (out:List ByteArray):Prop where
  nod:out.Nodup
  mem:∀t,t∈out↔∃m,m≤n∧∃u,Tr c h m t u
theorem OuI.zero:OuI c h 0 [ByteArray.empty]:=⟨by simp,fun t=>by
 rw[aF]
 exact ⟨fun e=>⟨0,aO _,0,by rw[e];exact .zero⟩,fun ⟨m,b,u,k⟩=>by rw[Nat.le_zero.1 b] at k;exact (Qd9.1 k).1⟩⟩
theorem OuI.len (e:SgOk c)(d:TO ltB){out:List ByteArray}(g:OuI c h n out):out.length=(txL c h n).length:=
 Nat.le_antisymm (Qcx g.nod fun t b=>(QiX e n).2 ((g.mem t).1 b)) (Qcx (QxX d (QoH d n)) fun t b=>(g.mem t).2 ((QiX e n).1 b))
theorem OuI.next (w:SgOk c){out:List ByteArray}(g:OuI c h n out)(k:Lev c h (n+1) M){E:DLv}(i:E.Perm M):OuI c h (n+1) (out++E.map fun p=>p.1):=by
 have r:(E.map fun p=>p.1).Nodup:=by
  unfold List.Nodup
  rw[List.pairwise_map]
  exact i.symm.pairwise k.nod fun h e=>h e.symm
 refine ⟨bj.2 ⟨g.nod,r,fun x B y C e=> ?_⟩,fun t=> ?_⟩
 ·subst e
  obtain ⟨m,l,u,b⟩:=(g.mem x).1 B
  obtain ⟨p,f,rfl⟩:=bd.1 C
  have d:=k.mem p (i.mem_iff.1 f)
  obtain ⟨F,j⟩:=d.1
  have:=Qx0 w b ((d.2 F).1 j)
  omega
 ·rw[aQ,g.mem]
  constructor
  ·rintro (⟨m,l,b⟩|o)
   ·exact ⟨m,by omega,b⟩
   ·obtain ⟨p,f,rfl⟩:=bd.1 o
    have d:=k.mem p (i.mem_iff.1 f)
    exact ⟨n+1,aO _,d.1.imp fun u z=>(d.2 u).1 z⟩
  ·rintro ⟨m,l,u,b⟩
   by_cases e:m=n+1
   ·subst e
    obtain ⟨p,f,rfl⟩:=k.all t u b
    exact .inr (bd.2 ⟨p,i.mem_iff.2 f,rfl⟩)
   ·exact .inl ⟨m,by omega,u,b⟩
end
theorem QsM {α:Type _}[DecidableEq α]{lt:α→α→Bool}(x:α):∀l:List α,(Zg lt x l).length≤l.length+1
 | []=>aO _
 | y::l=>by
  unfold Zg
  have:=QsM (lt:=lt) x l
  split
  ·simp only[av];omega
  ·split <;> simp
section
variable {c:DSg}{h:Int}{n k i j:Nat}{S set:List Int}{a:DAr}{rs as_:List DAr}{x y z:DTx}{l L out:List DTx}{s t:ByteArray}{u v:Int}{g:Qy}
def ftT (x:DTx)(j:Nat)(y:DTx):DTx:=(y.1,(x.2.1.take j).foldl (fun s k=>Zg ltI k s) y.2.1,y.2.2)
theorem QjR:∀(m:List Int) {s:List Int},(m.foldl (fun s k=>Zg ltI k s) s).length≤s.length+m.length
 | [],s=>aO _
 | k::m,s=>by have b:=QjR m (s:=Zg ltI k s);have d:=QsM (lt:=ltI) k s;simp only[bC,av];omega
def Sm (N:Nat)(l:List DTx):Prop:=l.length≤N∧∀y∈l,y.2.1.length≤N
theorem Sm.put (g:Sm n l)(w:x.2.1.length≤1):Sm (n+1) (H0 l x):=by
 obtain ⟨p,f⟩:=g
 suffices k:∀l:List DTx,(∀y∈l,y.2.1.length≤n)→(H0 l x).length≤l.length+1∧∀y∈H0 l x,y.2.1.length≤n+1 by
  obtain ⟨o,e⟩:=k l f
  exact ⟨by omega,e⟩
 intro l
 induction l with
 | nil=>exact fun _=>⟨aO _,fun y b=>by rw[H0,aF] at b;subst b;omega⟩
 | cons z l m=>
  intro d
  rw[H0]
  split
  ·refine ⟨by simp,fun y b=> ?_⟩
   rcases aJ.1 b with rfl|b
   ·have q:=QjR x.2.1 (s:=z.2.1)
    have r:=d z (aB ..)
    dsimp only;omega
   ·have:=d y (aA _ b);omega
  ·obtain ⟨o,e⟩:=m fun y b=>d y (aA _ b)
   refine ⟨by simp only[av];omega,fun y b=> ?_⟩
   rcases aJ.1 b with rfl|b
   ·have:=d y (aB ..);omega
   ·exact e y b
theorem Sm.ar (g:Sm n l):Sm (n+1) (arT c h x l a):=by
 unfold arT
 split
 ·exact g.put (aO _)
 ·exact ⟨dd g.1,fun y b=>dd (g.2 y b)⟩
theorem Sm.row:∀(as_:List DAr) {n:Nat} {l:List DTx},Sm n l→Sm (n+as_.length) (Qvu c h as_ x l)
 | [],_,_,g=>g
 | a::l,n,_,g=>by
  have:=Sm.row l (g.ar (c:=c) (h:=h) (x:=x) (a:=a))
  rw[show n+(a::l).length=n+1+l.length by simp only[av];omega]
  exact this
theorem Sm.le {m:Nat}(g:Sm n l)(h:n≤m):Sm m l:=⟨by have:=g.1;omega,fun y b=>by have:=g.2 y b;omega⟩
theorem Sm.zero:Sm 0 []:=⟨aO _,fun _ h=>by cases h⟩
def txP (c:DSg)(h:Int):Nat→List ByteArray
 | 0=>[]
 | n+1=>txL c h n
end
section
variable {c:DSg}{h:Int}{n k i j:Nat}{S set:List Int}{a:DAr}{rs as_:List DAr}{out:List Int}{s t:ByteArray}{u v:Int}{K M A D E L L1 L2:DLv}{p q:ByteArray×List Int}
def clV (c:DSg)(h:Int)(S:List Int):List Int:=clL c.2.2 h 301 0 S
@[reducible] def Rng (c:DSg) (S:List Int):Prop:=S.Nodup∧∀u∈S,0≤u∧u<(c.2.1.length:Int)
def edT (ss:List Qy)(l:Int×Bool):ByteArray:=if l.1<0 then ⟨#[126]⟩ else ((ss[l.1.toNat]?).getD (ByteArray.empty,0)).1++sgB l.2
def afT (c:DSg)(S:List Int)(h:Int)(i:Nat):DLv:=(c.2.2.take i).foldl (afS c S h) []
end
def WE (l:List ByteArray)(s:ByteArray):Bool:=l.any fun y=>decide (s=y)
theorem WF {l:List ByteArray}{s:ByteArray}:WE l s=true↔s∈l:=by
 unfold WE
 rw[bu]
 exact ⟨fun ⟨y,d,e⟩=>by rw[ab e];exact d,fun h=>⟨s,h,aN rfl⟩⟩
theorem Qxd {l:List ByteArray}{s:ByteArray}(h:¬s∈l):WE l s=false:=cD.2 fun e=>h (WF.1 e)
section
variable {l:List ByteArray}{s y:ByteArray}{m:Int}
theorem Qvn (f:∀j:Nat,(j:Int)<m→∀y,l[j]? =some y→ltB y s=true)(g:l[m.toNat]? =some y)(h:Op.bytesLess y.toList s.toList=true):∀j:Nat,(j:Int)<m+1→∀z,l[j]? =some z→ltB z s=true:=fun j i z d=>by
 by_cases e:(j:Int)<m
 ·exact f j e z d
 ·have:j=m.toNat:=by omega
  subst this
  rw[g] at d;cases d;exact h
theorem QzM (d:∀j:Nat,(j:Int)<m→∀y,l[j]? =some y→ltB y s=true)(h0:0≤m)(f:m≤(l.length:Int))(h:∀y,l[m.toNat]? =some y→ltB y s=false∧y≠s):l.take m.toNat++[s]++l.drop m.toNat=Zg ltB s l:=by
 rw[QiL (k:=m.toNat) (fun j g z e=>d j (by omega) z e) (by omega) h];simp
end
theorem JU (l:List ByteArray)(s:ByteArray):FC Tryz.prog 308 [(false,[.dat Qb l]),(false,[dS s])] [] 0 (QK (lB (WE l s))):=by
 refine Qj Tryz.func308 rfl rfl Tryz.ntmps308 fun z q w r A u t=> ?_
 refine w6 ?_
 refine alL 7 fun _=> ?_
 refine w4 ?_
 refine lpK l.length (fun k=>∀j,j<k→∀y,l[j]? =some y→¬y=s) (fun k=>⟨[(1,lf (dS s)),(7,lf (.dat Qb l)),(8,lI (l.length:Int)),(9,lI (k:Int))],[]⟩) ((fun j p=>absurd p (aV j))) ?_ fun k _ i=> ?_
 exact wo []
 refine w4 ?_
 cases d:(decide ((k:Int)<(l.length:Int)))
 have e:=aa d
 refine w6 ?_
 refine Qe<|fqB q ?_
 first|exact (Qxd fun v=>by obtain ⟨j,p⟩:=aK.1 v;exact i j (by have:=(ai.1 p).1;omega) s p rfl).symm
 have e:=ab d
 refine w5 ?_
 obtain ⟨x,o⟩:=gx l k
 refine w9 ?_
 cases f:(decide (x=s))
 have g:=aa f
 refine w6 ?_
 refine Qd ?_
 refine lK_ ((YM i o ‹_›)) ?_
 exact wo []
 have g:=ab f
 refine w4 ?_
 refine Qe<|fqB q ?_
 exact (WF.2 (by have:=ae o;simp_all)).symm
section
variable {c:DSg}[Decidable (SgOk c)]{h m mo:Int}{n:Nat}
end
section
variable {a b:ZG}[∀s,Decidable (StgOk s)][∀c,Decidable (SgOk c)]{m:Int}{k:Nat}{s:ByteArray}
def tiV (a b:ZG)[∀s,Decidable (StgOk s)][∀c,Decidable (SgOk c)](m:Int):Bool×Bool:=
 if (sgV a).2=true∧(sgV b).2=true∧(trV (sgV a).1 (-1) m).2=true∧(trV (sgV b).1 (-1) m).2=true then ((trV (sgV a).1 (-1) m).1.all fun s=>WE (trV (sgV b).1 (-1) m).1 s,true) else (false,false)
end
def kyL (B:DLv):List ByteArray:=B.map fun p=>p.1
section
variable {c:DSg}[Decidable (SgOk c)]{h m:Int}{n k:Nat}{M B Z:DLv}{out:List ByteArray}{z:ByteArray×List Int}
end
theorem WY (s:List ByteArray)(v:ByteArray):FC Tryz.prog 305 [(false,[.dat Qb s]),(false,[dS v])] [] 0 (QK (lI (Zf (fun y=>decide (v=y)) s))):=by
 refine Qj Tryz.func305 rfl rfl Tryz.ntmps305 fun u l r o w q p=> ?_
 refine w6 ?_
 refine alL 6 fun _=> ?_
 refine w4 ?_
 refine lpK s.length (fun k=>NoneTo (fun y=>decide (v=y)) s k) (fun k=>⟨[(0,lf (.dat Qb s)),(1,lf (dS v)),(7,lI (s.length:Int)),(8,lI (k:Int))],[]⟩) (NoneTo.zero) ?_ fun k _ d=> ?_
 exact wo []
 refine w4 ?_
 cases e:(decide ((k:Int)<(s.length:Int)))
 have f:=aa e
 refine w6 ?_
 refine Qe<|fqI l ?_
 first|exact (d.no (by omega)).symm
 have f:=ab e
 refine w12 ?_
 obtain ⟨t,j⟩:=gx s k
 refine w4 ?_
 cases g:(decide (v=t))
 have i:=aa g
 refine w6 ?_
 refine Qd ?_
 refine lK_ (d.step j ‹_›) ?_
 exact wo []
 have i:=ab g
 refine w5 ?_
 refine Qe<|fqI l ?_
 exact (d.at j ‹_›).symm
theorem Wd (s:List ByteArray)(v:ByteArray):FC Tryz.prog 262 [(false,[.dat Qb s]),(false,[dS v])] [] 0 (QK (lB (s.any (fun y=>decide (v=y))))):=by
 refine Qj Tryz.func262 rfl rfl Tryz.ntmps262 fun j g i d l f e=> ?_
 refine w6 ?_
 refine lc (dK (WY s v) Ql9) ?_
 refine w3 ?_
 refine Qe<|fqB g ?_
 exact Xm _ _
section
variable {a b:ZG}[∀s,Decidable (StgOk s)][∀c,Decidable (SgOk c)]{m:Int}
end
def QyJ (f:Hdr→List Int):Option (List Int)→List Hdr→List Hdr
 | _,[]=>[]
 | p,y::l=>if p=some (f y) then QyJ f p l else y::QyJ f (some (f y)) l
section
variable {f:Hdr→List Int}{vs zs:List Hdr}{m k:Nat}{x y:Hdr}{l:List (List Int)}{i j n:Int}
end
theorem Qf3 {α:Type _}[DecidableEq α]{lt:α→α→Bool}(x:α):∀l:List α,(Zg lt x l).length≤l.length+1
 | []=>aO _
 | y::l=>by
  unfold Zg
  have:=Qf3 (lt:=lt) x l
  split
  ·simp only[av];omega
  ·split <;> simp
def shV (n:XG)(t u:Int):Bool:=((n.2[t.toNat]?).getD ([],[])).1.any fun z=>decide (z∈((n.2[u.toNat]?).getD ([],[])).1)
def QBs (n:XG)(t:Int)(l:List Int):List (List Int):=(l.filter fun u=>decide (t<u)&& !shV n t u).map fun u=>[t,u]
def QBr (n:XG)(t:Int)(l:List Int):List (List Int):=(l.filter fun u=> !shV n t u).map fun u=>[t,u]
def QAO (n:XG)(on l:List Int):List (List Int):=l.flatMap fun t=>QBs n t on
def QBU (n:XG)(on:List Int)(k:Nat):List (List Int):=(List.range k).flatMap fun i=>QBr n ((on[i]?).getD 0) (on.drop (i+1))
def QB7 (n:XG)(ms:List ByteArray):List (List Int):=ms.flatMap fun mk=>QAO n (Jj n mk) (Jj n mk)
section
variable {n:XG}{k f i j:Nat}{mk:ByteArray}{t u:Int}{ts on l:List Int}{st:RS}{s:ZG}{xt xu:Q0}{ms:List ByteArray}{as_ bs:List (List Int)}
end
section
variable {vs vs2:List Hdr}{gf gf2 gj:Hdr→List Int}{l:List (List Int)}{m:Int}{x:List Int}
end
theorem QnI {n:Nat}{a:List DAr}:∀{f k:Nat} {c d:List ByteArray},goS n a f k c=some d→d.length=c.length
 | 0,_,c,d,h=>by rw[goS] at h;cases h;rfl
 | f+1,k,c,d,h=>by
  rw[goS] at h
  split at h
  ·rw[QnI h,Qjt]
  ·cases h
section
variable [∀s,Decidable (StgOk s)]{s:ZG}
theorem QhK (h:(sgV s).2=true):SgW (sgV s).1:=by
 unfold sgV at h ⊢
 split at h
 ·rename_i d
  rw[if_pos d]
  obtain ⟨i,k,m,_,e,r⟩:=Yp d.1
  split at h
  ·rename_i c n
   have g:=QnI n
   rw[az] at g
   refine ⟨i.sigs.2.2,⟨by show 1≤c.length;omega,by show c.length≤300;omega⟩,?_,?_⟩
   ·show (QQ _ _).length≤_
    unfold QQ
    rw[aH];omega
   ·intro a f
    refine ⟨?_,?_⟩
    ·show InR c.length a
     rw[g];exact VJ e a f
    ·obtain ⟨v,o,rfl⟩:=bd.1 f
     obtain ⟨_,⟨p,q⟩,_⟩:=e v o
     obtain ⟨l,b⟩:∃l,s.2.2.1[v.2.1.toNat]? =some l:=⟨_,ao (by omega)⟩
     have j:=i.labs l (ae b)
     show KD (s.2.1.length:Int) ((QfL s.2.2.1 v.2.1).1,(QfL s.2.2.1 v.2.1).2)
     rw[Qiw b];exact j
  ·cases h
 ·cases h
end
end Go.Proofs.YtjfpbcmfbnnooaaGreat
namespace Go.Proofs.YtjfpbcmfbnnooaaGreat
open Go.RowKit
@[reducible] def Ex {X:Type} (Q:X→Prop) (pv:X→PV) (T:X→Tab):PV→Tab→Prop:=fun p T'=>∃x,Q x∧p=pv x∧T'=T x
section
variable {A:Amb}{P:Program}{s:St}{f:FuncId}{xs:List Operand}{tys:Array TypeId}{args:List (Bool×List LV)}{d:Nat}{ty:TypeId}{pos:String}{af:Array Edge}{g:Option (Nat×Bool)}{T:Tab}{k:Nat}
  {X:Type} {Qx:X→Prop} {pv:X→PV} {T':X→Tab} {ops:Array Oper} {l:List Oper} {Q:Exit→St→Prop}
theorem DoesT.callX (n:Nat)(ρ:List (Nat×Nat))(O:FC P f args T k (Ex Qx pv T'))(L:Qf P f)(N:EvL A s xs (args.map fun c=>(c.1,c.2.map (LV.ren (rn ρ)))))(B:HasE s ρ T)
 (m:(Wz (T.map fun p=>rn ρ p.1)&&Nat.blt d A.n)=true) (hB:∀x,(YI (pv x) (T' x)&&Wz ((T' x).map fun p=>sg ρ k n p.1)&&QjY T (T' x) k)=true) (hfr:∀x,FrK s n k (ZS (T' x))) (hk0:A.k0≤n):
 DoesT A P ⟨some d,.call ⟨.value (.func f),xs.toArray,tys⟩,ty,pos,af,g⟩ s (fun s'=>∃x,Qx x∧s'=s.backP d (sg ρ k n) (T.map fun p=>rn ρ p.1) (pv x) (T' x)):=fun a w K Q r M=>by
 obtain ⟨G,r⟩:=r
 rw[aM] at m
 obtain ⟨m,S⟩:=m
 have b:∀q,T.al q→s.tab.al (rn ρ q):=fun q ⟨e,h⟩=>⟨_,B.get h⟩
 have o:∀q j,T.al q→T.al j→rn ρ q=rn ρ j→q=j:=fun q j u i h=>JH m u i h
 have y:Cx T (G.via (rn ρ)) w:=⟨fun q e h=>(EntR.ren.1 (r.cx.en _ _ (B.get h))).mono (fun Y _ J=>⟨b Y J,rfl⟩) (fun g C=>⟨C,rfl⟩) rfl rfl fun _ _=>rfl,
  fun q j u i F=>r.cx.dj _ _ (b q u) (b j i) fun h=>F (o q j u i h),fun q h=>r.cx.nd _ (b q h),fun q h=>r.cx.no _ (b q h),r.cx.nl⟩
 have V:=(CmsR.ren.1 (N.cms r)).mono (al':=T.al) (gh':=G.via (rn ρ)) (w':=w) (fun q _ h=>⟨b q h,rfl⟩) fun g C=>⟨C,rfl⟩
 refine HH L rfl (Calls.mono (O _ w _ y V) fun e Z R=> ?_)
 obtain ⟨v,W,T2,z,rfl,⟨x,t,rfl,rfl⟩,H,U,I,E⟩:=R
 have i:=hB x
 simp only[aM] at i
 refine M _ _ _ ⟨x,t,rfl⟩ (Qjp n ρ r B m i.1.1 i.1.2 (fun q ⟨e,t⟩ D=> ?_) (fun q ⟨e,t⟩ D=>(hfr x).get q (Zw t).1 D) hk0 S H U I E)
 have:=au.1 i.2 q (Zw t).1
 rw[show Nat.blt q k=true from cI D] at this
 exact bg.1 (by simpa using this)
theorem Ys (n:Nat)(ρ:List (Nat×Nat))(j:FC P f args T k (Ex Qx pv T'))(a:Qf P f)(i:EvL A s xs (args.map fun c=>(c.1,c.2.map (LV.ren (rn ρ)))))(b:HasE s ρ T)
 (hi:(Wz (T.map fun p=>rn ρ p.1)&&Nat.blt d A.n)=true) (hB:∀x,(YI (pv x) (T' x)&&Wz ((T' x).map fun p=>sg ρ k n p.1)&&QjY T (T' x) k)=true) (hfr:∀x,FrK s n k (ZS (T' x))) (hk0:A.k0≤n)
 (h:∀x,Qx x→AL A P ops l Q (s.backP d (sg ρ k n) (T.map fun p=>rn ρ p.1) (pv x) (T' x))):AL A P ops (⟨some d,.call ⟨.value (.func f),xs.toArray,tys⟩,ty,pos,af,none⟩::l) Q s:=
 Qqw rfl (DoesT.callX n ρ j a i b hi hB hfr hk0) fun o ⟨x,m,e⟩=>e▸h x m
theorem Zh {fn:Func}{s:St}(x:X)(ρ:List (Nat×Nat)){a:PV}(i:Qx x)(b:Res A P fn s a)(h0:a=(pv x).ren (rn ρ))(c:HasE ⟨[],s.tab⟩ ρ (T' x))(e:Wz ((T' x).map fun x=>rn ρ x.1)=true)(h:idB ρ k=true):fin A P fn (Qah (Ex Qx pv T') k) .ret s:=
 QdR (pv x) (T' x) ρ (h0▸b) c e h ⟨x,i,rfl,rfl⟩
end
section
variable {A:Amb}{P:Program}{s:St}{f:FuncId}{xs:List Operand}{tys:Array TypeId}{args:List (Bool×List LV)}{d:Nat}{ty T:TypeId}{pos:String}{af:Array Edge}{g:Option (Nat×Bool)}
  {X:Type} {Qx:X→Prop} {pv:X→PV} {ops:Array Oper} {l:List Oper} {Q:Exit→St→Prop} {x:Operand}
theorem QAs {E:TypeId}{e:Ty}{zs:List e.Den}(h:FC P f args [] 0 (QK (lf (.dat (.sl E e) zs)))):FC P f args [] 0 (Ex (fun v:Value=>∃B c,v= .slice B zs.length c∧zs.length≤maxLen) (fun v=>lf (.val v)) (fun _=>[])):=fun n w D j r=>
 Calls.mono (h n w D j r) fun G F t=>by
  obtain ⟨v,C,T',a,rfl,⟨rfl,rfl⟩,b,z,m,y⟩:=t
  obtain ⟨u,i,o⟩:=z
  simp only[aI,and_true] at i
  subst i
  have p:Rd a.N (.sl E e) F [v] zs:=o
  obtain ⟨B,c,q,H,I⟩:=p.rep.slv
  exact ⟨v,_,[],a,rfl,⟨v,⟨B,c,q,by omega⟩,rfl,rfl⟩,b,⟨_,rfl,rfl⟩,m,y⟩
end
end Go.Proofs.YtjfpbcmfbnnooaaGreat
namespace Go.Proofs.YtjfpbcmfbnnooaaGreat
open Go.RowKit
set_option maxRecDepth 100000
set_option maxHeartbeats 4000000
def spS (s:ByteArray)(b:UInt8):Nat→List ByteArray×Int
 | 0=>([],0)
 | i+1=>if s[i]? =some b then ((spS s b i).1++[s.extract (spS s b i).2.toNat i],(i:Int)+1) else spS s b i
def ZQ (s:ByteArray)(b:UInt8):List ByteArray:=(spS s b s.size).1++[s.extract (spS s b s.size).2.toNat s.size]
section
variable {s:ByteArray}{b c:UInt8}{i:Nat}
theorem QvC (h:s[i]? =some c)(e:c=b):((spS s b i).1++[s.extract (spS s b i).2.toNat i],(i:Int)+1)=spS s b (i+1):=by rw[spS,if_pos (by rw[h,e])]
theorem QxT (h:s[i]? =some c)(e:¬c=b):spS s b i=spS s b (i+1):=by rw[spS,if_neg (by rw[h];simpa using e)]
theorem Qoz:0≤(spS s b i).2∧(spS s b i).2≤(i:Int)∧(spS s b i).1.length≤i:=by
 induction i with
 | zero=>exact ⟨di _,di _,aO _⟩
 | succ i d=>
  rw[spS]
  split
  ·refine ⟨by show (0:Int)≤(i:Int)+1;omega,by show ((i:Int)+1)≤((i+1:Nat):Int);omega,?_⟩
   rw[ah,av,aC];omega
  ·obtain ⟨a,e,f⟩:=d;exact ⟨a,by omega,by omega⟩
theorem Qqb:(ZQ s b).length≤s.size+1:=by
 unfold ZQ
 have:=Qoz (s:=s) (b:=b) (i:=s.size)
 rw[ah,av,aC];omega
end
abbrev DTr:=List Int×List Int
abbrev DB:=ZG×List ByteArray×List ByteArray
def b0 (t:ByteArray):UInt8:=(t[0]?).getD 0
def bZ (t:ByteArray):UInt8:=(t[t.size - 1]?).getD 0
def HV (l:List ByteArray)(x:ByteArray):Bool:=l.any fun y=>decide (y=x)
def atB (l:List ByteArray)(x:ByteArray):Int:=if HV l x=true then Zf (fun y=>decide (y=x)) l else (l.length:Int)
def plV (b:DB)(name:ByteArray):DB:=if HV b.2.1 name=true then b else (((b.1.1.1+1,b.1.1.2),b.1.2.1,b.1.2.2.1,b.1.2.2.2++(⟨#[48]⟩:ByteArray)),b.2.1++[name],b.2.2)
def plI (b:DB)(name:ByteArray):Int:=atB b.2.1 name
def QbE (word:ByteArray):ByteArray:=((ZQ word 47)[0]?).getD ByteArray.empty
def QmE (G:List Qy)(word:ByteArray):ZZ:=if b0 (QbE word)=126 then (-1,false) else (Zf (fun g=>decide (g.1=(QbE word).extract 0 ((QbE word).size - 1))) G,decide (bZ (QbE word)=43))
def ZE (b:DB)(word:ByteArray):DB:=if HV b.2.2 word=true then b else (((b.1.1.1,b.1.1.2++[([],[])]),b.1.2.1,b.1.2.2.1++[QmE b.1.2.1 word],b.1.2.2.2),b.2.1,b.2.2++[word])
def trI (b:DB)(word:ByteArray):Int:=atB b.2.2 word
def HK (text:ByteArray):ByteArray:=if b0 text=42 then text.extract 1 text.size else text
def XI (text:ByteArray)(k:Nat):ByteArray:=((ZQ (HK text) 62)[k]?).getD ByteArray.empty
def QbD (text:ByteArray):ByteArray:=if b0 (XI text 1)=95 then XI text 1 else if b0 (XI text 0)=95 then XI text 0 else HK text
def Qf4 (T:List DTr)(t p:Int):List DTr:=T.modify t.toNat fun x=>(x.1,Zg ltI p x.2)
def Qf5 (T:List DTr)(t p:Int):List DTr:=T.modify t.toNat fun x=>(Zg ltI p x.1,x.2)
def ar1 (p:Int)(b:DB)(text:ByteArray):DB:=if b0 (XI text 0)=95 then b else
 let c:=ZE b (XI text 0);(((c.1.1.1,Qf4 c.1.1.2 (trI b (XI text 0)) p),c.1.2.1,c.1.2.2.1,c.1.2.2.2),c.2.1,c.2.2)
def ar2 (p:Int)(b:DB)(text:ByteArray):DB:=if b0 (XI text 1)=95 then b else
 let c:=ZE b (XI text 1);(((c.1.1.1,Qf5 c.1.1.2 (trI b (XI text 1)) p),c.1.2.1,c.1.2.2.1,c.1.2.2.2),c.2.1,c.2.2)
def Qs5 (s:ByteArray)(p:Int):ByteArray:=s.extract 0 p.toNat++(⟨#[49]⟩:ByteArray)++s.extract (p+1).toNat s.size
def arV (b:DB)(text:ByteArray):DB:=
 let p:=plI b (QbD text)
 let c:=ar2 p (ar1 p (plV b (QbD text)) text) text
 if b0 text=42 then ((c.1.1,c.1.2.1,c.1.2.2.1,Qs5 c.1.2.2.2 p),c.2.1,c.2.2) else c
def sgN (names:ByteArray)(kd:Int)(i:Nat):List Qy:=(List.range i).map fun j=>(names.extract j (j+1),kd)
def sgA:List ByteArray→Int→List Qy
 | [],_=>[]
 | n::l,k=>sgN n k n.size++sgA l (k+1)
def buG (ins outs inner:ByteArray):List Qy:=sgA [ins,outs,inner] 1
def buB (G:List Qy)(arcs:ByteArray):DB:=(ZQ arcs 32).foldl arV (((0,[]),G,[],ByteArray.empty),[],[])
def Qt (ins outs inner arcs:ByteArray):ZG:=(buB (buG ins outs inner) arcs).1
def okW (w:ByteArray):Bool:=decide (1≤w.size)&&(decide (b0 w=95)||decide (1≤(QbE w).size))
def okA (t:ByteArray):Bool:=decide (1≤t.size)&&(decide (2≤(ZQ (HK t) 62).length)&&(okW (XI t 0)&&okW (XI t 1)))
section
variable {l:List ByteArray}{x name word text:ByteArray}{b c:DB}{G:List Qy}{n k:Nat}
theorem Qu3 {α:Type _}{f:α→Bool}{l:List α}(h:l.any f=true):0≤Zf f l∧Zf f l<(l.length:Int):=by
 have a:=Xm f l
 rw[h,aU] at a
 refine ⟨a,?_⟩
 unfold Zf at*
 cases d:l.findIdx? f with
 | none=>rw[d] at a;simp at a
 | some i=>
  have:=(cy.1 d).1
  simpa using this
theorem Qq9 (h:HV l x=true):0≤atB l x∧atB l x<(l.length:Int):=by
 unfold atB;rw[if_pos h];exact Qu3 h
theorem Qba (h:HV l x=false):atB l x=(l.length:Int):=if_neg (by rw[h];decide)
theorem Qq8 (f:NoneTo (fun y=>decide (y=x)) l k){y:ByteArray}(a:l[k]? =some y)(e:y=x):(k:Int)=atB l x:=by
 unfold atB
 have d:HV l x=true:=Qq1 a (aN e)
 rw[if_pos d,f.at a (aN e)]
theorem Y5 {y:ByteArray}(a:l[k]? =some y)(e:y=x):HV l x=true:=Qq1 a (aN e)
theorem Ym (d:NoneTo (fun y=>decide (y=x)) l k)(a:l.length≤k):HV l x=false:=d.any_no a
theorem K2 (h:HV b.2.1 name=true):plV b name=b:=if_pos h
theorem Vt (h:HV b.2.1 name=false):plV b name=(((b.1.1.1+1,b.1.1.2),b.1.2.1,b.1.2.2.1,b.1.2.2.2++(⟨#[48]⟩:ByteArray)),b.2.1++[name],b.2.2):=if_neg (by rw[h];decide)
theorem Vv (h:HV b.2.2 word=true):ZE b word=b:=if_pos h
theorem Yh (h:HV b.2.2 word=false):ZE b word=(((b.1.1.1,b.1.1.2++[([],[])]),b.1.2.1,b.1.2.2.1++[QmE b.1.2.1 word],b.1.2.2.2),b.2.1,b.2.2++[word]):=if_neg (by rw[h];decide)
structure DBJ (b:DB) (p w m:Nat):Prop where
  st:b.1.2.2.2.size=b.2.1.length
  tr:b.1.1.2.length=b.2.2.length
  la:b.1.2.2.1.length=b.2.2.length
  p0:b.1.1.1=(b.2.1.length:Int)
  pl:b.2.1.length≤p
  ws:b.2.2.length≤w
  inn:∀t∈b.1.1.2,t.1.length≤m∧t.2.length≤m
theorem Qog:0≤plI b name∧plI b name<((plV b name).2.1.length:Int):=by
 unfold plI
 cases h:HV b.2.1 name with
 | true=>rw[K2 h];exact Qq9 h
 | false=>rw[Vt h,Qba h,ah];simp only[av,aC];omega
theorem QoE:0≤trI b word∧trI b word<((ZE b word).2.2.length:Int):=by
 unfold trI
 cases h:HV b.2.2 word with
 | true=>rw[Vv h];exact Qq9 h
 | false=>rw[Yh h,Qba h,ah];simp only[av,aC];omega
theorem QhR:(ZE b word).1.1.1=b.1.1.1∧(ZE b word).1.2.1=b.1.2.1∧(ZE b word).1.2.2.2=b.1.2.2.2∧(ZE b word).2.1=b.2.1:=by unfold ZE;split <;> exact ⟨rfl,rfl,rfl,rfl⟩
theorem DBJ.pl_ {p w m:Nat}(h:DBJ b p w m):DBJ (plV b name) (p+1) w m:=by
 cases a:HV b.2.1 name with
 | true=>rw[K2 a];exact ⟨h.st,h.tr,h.la,h.p0,dd h.pl,h.ws,h.inn⟩
 | false=>
  rw[Vt a]
  have d:(⟨#[48]⟩:ByteArray).size=1:=rfl
  refine ⟨?_,h.tr,h.la,?_,?_,h.ws,h.inn⟩
  ·show (b.1.2.2.2++(⟨#[48]⟩:ByteArray)).size=(b.2.1++[name]).length
   rw[ax,ah,h.st,d];rfl
  ·show b.1.1.1+1=((b.2.1++[name]).length:Int)
   rw[ah,h.p0];simp
  ·show (b.2.1++[name]).length≤p+1
   rw[ah];have:=h.pl;simp only[av,aC];omega
theorem DBJ.tr_ {p w m:Nat}(h:DBJ b p w m):DBJ (ZE b word) p (w+1) m:=by
 cases d:HV b.2.2 word with
 | true=>rw[Vv d];exact ⟨h.st,h.tr,h.la,h.p0,h.pl,dd h.ws,h.inn⟩
 | false=>
  rw[Yh d]
  refine ⟨h.st,?_,?_,h.p0,h.pl,?_,?_⟩
  ·show (b.1.1.2++[([],[])]).length=(b.2.2++[word]).length
   rw[ah,ah,h.tr];rfl
  ·show (b.1.2.2.1++[QmE b.1.2.1 word]).length=(b.2.2++[word]).length
   rw[ah,ah,h.la];rfl
  ·show (b.2.2++[word]).length≤w+1
   rw[ah];have:=h.ws;simp only[av,aC];omega
  ·intro t a
   rcases aQ.1 a with a|a
   ·exact h.inn t a
   ·rw[aF.1 a];exact ⟨aL _,aL _⟩
theorem Qn2 {T:List DTr}{m i:Nat}{f:DTr→DTr}(h:∀t∈T,t.1.length≤m∧t.2.length≤m)(e:∀t,(f t).1.length≤t.1.length+1∧(f t).2.length≤t.2.length+1):∀t∈T.modify i f,t.1.length≤m+1∧t.2.length≤m+1:=fun t g=>by
 obtain ⟨j,a⟩:=aK.1 g
 rw[cM] at a
 cases d:T[j]? with
 | none=>rw[d] at a;cases a
 | some u=>
  rw[d] at a
  have p:=h u (ae d)
  have o:=e u
  have a:some (if i=j then f u else u)=some t:=a
  cases a
  split <;> omega
theorem DBJ.st_ {p w m:Nat}{q:Int}(h:DBJ b p w m)(e:0≤q∧q<(b.2.1.length:Int)):DBJ ((b.1.1,b.1.2.1,b.1.2.2.1,Qs5 b.1.2.2.2 q),b.2.1,b.2.2) p w m:=by
 refine ⟨?_,h.tr,h.la,h.p0,h.pl,h.ws,h.inn⟩
 have a:(⟨#[49]⟩:ByteArray).size=1:=rfl
 have d:=h.st
 show (Qs5 b.1.2.2.2 q).size=b.2.1.length
 unfold Qs5
 simp only[ax,aT,a]
 omega
theorem DBJ.more {p w m f w' e:Nat}(h:DBJ b p w m)(g:p≤f)(j:w≤w')(a:m≤e):DBJ b f w' e:=⟨h.st,h.tr,h.la,h.p0,bh h.pl g,bh h.ws j,fun t d=>⟨bh (h.inn t d).1 a,bh (h.inn t d).2 a⟩⟩
theorem DBJ.ar1_ {p w m:Nat}{q:Int}(h:DBJ b p w m):DBJ (ar1 q b text) p (w+1) (m+1):=by
 unfold ar1
 split
 ·exact h.more (aO _) (by omega) (by omega)
 ·have k:=h.tr_ (word:=XI text 0)
  exact ⟨k.st,(List.length_modify ..).trans k.tr,k.la,k.p0,k.pl,k.ws,Qn2 k.inn fun t=>⟨Nat.le_succ _,Qf3 _ _⟩⟩
theorem DBJ.ar2_ {p w m:Nat}{q:Int}(h:DBJ b p w m):DBJ (ar2 q b text) p (w+1) (m+1):=by
 unfold ar2
 split
 ·exact h.more (aO _) (by omega) (by omega)
 ·have k:=h.tr_ (word:=XI text 1)
  exact ⟨k.st,(List.length_modify ..).trans k.tr,k.la,k.p0,k.pl,k.ws,Qn2 k.inn fun t=>⟨Qf3 _ _,Nat.le_succ _⟩⟩
theorem Qq2 {q:Int}:(ar1 q b text).2.1=b.2.1:=by unfold ar1;split;exact rfl;exact QhR.2.2.2
theorem Qq3 {q:Int}:(ar2 q b text).2.1=b.2.1:=by unfold ar2;split;exact rfl;exact QhR.2.2.2
theorem DBJ.ar_ {p w m:Nat}(h:DBJ b p w m):DBJ (arV b text) (p+1) (w+2) (m+2):=by
 have d:=h.pl_ (name:=QbD text)
 have e:=d.ar1_ (q:=plI b (QbD text)) (text:=text)
 have a:=e.ar2_ (q:=plI b (QbD text)) (text:=text)
 unfold arV
 dsimp only
 split
 ·exact a.st_ (by rw[Qq3,Qq2];exact Qog)
 ·exact a
theorem DBJ.zero (G:List Qy):DBJ (((0,[]),G,[],ByteArray.empty),[],[]) 0 0 0:=⟨rfl,rfl,rfl,rfl,aO _,aO _,fun t h=>by cases h⟩
end
def fbS:ZG:=((4,[([3],[0]),([0],[1]),([1],[2]),([2],[3])]),[(⟨#[97]⟩,1),(⟨#[98]⟩,2)],[(0,true),(1,true),(0,false),(1,false)],⟨#[48,48,48,49]⟩)
theorem QwZ:Qt ⟨#[97]⟩ ⟨#[98]⟩ ⟨#[]⟩ ⟨#[97,43,62,98,43,32,98,43,62,97,45,32,97,45,62,98,45,32,42,98,45,62,97,43]⟩=fbS:=by decide+kernel
theorem Qot {x hi:Int}(h:0≤x∧x≤hi):JA [x] hi:=by
 intro k a
 have:k=0:=by simpa using a
 subst this
 unfold RisAt
 simp
 omega
theorem Qn5 {c:UInt8}(h:Yu 0 c.toNat):Qeo ⟨#[c]⟩:=by
 refine ⟨fun k a=> ?_,aO _,by show (1:Nat)≤6;omega⟩
 have b:k<1:=a
 have:k=0:=by omega
 subst this
 exact h
theorem Qw0:StgOk fbS:=by
 refine ⟨⟨⟨by decide,by decide⟩,by decide,fun t d=> ?_⟩,⟨fun k a x e=> ?_,by decide,by decide⟩,rfl,fun l c=> ?_,fun k a h=> ?_,rfl⟩
 ·simp only[fbS,aJ,bN,or_false] at d
  rcases d with rfl|rfl|rfl|rfl <;> exact ⟨by simp,Qot (by show _∧_≤(4:Int) - 1;omega),Qot (by show _∧_≤(4:Int) - 1;omega)⟩
 ·have g:k<2:=a
  rcases (show k=0∨k=1 by omega) with rfl|rfl
  ·cases e
   exact ⟨Qn5 (by unfold Yu;decide),by decide,fun j y b=>absurd b (aV j)⟩
  ·cases e
   refine ⟨Qn5 (by unfold Yu;decide),by decide,fun j y b f=> ?_⟩
   have:j=0:=by omega
   subst this
   cases f
   decide
 ·simp only[fbS,aJ,bN,or_false] at c
  rcases c with rfl|rfl|rfl|rfl <;> exact .inl (by decide)
 ·have i:k<4:=a
  rcases (show k=0∨k=1∨k=2∨k=3 by omega) with rfl|rfl|rfl|rfl <;> first|exact .inl rfl|exact .inr rfl
theorem Qw1 [∀s,Decidable (StgOk s)]:(sgV fbS).2=true:=by
 have a:Qo fbS=(((ZK fbS).1.1,(ZK fbS).1.2.1),true):=if_pos ⟨Qw0,by decide+kernel⟩
 obtain ⟨c,d⟩:=bg.1 (show (goS (ZK fbS).1.1.length (QQ fbS.2.2.1 (ZK fbS).1.2.1) fbS.2.1.length 0 (List.replicate (ZK fbS).1.1.length ByteArray.empty)).isSome=true by decide+kernel)
 have b:¬(4000:Int)<((ZK fbS).1.2.1.length:Int):=by decide+kernel
 rw[QbP (s:=fbS) (c:=c) (by rw[a]) (by rw[a];exact b) (by rw[a];exact d)]
end Go.Proofs.YtjfpbcmfbnnooaaGreat
