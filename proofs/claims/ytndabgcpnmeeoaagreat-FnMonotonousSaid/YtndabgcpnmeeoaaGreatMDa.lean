/- The traces of a state graph: levels. Plain law. -/
import Derived.Test.YtndabgcpnmeeoaaGreatMEa
import Derived.Test.YtndabgcpnmeeoaaGreatMAl
import Derived.Test.YtndabgcpnmeeoaaGreatMWk
import Derived.Test.YtndabgcpnmeeoaaGreatMAu
import Derived.Test.YtndabgcpnmeeoaaGreatMWw
import Derived.Test.YtndabgcpnmeeoaaGreatMUd
import Derived.Test.YtndabgcpnmeeoaaGreatMBc
import Derived.Test.YtndabgcpnmeeoaaGreatMWp
import Derived.Test.YtndabgcpnmeeoaaGreatMVa
import Derived.Test.YtndabgcpnmeeoaaGreatMAv
set_option linter.unusedSimpArgs false
set_option linter.unusedVariables false
set_option linter.unusedSectionVars false
namespace Go.Proofs.YtndabgcpnmeeoaaGreat
open Go.RowKit
set_option maxRecDepth 100000
set_option maxHeartbeats 4000000
inductive Tr (c:DSg) (h:Int):Nat→ByteArray→Int→Prop
  | zero:Tr c h 0 ByteArray.empty 0
  | still {n:Nat} {t:ByteArray} {a:DAr}:Tr c h n t a.1→a∈c.2.2→inv h a=true→Tr c h n t a.2.2.2
  | word {n:Nat} {t:ByteArray} {a:DAr}:Tr c h n t a.1→a∈c.2.2→inv h a=false→Tr c h (n+1) (t++wdA c a) a.2.2.2
@[reducible] def DTx:=ByteArray×List Int×Int
@[reducible] def DLv:=List (ByteArray×List Int)
def Vs (c:DSg)(h:Int)(L:DLv)(s:ByteArray)(v:Int):Prop:=∃q∈L,∃a∈c.2.2,inv h a=false∧a.1∈q.2∧s=q.1++wdA c a∧v=a.2.2.2
structure Lev (c:DSg) (h:Int) (n:Nat) (K:DLv):Prop where
  nod:K.Pairwise fun p q=>p.1≠q.1
  mem:∀p∈K,(∃u,u∈p.2)∧∀u,u∈p.2↔Tr c h n p.1 u
  all:∀t u,Tr c h n t u→∃p∈K,p.1=t
section
variable {c:DSg}{h:Int}{n m:Nat}{s t:ByteArray}{u v:Int}{K L M:DLv}{a:DAr}
theorem Tr.ch {P:Int→Prop}(f:∀u,P u→Tr c h n t u)(k:Ch c.2.2 h P u):Tr c h n t u:=by
 induction k with
 | base b=>exact f _ b
 | step _ d e g=>exact .still g d e
theorem Qco:Tr c h 0 t u↔t=ByteArray.empty∧Ch c.2.2 h (fun v=>v=0) u:=by
 constructor
 ·intro k
  generalize e:0=n at k
  induction k with
  | zero=>exact ⟨rfl, .base rfl⟩
  | still _ d f b=>exact ⟨(b e).1, .step (b e).2 d f⟩
  | word=>cases e
 ·rintro ⟨rfl,k⟩
  exact Tr.ch (fun u g=>by subst g; exact .zero) k
theorem QrL:Tr c h (n+1) s u↔Ch c.2.2 h (fun v=>∃t,∃a∈c.2.2,inv h a=false∧Tr c h n t a.1∧s=t++wdA c a∧v=a.2.2.2) u:=by
 constructor
 ·intro k
  generalize e:n+1=m at k
  induction k with
  | zero=>cases e
  | still _ b d j=>exact .step (j e) b d
  | word f b d=>
   cases e
   exact .base ⟨_,_,b,d,f,rfl,rfl⟩
 ·exact Tr.ch fun u ⟨t,a,f,b,d,g,i⟩=>by subst g; subst i; exact .word d f b
theorem Lev.vs (g:Lev c h n L):Vs c h L s v↔∃t,∃a∈c.2.2,inv h a=false∧Tr c h n t a.1∧s=t++wdA c a∧v=a.2.2.2:=by
 constructor
 ·rintro ⟨q,d,a,e,f,b,i,j⟩
  exact ⟨q.1,a,e,f,((g.mem q d).2 _).1 b,i,j⟩
 ·rintro ⟨t,a,e,f,b,i,j⟩
  obtain ⟨q,d,rfl⟩:=g.all t _ b
  exact ⟨q,d,a,e,f,((g.mem q d).2 _).2 b,i,j⟩
theorem Lev.next (g:Lev c h n L)(l:M.Pairwise fun p q=>p.1≠q.1)(f:∀p∈M,(∃v,Vs c h L p.1 v)∧∀u,u∈p.2↔Ch c.2.2 h (fun v=>Vs c h L p.1 v) u)(k:∀s v,Vs c h L s v→∃p∈M,p.1=s):Lev c h (n+1) M:=by
 have e:∀s u,Ch c.2.2 h (fun v=>Vs c h L s v) u↔Tr c h (n+1) s u:=fun s u=>(Ch.congr fun _=>g.vs).trans QrL.symm
 refine ⟨l,fun p i=>⟨?_,fun u=>((f p i).2 u).trans (e _ _)⟩,fun t u o=> ?_⟩
 ·obtain ⟨v,j⟩:=(f p i).1
  exact ⟨v,((f p i).2 v).2 (.base j)⟩
 ·have b:=(e t u).2 o
  have d:∃v,Vs c h L t v:=by
   induction b with
   | base d=>exact ⟨_,d⟩
   | step b _ _ r=>exact r ((e _ _).1 b)
  obtain ⟨v,j⟩:=d
  exact k t v j
def JE:List DTx→DTx→List DTx
 | [],x=>[x]
 | y :: l,x=>if y.1=x.1∧y.2.2=x.2.2 then (y.1,x.2.1.foldl (fun s k=>Z8 ltI k s) y.2.1,y.2.2) :: l else y :: JE l x
def arT (c:DSg)(h:Int)(x:DTx)(out:List DTx)(a:DAr):List DTx:=if inv h a=false∧a.1∈x.2.1 then JE out (x.1++wdA c a,[a.2.2.2],x.2.2+1) else out
def QrV (c:DSg)(h:Int)(as_:List DAr)(x:DTx)(out:List DTx):List DTx:=as_.foldl (arT c h x) out
def Qr7 (c:DSg)(h:Int)(L:List DTx)(out:List DTx):List DTx:=L.foldl (fun out x=>QrV c h c.2.2 x out) out
def Qub (c:DSg)(h:Int)(y:DTx):DTx:=(y.1,stl c h y.2.1,y.2.2)
def Qwo (c:DSg)(h:Int)(L:List DTx):List DTx:=(Qr7 c h L []).map (Qub c h)
def HH (c:DSg)(h:Int):Nat→List DTx
 | 0=>[(ByteArray.empty,stl c h [0],0)]
 | n+1=>Qwo c h (HH c h n)
def unT (L:List DTx):DLv:=L.map fun x=>(x.1,x.2.1)
structure OT (m:Int) (V:ByteArray→Int→Prop) (out:List DTx):Prop where
  many:∀y∈out,y.2.2=m
  nod:out.Pairwise fun p q=>p.1≠q.1
  srt:∀y∈out,Srt y.2.1
  mem:∀y∈out,∀v,v∈y.2.1↔V y.1 v
  wit:∀y∈out,∃v,V y.1 v
  all:∀s v,V s v→∃y∈out,y.1=s
theorem OT.congr {i:Int}{V W:ByteArray→Int→Prop}{out:List DTx}(g:OT i V out)(e:∀s v,V s v↔W s v):OT i W out:=
 ⟨g.many,g.nod,g.srt,fun y d v=>(g.mem y d v).trans (e _ _),fun y d=>(g.wit y d).imp fun v b=>(e _ _).1 b,fun s v b=>g.all s v ((e _ _).2 b)⟩
theorem Qhz {i:Int}:∀{out:List DTx} {y:DTx},(∀y∈out,y.2.2=i)→(out.Pairwise fun p q=>p.1≠q.1)→(y∈JE out (s,[v],i)↔(y∈out∧y.1≠s)∨(∃z∈out,z.1=s∧y=(z.1,Z8 ltI v z.2.1,z.2.2))∨((∀z∈out,z.1≠s)∧y=(s,[v],i)))
 | [],y,_,_=>by simp[JE]
 | z :: l,y,hm,hn=>by
  obtain ⟨r,w⟩:=bk.1 hn
  have o:=hm z (ax ..)
  rw[JE]
  by_cases e:z.1=s
  ·rw[if_pos ⟨e,o⟩]
   have A:∀x∈l,x.1≠s:=fun x d g=>r x d (e.trans g.symm)
   simp only[aN,bU,aC]
   constructor
   ·rintro (rfl | j)
    ·exact .inr (.inl ⟨z, .inl rfl,e,rfl⟩)
    ·exact .inl ⟨.inr j,A y j⟩
   ·rintro (⟨rfl | j,b⟩ | ⟨x,rfl | d,b,rfl⟩ | ⟨f,_⟩)
    ·exact absurd e b
    ·exact .inr j
    ·exact .inl rfl
    ·exact absurd b (A x d)
    ·exact absurd e (f z (.inl rfl))
  ·rw[if_neg (fun g=>e g.1)]
   have B:=Qhz (out:=l) (y:=y) (fun x d=>hm x (aw _ d)) w
   rw[aC,B]
   simp only[aC]
   constructor
   ·rintro (rfl | ⟨f,b⟩ | ⟨x,d,b,k⟩ | ⟨f,b⟩)
    ·exact .inl ⟨.inl rfl,e⟩
    ·exact .inl ⟨.inr f,b⟩
    ·exact .inr (.inl ⟨x, .inr d,b,k⟩)
    ·exact .inr (.inr ⟨fun x d=>by rcases d with rfl | d; exact e; exact f x d,b⟩)
   ·rintro (⟨rfl | f,b⟩ | ⟨x,rfl | d,b,k⟩ | ⟨f,b⟩)
    ·exact .inl rfl
    ·exact .inr (.inl ⟨f,b⟩)
    ·exact absurd b e
    ·exact .inr (.inr (.inl ⟨x,d,b,k⟩))
    ·exact .inr (.inr (.inr ⟨fun x d=>f x (.inr d),b⟩))
theorem Qhs {i:Int}{x:DTx}:∀{out:List DTx},∀y∈JE out x,y.1=x.1∨∃z∈out,z.1=y.1
 | [],y,hy=>by rw[JE,aD] at hy; subst hy; exact .inl rfl
 | z :: l,y,hy=>by
  rw[JE] at hy
  split at hy
  ·rcases aC.1 hy with rfl | hy
   ·exact .inr ⟨z,ax ..,rfl⟩
   ·exact .inr ⟨y,aw _ hy,rfl⟩
  ·rcases aC.1 hy with rfl | hy
   ·exact .inr ⟨y,ax ..,rfl⟩
   ·rcases Qhs (i:=i) y hy with b | ⟨w,d,b⟩
    ·exact .inl b
    ·exact .inr ⟨w,aw _ d,b⟩
theorem QhX {i:Int}{x:DTx}(e:x.2.2=i):∀{out:List DTx},(∀y∈out,y.2.2=i)→(out.Pairwise fun p q=>p.1≠q.1)→(JE out x).Pairwise fun p q=>p.1≠q.1
 | [],_,_=>cI ..
 | z :: l,hm,hn=>by
  obtain ⟨b,d⟩:=bk.1 hn
  have j:=hm z (ax ..)
  rw[JE]
  split
  ·exact bk.2 ⟨fun y k=>b y k,d⟩
  ·rename_i o
   refine bk.2 ⟨fun y k=> ?_,QhX e (fun x e=>hm x (aw _ e)) d⟩
   rcases Qhs (i:=i) y k with f | ⟨w,r,f⟩
   ·exact fun g=>o ⟨g.trans f,j.trans e.symm⟩
   ·rw[← f]; exact b w r
theorem OT.step {i:Int}{V:ByteArray→Int→Prop}{out:List DTx}(g:OT i V out):OT i (fun s' f=>V s' f∨(s'=s∧f=v)) (JE out (s,[v],i)):=by
 have l:=fun y=>Qhz (s:=s) (v:=v) (y:=y) g.many g.nod
 have p:∀z∈out,z.1=s→∀f,f∈Z8 ltI v z.2.1↔V s f∨f=v:=fun z b e f=>by
  rw[Yr,g.mem z b f,e]; exact Or.comm
 refine ⟨fun y o=> ?_,QhX rfl g.many g.nod,fun y o=> ?_,fun y o f=> ?_,fun y o=> ?_,fun s' f q=> ?_⟩
 ·rcases (l y).1 o with j | ⟨z,b,d,rfl⟩ | ⟨_,rfl⟩
  ·exact g.many y j.1
  ·exact g.many z b
  ·rfl
 ·rcases (l y).1 o with j | ⟨z,b,d,rfl⟩ | ⟨_,rfl⟩
  ·exact g.srt y j.1
  ·exact Ur ZS (g.srt z b)
  ·exact cI ..
 ·rcases (l y).1 o with j | ⟨z,b,d,rfl⟩ | ⟨j,rfl⟩
  ·rw[g.mem y j.1]; exact ⟨.inl,fun k=>k.resolve_right fun e=>j.2 e.1⟩
  ·show f∈Z8 ltI v z.2.1↔_
   rw[p z b d,d]
   exact ⟨fun k=>k.imp id fun e=>⟨rfl,e⟩,fun k=>k.imp id fun e=>e.2⟩
  ·show f∈[v]↔_
   rw[aD]
   refine ⟨fun e=> .inr ⟨rfl,e⟩,fun k=>k.elim (fun k=> ?_) fun k=>k.2⟩
   obtain ⟨z,b,e⟩:=g.all _ _ k
   exact absurd e (j z b)
 ·rcases (l y).1 o with j | ⟨z,b,d,rfl⟩ | ⟨_,rfl⟩
  ·exact (g.wit y j.1).imp fun _=> .inl
  ·exact ⟨v, .inr ⟨d,rfl⟩⟩
  ·exact ⟨v, .inr ⟨rfl,rfl⟩⟩
 ·by_cases e:s'=s
  ·subst e
   by_cases k:∃z∈out,z.1=s'
   ·obtain ⟨z,b,d⟩:=k
    exact ⟨_,(l _).2 (.inr (.inl ⟨z,b,d,rfl⟩)),d⟩
   ·exact ⟨_,(l _).2 (.inr (.inr ⟨fun z b d=>k ⟨z,b,d⟩,rfl⟩)),rfl⟩
  ·obtain ⟨z,b,d⟩:=g.all s' f (q.resolve_right fun k=>e k.1)
   exact ⟨z,(l _).2 (.inl ⟨b,by rw[d]; exact e⟩),d⟩
theorem Qg7 {i:Int}{x:DTx}(d:x.2.2+1=i):∀(as_:List DAr) {V:ByteArray→Int→Prop} {out:List DTx},OT i V out→OT i (fun s v=>V s v∨∃a∈as_,inv h a=false∧a.1∈x.2.1∧s=x.1++wdA c a∧v=a.2.2.2) (QrV c h as_ x out)
 | [],V,out,g=>g.congr fun s v=>by simp
 | a :: l,V,out,g=>by
  show OT i _ (QrV c h l x (arT c h x out a))
  unfold arT
  split
  ·rename_i b
   rw[d]
   refine (Qg7 d l g.step).congr fun s v=> ?_
   simp only[aC,exists_eq_or_imp,or_assoc]
   exact or_congr_right (or_congr_left ⟨fun k=>⟨b.1,b.2,k⟩,fun k=>k.2.2⟩)
  ·rename_i b
   refine (Qg7 d l g).congr fun s v=> ?_
   simp only[aC,exists_eq_or_imp]
   exact or_congr_right ⟨.inr,fun k=>k.resolve_left fun k=>b ⟨k.1,k.2.1⟩⟩
theorem QlT {i:Int}:∀(L:List DTx) {V:ByteArray→Int→Prop} {out:List DTx},(∀x∈L,x.2.2+1=i)→OT i V out→OT i (fun s v=>V s v∨Vs c h (unT L) s v) (Qr7 c h L out)
 | [],V,out,_,g=>g.congr fun s v=>by simp[Vs,unT]
 | x :: l,V,out,hm,g=>by
  refine (QlT l (fun y b=>hm y (aw _ b)) (Qg7 (hm x (ax ..)) c.2.2 g)).congr fun s v=> ?_
  simp only[Vs,unT,be,aC,exists_eq_or_imp,or_assoc]
theorem Qpa {i:Int}{L:List DTx}(b:∀x∈L,x.2.2+1=i):OT i (Vs c h (unT L)) (Qr7 c h L []):=
 (QlT L b (V:=fun _ _=>False) ⟨by simp,ce,by simp,by simp,by simp,by simp⟩).congr fun s v=>by simp
end
end Go.Proofs.YtndabgcpnmeeoaaGreat
namespace Go.Proofs.YtndabgcpnmeeoaaGreat
open Go.RowKit
set_option maxRecDepth 100000
set_option maxHeartbeats 4000000
section
variable {c:DSg}{h:Int}{n m:Nat}{s t:ByteArray}{u v:Int}{K L M A D l1 l2:DLv}{a:DAr}{S T_:List Int}{q p:ByteArray×List Int}
theorem Qqc (d:SgOk c)(b:a∈c.2.2):0≤a.2.2.2∧a.2.2.2 < (c.2.1.length:Int):=by
 have:=d.arcs a b
 obtain ⟨_,e,_⟩:=this
 omega
theorem Qqi (f:SgOk c)(b:Srt S)(e:∀u∈S,0≤u∧u < (c.2.1.length:Int)):∀u,u∈stl c h S↔Ch c.2.2 h (fun v=>v∈S) u:=Qev b (fun _ d=>Qqc f d) e
theorem Qv5 (d:SgOk c)(k:Vs c h L s v):0≤v∧v < (c.2.1.length:Int):=by
 obtain ⟨_,_,a,b,_,_,_,rfl⟩:=k
 exact Qqc d b
theorem Qgj {L:List DTx}{p:ByteArray×List Int}(k:p∈unT L):∃x∈L,p=(x.1,x.2.1):=by
 obtain ⟨x,b,e⟩:=ba.1 k
 exact ⟨x,b,e.symm⟩
theorem Qle (f:SgOk c):∀n,(Lev c h n (unT (HH c h n))∧(∀x∈HH c h n,x.2.2=(n:Int)))∧∀x∈HH c h n,Srt x.2.1:=fun n=>by
 have F:=f.some_
 induction n with
 | zero=>
  have z:∀u,u∈stl c h [0]↔Ch c.2.2 h (fun v=>v=0) u:=fun u=>(Qqi f (cI ..) (fun u r=>by rw[aD] at r; omega) u).trans (Ch.congr fun v=>aD)
  refine ⟨⟨⟨cI ..,fun p l=> ?_,fun t u r=>⟨_,aD.2 rfl,(Qco.1 r).1.symm⟩⟩,fun x b=>by rw[HH,aD] at b; subst b; rfl⟩,fun x b=>by rw[HH,aD] at b; subst b; exact UN (cI ..)⟩
  obtain ⟨x,b,rfl⟩:=Qgj l
  rw[HH,aD] at b
  subst b
  exact ⟨⟨0,(z 0).2 (.base rfl)⟩,fun u=>(z u).trans ⟨fun k=>Qco.2 ⟨rfl,k⟩,fun k=>(Qco.1 k).2⟩⟩
 | succ n E=>
  obtain ⟨⟨g,B⟩,C⟩:=E
  have o:=Qpa (c:=c) (h:=h) (i:=(n:Int)+1) (L:=HH c h n) fun x b=>by rw[B x b]
  have j:∀y∈Qr7 c h (HH c h n) [],∀u,u∈stl c h y.2.1↔Ch c.2.2 h (fun v=>Vs c h (unT (HH c h n)) y.1 v) u:=fun y d u=>
   (Qqi f (o.srt y d) (fun v w=>Qv5 f ((o.mem y d v).1 w)) u).trans (Ch.congr fun v=>o.mem y d v)
  refine ⟨⟨g.next ?_ (fun p l=> ?_) (fun s v w=> ?_),fun x b=> ?_⟩,fun x b=> ?_⟩
  ·unfold unT HH Qwo
   rw[dQ,dH]
   exact o.nod
  ·obtain ⟨x,b,rfl⟩:=Qgj l
   obtain ⟨y,d,rfl⟩:=ba.1 b
   exact ⟨o.wit y d,j y d⟩
  ·obtain ⟨y,d,e⟩:=o.all s v w
   exact ⟨_,ba.2 ⟨Qub c h y,ba.2 ⟨y,d,rfl⟩,rfl⟩,e⟩
  ·obtain ⟨y,d,rfl⟩:=ba.1 b
   rw[show (Qub c h y).2.2=y.2.2 from rfl,o.many y d]; omega
  ·obtain ⟨y,d,rfl⟩:=ba.1 b
   exact UN (o.srt y d)
def QnD (L:List DTx)(out:List ByteArray):List ByteArray:=L.foldl (fun o x=>Z8 ltB x.1 o) out
def txL (c:DSg)(h:Int):Nat→List ByteArray
 | 0=>QnD (HH c h 0) []
 | n+1=>QnD (HH c h (n+1)) (txL c h n)
theorem QcW:∀{L:List DTx} {out:List ByteArray},t∈QnD L out↔t∈out∨∃x∈L,x.1=t
 | [],out=>by simp[QnD]
 | x :: l,out=>by
  show t∈QnD l (Z8 ltB x.1 out)↔_
  rw[QcW,Yr]
  simp only[aC,exists_eq_or_imp]
  constructor
  ·rintro ((rfl | b) | b)
   ·exact .inr (.inl rfl)
   ·exact .inl b
   ·exact .inr (.inr b)
  ·rintro (b | rfl | b)
   ·exact .inl (.inr b)
   ·exact .inl (.inl rfl)
   ·exact .inr b
theorem Qec (b:TO ltB):∀{L:List DTx} {out:List ByteArray},out.Pairwise (fun x y=>ltB x y=true)→(QnD L out).Pairwise (fun x y=>ltB x y=true)
 | [],_,k=>k
 | x :: l,out,k=>Qec b (L:=l) (Ur b k)
theorem QmH (b:TO ltB):∀n,(txL c h n).Pairwise (fun x y=>ltB x y=true)
 | 0=>Qec b ce
 | n+1=>Qec b (QmH b n)
theorem Qpo (g:Lev c h n (unT (HH c h n))):(∃x∈HH c h n,x.1=t)↔∃u,Tr c h n t u:=by
 constructor
 ·rintro ⟨x,d,rfl⟩
  have e:=g.mem _ (ba.2 ⟨x,d,rfl⟩)
  exact e.1.imp fun u b=>(e.2 u).1 b
 ·rintro ⟨u,b⟩
  obtain ⟨p,f,rfl⟩:=g.all t u b
  obtain ⟨x,d,rfl⟩:=Qgj f
  exact ⟨x,d,rfl⟩
theorem Qgv (f:SgOk c):∀n,t∈txL c h n↔∃m,m≤n∧∃u,Tr c h m t u
 | 0=>by
  rw[txL,QcW,Qpo (Qle f 0).1.1]
  exact ⟨fun k=>⟨0,aK _,k.resolve_left (by simp)⟩,fun ⟨m,g,k⟩=> .inr (by rwa [Nat.le_zero.1 g] at k)⟩
 | n+1=>by
  rw[txL,QcW,Qpo (Qle f (n+1)).1.1,Qgv f n]
  constructor
  ·rintro (⟨m,d,b⟩ | d)
   ·exact ⟨m,by omega,b⟩
   ·exact ⟨n+1,aK _,d⟩
  ·rintro ⟨m,d,b⟩
   by_cases e:m=n+1
   ·subst e; exact .inr b
   ·exact .inl ⟨m,by omega,b⟩
theorem QuH {l:List ByteArray}(b:TO ltB)(k:l.Pairwise (fun x y=>ltB x y=true)):l.Nodup:=k.imp fun h e=>by subst e; exact absurd ((b.irr _).symm.trans h) (by decide)
@[reducible] def Qx8 (c:DSg) (h m:Int):Prop:=SgOk c∧(-1≤h∧h≤(c.1.length:Int) - 1)∧(0≤m∧m≤6)
def trV (c:DSg)[Decidable (SgOk c)](h m:Int):List ByteArray×Bool:=if Qx8 c h m∧(txL c h m.toNat).length≤400 then (txL c h m.toNat,true) else ([],false)
theorem Qxb:inv h a=false↔¬a.2.1= -1∧¬a.2.1=h:=by simp[inv]
theorem QvS (l:SgOk c)(y:a∈c.2.2)(hi:inv h a=false):∃N x,tl (wdA c a)=N++[x]∧QmN x=true∧∀b∈N,QmN b=false:=by
 have o:=(l.arcs a y).2.2.1
 have B:0≤a.2.1∧a.2.1≤(c.1.length:Int) - 1:=o.resolve_right fun k=>(Qxb.1 hi).1 k.1
 obtain ⟨g,i⟩:∃g,c.1[a.2.1.toNat]? =some g:=⟨_,aj (by omega)⟩
 have r:=(l.sigs.1 a.2.1.toNat (by omega) g i).1
 refine ⟨tl g.1,if a.2.2.1=true then 43 else 45, ?_,by split <;> rfl,fun b z=> ?_⟩
 ·unfold wdA sgB
  rw[QoL,i]
  split <;> rfl
 ·obtain ⟨k,j⟩:=aL.1 z
  have f:k < g.1.size:=by have:=(ah.1 j).1; simpa [tl] using this
  have w:g.1[k]=b:=by
   have:=(ah.1 j).2
   simp only[tl,Array.getElem_toList] at this
   exact this
  have d:=r.1 k f
  rw[w] at d
  unfold QmN
  simp only[dx,beq_eq_false_iff_ne,ne_eq]
  unfold Ys at d
  refine ⟨fun e=> ?_,fun e=> ?_⟩ <;> subst e <;> revert d <;> simp
def cnS (l:List UInt8):Nat:=(l.filter QmN).length
theorem Qpf (r:SgOk c)(k:Tr c h n t u):Qyi (tl t)∧cnS (tl t)=n:=by
 induction k with
 | zero=>exact ⟨.inl rfl,rfl⟩
 | still _ _ _ d=>exact d
 | word _ i j d=>
  obtain ⟨N,x,e,f,l⟩:=QvS r i j
  rw[QoL,e]
  refine ⟨.inr ⟨_,x,(aU ..).symm,f⟩, ?_⟩
  have g:N.filter QmN=[]:=List.filter_eq_nil_iff.2 fun b o=>by rw[l b o]; decide
  have:=d.2
  unfold cnS at this ⊢
  rw[bz,bz,g,cV,ai,this,cp,f]; rfl
theorem Qux {e:Int}(b:SgOk c)(k:Tr c h n t u)(d:Tr c h m t e):n=m:=(Qpf b k).2.symm.trans (Qpf b d).2
def afS (c:DSg)(S:List Int)(h:Int)(A:DLv)(a:DAr):DLv:=if a.1∈S∧inv h a=false then Ke .str A (wdA c a) (((WS .str A (wdA c a)).getD [])++[a.2.2.2]) else A
def afV (c:DSg)(S:List Int)(h:Int):DLv:=c.2.2.foldl (afS c S h) []
structure AfI (c:DSg) (h:Int) (S:List Int) (rs:List DAr) (A:DLv):Prop where
  nod:A.Pairwise fun p q=>p.1≠q.1
  mem:∀p∈A,(∃v,v∈p.2)∧∀v,v∈p.2↔∃a∈rs,inv h a=false∧a.1∈S∧wdA c a=p.1∧v=a.2.2.2
  all:∀a∈rs,inv h a=false→a.1∈S→∃p∈A,p.1=wdA c a
theorem Qtv {k:Ty}{V:Type}{m:List (k.Den×V)}{x:k.Den}(f:m.Pairwise fun p q=>p.1≠q.1):(∃v,(x,v)∈m∧WS k m x=some v)∨((∀p∈m,p.1≠x)∧WS k m x=none):=by
 by_cases e:∃p∈m,p.1=x
 ·obtain ⟨p,b,rfl⟩:=e
  obtain ⟨j,i⟩:=aL.1 b
  exact .inl ⟨p.2,b,UO f i rfl⟩
 ·have d:∀p∈m,p.1≠x:=fun p b g=>e ⟨p,b,g⟩
  exact .inr ⟨d,K5 d⟩
theorem Hd {k:Ty}{V:Type}{m:List (k.Den×V)}{x:k.Den}{v:V}{p:k.Den×V}(z:m.Pairwise fun p q=>p.1≠q.1):p∈Ke k m x v↔(p∈m∧p.1≠x)∨p=(x,v):=by
 have o:=Qg9 (x:=x) (v:=v) z
 constructor
 ·intro l
  rcases Qin l with e | r
  ·exact .inr e
  ·by_cases e:p.1=x
   ·right
    obtain ⟨j,f⟩:=aL.1 l
    have b:=UO o f e
    rw[Un,if_pos ((k.beq_iff _ _).2 rfl)] at b
    cases b
    exact Prod.ext e rfl
   ·exact .inl ⟨r,e⟩
 ·have b:∀y w,(y,w)∈Ke k m x v↔WS k (Ke k m x v) y=some w:=fun y w=>by
   rcases Qtv (x:=y) o with ⟨B,b,i⟩ | ⟨b,i⟩
   ·rw[i]
    refine ⟨fun d=> ?_,fun d=>by cases d; exact b⟩
    obtain ⟨j,f⟩:=aL.1 d
    rw[← UO o f rfl,i]
   ·rw[i]; exact ⟨fun d=>absurd rfl (b _ d),fun d=>by cases d⟩
  rintro (⟨l,e⟩ | rfl)
  ·obtain ⟨y,w⟩:=p
   rw[b,Un,if_neg (fun g=>e ((k.beq_iff _ _).1 g).symm)]
   obtain ⟨j,f⟩:=aL.1 l
   exact UO z f rfl
  ·rw[b,Un,if_pos ((k.beq_iff _ _).2 rfl)]
theorem AfI.zero:AfI c h S [] []:=⟨ce,by simp,by simp⟩
theorem AfI.step {rs:List DAr}(g:AfI c h S rs A):AfI c h S (rs++[a]) (afS c S h A a):=by
 unfold afS
 split
 ·rename_i y
  have z:∀v,v∈((WS .str A (wdA c a)).getD [])↔∃b∈rs,inv h b=false∧b.1∈S∧wdA c b=wdA c a∧v=b.2.2.2:=fun v=>by
   rcases Qtv (k:= .str) (x:=wdA c a) g.nod with ⟨w,B,C⟩ | ⟨B,C⟩
   ·rw[C]; exact (g.mem _ B).2 v
   ·rw[C]
    refine ⟨fun k=>(by cases k),fun ⟨b,d,f,l,o,_⟩=> ?_⟩
    obtain ⟨p,j,e⟩:=g.all b d f l
    exact absurd (e.trans o) (B p j)
  refine ⟨Qg9 (k:= .str) g.nod,fun p j=> ?_,fun b i d f=> ?_⟩
  ·rcases (Hd (k:= .str) g.nod).1 j with ⟨j,e⟩ | rfl
   ·refine ⟨(g.mem p j).1,fun v=>((g.mem p j).2 v).trans ⟨fun ⟨b,d,f⟩=>⟨b,aS _ d,f⟩,fun ⟨b,d,f,l,o,r⟩=> ?_⟩⟩
    rcases aM.1 d with d | d
    ·exact ⟨b,d,f,l,o,r⟩
    ·rw[aD] at d; subst d; exact absurd o.symm e
   ·refine ⟨⟨a.2.2.2,aV _ (aD.2 rfl)⟩,fun v=> ?_⟩
    show v∈_++[a.2.2.2]↔_
    rw[aM,z,aD]
    constructor
    ·rintro (⟨b,d,f,l,o,r⟩ | rfl)
     ·exact ⟨b,aS _ d,f,l,o,r⟩
     ·exact ⟨a,aV _ (aD.2 rfl),y.2,y.1,rfl,rfl⟩
    ·rintro ⟨b,d,f,l,o,r⟩
     rcases aM.1 d with d | d
     ·exact .inl ⟨b,d,f,l,o,r⟩
     ·rw[aD] at d; subst d; exact .inr r
  ·rcases aM.1 i with i | i
   ·obtain ⟨p,j,e⟩:=g.all b i d f
    by_cases E:p.1=wdA c a
    ·exact ⟨_,(Hd (k:= .str) g.nod).2 (.inr rfl),by rw[← e,E]⟩
    ·exact ⟨p,(Hd (k:= .str) g.nod).2 (.inl ⟨j,E⟩),e⟩
   ·rw[aD] at i; subst i
    exact ⟨_,(Hd (k:= .str) g.nod).2 (.inr rfl),rfl⟩
 ·rename_i y
  refine ⟨g.nod,fun p j=>⟨(g.mem p j).1,fun v=>((g.mem p j).2 v).trans ⟨fun ⟨b,d,f⟩=>⟨b,aS _ d,f⟩,fun ⟨b,d,f,l,o⟩=> ?_⟩⟩,fun b i d f=> ?_⟩
  ·rcases aM.1 d with d | d
   ·exact ⟨b,d,f,l,o⟩
   ·rw[aD] at d; subst d; exact absurd ⟨l,f⟩ y
  ·rcases aM.1 i with i | i
   ·exact g.all b i d f
   ·rw[aD] at i; subst i; exact absurd ⟨f,d⟩ y
structure NxI (c:DSg) (h:Int) (V:ByteArray→Int→Prop) (M:DLv):Prop where
  nod:M.Pairwise fun p q=>p.1≠q.1
  mem:∀p∈M,(∃v,V p.1 v)∧∀u,u∈p.2↔Ch c.2.2 h (fun v=>V p.1 v) u
  all:∀s v,V s v→∃p∈M,p.1=s
theorem NxI.congr {V W:ByteArray→Int→Prop}(g:NxI c h V M)(e:∀s v,V s v↔W s v):NxI c h W M:=
 ⟨g.nod,fun p d=>⟨(g.mem p d).1.imp fun v b=>(e _ _).1 b,fun u=>((g.mem p d).2 u).trans (Ch.congr fun v=>e _ _)⟩,fun s v b=>g.all s v ((e _ _).2 b)⟩
theorem NxI.zero:NxI c h (fun _ _=>False) []:=⟨ce,by simp,fun _ _ k=>k.elim⟩
theorem NxI.step {V:ByteArray→Int→Prop}{W:Int→Prop}(g:NxI c h V M)(l:∀v,¬V s v)(o:∀u,u∈T_↔Ch c.2.2 h W u)(j:∃w,W w):NxI c h (fun s' i=>V s' i∨(s'=s∧W i)) (Ke .str M s T_):=by
 have f:∀p∈M,p.1≠s:=fun p b e=>by
  obtain ⟨v,d⟩:=(g.mem p b).1
  rw[e] at d; exact l v d
 refine ⟨Qg9 (k:= .str) g.nod,fun p b=> ?_,fun s' i d=> ?_⟩
 ·rcases (Hd (k:= .str) g.nod).1 b with ⟨b,e⟩ | rfl
  ·exact ⟨(g.mem p b).1.imp fun _=> .inl,fun u=>((g.mem p b).2 u).trans (Ch.congr fun v=>⟨.inl,fun k=>k.resolve_right fun k=>e k.1⟩)⟩
  ·exact ⟨j.imp fun w j=> .inr ⟨rfl,j⟩,fun u=>(o u).trans (Ch.congr fun v=>⟨fun k=> .inr ⟨rfl,k⟩,fun k=>k.elim (fun k=>absurd k (l v)) fun k=>k.2⟩)⟩
 ·rcases d with d | ⟨rfl,_⟩
  ·obtain ⟨p,b,e⟩:=g.all s' i d
   exact ⟨p,(Hd (k:= .str) g.nod).2 (.inl ⟨b,f p b⟩),e⟩
  ·exact ⟨_,(Hd (k:= .str) g.nod).2 (.inr rfl),rfl⟩
def Vm (c:DSg)(h:Int)(D:DLv)(q:ByteArray×List Int)(E:DLv)(s:ByteArray)(v:Int):Prop:=Vs c h D s v∨∃p∈E,s=q.1++p.1∧v∈p.2
structure OuI (c:DSg) (h:Int) (n:Nat) (out:List ByteArray):Prop where
  nod:out.Nodup
  mem:∀t,t∈out↔∃m,m≤n∧∃u,Tr c h m t u
theorem OuI.zero:OuI c h 0 [ByteArray.empty]:=⟨by simp,fun t=>by
 rw[aD]
 exact ⟨fun e=>⟨0,aK _,0,by rw[e]; exact .zero⟩,fun ⟨m,b,u,k⟩=>by rw[Nat.le_zero.1 b] at k; exact (Qco.1 k).1⟩⟩
theorem OuI.len (e:SgOk c)(d:TO ltB){out:List ByteArray}(g:OuI c h n out):out.length=(txL c h n).length:=
 Nat.le_antisymm (KX g.nod fun t b=>(Qgv e n).2 ((g.mem t).1 b)) (KX (QuH d (QmH d n)) fun t b=>(g.mem t).2 ((Qgv e n).1 b))
theorem OuI.next (w:SgOk c){out:List ByteArray}(g:OuI c h n out)(k:Lev c h (n+1) M){E:DLv}(i:E.Perm M):OuI c h (n+1) (out++E.map fun p=>p.1):=by
 have r:(E.map fun p=>p.1).Nodup:=by
  unfold List.Nodup
  rw[dH]
  exact i.symm.pairwise k.nod fun h e=>h e.symm
 refine ⟨bi.2 ⟨g.nod,r,fun x B y C e=> ?_⟩,fun t=> ?_⟩
 ·subst e
  obtain ⟨m,l,u,b⟩:=(g.mem x).1 B
  obtain ⟨p,f,rfl⟩:=ba.1 C
  have d:=k.mem p (i.mem_iff.1 f)
  obtain ⟨F,j⟩:=d.1
  have:=Qux w b ((d.2 F).1 j)
  omega
 ·rw[aM,g.mem]
  constructor
  ·rintro (⟨m,l,b⟩ | o)
   ·exact ⟨m,by omega,b⟩
   ·obtain ⟨p,f,rfl⟩:=ba.1 o
    have d:=k.mem p (i.mem_iff.1 f)
    exact ⟨n+1,aK _,d.1.imp fun u z=>(d.2 u).1 z⟩
  ·rintro ⟨m,l,u,b⟩
   by_cases e:m=n+1
   ·subst e
    obtain ⟨p,f,rfl⟩:=k.all t u b
    exact .inr (ba.2 ⟨p,i.mem_iff.2 f,rfl⟩)
   ·exact .inl ⟨m,by omega,u,b⟩
end
end Go.Proofs.YtndabgcpnmeeoaaGreat
namespace Go.Proofs.YtndabgcpnmeeoaaGreat
open Go.RowKit
set_option maxRecDepth 100000
set_option maxHeartbeats 4000000
theorem Qqu {α:Type _}[DecidableEq α]{lt:α→α→Bool}(x:α):∀l:List α,(Z8 lt x l).length≤l.length+1
 | []=>aK _
 | y :: l=>by
  unfold Z8
  have:=Qqu (lt:=lt) x l
  split
  ·simp only[au]; omega
  ·split <;> simp
section
variable {c:DSg}{h:Int}{n k i j:Nat}{S set:List Int}{a:DAr}{rs as_:List DAr}{x y z:DTx}{l L out:List DTx}{s t:ByteArray}{u v:Int}{g:Qz}
def ftT (x:DTx)(j:Nat)(y:DTx):DTx:=(y.1,(x.2.1.take j).foldl (fun s k=>Z8 ltI k s) y.2.1,y.2.2)
theorem Qiu:∀(m:List Int) {s:List Int},(m.foldl (fun s k=>Z8 ltI k s) s).length≤s.length+m.length
 | [],s=>aK _
 | k :: m,s=>by have b:=Qiu m (s:=Z8 ltI k s); have d:=Qqu (lt:=ltI) k s; simp only[aN,au]; omega
def Sm (N:Nat)(l:List DTx):Prop:=l.length≤N∧∀y∈l,y.2.1.length≤N
theorem Sm.put (g:Sm n l)(w:x.2.1.length≤1):Sm (n+1) (JE l x):=by
 obtain ⟨p,f⟩:=g
 suffices k:∀l:List DTx,(∀y∈l,y.2.1.length≤n)→(JE l x).length≤l.length+1∧∀y∈JE l x,y.2.1.length≤n+1 by
  obtain ⟨o,e⟩:=k l f
  exact ⟨by omega,e⟩
 intro l
 induction l with
 | nil=>exact fun _=>⟨aK _,fun y b=>by rw[JE,aD] at b; subst b; omega⟩
 | cons z l m=>
  intro d
  rw[JE]
  split
  ·refine ⟨by simp,fun y b=> ?_⟩
   rcases aC.1 b with rfl | b
   ·have q:=Qiu x.2.1 (s:=z.2.1)
    have r:=d z (ax ..)
    dsimp only; omega
   ·have:=d y (aw _ b); omega
  ·obtain ⟨o,e⟩:=m fun y b=>d y (aw _ b)
   refine ⟨by simp only[au]; omega,fun y b=> ?_⟩
   rcases aC.1 b with rfl | b
   ·have:=d y (ax ..); omega
   ·exact e y b
theorem Sm.ar (g:Sm n l):Sm (n+1) (arT c h x l a):=by
 unfold arT
 split
 ·exact g.put (aK _)
 ·exact ⟨dp g.1,fun y b=>dp (g.2 y b)⟩
theorem Sm.row:∀(as_:List DAr) {n:Nat} {l:List DTx},Sm n l→Sm (n+as_.length) (QrV c h as_ x l)
 | [],_,_,g=>g
 | a :: l,n,_,g=>by
  have:=Sm.row l (g.ar (c:=c) (h:=h) (x:=x) (a:=a))
  rw[show n+(a :: l).length=n+1+l.length by simp only[au]; omega]
  exact this
theorem Sm.le {m:Nat}(g:Sm n l)(h:n≤m):Sm m l:=⟨by have:=g.1; omega,fun y b=>by have:=g.2 y b; omega⟩
theorem Sm.zero:Sm 0 []:=⟨aK _,fun _ h=>by cases h⟩
def txP (c:DSg)(h:Int):Nat→List ByteArray
 | 0=>[]
 | n+1=>txL c h n
end
end Go.Proofs.YtndabgcpnmeeoaaGreat
namespace Go.Proofs.YtndabgcpnmeeoaaGreat
open Go.RowKit
set_option maxRecDepth 100000
set_option maxHeartbeats 4000000
section
variable {c:DSg}{h:Int}{n k i j:Nat}{S set:List Int}{a:DAr}{rs as_:List DAr}{out:List Int}{s t:ByteArray}{u v:Int}{K M A D E L L1 L2:DLv}{p q:ByteArray×List Int}
def clV (c:DSg)(h:Int)(S:List Int):List Int:=clL c.2.2 h 301 0 S
@[reducible] def Rng (c:DSg) (S:List Int):Prop:=S.Nodup∧∀u∈S,0≤u∧u < (c.2.1.length:Int)
def edT (ss:List Qz)(l:Int×Bool):ByteArray:=if l.1 < 0 then ⟨#[126]⟩ else ((ss[l.1.toNat]?).getD (ByteArray.empty,0)).1++sgB l.2
def afT (c:DSg)(S:List Int)(h:Int)(i:Nat):DLv:=(c.2.2.take i).foldl (afS c S h) []
end
end Go.Proofs.YtndabgcpnmeeoaaGreat
namespace Go.Proofs.YtndabgcpnmeeoaaGreat
open Go.RowKit
set_option maxRecDepth 100000
set_option maxHeartbeats 4000000
def Qpc (l:List ByteArray)(s:ByteArray):Bool:=l.any fun y=>decide (s=y)
section
variable {l:List ByteArray}{s y:ByteArray}{m:Int}
end
section
variable {c:DSg}[Decidable (SgOk c)]{h m mo:Int}{n:Nat}
end
section
variable {a b:ZK}[∀s,Decidable (StgOk s)][∀c,Decidable (SgOk c)]{m:Int}{k:Nat}{s:ByteArray}
def tiV (a b:ZK)[∀s,Decidable (StgOk s)][∀c,Decidable (SgOk c)](m:Int):Bool×Bool:=
 if (sgV a).2=true∧(sgV b).2=true∧(trV (sgV a).1 (-1) m).2=true∧(trV (sgV b).1 (-1) m).2=true then ((trV (sgV a).1 (-1) m).1.all fun s=>Qpc (trV (sgV b).1 (-1) m).1 s,true) else (false,false)
end
end Go.Proofs.YtndabgcpnmeeoaaGreat
namespace Go.Proofs.YtndabgcpnmeeoaaGreat
open Go.RowKit
set_option maxRecDepth 100000
set_option maxHeartbeats 4000000
section
variable {ss:List Qz}{l:Int×Bool}{g:Qz}
theorem Qxa (h:l.1 < 0):(⟨#[126]⟩:ByteArray)=edT ss l:=(if_pos h).symm
theorem Qxn (h:¬l.1 < 0)(a:ss[l.1.toNat]? =some g)(b:l.2=true):g.1++(⟨#[43]⟩:ByteArray)=edT ss l:=by unfold edT sgB; rw[if_neg h,a,if_pos b]; rfl
theorem QwH (h:¬l.1 < 0)(a:ss[l.1.toNat]? =some g)(b:l.2=false):g.1++(⟨#[45]⟩:ByteArray)=edT ss l:=by unfold edT sgB; rw[if_neg h,a,b]; rfl
end
theorem Qa0 (a:Qm9)(l:Int×Bool)(f:∀g∈a,g.1.size≤6)(p:l.1 < (a.length:Int)):FC Tryz.prog 90 [(false,[.dat Ql a]),(true,[dI l.1,dB l.2])] [] 0 (QX (lf (dS (edT a l)))):=by
 refine Qp Tryz.func90 rfl rfl Tryz.ntmps90 fun n d m h o j i=> ?_
 refine acG 1 0 fun _=> ?_
 refine w_ ?_
 refine xbx 0 ?_
 refine w10 ?_
 refine cd_ (fun _ _=> ?_) fun _ _=> ?_
 refine w5 ?_
 cases k:(l.2)
 refine w7 ?_
 obtain ⟨q,b⟩:=gx a ((l.1).toNat)
 have e:=f _ (ae b)
 refine w3 ?_
 refine lc (QA (Qa rfl) (Evl.str rfl) rfl (by (simp only[Zh]; omega))) ?_
 refine w2 ?_
 refine Qd<|fqS d ?_
 exact QwH ‹_› b ‹_›
 refine w5 ?_
 obtain ⟨r,c⟩:=gx a ((l.1).toNat)
 have e:=f _ (ae c)
 refine w3 ?_
 refine lc (QA (Qa rfl) (Evl.str rfl) rfl (by (simp only[Zh]; omega))) ?_
 refine w2 ?_
 refine Qd<|fqS d ?_
 exact Qxn ‹_› c ‹_›
 refine w3 ?_
 refine Qd<|fqS d ?_
 first | exact Qxa ‹_›
end Go.Proofs.YtndabgcpnmeeoaaGreat
namespace Go.Proofs.YtndabgcpnmeeoaaGreat
open Go.RowKit
set_option maxRecDepth 100000
set_option maxHeartbeats 4000000
def kyL (B:DLv):List ByteArray:=B.map fun p=>p.1
section
variable {c:DSg}[Decidable (SgOk c)]{h m:Int}{n k:Nat}{M B Z:DLv}{out:List ByteArray}{z:ByteArray×List Int}
end
section
variable {a b:ZK}[∀s,Decidable (StgOk s)][∀c,Decidable (SgOk c)]{m:Int}
end
end Go.Proofs.YtndabgcpnmeeoaaGreat
namespace Go.Proofs.YtndabgcpnmeeoaaGreat
open Go.RowKit
set_option maxRecDepth 100000
set_option maxHeartbeats 4000000
def Qxj (f:Hdr→List Int):Option (List Int)→List Hdr→List Hdr
 | _,[]=>[]
 | p,y :: l=>if p=some (f y) then Qxj f p l else y :: Qxj f (some (f y)) l
section
variable {f:Hdr→List Int}{vs zs:List Hdr}{m k:Nat}{x y:Hdr}{l:List (List Int)}{i j n:Int}
end
end Go.Proofs.YtndabgcpnmeeoaaGreat
namespace Go.Proofs.YtndabgcpnmeeoaaGreat
open Go.RowKit
set_option maxRecDepth 100000
set_option maxHeartbeats 4000000
theorem Qc2 {α:Type _}[DecidableEq α]{lt:α→α→Bool}(x:α):∀l:List α,(Z8 lt x l).length≤l.length+1
 | []=>aK _
 | y :: l=>by
  unfold Z8
  have:=Qc2 (lt:=lt) x l
  split
  ·simp only[au]; omega
  ·split <;> simp
def shV (n:Xy)(t u:Int):Bool:=((n.2[t.toNat]?).getD ([],[])).1.any fun z=>decide (z∈((n.2[u.toNat]?).getD ([],[])).1)
def Qx5 (n:Xy)(t:Int)(l:List Int):List (List Int):=(l.filter fun u=>decide (t < u)&& !shV n t u).map fun u=>[t,u]
def Qx2 (n:Xy)(t:Int)(l:List Int):List (List Int):=(l.filter fun u=> !shV n t u).map fun u=>[t,u]
def Qyn (n:Xy)(on l:List Int):List (List Int):=l.flatMap fun t=>Qx5 n t on
def QyG (n:Xy)(on:List Int)(k:Nat):List (List Int):=(List.range k).flatMap fun i=>Qx2 n ((on[i]?).getD 0) (on.drop (i+1))
def QyR (n:Xy)(ms:List ByteArray):List (List Int):=ms.flatMap fun mk=>Qyn n (Kg n mk) (Kg n mk)
section
variable {n:Xy}{k f i j:Nat}{mk:ByteArray}{t u:Int}{ts on l:List Int}{st:RS}{s:ZK}{xt xu:Q7}{ms:List ByteArray}{as_ bs:List (List Int)}
end
section
variable {vs vs2:List Hdr}{gf gf2 gj:Hdr→List Int}{l:List (List Int)}{m:Int}{x:List Int}
end
end Go.Proofs.YtndabgcpnmeeoaaGreat
namespace Go.Proofs.YtndabgcpnmeeoaaGreat
open Go.RowKit
set_option maxRecDepth 100000
set_option maxHeartbeats 4000000
theorem Qly {n:Nat}{a:List DAr}:∀{f k:Nat} {c d:List ByteArray},goS n a f k c=some d→d.length=c.length
 | 0,_,c,d,h=>by rw[goS] at h; cases h; rfl
 | f+1,k,c,d,h=>by
  rw[goS] at h
  split at h
  ·rw[Qly h,Qib]
  ·cases h
section
variable [∀s,Decidable (StgOk s)]{s:ZK}
theorem Qej (h:(sgV s).2=true):SgW (sgV s).1:=by
 unfold sgV at h ⊢
 split at h
 ·rename_i d
  rw[if_pos d]
  obtain ⟨i,k,m,_,e,r⟩:=Yj d.1
  split at h
  ·rename_i c n
   have g:=Qly n
   rw[aG] at g
   refine ⟨i.sigs.2.2,⟨by show 1≤c.length; omega,by show c.length≤300; omega⟩, ?_, ?_⟩
   ·show (QQ _ _).length≤_
    unfold QQ
    rw[aJ]; omega
   ·intro a f
    refine ⟨?_, ?_⟩
    ·show InR c.length a
     rw[g]; exact Vy e a f
    ·obtain ⟨v,o,rfl⟩:=ba.1 f
     obtain ⟨_,⟨p,q⟩,_⟩:=e v o
     obtain ⟨l,b⟩:∃l,s.2.2.1[v.2.1.toNat]? =some l:=⟨_,aj (by omega)⟩
     have j:=i.labs l (ae b)
     show UM (s.2.1.length:Int) ((QdK s.2.2.1 v.2.1).1,(QdK s.2.2.1 v.2.1).2)
     rw[Qgd b]; exact j
  ·cases h
 ·cases h
end
end Go.Proofs.YtndabgcpnmeeoaaGreat
namespace Go.Proofs.YtndabgcpnmeeoaaGreat
open Go.RowKit
@[reducible] def Ex {X:Type} (Q:X→Prop) (pv:X→PV) (T:X→Tab):PV→Tab→Prop:=fun p T'=>∃x,Q x∧p=pv x∧T'=T x
section
variable {A:Amb}{P:Program}{s:St}{f:FuncId}{xs:List Operand}{tys:Array TypeId}{args:List (Bool×List LV)}{d:Nat}{ty:TypeId}{pos:String}{af:Array Edge}{g:Option (Nat×Bool)}{T:Tab}{k:Nat}
  {X:Type} {Qx:X→Prop} {pv:X→PV} {T':X→Tab} {ops:Array Oper} {l:List Oper} {Q:Exit→St→Prop}
theorem DoesT.callX (n:Nat)(ρ:List (Nat×Nat))(O:FC P f args T k (Ex Qx pv T'))(L:Qg P f)(N:EvL A s xs (args.map fun c=>(c.1,c.2.map (LV.ren (rn ρ)))))(B:HasE s ρ T)
 (m:(Wc (T.map fun p=>rn ρ p.1)&&Nat.blt d A.n)=true) (hB:∀x,(YG (pv x) (T' x)&&Wc ((T' x).map fun p=>sg ρ k n p.1)&&Qhm T (T' x) k)=true) (hfr:∀x,FrK s n k (ZU (T' x))) (hk0:A.k0≤n):
 DoesT A P ⟨some d, .call ⟨.value (.func f),xs.toArray,tys⟩,ty,pos,af,g⟩ s (fun s'=>∃x,Qx x∧s'=s.backP d (sg ρ k n) (T.map fun p=>rn ρ p.1) (pv x) (T' x)):=fun a w K Q r M=>by
 obtain ⟨G,r⟩:=r
 rw[aQ] at m
 obtain ⟨m,S⟩:=m
 have b:∀q,T.al q→s.tab.al (rn ρ q):=fun q ⟨e,h⟩=>⟨_,B.get h⟩
 have o:∀q j,T.al q→T.al j→rn ρ q=rn ρ j→q=j:=fun q j u i h=>Ky m u i h
 have y:Cx T (G.via (rn ρ)) w:=⟨fun q e h=>(EntR.ren.1 (r.cx.en _ _ (B.get h))).mono (fun Y _ J=>⟨b Y J,rfl⟩) (fun g C=>⟨C,rfl⟩) rfl rfl fun _ _=>rfl,
  fun q j u i F=>r.cx.dj _ _ (b q u) (b j i) fun h=>F (o q j u i h),fun q h=>r.cx.nd _ (b q h),fun q h=>r.cx.no _ (b q h),r.cx.nl⟩
 have V:=(CmsR.ren.1 (N.cms r)).mono (al':=T.al) (gh':=G.via (rn ρ)) (w':=w) (fun q _ h=>⟨b q h,rfl⟩) fun g C=>⟨C,rfl⟩
 refine K1 L rfl (Calls.mono (O _ w _ y V) fun e Z R=> ?_)
 obtain ⟨v,W,T2,z,rfl,⟨x,t,rfl,rfl⟩,H,U,I,E⟩:=R
 have i:=hB x
 simp only[aQ] at i
 refine M _ _ _ ⟨x,t,rfl⟩ (QhK n ρ r B m i.1.1 i.1.2 (fun q ⟨e,t⟩ D=> ?_) (fun q ⟨e,t⟩ D=>(hfr x).get q (Zx t).1 D) hk0 S H U I E)
 have:=av.1 i.2 q (Zx t).1
 rw[show Nat.blt q k=true from cO D] at this
 exact bj.1 (by simpa using this)
theorem Q8 (n:Nat)(ρ:List (Nat×Nat))(j:FC P f args T k (Ex Qx pv T'))(a:Qg P f)(i:EvL A s xs (args.map fun c=>(c.1,c.2.map (LV.ren (rn ρ)))))(b:HasE s ρ T)
 (hi:(Wc (T.map fun p=>rn ρ p.1)&&Nat.blt d A.n)=true) (hB:∀x,(YG (pv x) (T' x)&&Wc ((T' x).map fun p=>sg ρ k n p.1)&&Qhm T (T' x) k)=true) (hfr:∀x,FrK s n k (ZU (T' x))) (hk0:A.k0≤n)
 (h:∀x,Qx x→AL A P ops l Q (s.backP d (sg ρ k n) (T.map fun p=>rn ρ p.1) (pv x) (T' x))):AL A P ops (⟨some d, .call ⟨.value (.func f),xs.toArray,tys⟩,ty,pos,af,none⟩ :: l) Q s:=
 QpQ rfl (DoesT.callX n ρ j a i b hi hB hfr hk0) fun o ⟨x,m,e⟩=>e▸h x m
theorem QP {fn:Func}{s:St}(x:X)(ρ:List (Nat×Nat)){a:PV}(i:Qx x)(b:Res A P fn s a)(h0:a=(pv x).ren (rn ρ))(c:HasE ⟨[],s.tab⟩ ρ (T' x))(e:Wc ((T' x).map fun x=>rn ρ x.1)=true)(h:idB ρ k=true):fin A P fn (Hx (Ex Qx pv T') k) .ret s:=
 Qct (pv x) (T' x) ρ (h0▸b) c e h ⟨x,i,rfl,rfl⟩
end
section
variable {A:Amb}{P:Program}{s:St}{f:FuncId}{xs:List Operand}{tys:Array TypeId}{args:List (Bool×List LV)}{d:Nat}{ty T:TypeId}{pos:String}{af:Array Edge}{g:Option (Nat×Bool)}
  {X:Type} {Qx:X→Prop} {pv:X→PV} {ops:Array Oper} {l:List Oper} {Q:Exit→St→Prop} {x:Operand}
theorem Qxv {E:TypeId}{e:Ty}{zs:List e.Den}(h:FC P f args [] 0 (QX (lf (.dat (.sl E e) zs)))):FC P f args [] 0 (Ex (fun v:Value=>∃B c,v= .slice B zs.length c∧zs.length≤maxLen) (fun v=>lf (.val v)) (fun _=>[])):=fun n w D j r=>
 Calls.mono (h n w D j r) fun G F t=>by
  obtain ⟨v,C,T',a,rfl,⟨rfl,rfl⟩,b,z,m,y⟩:=t
  obtain ⟨u,i,o⟩:=z
  simp only[aH,and_true] at i
  subst i
  have p:Rd a.N (.sl E e) F [v] zs:=o
  obtain ⟨B,c,q,H,I⟩:=p.rep.slv
  exact ⟨v,_,[],a,rfl,⟨v,⟨B,c,q,by omega⟩,rfl,rfl⟩,b,⟨_,rfl,rfl⟩,m,y⟩
end
end Go.Proofs.YtndabgcpnmeeoaaGreat
namespace Go.Proofs.YtndabgcpnmeeoaaGreat
open Go.RowKit
set_option maxRecDepth 100000
set_option maxHeartbeats 4000000
def spS (s:ByteArray)(b:UInt8):Nat→List ByteArray×Int
 | 0=>([],0)
 | i+1=>if s[i]? =some b then ((spS s b i).1++[s.extract (spS s b i).2.toNat i],(i:Int)+1) else spS s b i
def ZQ (s:ByteArray)(b:UInt8):List ByteArray:=(spS s b s.size).1++[s.extract (spS s b s.size).2.toNat s.size]
section
variable {s:ByteArray}{b c:UInt8}{i:Nat}
theorem QrG (h:s[i]? =some c)(e:c=b):((spS s b i).1++[s.extract (spS s b i).2.toNat i],(i:Int)+1)=spS s b (i+1):=by rw[spS,if_pos (by rw[h,e])]
theorem QtV (h:s[i]? =some c)(e:¬c=b):spS s b i=spS s b (i+1):=by rw[spS,if_neg (by rw[h]; simpa using e)]
theorem Qmk:0≤(spS s b i).2∧(spS s b i).2≤(i:Int)∧(spS s b i).1.length≤i:=by
 induction i with
 | zero=>exact ⟨cK _,cK _,aK _⟩
 | succ i d=>
  rw[spS]
  split
  ·refine ⟨by show (0:Int)≤(i:Int)+1; omega,by show ((i:Int)+1)≤((i+1:Nat):Int); omega, ?_⟩
   rw[ai,au,aO]; omega
  ·obtain ⟨a,e,f⟩:=d; exact ⟨a,by omega,by omega⟩
theorem Qnp:(ZQ s b).length≤s.size+1:=by
 unfold ZQ
 have:=Qmk (s:=s) (b:=b) (i:=s.size)
 rw[ai,au,aO]; omega
end
abbrev DTr:=List Int×List Int
abbrev DB:=ZK×List ByteArray×List ByteArray
def b0 (t:ByteArray):UInt8:=(t[0]?).getD 0
def bZ (t:ByteArray):UInt8:=(t[t.size - 1]?).getD 0
def JI (l:List ByteArray)(x:ByteArray):Bool:=l.any fun y=>decide (y=x)
def atB (l:List ByteArray)(x:ByteArray):Int:=if JI l x=true then ZO (fun y=>decide (y=x)) l else (l.length:Int)
def plV (b:DB)(name:ByteArray):DB:=if JI b.2.1 name=true then b else (((b.1.1.1+1,b.1.1.2),b.1.2.1,b.1.2.2.1,b.1.2.2.2++(⟨#[48]⟩:ByteArray)),b.2.1++[name],b.2.2)
def plI (b:DB)(name:ByteArray):Int:=atB b.2.1 name
def HT (word:ByteArray):ByteArray:=((ZQ word 47)[0]?).getD ByteArray.empty
def QkI (G:List Qz)(word:ByteArray):Z3:=if b0 (HT word)=126 then (-1,false) else (ZO (fun g=>decide (g.1=(HT word).extract 0 ((HT word).size - 1))) G,decide (bZ (HT word)=43))
def ZF (b:DB)(word:ByteArray):DB:=if JI b.2.2 word=true then b else (((b.1.1.1,b.1.1.2++[([],[])]),b.1.2.1,b.1.2.2.1++[QkI b.1.2.1 word],b.1.2.2.2),b.2.1,b.2.2++[word])
def trI (b:DB)(word:ByteArray):Int:=atB b.2.2 word
def JJ (text:ByteArray):ByteArray:=if b0 text=42 then text.extract 1 text.size else text
def Xz (text:ByteArray)(k:Nat):ByteArray:=((ZQ (JJ text) 62)[k]?).getD ByteArray.empty
def Qaj (text:ByteArray):ByteArray:=if b0 (Xz text 1)=95 then Xz text 1 else if b0 (Xz text 0)=95 then Xz text 0 else JJ text
def Qey (T:List DTr)(t p:Int):List DTr:=T.modify t.toNat fun x=>(x.1,Z8 ltI p x.2)
def QdA (T:List DTr)(t p:Int):List DTr:=T.modify t.toNat fun x=>(Z8 ltI p x.1,x.2)
def ar1 (p:Int)(b:DB)(text:ByteArray):DB:=if b0 (Xz text 0)=95 then b else
 let c:=ZF b (Xz text 0); (((c.1.1.1,Qey c.1.1.2 (trI b (Xz text 0)) p),c.1.2.1,c.1.2.2.1,c.1.2.2.2),c.2.1,c.2.2)
def ar2 (p:Int)(b:DB)(text:ByteArray):DB:=if b0 (Xz text 1)=95 then b else
 let c:=ZF b (Xz text 1); (((c.1.1.1,QdA c.1.1.2 (trI b (Xz text 1)) p),c.1.2.1,c.1.2.2.1,c.1.2.2.2),c.2.1,c.2.2)
def QoW (s:ByteArray)(p:Int):ByteArray:=s.extract 0 p.toNat++(⟨#[49]⟩:ByteArray)++s.extract (p+1).toNat s.size
def arV (b:DB)(text:ByteArray):DB:=
 let p:=plI b (Qaj text)
 let c:=ar2 p (ar1 p (plV b (Qaj text)) text) text
 if b0 text=42 then ((c.1.1,c.1.2.1,c.1.2.2.1,QoW c.1.2.2.2 p),c.2.1,c.2.2) else c
def sgN (names:ByteArray)(kd:Int)(i:Nat):List Qz:=(List.range i).map fun j=>(names.extract j (j+1),kd)
def sgA:List ByteArray→Int→List Qz
 | [],_=>[]
 | n :: l,k=>sgN n k n.size++sgA l (k+1)
def buG (ins outs inner:ByteArray):List Qz:=sgA [ins,outs,inner] 1
def buB (G:List Qz)(arcs:ByteArray):DB:=(ZQ arcs 32).foldl arV (((0,[]),G,[],ByteArray.empty),[],[])
def Qs (ins outs inner arcs:ByteArray):ZK:=(buB (buG ins outs inner) arcs).1
def okW (w:ByteArray):Bool:=decide (1≤w.size)&&(decide (b0 w=95)||decide (1≤(HT w).size))
def okA (t:ByteArray):Bool:=decide (1≤t.size)&&(decide (2≤(ZQ (JJ t) 62).length)&&(okW (Xz t 0)&&okW (Xz t 1)))
section
variable {l:List ByteArray}{x name word text:ByteArray}{b c:DB}{G:List Qz}{n k:Nat}
theorem Qs2 {α:Type _}{f:α→Bool}{l:List α}(h:l.any f=true):0≤ZO f l∧ZO f l < (l.length:Int):=by
 have a:=Uw f l
 rw[h,aT] at a
 refine ⟨a, ?_⟩
 unfold ZO at*
 cases d:l.findIdx? f with
 | none=>rw[d] at a; simp at a
 | some i=>
  have:=(cC.1 d).1
  simpa using this
theorem Qqw (h:JI l x=true):0≤atB l x∧atB l x < (l.length:Int):=by
 unfold atB; rw[if_pos h]; exact Qs2 h
theorem Qah (h:JI l x=false):atB l x=(l.length:Int):=if_neg (by rw[h]; decide)
theorem QoH (f:NoneTo (fun y=>decide (y=x)) l k){y:ByteArray}(a:l[k]? =some y)(e:y=x):(k:Int)=atB l x:=by
 unfold atB
 have d:JI l x=true:=QqC a (aE e)
 rw[if_pos d,f.at a (aE e)]
theorem Xa {y:ByteArray}(a:l[k]? =some y)(e:y=x):JI l x=true:=QqC a (aE e)
theorem Yg (d:NoneTo (fun y=>decide (y=x)) l k)(a:l.length≤k):JI l x=false:=d.any_no a
theorem UV (h:JI b.2.1 name=true):plV b name=b:=if_pos h
theorem W0 (h:JI b.2.1 name=false):plV b name=(((b.1.1.1+1,b.1.1.2),b.1.2.1,b.1.2.2.1,b.1.2.2.2++(⟨#[48]⟩:ByteArray)),b.2.1++[name],b.2.2):=if_neg (by rw[h]; decide)
theorem W4 (h:JI b.2.2 word=true):ZF b word=b:=if_pos h
theorem Yf (h:JI b.2.2 word=false):ZF b word=(((b.1.1.1,b.1.1.2++[([],[])]),b.1.2.1,b.1.2.2.1++[QkI b.1.2.1 word],b.1.2.2.2),b.2.1,b.2.2++[word]):=if_neg (by rw[h]; decide)
structure DBJ (b:DB) (p w m:Nat):Prop where
  st:b.1.2.2.2.size=b.2.1.length
  tr:b.1.1.2.length=b.2.2.length
  la:b.1.2.2.1.length=b.2.2.length
  p0:b.1.1.1=(b.2.1.length:Int)
  pl:b.2.1.length≤p
  ws:b.2.2.length≤w
  inn:∀t∈b.1.1.2,t.1.length≤m∧t.2.length≤m
theorem Ql0:0≤plI b name∧plI b name < ((plV b name).2.1.length:Int):=by
 unfold plI
 cases h:JI b.2.1 name with
 | true=>rw[UV h]; exact Qqw h
 | false=>rw[W0 h,Qah h,ai]; simp only[au,aO]; omega
theorem Ql6:0≤trI b word∧trI b word < ((ZF b word).2.2.length:Int):=by
 unfold trI
 cases h:JI b.2.2 word with
 | true=>rw[W4 h]; exact Qqw h
 | false=>rw[Yf h,Qah h,ai]; simp only[au,aO]; omega
theorem QfN:(ZF b word).1.1.1=b.1.1.1∧(ZF b word).1.2.1=b.1.2.1∧(ZF b word).1.2.2.2=b.1.2.2.2∧(ZF b word).2.1=b.2.1:=by unfold ZF; split <;> exact ⟨rfl,rfl,rfl,rfl⟩
theorem DBJ.pl_ {p w m:Nat}(h:DBJ b p w m):DBJ (plV b name) (p+1) w m:=by
 cases a:JI b.2.1 name with
 | true=>rw[UV a]; exact ⟨h.st,h.tr,h.la,h.p0,dp h.pl,h.ws,h.inn⟩
 | false=>
  rw[W0 a]
  have d:(⟨#[48]⟩:ByteArray).size=1:=rfl
  refine ⟨?_,h.tr,h.la, ?_, ?_,h.ws,h.inn⟩
  ·show (b.1.2.2.2++(⟨#[48]⟩:ByteArray)).size=(b.2.1++[name]).length
   rw[aA,ai,h.st,d]; rfl
  ·show b.1.1.1+1=((b.2.1++[name]).length:Int)
   rw[ai,h.p0]; simp
  ·show (b.2.1++[name]).length≤p+1
   rw[ai]; have:=h.pl; simp only[au,aO]; omega
theorem DBJ.tr_ {p w m:Nat}(h:DBJ b p w m):DBJ (ZF b word) p (w+1) m:=by
 cases d:JI b.2.2 word with
 | true=>rw[W4 d]; exact ⟨h.st,h.tr,h.la,h.p0,h.pl,dp h.ws,h.inn⟩
 | false=>
  rw[Yf d]
  refine ⟨h.st, ?_, ?_,h.p0,h.pl, ?_, ?_⟩
  ·show (b.1.1.2++[([],[])]).length=(b.2.2++[word]).length
   rw[ai,ai,h.tr]; rfl
  ·show (b.1.2.2.1++[QkI b.1.2.1 word]).length=(b.2.2++[word]).length
   rw[ai,ai,h.la]; rfl
  ·show (b.2.2++[word]).length≤w+1
   rw[ai]; have:=h.ws; simp only[au,aO]; omega
  ·intro t a
   rcases aM.1 a with a | a
   ·exact h.inn t a
   ·rw[aD.1 a]; exact ⟨aP _,aP _⟩
theorem QlX {T:List DTr}{m i:Nat}{f:DTr→DTr}(h:∀t∈T,t.1.length≤m∧t.2.length≤m)(e:∀t,(f t).1.length≤t.1.length+1∧(f t).2.length≤t.2.length+1):∀t∈T.modify i f,t.1.length≤m+1∧t.2.length≤m+1:=fun t g=>by
 obtain ⟨j,a⟩:=aL.1 g
 rw[cU] at a
 cases d:T[j]? with
 | none=>rw[d] at a; cases a
 | some u=>
  rw[d] at a
  have p:=h u (ae d)
  have o:=e u
  have a:some (if i=j then f u else u)=some t:=a
  cases a
  split <;> omega
theorem DBJ.st_ {p w m:Nat}{q:Int}(h:DBJ b p w m)(e:0≤q∧q < (b.2.1.length:Int)):DBJ ((b.1.1,b.1.2.1,b.1.2.2.1,QoW b.1.2.2.2 q),b.2.1,b.2.2) p w m:=by
 refine ⟨?_,h.tr,h.la,h.p0,h.pl,h.ws,h.inn⟩
 have a:(⟨#[49]⟩:ByteArray).size=1:=rfl
 have d:=h.st
 show (QoW b.1.2.2.2 q).size=b.2.1.length
 unfold QoW
 simp only[aA,aZ,a]
 omega
theorem DBJ.more {p w m f w' e:Nat}(h:DBJ b p w m)(g:p≤f)(j:w≤w')(a:m≤e):DBJ b f w' e:=⟨h.st,h.tr,h.la,h.p0,bu h.pl g,bu h.ws j,fun t d=>⟨bu (h.inn t d).1 a,bu (h.inn t d).2 a⟩⟩
theorem DBJ.ar1_ {p w m:Nat}{q:Int}(h:DBJ b p w m):DBJ (ar1 q b text) p (w+1) (m+1):=by
 unfold ar1
 split
 ·exact h.more (aK _) (by omega) (by omega)
 ·have k:=h.tr_ (word:=Xz text 0)
  exact ⟨k.st,(List.length_modify ..).trans k.tr,k.la,k.p0,k.pl,k.ws,QlX k.inn fun t=>⟨Nat.le_succ _,Qc2 _ _⟩⟩
theorem DBJ.ar2_ {p w m:Nat}{q:Int}(h:DBJ b p w m):DBJ (ar2 q b text) p (w+1) (m+1):=by
 unfold ar2
 split
 ·exact h.more (aK _) (by omega) (by omega)
 ·have k:=h.tr_ (word:=Xz text 1)
  exact ⟨k.st,(List.length_modify ..).trans k.tr,k.la,k.p0,k.pl,k.ws,QlX k.inn fun t=>⟨Qc2 _ _,Nat.le_succ _⟩⟩
theorem Qqy {q:Int}:(ar1 q b text).2.1=b.2.1:=by unfold ar1; split; exact rfl; exact QfN.2.2.2
theorem QoA {q:Int}:(ar2 q b text).2.1=b.2.1:=by unfold ar2; split; exact rfl; exact QfN.2.2.2
theorem DBJ.ar_ {p w m:Nat}(h:DBJ b p w m):DBJ (arV b text) (p+1) (w+2) (m+2):=by
 have d:=h.pl_ (name:=Qaj text)
 have e:=d.ar1_ (q:=plI b (Qaj text)) (text:=text)
 have a:=e.ar2_ (q:=plI b (Qaj text)) (text:=text)
 unfold arV
 dsimp only
 split
 ·exact a.st_ (by rw[QoA,Qqy]; exact Ql0)
 ·exact a
theorem DBJ.zero (G:List Qz):DBJ (((0,[]),G,[],ByteArray.empty),[],[]) 0 0 0:=⟨rfl,rfl,rfl,rfl,aK _,aK _,fun t h=>by cases h⟩
end
end Go.Proofs.YtndabgcpnmeeoaaGreat
