import Derived.Test.YtjfpbcmfbnnooaaGreatPEa
set_option linter.all false
namespace Go.Proofs.YtjfpbcmfbnnooaaGreat
open Go.RowKit Tryz
set_option maxRecDepth 100000
set_option maxHeartbeats 4000000
inductive Tr (c:DSg) (h:Int):Nat→BA→Int→Prop
  | zero:Tr c h 0 ByteArray.empty 0
  | still {n:Nat} {t:BA} {a:DAr}:Tr c h n t a.1→a∈c.2.2→inv h a=true→Tr c h n t a.2.2.2
  | word {n:Nat} {t:BA} {a:DAr}:Tr c h n t a.1→a∈c.2.2→inv h a=false→Tr c h (n+1) (t++wdA c a) a.2.2.2
@[reducible] def DTx:=BA×List Int×Int
@[reducible] def DLv:=List (BA×List Int)
def Vs (c:DSg)(h:Int)(L:DLv)(s:BA)(v:Int):Prop:=∃q∈L,∃a∈c.2.2,inv h a=false∧a.1∈q.2∧s=q.1++wdA c a∧v=a.2.2.2
structure Lev (c:DSg) (h:Int) (n:Nat) (K:DLv):Prop where
  nod:K.Pairwise fun p q=>p.1≠q.1
  mem:∀p∈K,(∃u,u∈p.2)∧∀u,u∈p.2↔Tr c h n p.1 u
  all:∀t u,Tr c h n t u→∃p∈K,p.1=t
section
variable {c:DSg}{h:Int}{n m:Nat}{s t:BA}{u v:Int}{K L M:DLv}{a:DAr}
def Tr.ch {P:Int→Prop}(f:∀u,P u→Tr c h n t u)(k:Ch c.2.2 h P u):Tr c h n t u:=by
 induction k with
 | base b=>exact f _ b
 | step _ d e g=>exact .still g d e
def Qe3:Tr c h 0 t u↔t=ByteArray.empty∧Ch c.2.2 h (fun v=>v=0) u:=by
 constructor
 ·intro k
  generalize e:0=n at k
  induction k with
  | zero=>exact ⟨rfl,.base rfl⟩
  | still _ d f b=>exact ⟨(b e).1,.step (b e).2 d f⟩
  | word=>cases e
 ·rintro ⟨rfl,k⟩
  exact Tr.ch (fun u g=>by subst g;exact .zero) k
def QyO:Tr c h (n+1) s u↔Ch c.2.2 h (fun v=>∃t,∃a∈c.2.2,inv h a=false∧Tr c h n t a.1∧s=t++wdA c a∧v=a.2.2.2) u:=by
 constructor
 ·intro k
  generalize e:n+1=m at k
  induction k with
  | zero=>cases e
  | still _ b d j=>exact .step (j e) b d
  | word f b d=>
   cases e
   exact .base ⟨_,_,b,d,f,rfl,rfl⟩
 ·exact Tr.ch fun u ⟨t,a,f,b,d,g,i⟩=>by subst g;subst i;exact .word d f b
def Lev.vs (g:Lev c h n L):Vs c h L s v↔∃t,∃a∈c.2.2,inv h a=false∧Tr c h n t a.1∧s=t++wdA c a∧v=a.2.2.2:=by
 constructor
 ·rintro ⟨q,d,a,e,f,b,i,j⟩
  exact ⟨q.1,a,e,f,((g.mem q d).2 _).1 b,i,j⟩
 ·rintro ⟨t,a,e,f,b,i,j⟩
  obtain ⟨q,d,rfl⟩:=g.all t _ b
  exact ⟨q,d,a,e,f,((g.mem q d).2 _).2 b,i,j⟩
def Lev.next (g:Lev c h n L)(l:M.Pairwise fun p q=>p.1≠q.1)(f:∀p∈M,(∃v,Vs c h L p.1 v)∧∀u,u∈p.2↔Ch c.2.2 h (fun v=>Vs c h L p.1 v) u)(k:∀s v,Vs c h L s v→∃p∈M,p.1=s):Lev c h (n+1) M:=by
 have e:∀s u,Ch c.2.2 h (fun v=>Vs c h L s v) u↔Tr c h (n+1) s u:=fun s u=>(Ch.congr fun _=>g.vs).trans QyO.symm
 refine ⟨l,fun p i=>⟨?_,fun u=>((f p i).2 u).trans (e _ _)⟩,fun t u o=> ?_⟩
 ·obtain ⟨v,j⟩:=(f p i).1
  exact ⟨v,((f p i).2 v).2 (.base j)⟩
 ·have b:=(e t u).2 o
  have d:∃v,Vs c h L t v:=by
   induction b with
   | base d=>exact ⟨_,d⟩
   | step b _ _ r=>exact r ((e _ _).1 b)
  obtain ⟨v,j⟩:=d
  exact k t v j
def QaM:List DTx→DTx→List DTx
 | [],x=>[x]
 | y::l,x=>if y.1=x.1∧y.2.2=x.2.2 then (y.1,x.2.1.foldl (fun s k=>Zc ltI k s) y.2.1,y.2.2)::l else y::QaM l x
def arT (c:DSg)(h:Int)(x:DTx)(out:List DTx)(a:DAr):List DTx:=if inv h a=false∧a.1∈x.2.1 then QaM out (x.1++wdA c a,[a.2.2.2],x.2.2+1) else out
def Qyt (c:DSg)(h:Int)(as_:List DAr)(x:DTx)(out:List DTx):List DTx:=as_.foldl (arT c h x) out
def Qw8 (c:DSg)(h:Int)(L:List DTx)(out:List DTx):List DTx:=L.foldl (fun out x=>Qyt c h c.2.2 x out) out
def QAb (c:DSg)(h:Int)(y:DTx):DTx:=(y.1,stl c h y.2.1,y.2.2)
def QDN (c:DSg)(h:Int)(L:List DTx):List DTx:=(Qw8 c h L []).map (QAb c h)
def QbE (c:DSg)(h:Int):Nat→List DTx
 | 0=>[(ByteArray.empty,stl c h [0],0)]
 | n+1=>QDN c h (QbE c h n)
def unT (L:List DTx):DLv:=L.map fun x=>(x.1,x.2.1)
structure OT (m:Int) (V:BA→Int→Prop) (out:List DTx):Prop where
  many:∀y∈out,y.2.2=m
  nod:out.Pairwise fun p q=>p.1≠q.1
  srt:∀y∈out,Srt y.2.1
  mem:∀y∈out,∀v,v∈y.2.1↔V y.1 v
  wit:∀y∈out,∃v,V y.1 v
  all:∀s v,V s v→∃y∈out,y.1=s
def OT.congr {i:Int}{V W:BA→Int→Prop}{out:List DTx}(g:OT i V out)(e:∀s v,V s v↔W s v):OT i W out:=
 ⟨g.many,g.nod,g.srt,fun y d v=>(g.mem y d v).trans (e _ _),fun y d=>(g.wit y d).imp fun v b=>(e _ _).1 b,fun s v b=>g.all s v ((e _ _).2 b)⟩
def Qlh {i:Int}:∀{out:List DTx} {y:DTx},(∀y∈out,y.2.2=i)→(out.Pairwise fun p q=>p.1≠q.1)→(y∈QaM out (s,[v],i)↔(y∈out∧y.1≠s)∨(∃z∈out,z.1=s∧y=(z.1,Zc ltI v z.2.1,z.2.2))∨((∀z∈out,z.1≠s)∧y=(s,[v],i)))
 | [],y,_,_=>by simp[QaM]
 | z::l,y,hm,hn=>by
  obtain ⟨r,w⟩:=bK.1 hn
  have o:=hm z (aA ..)
  rw[QaM]
  by_cases e:z.1=s
  ·rw[if_pos ⟨e,o⟩]
   have A:∀x∈l,x.1≠s:=fun x d g=>r x d (e.trans g.symm)
   simp only[bn,db,aK]
   constructor
   ·rintro (rfl|j)
    ·exact .inr (.inl ⟨z,.inl rfl,e,rfl⟩)
    ·exact .inl ⟨.inr j,A y j⟩
   ·rintro (⟨rfl|j,b⟩|⟨x,rfl|d,b,rfl⟩|⟨f,_⟩)
    ·exact absurd e b
    ·exact .inr j
    ·exact .inl rfl
    ·exact absurd b (A x d)
    ·exact absurd e (f z (.inl rfl))
  ·rw[if_neg (fun g=>e g.1)]
   have B:=Qlh (out:=l) (y:=y) (fun x d=>hm x (az _ d)) w
   rw[aK,B]
   simp only[aK]
   constructor
   ·rintro (rfl|⟨f,b⟩|⟨x,d,b,k⟩|⟨f,b⟩)
    ·exact .inl ⟨.inl rfl,e⟩
    ·exact .inl ⟨.inr f,b⟩
    ·exact .inr (.inl ⟨x,.inr d,b,k⟩)
    ·exact .inr (.inr ⟨fun x d=>by rcases d with rfl|d;exact e;exact f x d,b⟩)
   ·rintro (⟨rfl|f,b⟩|⟨x,rfl|d,b,k⟩|⟨f,b⟩)
    ·exact .inl rfl
    ·exact .inr (.inl ⟨f,b⟩)
    ·exact absurd b e
    ·exact .inr (.inr (.inl ⟨x,d,b,k⟩))
    ·exact .inr (.inr (.inr ⟨fun x d=>f x (.inr d),b⟩))
def Qlg {i:Int}{x:DTx}:∀{out:List DTx},∀y∈QaM out x,y.1=x.1∨∃z∈out,z.1=y.1
 | [],y,hy=>by rw[QaM,aI] at hy;subst hy;exact .inl rfl
 | z::l,y,hy=>by
  rw[QaM] at hy
  split at hy
  ·rcases aK.1 hy with rfl|hy
   ·exact .inr ⟨z,aA ..,rfl⟩
   ·exact .inr ⟨y,az _ hy,rfl⟩
  ·rcases aK.1 hy with rfl|hy
   ·exact .inr ⟨y,aA ..,rfl⟩
   ·rcases Qlg (i:=i) y hy with b|⟨w,d,b⟩
    ·exact .inl b
    ·exact .inr ⟨w,az _ d,b⟩
def Qli {i:Int}{x:DTx}(e:x.2.2=i):∀{out:List DTx},(∀y∈out,y.2.2=i)→(out.Pairwise fun p q=>p.1≠q.1)→(QaM out x).Pairwise fun p q=>p.1≠q.1
 | [],_,_=>cX ..
 | z::l,hm,hn=>by
  obtain ⟨b,d⟩:=bK.1 hn
  have j:=hm z (aA ..)
  rw[QaM]
  split
  ·exact bK.2 ⟨fun y k=>b y k,d⟩
  ·rename_i o
   refine bK.2 ⟨fun y k=> ?_,Qli e (fun x e=>hm x (az _ e)) d⟩
   rcases Qlg (i:=i) y k with f|⟨w,r,f⟩
   ·exact fun g=>o ⟨g.trans f,j.trans e.symm⟩
   ·rw[← f];exact b w r
def OT.step {i:Int}{V:BA→Int→Prop}{out:List DTx}(g:OT i V out):OT i (fun s' f=>V s' f∨(s'=s∧f=v)) (QaM out (s,[v],i)):=by
 have l:=fun y=>Qlh (s:=s) (v:=v) (y:=y) g.many g.nod
 have p:∀z∈out,z.1=s→∀f,f∈Zc ltI v z.2.1↔V s f∨f=v:=fun z b e f=>by
  rw[Z2,g.mem z b f,e];exact Or.comm
 refine ⟨fun y o=> ?_,Qli rfl g.many g.nod,fun y o=> ?_,fun y o f=> ?_,fun y o=> ?_,fun s' f q=> ?_⟩
 ·rcases (l y).1 o with j|⟨z,b,d,rfl⟩|⟨_,rfl⟩
  ·exact g.many y j.1
  ·exact g.many z b
  ·rfl
 ·rcases (l y).1 o with j|⟨z,b,d,rfl⟩|⟨_,rfl⟩
  ·exact g.srt y j.1
  ·exact KQ Xt (g.srt z b)
  ·exact cX ..
 ·rcases (l y).1 o with j|⟨z,b,d,rfl⟩|⟨j,rfl⟩
  ·rw[g.mem y j.1];exact ⟨.inl,fun k=>k.resolve_right fun e=>j.2 e.1⟩
  ·show f∈Zc ltI v z.2.1↔_
   rw[p z b d,d]
   exact ⟨fun k=>k.imp id fun e=>⟨rfl,e⟩,fun k=>k.imp id fun e=>e.2⟩
  ·show f∈[v]↔_
   rw[aI]
   refine ⟨fun e=> .inr ⟨rfl,e⟩,fun k=>k.elim (fun k=> ?_) fun k=>k.2⟩
   obtain ⟨z,b,e⟩:=g.all _ _ k
   exact absurd e (j z b)
 ·rcases (l y).1 o with j|⟨z,b,d,rfl⟩|⟨_,rfl⟩
  ·exact (g.wit y j.1).imp fun _=> .inl
  ·exact ⟨v,.inr ⟨d,rfl⟩⟩
  ·exact ⟨v,.inr ⟨rfl,rfl⟩⟩
 ·by_cases e:s'=s
  ·subst e
   by_cases k:∃z∈out,z.1=s'
   ·obtain ⟨z,b,d⟩:=k
    exact ⟨_,(l _).2 (.inr (.inl ⟨z,b,d,rfl⟩)),d⟩
   ·exact ⟨_,(l _).2 (.inr (.inr ⟨fun z b d=>k ⟨z,b,d⟩,rfl⟩)),rfl⟩
  ·obtain ⟨z,b,d⟩:=g.all s' f (q.resolve_right fun k=>e k.1)
   exact ⟨z,(l _).2 (.inl ⟨b,by rw[d];exact e⟩),d⟩
def QjA {i:Int}{x:DTx}(d:x.2.2+1=i):∀(as_:List DAr) {V:BA→Int→Prop} {out:List DTx},OT i V out→OT i (fun s v=>V s v∨∃a∈as_,inv h a=false∧a.1∈x.2.1∧s=x.1++wdA c a∧v=a.2.2.2) (Qyt c h as_ x out)
 | [],V,out,g=>g.congr fun s v=>by simp
 | a::l,V,out,g=>by
  show OT i _ (Qyt c h l x (arT c h x out a))
  unfold arT
  split
  ·rename_i b
   rw[d]
   refine (QjA d l g.step).congr fun s v=> ?_
   simp only[aK,exists_eq_or_imp,or_assoc]
   exact or_congr_right (or_congr_left ⟨fun k=>⟨b.1,b.2,k⟩,fun k=>k.2.2⟩)
  ·rename_i b
   refine (QjA d l g).congr fun s v=> ?_
   simp only[aK,exists_eq_or_imp]
   exact or_congr_right ⟨.inr,fun k=>k.resolve_left fun k=>b ⟨k.1,k.2.1⟩⟩
def QoV {i:Int}:∀(L:List DTx) {V:BA→Int→Prop} {out:List DTx},(∀x∈L,x.2.2+1=i)→OT i V out→OT i (fun s v=>V s v∨Vs c h (unT L) s v) (Qw8 c h L out)
 | [],V,out,_,g=>g.congr fun s v=>by simp[Vs,unT]
 | x::l,V,out,hm,g=>by
  refine (QoV l (fun y b=>hm y (az _ b)) (QjA (hm x (aA ..)) c.2.2 g)).congr fun s v=> ?_
  simp only[Vs,unT,bU,aK,exists_eq_or_imp,or_assoc]
def QtE {i:Int}{L:List DTx}(b:∀x∈L,x.2.2+1=i):OT i (Vs c h (unT L)) (Qw8 c h L []):=
 (QoV L b (V:=fun _ _=>False) ⟨by simp,co,by simp,by simp,by simp,by simp⟩).congr fun s v=>by simp
end
section
variable {c:DSg}{h:Int}{n m:Nat}{s t:BA}{u v:Int}{K L M A D l1 l2:DLv}{a:DAr}{S T_:List Int}{q p:BA×List Int}
def Qta (d:SgOk c)(b:a∈c.2.2):0≤a.2.2.2∧a.2.2.2<(c.2.1.length:Int):=by
 have:=d.arcs a b
 obtain ⟨_,e,_⟩:=this
 omega
def QvU (f:SgOk c)(b:Srt S)(e:∀u∈S,0≤u∧u<(c.2.1.length:Int)):∀u,u∈stl c h S↔Ch c.2.2 h (fun v=>v∈S) u:=QgW b (fun _ d=>Qta f d) e
def QEE (d:SgOk c)(k:Vs c h L s v):0≤v∧v<(c.2.1.length:Int):=by
 obtain ⟨_,_,a,b,_,_,_,rfl⟩:=k
 exact Qta d b
def QjW {L:List DTx}{p:BA×List Int}(k:p∈unT L):∃x∈L,p=(x.1,x.2.1):=by
 obtain ⟨x,b,e⟩:=aW.1 k
 exact ⟨x,b,e.symm⟩
def Qps (f:SgOk c):∀n,(Lev c h n (unT (QbE c h n))∧(∀x∈QbE c h n,x.2.2=(n:Int)))∧∀x∈QbE c h n,Srt x.2.1:=fun n=>by
 have F:=f.some_
 induction n with
 | zero=>
  have z:∀u,u∈stl c h [0]↔Ch c.2.2 h (fun v=>v=0) u:=fun u=>(QvU f (cX ..) (fun u r=>by rw[aI] at r;omega) u).trans (Ch.congr fun v=>aI)
  refine ⟨⟨⟨cX ..,fun p l=> ?_,fun t u r=>⟨_,aI.2 rfl,(Qe3.1 r).1.symm⟩⟩,fun x b=>by rw[QbE,aI] at b;subst b;rfl⟩,fun x b=>by rw[QbE,aI] at b;subst b;exact Jy (cX ..)⟩
  obtain ⟨x,b,rfl⟩:=QjW l
  rw[QbE,aI] at b
  subst b
  exact ⟨⟨0,(z 0).2 (.base rfl)⟩,fun u=>(z u).trans ⟨fun k=>Qe3.2 ⟨rfl,k⟩,fun k=>(Qe3.1 k).2⟩⟩
 | succ n E=>
  obtain ⟨⟨g,B⟩,C⟩:=E
  have o:=QtE (c:=c) (h:=h) (i:=(n:Int)+1) (L:=QbE c h n) fun x b=>by rw[B x b]
  have j:∀y∈Qw8 c h (QbE c h n) [],∀u,u∈stl c h y.2.1↔Ch c.2.2 h (fun v=>Vs c h (unT (QbE c h n)) y.1 v) u:=fun y d u=>
   (QvU f (o.srt y d) (fun v w=>QEE f ((o.mem y d v).1 w)) u).trans (Ch.congr fun v=>o.mem y d v)
  refine ⟨⟨g.next ?_ (fun p l=> ?_) (fun s v w=> ?_),fun x b=> ?_⟩,fun x b=> ?_⟩
  ·unfold unT QbE QDN
   rw[dL,List.pairwise_map]
   exact o.nod
  ·obtain ⟨x,b,rfl⟩:=QjW l
   obtain ⟨y,d,rfl⟩:=aW.1 b
   exact ⟨o.wit y d,j y d⟩
  ·obtain ⟨y,d,e⟩:=o.all s v w
   exact ⟨_,aW.2 ⟨QAb c h y,aW.2 ⟨y,d,rfl⟩,rfl⟩,e⟩
  ·obtain ⟨y,d,rfl⟩:=aW.1 b
   rw[show (QAb c h y).2.2=y.2.2 from rfl,o.many y d];omega
  ·obtain ⟨y,d,rfl⟩:=aW.1 b
   exact Jy (o.srt y d)
def QrN (L:List DTx)(out:List BA):List BA:=L.foldl (fun o x=>Zc ltB x.1 o) out
def txL (c:DSg)(h:Int):Nat→List BA
 | 0=>QrN (QbE c h 0) []
 | n+1=>QrN (QbE c h (n+1)) (txL c h n)
theorem QgD:∀{L:List DTx} {out:List BA},t∈QrN L out↔t∈out∨∃x∈L,x.1=t
 | [],out=>by simp[QrN]
 | x::l,out=>by
  show t∈QrN l (Zc ltB x.1 out)↔_
  rw[QgD,Z2]
  grind
def QgE (b:TO ltB):∀{L:List DTx} {out:List BA},out.Pairwise (fun x y=>ltB x y=true)→(QrN L out).Pairwise (fun x y=>ltB x y=true)
 | [],_,k=>k
 | x::l,out,k=>QgE b (L:=l) (KQ b k)
def Qql (b:TO ltB):∀n,(txL c h n).Pairwise (fun x y=>ltB x y=true)
 | 0=>QgE b co
 | n+1=>QgE b (Qql b n)
def QuJ (g:Lev c h n (unT (QbE c h n))):(∃x∈QbE c h n,x.1=t)↔∃u,Tr c h n t u:=by
 constructor
 ·rintro ⟨x,d,rfl⟩
  have e:=g.mem _ (aW.2 ⟨x,d,rfl⟩)
  exact e.1.imp fun u b=>(e.2 u).1 b
 ·rintro ⟨u,b⟩
  obtain ⟨p,f,rfl⟩:=g.all t u b
  obtain ⟨x,d,rfl⟩:=QjW f
  exact ⟨x,d,rfl⟩
theorem QjV (b:SgOk c):∀n,t∈txL c h n↔∃m,m≤n∧∃u,Tr c h m t u
 | 0=>by
  rw[txL,QgD,QuJ (Qps b 0).1.1]
  grind
 | n+1=>by
  rw[txL,QgD,QuJ (Qps b (n+1)).1.1,QjV b n]
  grind
def QBU {l:List BA}(b:TO ltB)(k:l.Pairwise (fun x y=>ltB x y=true)):l.Nodup:=k.imp fun h e=>by subst e;exact absurd ((b.irr _).symm.trans h) (by decide)
@[reducible] def QFo (c:DSg) (h m:Int):Prop:=SgOk c∧(-1≤h∧h≤(c.1.length:Int) - 1)∧(0≤m∧m≤6)
def trV (c:DSg)[Decidable (SgOk c)](h m:Int):List BA×Bool:=if QFo c h m∧(txL c h m.toNat).length≤400 then (txL c h m.toNat,true) else ([],false)
def QDp:inv h a=false↔¬a.2.1= -1∧¬a.2.1=h:=by simp[inv]
def QEH (l:SgOk c)(y:a∈c.2.2)(hi:inv h a=false):∃N x,tl (wdA c a)=N++[x]∧QrA x=true∧∀b∈N,QrA b=false:=by
 have o:=(l.arcs a y).2.2.1
 have B:0≤a.2.1∧a.2.1≤(c.1.length:Int) - 1:=o.resolve_right fun k=>(QDp.1 hi).1 k.1
 obtain ⟨g,i⟩:∃g,c.1[a.2.1.toNat]? =some g:=⟨_,ak (by omega)⟩
 have r:=(l.sigs.1 a.2.1.toNat (by omega) g i).1
 refine ⟨tl g.1,if a.2.2.1=true then 43 else 45,?_,by split <;> rfl,fun b z=> ?_⟩
 ·unfold wdA sgB
  rw[Qv4,i]
  split <;> rfl
 ·obtain ⟨k,j⟩:=aG.1 z
  have f:k<g.1.size:=by have:=(ae.1 j).1;simpa [tl] using this
  have w:g.1[k]=b:=by
   have:=(ae.1 j).2
   simp only[tl,Array.getElem_toList] at this
   exact this
  have d:=r.1 k f
  rw[w] at d
  unfold QrA
  simp only[Bool.or_eq_false_iff,beq_eq_false_iff_ne,ne_eq]
  unfold Yz at d
  refine ⟨fun e=> ?_,fun e=> ?_⟩ <;> subst e <;> revert d <;> simp
def cnS (l:List UInt8):Nat:=(l.filter QrA).length
theorem Qv5 (g:SgOk c)(k:Tr c h n t u):QFg (tl t)∧cnS (tl t)=n:=by
 induction k with
 | zero=>exact ⟨.inl rfl,rfl⟩
 | still _ _ _ b=>exact b
 | word _ d f b=>
  obtain ⟨N,x,e,i,j⟩:=QEH g d f
  rw[Qv4,e]
  refine ⟨.inr ⟨_,x,(aM ..).symm,i⟩,?_⟩
  grind [QrA,List.filter_eq_nil_iff,cnS,List.length_append]
def QBZ {e:Int}(b:SgOk c)(k:Tr c h n t u)(d:Tr c h m t e):n=m:=(Qv5 b k).2.symm.trans (Qv5 b d).2
def afS (c:DSg)(S:List Int)(h:Int)(A:DLv)(a:DAr):DLv:=if a.1∈S∧inv h a=false then Wb .str A (wdA c a) (((YN .str A (wdA c a)).getD [])++[a.2.2.2]) else A
def afV (c:DSg)(S:List Int)(h:Int):DLv:=c.2.2.foldl (afS c S h) []
structure AfI (c:DSg) (h:Int) (S:List Int) (rs:List DAr) (A:DLv):Prop where
  nod:A.Pairwise fun p q=>p.1≠q.1
  mem:∀p∈A,(∃v,v∈p.2)∧∀v,v∈p.2↔∃a∈rs,inv h a=false∧a.1∈S∧wdA c a=p.1∧v=a.2.2.2
  all:∀a∈rs,inv h a=false→a.1∈S→∃p∈A,p.1=wdA c a
theorem Qzs {k:Ty}{V:Type}{m:List (k.Den×V)}{x:k.Den}(b:m.Pairwise fun p q=>p.1≠q.1):(∃v,(x,v)∈m∧YN k m x=some v)∨((∀p∈m,p.1≠x)∧YN k m x=none):=by
 grind [List.mem_iff_getElem?,Jt,Qam]
theorem QbF {k:Ty}{V:Type}{m:List (k.Den×V)}{x:k.Den}{v:V}{p:k.Den×V}(o:m.Pairwise fun p q=>p.1≠q.1):p∈Wb k m x v↔(p∈m∧p.1≠x)∨p=(x,v):=by
 have l:=Qcr (x:=x) (v:=v) o
 constructor
 ·intro d
  rcases Qk6 d with e|i
  ·exact .inr e
  ·by_cases e:p.1=x
   ·right
    obtain ⟨j,f⟩:=aG.1 d
    have b:=Jt l f e
    rw[KN,if_pos ((k.beq_iff _ _).2 rfl)] at b
    cases b
    exact Prod.ext e rfl
   ·exact .inl ⟨i,e⟩
 ·have b:∀y w,(y,w)∈Wb k m x v↔YN k (Wb k m x v) y=some w:=fun y w=>by
   rcases Qzs (x:=y) l with ⟨z,b,r⟩|⟨b,r⟩
   ·grind [List.mem_iff_getElem?,Jt]
   ·grind
  rintro (⟨d,e⟩|rfl)
  ·obtain ⟨y,w⟩:=p
   rw[b,KN,if_neg (fun g=>e ((k.beq_iff _ _).1 g).symm)]
   obtain ⟨j,f⟩:=aG.1 d
   exact Jt o f rfl
  ·rw[b,KN,if_pos ((k.beq_iff _ _).2 rfl)]
def AfI.zero:AfI c h S [] []:=⟨co,by simp,by simp⟩
theorem AfI.step {rs:List DAr}(g:AfI c h S rs A):AfI c h S (rs++[a]) (afS c S h A a):=by
 unfold afS
 split
 ·rename_i B
  have C:∀v,v∈((YN .str A (wdA c a)).getD [])↔∃b∈rs,inv h b=false∧b.1∈S∧wdA c b=wdA c a∧v=b.2.2.2:=fun v=>by
   rcases Qzs (k:= .str) (x:=wdA c a) g.nod with ⟨w,l,o⟩|⟨l,o⟩
   ·rw[o];exact (g.mem _ l).2 v
   ·rw[o]
    refine ⟨fun k=>(by cases k),fun ⟨b,f,i,r,y,_⟩=> ?_⟩
    obtain ⟨p,j,e⟩:=g.all b f i r
    exact absurd (e.trans y) (l p j)
  refine ⟨Qcr (k:= .str) g.nod,fun p j=> ?_,fun b d f i=> ?_⟩
  ·rcases (QbF (k:= .str) g.nod).1 j with ⟨j,e⟩|rfl
   ·refine ⟨(g.mem p j).1,fun v=>((g.mem p j).2 v).trans ⟨fun ⟨b,f,i⟩=>⟨b,aU _ f,i⟩,fun ⟨b,f,i,r,y,E⟩=> ?_⟩⟩
    grind
   ·simp_all
  ·rcases aO.1 d with d|d
   ·obtain ⟨p,j,e⟩:=g.all b d f i
    by_cases z:p.1=wdA c a
    ·exact ⟨_,(QbF (k:= .str) g.nod).2 (.inr rfl),by rw[← e,z]⟩
    ·exact ⟨p,(QbF (k:= .str) g.nod).2 (.inl ⟨j,z⟩),e⟩
   ·rw[aI] at d;subst d
    exact ⟨_,(QbF (k:= .str) g.nod).2 (.inr rfl),rfl⟩
 ·rename_i B
  refine ⟨g.nod,fun p j=>⟨(g.mem p j).1,fun v=>((g.mem p j).2 v).trans ⟨fun ⟨b,f,i⟩=>⟨b,aU _ f,i⟩,fun ⟨b,f,i,r,y⟩=> ?_⟩⟩,fun b d f i=> ?_⟩
  ·grind
  ·rcases aO.1 d with d|d
   ·exact g.all b d f i
   ·rw[aI] at d;subst d;exact absurd ⟨i,f⟩ B
structure NxI (c:DSg) (h:Int) (V:BA→Int→Prop) (M:DLv):Prop where
  nod:M.Pairwise fun p q=>p.1≠q.1
  mem:∀p∈M,(∃v,V p.1 v)∧∀u,u∈p.2↔Ch c.2.2 h (fun v=>V p.1 v) u
  all:∀s v,V s v→∃p∈M,p.1=s
def NxI.congr {V W:BA→Int→Prop}(g:NxI c h V M)(e:∀s v,V s v↔W s v):NxI c h W M:=
 ⟨g.nod,fun p d=>⟨(g.mem p d).1.imp fun v b=>(e _ _).1 b,fun u=>((g.mem p d).2 u).trans (Ch.congr fun v=>e _ _)⟩,fun s v b=>g.all s v ((e _ _).2 b)⟩
def NxI.zero:NxI c h (fun _ _=>False) []:=⟨co,by simp,fun _ _ k=>k.elim⟩
theorem NxI.step {V:BA→Int→Prop}{W:Int→Prop}(g:NxI c h V M)(j:∀v,¬V s v)(l:∀u,u∈T_↔Ch c.2.2 h W u)(o:∃w,W w):NxI c h (fun s' i=>V s' i∨(s'=s∧W i)) (Wb .str M s T_):=by
 have f:∀p∈M,p.1≠s:=fun p b e=>by
  obtain ⟨v,d⟩:=(g.mem p b).1
  rw[e] at d;exact j v d
 refine ⟨Qcr (k:= .str) g.nod,fun p b=> ?_,fun s' i d=> ?_⟩
 ·rcases (QbF (k:= .str) g.nod).1 b with ⟨b,e⟩|rfl
  ·exact ⟨(g.mem p b).1.imp fun _=> .inl,fun u=>((g.mem p b).2 u).trans (Ch.congr fun v=>⟨.inl,fun k=>k.resolve_right fun k=>e k.1⟩)⟩
  ·grind [Ch.congr]
 ·rcases d with d|⟨rfl,_⟩
  ·obtain ⟨p,b,e⟩:=g.all s' i d
   exact ⟨p,(QbF (k:= .str) g.nod).2 (.inl ⟨b,f p b⟩),e⟩
  ·exact ⟨_,(QbF (k:= .str) g.nod).2 (.inr rfl),rfl⟩
def Vm (c:DSg)(h:Int)(D:DLv)(q:BA×List Int)(E:DLv)(s:BA)(v:Int):Prop:=Vs c h D s v∨∃p∈E,s=q.1++p.1∧v∈p.2
structure OuI (c:DSg) (h:Int) (n:Nat) (out:List BA):Prop where
  nod:out.Nodup
  mem:∀t,t∈out↔∃m,m≤n∧∃u,Tr c h m t u
def OuI.zero:OuI c h 0 [ByteArray.empty]:=⟨by simp,fun t=>by
 rw[aI]
 exact ⟨fun e=>⟨0,aP _,0,by rw[e];exact .zero⟩,fun ⟨m,b,u,k⟩=>by rw[Nat.le_zero.1 b] at k;exact (Qe3.1 k).1⟩⟩
def OuI.len (e:SgOk c)(d:TO ltB){out:List BA}(g:OuI c h n out):out.length=(txL c h n).length:=
 Nat.le_antisymm (Qdv g.nod fun t b=>(QjV e n).2 ((g.mem t).1 b)) (Qdv (QBU d (Qql d n)) fun t b=>(g.mem t).2 ((QjV e n).1 b))
def OuI.next (w:SgOk c){out:List BA}(g:OuI c h n out)(k:Lev c h (n+1) M){E:DLv}(i:E.Perm M):OuI c h (n+1) (out++E.map fun p=>p.1):=by
 have r:(E.map fun p=>p.1).Nodup:=by
  unfold List.Nodup
  rw[List.pairwise_map]
  exact i.symm.pairwise k.nod fun h e=>h e.symm
 refine ⟨bz.2 ⟨g.nod,r,fun x B y C e=> ?_⟩,fun t=> ?_⟩
 ·subst e
  obtain ⟨m,l,u,b⟩:=(g.mem x).1 B
  obtain ⟨p,f,rfl⟩:=aW.1 C
  have d:=k.mem p (i.mem_iff.1 f)
  obtain ⟨F,j⟩:=d.1
  have:=QBZ w b ((d.2 F).1 j)
  omega
 ·rw[aO,g.mem]
  constructor
  ·rintro (⟨m,l,b⟩|o)
   ·exact ⟨m,by omega,b⟩
   ·obtain ⟨p,f,rfl⟩:=aW.1 o
    have d:=k.mem p (i.mem_iff.1 f)
    exact ⟨n+1,aP _,d.1.imp fun u z=>(d.2 u).1 z⟩
  ·rintro ⟨m,l,u,b⟩
   by_cases e:m=n+1
   ·subst e
    obtain ⟨p,f,rfl⟩:=k.all t u b
    exact .inr (aW.2 ⟨p,i.mem_iff.2 f,rfl⟩)
   ·exact .inl ⟨m,by omega,u,b⟩
end
def Qvj {α:Type _}[DecidableEq α]{lt:α→α→Bool}(x:α):∀l:List α,(Zc lt x l).length≤l.length+1
 | []=>aP _
 | y::l=>by
  unfold Zc
  have:=Qvj (lt:=lt) x l
  split
  ·simp only[av];omega
  ·split <;> simp
section
variable {c:DSg}{h:Int}{n k i j:Nat}{S set:List Int}{a:DAr}{rs as_:List DAr}{x y z:DTx}{l L out:List DTx}{s t:BA}{u v:Int}{g:Qs}
def ftT (x:DTx)(j:Nat)(y:DTx):DTx:=(y.1,(x.2.1.take j).foldl (fun s k=>Zc ltI k s) y.2.1,y.2.2)
def QkO:∀(m:List Int) {s:List Int},(m.foldl (fun s k=>Zc ltI k s) s).length≤s.length+m.length
 | [],s=>aP _
 | k::m,s=>by have b:=QkO m (s:=Zc ltI k s);have d:=Qvj (lt:=ltI) k s;simp only[bn,av];omega
def Sm (N:Nat)(l:List DTx):Prop:=l.length≤N∧∀y∈l,y.2.1.length≤N
def Sm.put (g:Sm n l)(w:x.2.1.length≤1):Sm (n+1) (QaM l x):=by
 obtain ⟨p,f⟩:=g
 suffices k:∀l:List DTx,(∀y∈l,y.2.1.length≤n)→(QaM l x).length≤l.length+1∧∀y∈QaM l x,y.2.1.length≤n+1 by
  obtain ⟨o,e⟩:=k l f
  exact ⟨by omega,e⟩
 intro l
 induction l with
 | nil=>exact fun _=>⟨aP _,fun y b=>by rw[QaM,aI] at b;subst b;omega⟩
 | cons z l m=>
  intro d
  rw[QaM]
  split
  ·refine ⟨by simp,fun y b=> ?_⟩
   rcases aK.1 b with rfl|b
   ·have q:=QkO x.2.1 (s:=z.2.1)
    have r:=d z (aA ..)
    dsimp only;omega
   ·have:=d y (az _ b);omega
  ·obtain ⟨o,e⟩:=m fun y b=>d y (az _ b)
   refine ⟨by simp only[av];omega,fun y b=> ?_⟩
   rcases aK.1 b with rfl|b
   ·have:=d y (aA ..);omega
   ·exact e y b
def Sm.ar (g:Sm n l):Sm (n+1) (arT c h x l a):=by
 unfold arT
 split
 ·exact g.put (aP _)
 ·exact ⟨de g.1,fun y b=>de (g.2 y b)⟩
def Sm.row:∀(as_:List DAr) {n:Nat} {l:List DTx},Sm n l→Sm (n+as_.length) (Qyt c h as_ x l)
 | [],_,_,g=>g
 | a::l,n,_,g=>by
  have:=Sm.row l (g.ar (c:=c) (h:=h) (x:=x) (a:=a))
  rw[show n+(a::l).length=n+1+l.length by simp only[av];omega]
  exact this
def Sm.le {m:Nat}(g:Sm n l)(h:n≤m):Sm m l:=⟨by have:=g.1;omega,fun y b=>by have:=g.2 y b;omega⟩
def Sm.zero:Sm 0 []:=⟨aP _,fun _ h=>by cases h⟩
def txP (c:DSg)(h:Int):Nat→List BA
 | 0=>[]
 | n+1=>txL c h n
end
section
variable {c:DSg}{h:Int}{n k i j:Nat}{S set:List Int}{a:DAr}{rs as_:List DAr}{out:List Int}{s t:BA}{u v:Int}{K M A D E L L1 L2:DLv}{p q:BA×List Int}
def clV (c:DSg)(h:Int)(S:List Int):List Int:=clL c.2.2 h 301 0 S
@[reducible] def Rng (c:DSg) (S:List Int):Prop:=S.Nodup∧∀u∈S,0≤u∧u<(c.2.1.length:Int)
def edT (ss:List Qs)(l:Int×Bool):BA:=if l.1<0 then ⟨#[126]⟩ else ((ss[l.1.toNat]?).getD (ByteArray.empty,0)).1++sgB l.2
def afT (c:DSg)(S:List Int)(h:Int)(i:Nat):DLv:=(c.2.2.take i).foldl (afS c S h) []
end
def UK (l:List BA)(s:BA):Bool:=l.any fun y=>decide (s=y)
def Qdp {l:List BA}{s:BA}:UK l s=true↔s∈l:=by
 unfold UK
 rw[bG]
 exact ⟨fun ⟨y,d,e⟩=>by rw[aa e];exact d,fun h=>⟨s,h,ay rfl⟩⟩
def QAM {l:List BA}{s:BA}(h:¬s∈l):UK l s=false:=bT.2 fun e=>h (Qdp.1 e)
section
variable {l:List BA}{s y:BA}{m:Int}
def Qyc (f:∀j:Nat,(j:Int)<m→∀y,l[j]? =some y→ltB y s=true)(g:l[m.toNat]? =some y)(h:Op.bytesLess y.toList s.toList=true):∀j:Nat,(j:Int)<m+1→∀z,l[j]? =some z→ltB z s=true:=fun j i z d=>by
 by_cases e:(j:Int)<m
 ·exact f j e z d
 ·have:j=m.toNat:=by omega
  subst this
  rw[g] at d;cases d;exact h
def QD0 (d:∀j:Nat,(j:Int)<m→∀y,l[j]? =some y→ltB y s=true)(h0:0≤m)(f:m≤(l.length:Int))(h:∀y,l[m.toNat]? =some y→ltB y s=false∧y≠s):l.take m.toNat++[s]++l.drop m.toNat=Zc ltB s l:=by
 rw[Qjw (k:=m.toNat) (fun j g z e=>d j (by omega) z e) (by omega) h];simp
end
theorem HE (l:List BA)(s:BA):FC prog 308 [(false,[.dat Qd l]),(false,[dS s])] [] 0 (QJ (lB (UK l s))):=by
 refine Ql func308 rfl rfl ntmps308 fun z q w r A u t=>w6 ?_
 refine alL 7 fun _=> ?_
 refine w4 ?_
 refine lpK l.length (fun k=>∀j,j<k→∀y,l[j]? =some y→¬y=s) (fun k=>⟨[(1,lf (dS s)),(7,lf (.dat Qd l)),(8,lI (l.length:Int)),(9,lI (k:Int))],[]⟩) ((fun j p=>absurd p (aS j))) ?_ fun k _ i=> ?_
 exact wo []
 refine w4 ?_
 cases d:(decide ((k:Int)<(l.length:Int)))
 have e:=ab d
 refine w7 ?_
 refine fqB q ?_
 first|exact (QAM fun v=>by obtain ⟨j,p⟩:=aG.1 v;exact i j (by have:=(ae.1 p).1;omega) s p rfl).symm
 have e:=aa d
 refine w5 ?_
 obtain ⟨x,o⟩:=gx l k
 refine w9 ?_
 cases f:(decide (x=s))
 have g:=ab f
 refine w6 ?_
 exact Qc<|lK_ ((Z5 i o ‹_›))<|wo []
 have g:=aa f
 refine w5 ?_
 exact fqB q<|(Qdp.2 (by have:=ah o;simp_all)).symm
section
variable {c:DSg}[Decidable (SgOk c)]{h m mo:Int}{n:Nat}
end
section
variable {a b:ZF}[∀s,Decidable (StgOk s)][∀c,Decidable (SgOk c)]{m:Int}{k:Nat}{s:BA}
def tiV (a b:ZF)[∀s,Decidable (StgOk s)][∀c,Decidable (SgOk c)](m:Int):Bool×Bool:=
 if (sgV a).2=true∧(sgV b).2=true∧(trV (sgV a).1 (-1) m).2=true∧(trV (sgV b).1 (-1) m).2=true then ((trV (sgV a).1 (-1) m).1.all fun s=>UK (trV (sgV b).1 (-1) m).1 s,true) else (false,false)
end
def kyL (B:DLv):List BA:=B.map fun p=>p.1
section
variable {c:DSg}[Decidable (SgOk c)]{h m:Int}{n k:Nat}{M B Z:DLv}{out:List BA}{z:BA×List Int}
end
section
variable {a b:ZF}[∀s,Decidable (StgOk s)][∀c,Decidable (SgOk c)]{m:Int}
end
def QCT (f:Hdr→List Int):Option (List Int)→List Hdr→List Hdr
 | _,[]=>[]
 | p,y::l=>if p=some (f y) then QCT f p l else y::QCT f (some (f y)) l
section
variable {f:Hdr→List Int}{vs zs:List Hdr}{m k:Nat}{x y:Hdr}{l:List (List Int)}{i j n:Int}
end
def QgM {α:Type _}[DecidableEq α]{lt:α→α→Bool}(x:α):∀l:List α,(Zc lt x l).length≤l.length+1
 | []=>aP _
 | y::l=>by
  unfold Zc
  have:=QgM (lt:=lt) x l
  split
  ·simp only[av];omega
  ·split <;> simp
def shV (n:XZ)(t u:Int):Bool:=((n.2[t.toNat]?).getD ([],[])).1.any fun z=>decide (z∈((n.2[u.toNat]?).getD ([],[])).1)
def QGD (n:XZ)(t:Int)(l:List Int):List (List Int):=(l.filter fun u=>decide (t<u)&& !shV n t u).map fun u=>[t,u]
def QGC (n:XZ)(t:Int)(l:List Int):List (List Int):=(l.filter fun u=> !shV n t u).map fun u=>[t,u]
def QFr (n:XZ)(on l:List Int):List (List Int):=l.flatMap fun t=>QGD n t on
def QHh (n:XZ)(on:List Int)(k:Nat):List (List Int):=(List.range k).flatMap fun i=>QGC n ((on[i]?).getD 0) (on.drop (i+1))
def QHw (n:XZ)(ms:List BA):List (List Int):=ms.flatMap fun mk=>QFr n (JT n mk) (JT n mk)
section
variable {n:XZ}{k f i j:Nat}{mk:BA}{t u:Int}{ts on l:List Int}{st:RS}{s:ZF}{xt xu:Q1}{ms:List BA}{as_ bs:List (List Int)}
end
section
variable {vs vs2:List Hdr}{gf gf2 gj:Hdr→List Int}{l:List (List Int)}{m:Int}{x:List Int}
end
def Qpf {n:Nat}{a:List DAr}:∀{f k:Nat} {c d:List BA},goS n a f k c=some d→d.length=c.length
 | 0,_,c,d,h=>by rw[goS] at h;cases h;rfl
 | f+1,k,c,d,h=>by
  rw[goS] at h
  split at h
  ·rw[Qpf h,Qkn]
  ·cases h
section
variable [∀s,Decidable (StgOk s)]{s:ZF}
def QgT (h:(sgV s).2=true):SgW (sgV s).1:=by
 unfold sgV at h ⊢
 split at h
 ·rename_i d
  rw[if_pos d]
  obtain ⟨i,k,m,_,e,r⟩:=Yt d.1
  split at h
  ·rename_i c n
   have g:=Qpf n
   rw[aQ] at g
   refine ⟨i.sigs.2.2,⟨by show 1≤c.length;omega,by show c.length≤300;omega⟩,?_,?_⟩
   ·show (QY _ _).length≤_
    unfold QY
    rw[aC];omega
   ·intro a f
    refine ⟨?_,?_⟩
    ·show InR c.length a
     rw[g];exact V8 e a f
    ·obtain ⟨v,o,rfl⟩:=aW.1 f
     obtain ⟨_,⟨p,q⟩,_⟩:=e v o
     obtain ⟨l,b⟩:∃l,s.2.2.1[v.2.1.toNat]? =some l:=⟨_,ak (by omega)⟩
     have j:=i.labs l (ah b)
     show K0 (s.2.1.length:Int) ((Qgv s.2.2.1 v.2.1).1,(Qgv s.2.2.1 v.2.1).2)
     rw[Qjd b];exact j
  ·cases h
 ·cases h
end
def spS (s:BA)(b:UInt8):Nat→List BA×Int
 | 0=>([],0)
 | i+1=>if s[i]? =some b then ((spS s b i).1++[s.extract (spS s b i).2.toNat i],(i:Int)+1) else spS s b i
def ZS (s:BA)(b:UInt8):List BA:=(spS s b s.size).1++[s.extract (spS s b s.size).2.toNat s.size]
section
variable {s:BA}{b c:UInt8}{i:Nat}
def QyF (h:s[i]? =some c)(e:c=b):((spS s b i).1++[s.extract (spS s b i).2.toNat i],(i:Int)+1)=spS s b (i+1):=by rw[spS,if_pos (by rw[h,e])]
def QBL (h:s[i]? =some c)(e:¬c=b):spS s b i=spS s b (i+1):=by rw[spS,if_neg (by rw[h];simpa using e)]
def Qqa:0≤(spS s b i).2∧(spS s b i).2≤(i:Int)∧(spS s b i).1.length≤i:=by
 induction i with
 | zero=>exact ⟨cR _,cR _,aP _⟩
 | succ i d=>
  rw[spS]
  split
  ·refine ⟨by show (0:Int)≤(i:Int)+1;omega,by show ((i:Int)+1)≤((i+1:Nat):Int);omega,?_⟩
   rw[ai,av,aB];omega
  ·obtain ⟨a,e,f⟩:=d;exact ⟨a,by omega,by omega⟩
def Qr6:(ZS s b).length≤s.size+1:=by
 unfold ZS
 have:=Qqa (s:=s) (b:=b) (i:=s.size)
 rw[ai,av,aB];omega
end
abbrev DTr:=List Int×List Int
abbrev DB:=ZF×List BA×List BA
def b0 (t:BA):UInt8:=(t[0]?).getD 0
def bZ (t:BA):UInt8:=(t[t.size - 1]?).getD 0
def QaK (l:List BA)(x:BA):Bool:=l.any fun y=>decide (y=x)
def atB (l:List BA)(x:BA):Int:=if QaK l x=true then Zj (fun y=>decide (y=x)) l else (l.length:Int)
def plV (b:DB)(name:BA):DB:=if QaK b.2.1 name=true then b else (((b.1.1.1+1,b.1.1.2),b.1.2.1,b.1.2.2.1,b.1.2.2.2++(⟨#[48]⟩:BA)),b.2.1++[name],b.2.2)
def plI (b:DB)(name:BA):Int:=atB b.2.1 name
def Qct (word:BA):BA:=((ZS word 47)[0]?).getD ByteArray.empty
def QnQ (G:List Qs)(word:BA):Z3:=if b0 (Qct word)=126 then (-1,false) else (Zj (fun g=>decide (g.1=(Qct word).extract 0 ((Qct word).size - 1))) G,decide (bZ (Qct word)=43))
def ZC (b:DB)(word:BA):DB:=if QaK b.2.2 word=true then b else (((b.1.1.1,b.1.1.2++[([],[])]),b.1.2.1,b.1.2.2.1++[QnQ b.1.2.1 word],b.1.2.2.2),b.2.1,b.2.2++[word])
def trI (b:DB)(word:BA):Int:=atB b.2.2 word
def QaC (text:BA):BA:=if b0 text=42 then text.extract 1 text.size else text
def X1 (text:BA)(k:Nat):BA:=((ZS (QaC text) 62)[k]?).getD ByteArray.empty
def Qcs (text:BA):BA:=if b0 (X1 text 1)=95 then X1 text 1 else if b0 (X1 text 0)=95 then X1 text 0 else QaC text
def QgN (T:List DTr)(t p:Int):List DTr:=T.modify t.toNat fun x=>(x.1,Zc ltI p x.2)
def QgO (T:List DTr)(t p:Int):List DTr:=T.modify t.toNat fun x=>(Zc ltI p x.1,x.2)
def ar1 (p:Int)(b:DB)(text:BA):DB:=if b0 (X1 text 0)=95 then b else
 let c:=ZC b (X1 text 0);(((c.1.1.1,QgN c.1.1.2 (trI b (X1 text 0)) p),c.1.2.1,c.1.2.2.1,c.1.2.2.2),c.2.1,c.2.2)
def ar2 (p:Int)(b:DB)(text:BA):DB:=if b0 (X1 text 1)=95 then b else
 let c:=ZC b (X1 text 1);(((c.1.1.1,QgO c.1.1.2 (trI b (X1 text 1)) p),c.1.2.1,c.1.2.2.1,c.1.2.2.2),c.2.1,c.2.2)
def QvC (s:BA)(p:Int):BA:=s.extract 0 p.toNat++(⟨#[49]⟩:BA)++s.extract (p+1).toNat s.size
def arV (b:DB)(text:BA):DB:=
 let p:=plI b (Qcs text)
 let c:=ar2 p (ar1 p (plV b (Qcs text)) text) text
 if b0 text=42 then ((c.1.1,c.1.2.1,c.1.2.2.1,QvC c.1.2.2.2 p),c.2.1,c.2.2) else c
def sgN (names:BA)(kd:Int)(i:Nat):List Qs:=(List.range i).map fun j=>(names.extract j (j+1),kd)
def sgA:List BA→Int→List Qs
 | [],_=>[]
 | n::l,k=>sgN n k n.size++sgA l (k+1)
def buG (ins outs inner:BA):List Qs:=sgA [ins,outs,inner] 1
def buB (G:List Qs)(arcs:BA):DB:=(ZS arcs 32).foldl arV (((0,[]),G,[],ByteArray.empty),[],[])
def Qu (ins outs inner arcs:BA):ZF:=(buB (buG ins outs inner) arcs).1
def okW (w:BA):Bool:=decide (1≤w.size)&&(decide (b0 w=95)||decide (1≤(Qct w).size))
def okA (t:BA):Bool:=decide (1≤t.size)&&(decide (2≤(ZS (QaC t) 62).length)&&(okW (X1 t 0)&&okW (X1 t 1)))
section
variable {l:List BA}{x name word text:BA}{b c:DB}{G:List Qs}{n k:Nat}
theorem QxI {α:Type _}{f:α→Bool}{l:List α}(h:l.any f=true):0≤Zj f l∧Zj f l<(l.length:Int):=by
 have a:=WI f l
 rw[h,aY] at a
 refine ⟨a,?_⟩
 unfold Zj at*
 cases d:l.findIdx? f with
 | none=>rw[d] at a;simp at a
 | some i=>
  have:=(bY.1 d).1
  simpa using this
def Qtd (h:QaK l x=true):0≤atB l x∧atB l x<(l.length:Int):=by
 unfold atB;rw[if_pos h];exact QxI h
def QbY (h:QaK l x=false):atB l x=(l.length:Int):=if_neg (by rw[h];decide)
def Qtc (f:NoneTo (fun y=>decide (y=x)) l k){y:BA}(a:l[k]? =some y)(e:y=x):(k:Int)=atB l x:=by
 unfold atB
 have d:QaK l x=true:=Qs5 a (ay e)
 rw[if_pos d,f.at a (ay e)]
def Xx {y:BA}(a:l[k]? =some y)(e:y=x):QaK l x=true:=Qs5 a (ay e)
def Yn (d:NoneTo (fun y=>decide (y=x)) l k)(a:l.length≤k):QaK l x=false:=d.any_no a
def Ju (h:QaK b.2.1 name=true):plV b name=b:=if_pos h
def VW (h:QaK b.2.1 name=false):plV b name=(((b.1.1.1+1,b.1.1.2),b.1.2.1,b.1.2.2.1,b.1.2.2.2++(⟨#[48]⟩:BA)),b.2.1++[name],b.2.2):=if_neg (by rw[h];decide)
def VY (h:QaK b.2.2 word=true):ZC b word=b:=if_pos h
def Ym (h:QaK b.2.2 word=false):ZC b word=(((b.1.1.1,b.1.1.2++[([],[])]),b.1.2.1,b.1.2.2.1++[QnQ b.1.2.1 word],b.1.2.2.2),b.2.1,b.2.2++[word]):=if_neg (by rw[h];decide)
structure DBJ (b:DB) (p w m:Nat):Prop where
  st:b.1.2.2.2.size=b.2.1.length
  tr:b.1.1.2.length=b.2.2.length
  la:b.1.2.2.1.length=b.2.2.length
  p0:b.1.1.1=(b.2.1.length:Int)
  pl:b.2.1.length≤p
  ws:b.2.2.length≤w
  inn:∀t∈b.1.1.2,t.1.length≤m∧t.2.length≤m
def QpO:0≤plI b name∧plI b name<((plV b name).2.1.length:Int):=by
 unfold plI
 cases h:QaK b.2.1 name with
 | true=>rw[Ju h];exact Qtd h
 | false=>rw[VW h,QbY h,ai];simp only[av,aB];omega
def Qqh:0≤trI b word∧trI b word<((ZC b word).2.2.length:Int):=by
 unfold trI
 cases h:QaK b.2.2 word with
 | true=>rw[VY h];exact Qtd h
 | false=>rw[Ym h,QbY h,ai];simp only[av,aB];omega
def Qix:(ZC b word).1.1.1=b.1.1.1∧(ZC b word).1.2.1=b.1.2.1∧(ZC b word).1.2.2.2=b.1.2.2.2∧(ZC b word).2.1=b.2.1:=by unfold ZC;split <;> exact ⟨rfl,rfl,rfl,rfl⟩
def DBJ.pl_ {p w m:Nat}(h:DBJ b p w m):DBJ (plV b name) (p+1) w m:=by
 cases a:QaK b.2.1 name with
 | true=>rw[Ju a];exact ⟨h.st,h.tr,h.la,h.p0,de h.pl,h.ws,h.inn⟩
 | false=>
  rw[VW a]
  have d:(⟨#[48]⟩:BA).size=1:=rfl
  refine ⟨?_,h.tr,h.la,?_,?_,h.ws,h.inn⟩
  ·show (b.1.2.2.2++(⟨#[48]⟩:BA)).size=(b.2.1++[name]).length
   rw[aE,ai,h.st,d];rfl
  ·show b.1.1.1+1=((b.2.1++[name]).length:Int)
   rw[ai,h.p0];simp
  ·show (b.2.1++[name]).length≤p+1
   rw[ai];have:=h.pl;simp only[av,aB];omega
def DBJ.tr_ {p w m:Nat}(h:DBJ b p w m):DBJ (ZC b word) p (w+1) m:=by
 cases d:QaK b.2.2 word with
 | true=>rw[VY d];exact ⟨h.st,h.tr,h.la,h.p0,h.pl,de h.ws,h.inn⟩
 | false=>
  rw[Ym d]
  refine ⟨h.st,?_,?_,h.p0,h.pl,?_,?_⟩
  ·show (b.1.1.2++[([],[])]).length=(b.2.2++[word]).length
   rw[ai,ai,h.tr];rfl
  ·show (b.1.2.2.1++[QnQ b.1.2.1 word]).length=(b.2.2++[word]).length
   rw[ai,ai,h.la];rfl
  ·show (b.2.2++[word]).length≤w+1
   rw[ai];have:=h.ws;simp only[av,aB];omega
  ·intro t a
   rcases aO.1 a with a|a
   ·exact h.inn t a
   ·rw[aI.1 a];exact ⟨aL _,aL _⟩
def QpA {T:List DTr}{m i:Nat}{f:DTr→DTr}(h:∀t∈T,t.1.length≤m∧t.2.length≤m)(e:∀t,(f t).1.length≤t.1.length+1∧(f t).2.length≤t.2.length+1):∀t∈T.modify i f,t.1.length≤m+1∧t.2.length≤m+1:=fun t g=>by
 obtain ⟨j,a⟩:=aG.1 g
 rw[cU] at a
 cases d:T[j]? with
 | none=>rw[d] at a;cases a
 | some u=>
  rw[d] at a
  have p:=h u (ah d)
  have o:=e u
  have a:some (if i=j then f u else u)=some t:=a
  cases a
  split <;> omega
def DBJ.st_ {p w m:Nat}{q:Int}(h:DBJ b p w m)(e:0≤q∧q<(b.2.1.length:Int)):DBJ ((b.1.1,b.1.2.1,b.1.2.2.1,QvC b.1.2.2.2 q),b.2.1,b.2.2) p w m:=by
 refine ⟨?_,h.tr,h.la,h.p0,h.pl,h.ws,h.inn⟩
 have a:(⟨#[49]⟩:BA).size=1:=rfl
 have d:=h.st
 show (QvC b.1.2.2.2 q).size=b.2.1.length
 unfold QvC
 simp only[aE,aR,a]
 omega
def DBJ.more {p w m f w' e:Nat}(h:DBJ b p w m)(g:p≤f)(j:w≤w')(a:m≤e):DBJ b f w' e:=⟨h.st,h.tr,h.la,h.p0,bi h.pl g,bi h.ws j,fun t d=>⟨bi (h.inn t d).1 a,bi (h.inn t d).2 a⟩⟩
def DBJ.ar1_ {p w m:Nat}{q:Int}(h:DBJ b p w m):DBJ (ar1 q b text) p (w+1) (m+1):=by
 unfold ar1
 split
 ·exact h.more (aP _) (by omega) (by omega)
 ·have k:=h.tr_ (word:=X1 text 0)
  exact ⟨k.st,(List.length_modify ..).trans k.tr,k.la,k.p0,k.pl,k.ws,QpA k.inn fun t=>⟨Nat.le_succ _,QgM _ _⟩⟩
def DBJ.ar2_ {p w m:Nat}{q:Int}(h:DBJ b p w m):DBJ (ar2 q b text) p (w+1) (m+1):=by
 unfold ar2
 split
 ·exact h.more (aP _) (by omega) (by omega)
 ·have k:=h.tr_ (word:=X1 text 1)
  exact ⟨k.st,(List.length_modify ..).trans k.tr,k.la,k.p0,k.pl,k.ws,QpA k.inn fun t=>⟨QgM _ _,Nat.le_succ _⟩⟩
def Qs6 {q:Int}:(ar1 q b text).2.1=b.2.1:=by unfold ar1;split;exact rfl;exact Qix.2.2.2
def Qs7 {q:Int}:(ar2 q b text).2.1=b.2.1:=by unfold ar2;split;exact rfl;exact Qix.2.2.2
def DBJ.ar_ {p w m:Nat}(h:DBJ b p w m):DBJ (arV b text) (p+1) (w+2) (m+2):=by
 have d:=h.pl_ (name:=Qcs text)
 have e:=d.ar1_ (q:=plI b (Qcs text)) (text:=text)
 have a:=e.ar2_ (q:=plI b (Qcs text)) (text:=text)
 unfold arV
 dsimp only
 split
 ·exact a.st_ (by rw[Qs7,Qs6];exact QpO)
 ·exact a
def DBJ.zero (G:List Qs):DBJ (((0,[]),G,[],ByteArray.empty),[],[]) 0 0 0:=⟨rfl,rfl,rfl,rfl,aP _,aP _,fun t h=>by cases h⟩
end
def fbS:ZF:=((4,[([3],[0]),([0],[1]),([1],[2]),([2],[3])]),[(⟨#[97]⟩,1),(⟨#[98]⟩,2)],[(0,true),(1,true),(0,false),(1,false)],⟨#[48,48,48,49]⟩)
def QAt:Qu ⟨#[97]⟩ ⟨#[98]⟩ ⟨#[]⟩ ⟨#[97,43,62,98,43,32,98,43,62,97,45,32,97,45,62,98,45,32,42,98,45,62,97,43]⟩=fbS:=by decide+kernel
def Qp3 {x hi:Int}(h:0≤x∧x≤hi):Hh [x] hi:=by
 intro k a
 have:k=0:=by simpa using a
 subst this
 unfold RisAt
 simp
 omega
def QpB {c:UInt8}(h:Yz 0 c.toNat):YP ⟨#[c]⟩:=by
 refine ⟨fun k a=> ?_,aP _,by show (1:Nat)≤6;omega⟩
 have b:k<1:=a
 have:k=0:=by omega
 subst this
 exact h
def QnB:StgOk fbS:=by
 refine ⟨⟨⟨by decide,by decide⟩,by decide,fun t d=> ?_⟩,⟨fun k a x e=> ?_,by decide,by decide⟩,rfl,fun l c=> ?_,fun k a h=> ?_,rfl⟩
 ·simp only[fbS,aK,bO,or_false] at d
  rcases d with rfl|rfl|rfl|rfl <;> exact ⟨by simp,Qp3 (by show _∧_≤(4:Int) - 1;omega),Qp3 (by show _∧_≤(4:Int) - 1;omega)⟩
 ·have g:k<2:=a
  rcases (show k=0∨k=1 by omega) with rfl|rfl
  ·cases e
   exact ⟨QpB (by unfold Yz;decide),by decide,fun j y b=>absurd b (aS j)⟩
  ·cases e
   refine ⟨QpB (by unfold Yz;decide),by decide,fun j y b f=> ?_⟩
   have:j=0:=by omega
   subst this
   cases f
   decide
 ·simp only[fbS,aK,bO,or_false] at c
  rcases c with rfl|rfl|rfl|rfl <;> exact .inl (by decide)
 ·have i:k<4:=a
  rcases (show k=0∨k=1∨k=2∨k=3 by omega) with rfl|rfl|rfl|rfl <;> first|exact .inl rfl|exact .inr rfl
def QAu [∀s,Decidable (StgOk s)]:(sgV fbS).2=true:=by
 have a:Qp fbS=(((Zr fbS).1.1,(Zr fbS).1.2.1),true):=if_pos ⟨QnB,by decide+kernel⟩
 obtain ⟨c,d⟩:=bq.1 (show (goS (Zr fbS).1.1.length (QY fbS.2.2.1 (Zr fbS).1.2.1) fbS.2.1.length 0 (List.replicate (Zr fbS).1.1.length ByteArray.empty)).isSome=true by decide+kernel)
 have b:¬(4000:Int)<((Zr fbS).1.2.1.length:Int):=by decide+kernel
 rw[Qar (s:=fbS) (c:=c) (by rw[a]) (by rw[a];exact b) (by rw[a];exact d)]
end Go.Proofs.YtjfpbcmfbnnooaaGreat
