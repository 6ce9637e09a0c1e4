/- The traces of a state graph: both ways to them. Plain law. -/
import Derived.Test.YtgpdhgadmjfokaaGreatBEb
import Derived.Test.YtgpdhgadmjfokaaGreatBWk
import Derived.Test.YtgpdhgadmjfokaaGreatBBn
import Derived.Test.YtgpdhgadmjfokaaGreatBWw
import Derived.Test.YtgpdhgadmjfokaaGreatBUa
import Derived.Test.YtgpdhgadmjfokaaGreatBVc
set_option linter.unusedSimpArgs false
set_option linter.unusedVariables false
set_option linter.unusedSectionVars false
namespace Go.Proofs.YtgpdhgadmjfokaaGreat
open Go.RowKit
set_option maxRecDepth 100000
set_option maxHeartbeats 4000000
section
variable {c:DSg}{h:Int}{n m:Nat}{s t:ByteArray}{u v:Int}{K L M A D l1 l2:DLv}{a:DAr}{S T_:List Int}{q p:ByteArray×List Int}
theorem QhS (d:SgOk c)(b:a∈c.2.2):0≤a.2.2.2∧a.2.2.2 < (c.2.1.length:Int):=by
 have:=d.arcs a b
 obtain ⟨_,e,_⟩:=this
 omega
theorem QsZ (f:SgOk c)(b:Srt S)(e:∀u∈S,0≤u∧u < (c.2.1.length:Int)):∀u,u∈stl c h S↔Ch c.2.2 h (fun v=>v∈S) u:=QkC b (fun _ d=>QhS f d) e
theorem Qyv (d:SgOk c)(k:Vs c h L s v):0≤v∧v < (c.2.1.length:Int):=by
 obtain ⟨_,_,a,b,_,_,_,rfl⟩:=k
 exact QhS d b
theorem QhQ {L:List DTx}{p:ByteArray×List Int}(k:p∈unT L):∃x∈L,p=(x.1,x.2.1):=by
 obtain ⟨x,b,e⟩:=aR.1 k
 exact ⟨x,b,e.symm⟩
theorem Qdt (f:SgOk c):∀n,(Lev c h n (unT (Uj c h n))∧(∀x∈Uj c h n,x.2.2=(n:Int)))∧∀x∈Uj c h n,Srt x.2.1:=fun n=>by
 have F:=f.some_
 induction n with
 | zero=>
  have z:∀u,u∈stl c h [0]↔Ch c.2.2 h (fun v=>v=0) u:=fun u=>(QsZ f (cy ..) (fun u r=>by rw[aB] at r; omega) u).trans (Ch.congr fun v=>aB)
  refine ⟨⟨⟨cy ..,fun p l=> ?_,fun t u r=>⟨_,aB.2 rfl,(K6.1 r).1.symm⟩⟩,fun x b=>by rw[Uj,aB] at b; subst b; rfl⟩,fun x b=>by rw[Uj,aB] at b; subst b; exact QbG (cy ..)⟩
  obtain ⟨x,b,rfl⟩:=QhQ l
  rw[Uj,aB] at b
  subst b
  exact ⟨⟨0,(z 0).2 (.base rfl)⟩,fun u=>(z u).trans ⟨fun k=>K6.2 ⟨rfl,k⟩,fun k=>(K6.1 k).2⟩⟩
 | succ n E=>
  obtain ⟨⟨g,B⟩,C⟩:=E
  have o:=QrI (c:=c) (h:=h) (i:=(n:Int)+1) (L:=Uj c h n) fun x b=>by rw[B x b]
  have j:∀y∈Qo5 c h (Uj c h n) [],∀u,u∈stl c h y.2.1↔Ch c.2.2 h (fun v=>Vs c h (unT (Uj c h n)) y.1 v) u:=fun y d u=>
   (QsZ f (o.srt y d) (fun v w=>Qyv f ((o.mem y d v).1 w)) u).trans (Ch.congr fun v=>o.mem y d v)
  refine ⟨⟨g.next ?_ (fun p l=> ?_) (fun s v w=> ?_),fun x b=> ?_⟩,fun x b=> ?_⟩
  ·unfold unT Uj Qxc
   rw[dE,cK]
   exact o.nod
  ·obtain ⟨x,b,rfl⟩:=QhQ l
   obtain ⟨y,d,rfl⟩:=aR.1 b
   exact ⟨o.wit y d,j y d⟩
  ·obtain ⟨y,d,e⟩:=o.all s v w
   exact ⟨_,aR.2 ⟨QxB c h y,aR.2 ⟨y,d,rfl⟩,rfl⟩,e⟩
  ·obtain ⟨y,d,rfl⟩:=aR.1 b
   rw[show (QxB c h y).2.2=y.2.2 from rfl,o.many y d]; omega
  ·obtain ⟨y,d,rfl⟩:=aR.1 b
   exact QbG (o.srt y d)
def QpI (L:List DTx)(out:List ByteArray):List ByteArray:=L.foldl (fun o x=>Z9 ltB x.1 o) out
def txL (c:DSg)(h:Int):Nat→List ByteArray
 | 0=>QpI (Uj c h 0) []
 | n+1=>QpI (Uj c h (n+1)) (txL c h n)
theorem Qbs:∀{L:List DTx} {out:List ByteArray},t∈QpI L out↔t∈out∨∃x∈L,x.1=t
 | [],out=>by simp[QpI]
 | x :: l,out=>by
  show t∈QpI l (Z9 ltB x.1 out)↔_
  rw[Qbs,YB]
  simp only[aD,exists_eq_or_imp]
  constructor
  ·rintro ((rfl | b) | b)
   ·exact .inr (.inl rfl)
   ·exact .inl b
   ·exact .inr (.inr b)
  ·rintro (b | rfl | b)
   ·exact .inl (.inr b)
   ·exact .inl (.inl rfl)
   ·exact .inr b
theorem QfC (b:TO ltB):∀{L:List DTx} {out:List ByteArray},out.Pairwise (fun x y=>ltB x y=true)→(QpI L out).Pairwise (fun x y=>ltB x y=true)
 | [],_,k=>k
 | x :: l,out,k=>QfC b (L:=l) (Kh b k)
theorem Hq (b:TO ltB):∀n,(txL c h n).Pairwise (fun x y=>ltB x y=true)
 | 0=>QfC b bF
 | n+1=>QfC b (Hq b n)
theorem QiG (g:Lev c h n (unT (Uj c h n))):(∃x∈Uj c h n,x.1=t)↔∃u,Tr c h n t u:=by
 constructor
 ·rintro ⟨x,d,rfl⟩
  have e:=g.mem _ (aR.2 ⟨x,d,rfl⟩)
  exact e.1.imp fun u b=>(e.2 u).1 b
 ·rintro ⟨u,b⟩
  obtain ⟨p,f,rfl⟩:=g.all t u b
  obtain ⟨x,d,rfl⟩:=QhQ f
  exact ⟨x,d,rfl⟩
theorem KL (f:SgOk c):∀n,t∈txL c h n↔∃m,m≤n∧∃u,Tr c h m t u
 | 0=>by
  rw[txL,Qbs,QiG (Qdt f 0).1.1]
  exact ⟨fun k=>⟨0,aO _,k.resolve_left (by simp)⟩,fun ⟨m,g,k⟩=> .inr (by rwa [Nat.le_zero.1 g] at k)⟩
 | n+1=>by
  rw[txL,Qbs,QiG (Qdt f (n+1)).1.1,KL f n]
  constructor
  ·rintro (⟨m,d,b⟩ | d)
   ·exact ⟨m,by omega,b⟩
   ·exact ⟨n+1,aO _,d⟩
  ·rintro ⟨m,d,b⟩
   by_cases e:m=n+1
   ·subst e; exact .inr b
   ·exact .inl ⟨m,by omega,b⟩
theorem Qtw {l:List ByteArray}(b:TO ltB)(k:l.Pairwise (fun x y=>ltB x y=true)):l.Nodup:=k.imp fun h e=>by subst e; exact absurd ((b.irr _).symm.trans h) (by decide)
theorem Qxq (b:TO ltB):∀{m n:Nat},m≤n→(txL c h m).length≤(txL c h n).length:=fun {m n} k=>by
 induction k with
 | refl=>exact aO _
 | step _ e=>exact bl e (KQ (Qtw b (Hq b _)) fun x d=>Qbs.2 (.inl d))
@[reducible] def QmG (c:DSg) (h m:Int):Prop:=SgOk c∧(-1≤h∧h≤(c.1.length:Int) - 1)∧(0≤m∧m≤6)
def trV (c:DSg)[Decidable (SgOk c)](h m:Int):List ByteArray×Bool:=if QmG c h m∧(txL c h m.toNat).length≤400 then (txL c h m.toNat,true) else ([],false)
theorem Qv0 [Decidable (SgOk c)]{m:Int}(k:¬QmG c h m):trV c h m=([],false):=if_neg fun g=>k g.1
theorem QqI [Decidable (SgOk c)]{m:Int}(d:TO ltB)(k:400 < (txL c h n).length)(b:n≤m.toNat):trV c h m=([],false):=if_neg fun g=>by have:=Qxq (c:=c) (h:=h) d b; omega
theorem Qvh [Decidable (SgOk c)]{m:Int}(g:QmG c h m)(k:(txL c h m.toNat).length≤400):trV c h m=(txL c h m.toNat,true):=if_pos ⟨g,k⟩
theorem QcY:inv h a=false↔¬a.2.1= -1∧¬a.2.1=h:=by simp[inv]
theorem QcR:inv h a=true↔a.2.1= -1∨a.2.1=h:=by simp[inv]
theorem Qr2 (l:SgOk c)(y:a∈c.2.2)(hi:inv h a=false):∃N x,tl (wdA c a)=N++[x]∧QfY x=true∧∀b∈N,QfY b=false:=by
 have o:=(l.arcs a y).2.2.1
 have B:0≤a.2.1∧a.2.1≤(c.1.length:Int) - 1:=o.resolve_right fun k=>(QcY.1 hi).1 k.1
 obtain ⟨g,i⟩:∃g,c.1[a.2.1.toNat]? =some g:=⟨_,ak (by omega)⟩
 have r:=(l.sigs.1 a.2.1.toNat (by omega) g i).1
 refine ⟨tl g.1,if a.2.2.1=true then 43 else 45, ?_,by split <;> rfl,fun b z=> ?_⟩
 ·unfold wdA sgB
  rw[QhT,i]
  split <;> rfl
 ·obtain ⟨k,j⟩:=aM.1 z
  have f:k < g.1.size:=by have:=(ai.1 j).1; simpa [tl] using this
  have w:g.1[k]=b:=by
   have:=(ai.1 j).2
   simp only[tl,Array.getElem_toList] at this
   exact this
  have d:=r.1 k f
  rw[w] at d
  unfold QfY
  simp only[dc,beq_eq_false_iff_ne,ne_eq]
  unfold Yv at d
  refine ⟨fun e=> ?_,fun e=> ?_⟩ <;> subst e <;> revert d <;> simp
def cnS (l:List UInt8):Nat:=(l.filter QfY).length
theorem QhI (r:SgOk c)(k:Tr c h n t u):Qvu (tl t)∧cnS (tl t)=n:=by
 induction k with
 | zero=>exact ⟨.inl rfl,rfl⟩
 | still _ _ _ d=>exact d
 | word _ i j d=>
  obtain ⟨N,x,e,f,l⟩:=Qr2 r i j
  rw[QhT,e]
  refine ⟨.inr ⟨_,x,(aP ..).symm,f⟩, ?_⟩
  have g:N.filter QfY=[]:=List.filter_eq_nil_iff.2 fun b o=>by rw[l b o]; decide
  have:=d.2
  unfold cnS at this ⊢
  rw[bf,bf,g,ci,ae,this,de,f]; rfl
theorem QrB {l:ByteArray}{H:Int}{d:DAr}(f:SgOk c)(k:Tr c h n t u)(G:Tr c h m l H)(E:a∈c.2.2)(i:d∈c.2.2)(hi:inv h a=false)(j:inv h d=false)(e:t++wdA c a=l++wdA c d):t=l∧wdA c a=wdA c d:=by
 obtain ⟨N,x,o,J,C⟩:=Qr2 f E hi
 obtain ⟨I,O,b,F,g⟩:=Qr2 f i j
 have r:=congrArg tl e
 rw[QhT,QhT,o,b,← aP,← aP] at r
 obtain ⟨w,y⟩:=List.append_inj' r rfl
 obtain ⟨z,B⟩:=QqO (QhI f k).1 (QhI f G).1 C g w
 exact ⟨Qsg z,Qsg (by rw[o,b,B,y])⟩
theorem QvZ {e:Int}(b:SgOk c)(k:Tr c h n t u)(d:Tr c h m t e):n=m:=(QhI b k).2.symm.trans (QhI b d).2
def afS (c:DSg)(S:List Int)(h:Int)(A:DLv)(a:DAr):DLv:=if a.1∈S∧inv h a=false then Y2 .str A (wdA c a) (((Z4 .str A (wdA c a)).getD [])++[a.2.2.2]) else A
def afV (c:DSg)(S:List Int)(h:Int):DLv:=c.2.2.foldl (afS c S h) []
structure AfI (c:DSg) (h:Int) (S:List Int) (rs:List DAr) (A:DLv):Prop where
  nod:A.Pairwise fun p q=>p.1≠q.1
  mem:∀p∈A,(∃v,v∈p.2)∧∀v,v∈p.2↔∃a∈rs,inv h a=false∧a.1∈S∧wdA c a=p.1∧v=a.2.2.2
  all:∀a∈rs,inv h a=false→a.1∈S→∃p∈A,p.1=wdA c a
theorem Qvy {k:Ty}{V:Type}{m:List (k.Den×V)}{x:k.Den}(f:m.Pairwise fun p q=>p.1≠q.1):(∃v,(x,v)∈m∧Z4 k m x=some v)∨((∀p∈m,p.1≠x)∧Z4 k m x=none):=by
 by_cases e:∃p∈m,p.1=x
 ·obtain ⟨p,b,rfl⟩:=e
  obtain ⟨j,i⟩:=aM.1 b
  exact .inl ⟨p.2,b,Us f i rfl⟩
 ·have d:∀p∈m,p.1≠x:=fun p b g=>e ⟨p,b,g⟩
  exact .inr ⟨d,J7 d⟩
theorem HZ {k:Ty}{V:Type}{m:List (k.Den×V)}{x:k.Den}{v:V}{p:k.Den×V}(z:m.Pairwise fun p q=>p.1≠q.1):p∈Y2 k m x v↔(p∈m∧p.1≠x)∨p=(x,v):=by
 have o:=KT (x:=x) (v:=v) z
 constructor
 ·intro l
  rcases Qjt l with e | r
  ·exact .inr e
  ·by_cases e:p.1=x
   ·right
    obtain ⟨j,f⟩:=aM.1 l
    have b:=Us o f e
    rw[VJ,if_pos ((k.beq_iff _ _).2 rfl)] at b
    cases b
    exact dH e rfl
   ·exact .inl ⟨r,e⟩
 ·have b:∀y w,(y,w)∈Y2 k m x v↔Z4 k (Y2 k m x v) y=some w:=fun y w=>by
   rcases Qvy (x:=y) o with ⟨B,b,i⟩ | ⟨b,i⟩
   ·rw[i]
    refine ⟨fun d=> ?_,fun d=>by cases d; exact b⟩
    obtain ⟨j,f⟩:=aM.1 d
    rw[← Us o f rfl,i]
   ·rw[i]; exact ⟨fun d=>absurd rfl (b _ d),fun d=>by cases d⟩
  rintro (⟨l,e⟩ | rfl)
  ·obtain ⟨y,w⟩:=p
   rw[b,VJ,if_neg (fun g=>e ((k.beq_iff _ _).1 g).symm)]
   obtain ⟨j,f⟩:=aM.1 l
   exact Us z f rfl
  ·rw[b,VJ,if_pos ((k.beq_iff _ _).2 rfl)]
theorem AfI.zero:AfI c h S [] []:=⟨bF,by simp,by simp⟩
theorem AfI.step {rs:List DAr}(g:AfI c h S rs A):AfI c h S (rs++[a]) (afS c S h A a):=by
 unfold afS
 split
 ·rename_i y
  have z:∀v,v∈((Z4 .str A (wdA c a)).getD [])↔∃b∈rs,inv h b=false∧b.1∈S∧wdA c b=wdA c a∧v=b.2.2.2:=fun v=>by
   rcases Qvy (k:= .str) (x:=wdA c a) g.nod with ⟨w,B,C⟩ | ⟨B,C⟩
   ·rw[C]; exact (g.mem _ B).2 v
   ·rw[C]
    refine ⟨fun k=>(by cases k),fun ⟨b,d,f,l,o,_⟩=> ?_⟩
    obtain ⟨p,j,e⟩:=g.all b d f l
    exact absurd (e.trans o) (B p j)
  refine ⟨KT (k:= .str) g.nod,fun p j=> ?_,fun b i d f=> ?_⟩
  ·rcases (HZ (k:= .str) g.nod).1 j with ⟨j,e⟩ | rfl
   ·refine ⟨(g.mem p j).1,fun v=>((g.mem p j).2 v).trans ⟨fun ⟨b,d,f⟩=>⟨b,aG _ d,f⟩,fun ⟨b,d,f,l,o,r⟩=> ?_⟩⟩
    rcases aE.1 d with d | d
    ·exact ⟨b,d,f,l,o,r⟩
    ·rw[aB] at d; subst d; exact absurd o.symm e
   ·refine ⟨⟨a.2.2.2,aN _ (aB.2 rfl)⟩,fun v=> ?_⟩
    show v∈_++[a.2.2.2]↔_
    rw[aE,z,aB]
    constructor
    ·rintro (⟨b,d,f,l,o,r⟩ | rfl)
     ·exact ⟨b,aG _ d,f,l,o,r⟩
     ·exact ⟨a,aN _ (aB.2 rfl),y.2,y.1,rfl,rfl⟩
    ·rintro ⟨b,d,f,l,o,r⟩
     rcases aE.1 d with d | d
     ·exact .inl ⟨b,d,f,l,o,r⟩
     ·rw[aB] at d; subst d; exact .inr r
  ·rcases aE.1 i with i | i
   ·obtain ⟨p,j,e⟩:=g.all b i d f
    by_cases E:p.1=wdA c a
    ·exact ⟨_,(HZ (k:= .str) g.nod).2 (.inr rfl),by rw[← e,E]⟩
    ·exact ⟨p,(HZ (k:= .str) g.nod).2 (.inl ⟨j,E⟩),e⟩
   ·rw[aB] at i; subst i
    exact ⟨_,(HZ (k:= .str) g.nod).2 (.inr rfl),rfl⟩
 ·rename_i y
  refine ⟨g.nod,fun p j=>⟨(g.mem p j).1,fun v=>((g.mem p j).2 v).trans ⟨fun ⟨b,d,f⟩=>⟨b,aG _ d,f⟩,fun ⟨b,d,f,l,o⟩=> ?_⟩⟩,fun b i d f=> ?_⟩
  ·rcases aE.1 d with d | d
   ·exact ⟨b,d,f,l,o⟩
   ·rw[aB] at d; subst d; exact absurd ⟨l,f⟩ y
  ·rcases aE.1 i with i | i
   ·exact g.all b i d f
   ·rw[aB] at i; subst i; exact absurd ⟨f,d⟩ y
theorem Qjw:∀(l rs:List DAr) {A:DLv},AfI c h S rs A→AfI c h S (rs++l) (l.foldl (afS c S h) A)
 | [],rs,A,g=>by rw[bq]; exact g
 | a :: l,rs,A,g=>by
  have:=Qjw l (rs++[a]) (g.step (a:=a))
  rw[aP] at this
  exact this
theorem Qca:AfI c h S c.2.2 (afV c S h):=by
 have:=Qjw (c:=c) (h:=h) (S:=S) c.2.2 [] AfI.zero
 rw[ci] at this
 exact this
structure NxI (c:DSg) (h:Int) (V:ByteArray→Int→Prop) (M:DLv):Prop where
  nod:M.Pairwise fun p q=>p.1≠q.1
  mem:∀p∈M,(∃v,V p.1 v)∧∀u,u∈p.2↔Ch c.2.2 h (fun v=>V p.1 v) u
  all:∀s v,V s v→∃p∈M,p.1=s
theorem NxI.congr {V W:ByteArray→Int→Prop}(g:NxI c h V M)(e:∀s v,V s v↔W s v):NxI c h W M:=
 ⟨g.nod,fun p d=>⟨(g.mem p d).1.imp fun v b=>(e _ _).1 b,fun u=>((g.mem p d).2 u).trans (Ch.congr fun v=>e _ _)⟩,fun s v b=>g.all s v ((e _ _).2 b)⟩
theorem NxI.zero:NxI c h (fun _ _=>False) []:=⟨bF,by simp,fun _ _ k=>k.elim⟩
theorem NxI.step {V:ByteArray→Int→Prop}{W:Int→Prop}(g:NxI c h V M)(l:∀v,¬V s v)(o:∀u,u∈T_↔Ch c.2.2 h W u)(j:∃w,W w):NxI c h (fun s' i=>V s' i∨(s'=s∧W i)) (Y2 .str M s T_):=by
 have f:∀p∈M,p.1≠s:=fun p b e=>by
  obtain ⟨v,d⟩:=(g.mem p b).1
  rw[e] at d; exact l v d
 refine ⟨KT (k:= .str) g.nod,fun p b=> ?_,fun s' i d=> ?_⟩
 ·rcases (HZ (k:= .str) g.nod).1 b with ⟨b,e⟩ | rfl
  ·exact ⟨(g.mem p b).1.imp fun _=> .inl,fun u=>((g.mem p b).2 u).trans (Ch.congr fun v=>⟨.inl,fun k=>k.resolve_right fun k=>e k.1⟩)⟩
  ·exact ⟨j.imp fun w j=> .inr ⟨rfl,j⟩,fun u=>(o u).trans (Ch.congr fun v=>⟨fun k=> .inr ⟨rfl,k⟩,fun k=>k.elim (fun k=>absurd k (l v)) fun k=>k.2⟩)⟩
 ·rcases d with d | ⟨rfl,_⟩
  ·obtain ⟨p,b,e⟩:=g.all s' i d
   exact ⟨p,(HZ (k:= .str) g.nod).2 (.inl ⟨b,f p b⟩),e⟩
  ·exact ⟨_,(HZ (k:= .str) g.nod).2 (.inr rfl),rfl⟩
def Vm (c:DSg)(h:Int)(D:DLv)(q:ByteArray×List Int)(E:DLv)(s:ByteArray)(v:Int):Prop:=Vs c h D s v∨∃p∈E,s=q.1++p.1∧v∈p.2
theorem QtY:Vm c h D q [] s v↔Vs c h D s v:=by simp[Vm]
theorem QwE {E:DLv}(r:∀p,p∈E↔p∈afV c q.2 h):Vm c h D q E s v↔Vs c h (D++[q]) s v:=by
 have g:=Qca (c:=c) (h:=h) (S:=q.2)
 unfold Vm Vs
 constructor
 ·rintro (⟨x,b,k⟩ | ⟨p,j,rfl,w⟩)
  ·exact ⟨x,aG _ b,k⟩
  ·obtain ⟨a,d,f,i,l,o⟩:=((g.mem p ((r p).1 j)).2 v).1 w
   exact ⟨q,aN _ (aB.2 rfl),a,d,f,i,by rw[l],o⟩
 ·rintro ⟨x,b,a,d,f,i,l,o⟩
  rcases aE.1 b with b | b
  ·exact .inl ⟨x,b,a,d,f,i,l,o⟩
  ·rw[aB] at b; subst b
   obtain ⟨p,j,e⟩:=g.all a d f i
   exact .inr ⟨p,(r p).2 j,by rw[l,e],((g.mem p j).2 v).2 ⟨a,d,f,i,e.symm,o⟩⟩
theorem QwL {E:DLv}(H:SgOk c)(g:Lev c h n K)(J:∀x∈D,x∈K)(P:q∈K)(y:∀x∈D,x.1≠q.1)(N:∀x∈E,x∈afV c q.2 h)(O:p∈afV c q.2 h)(r:∀x∈E,x.1≠p.1):∀v,¬Vm c h D q E (q.1++p.1) v:=fun v k=>by
 have G:=Qca (c:=c) (h:=h) (S:=q.2)
 have i:∀x∈afV c q.2 h,∃a∈c.2.2,inv h a=false∧a.1∈q.2∧wdA c a=x.1:=fun x d=>by
  obtain ⟨w,Q⟩:=(G.mem x d).1
  obtain ⟨a,R,T,U,V,_⟩:=((G.mem x d).2 w).1 Q
  exact ⟨a,R,T,U,V⟩
 obtain ⟨a,B,C,I,j⟩:=i p O
 have z:=((g.mem q P).2 _).1 I
 rcases k with ⟨x,d,b,l,o,F,f,_⟩ | ⟨x,d,e,_⟩
 ·rw[← j] at f
  exact y x d (QrB H z (((g.mem x (J x d)).2 _).1 F) B l C o f).1.symm
 ·obtain ⟨b,l,o,F,f⟩:=i x (N x d)
  rw[← j,← f] at e
  exact r x d (by rw[← j,← f,(QrB H z z B l C o e).2])
structure OuI (c:DSg) (h:Int) (n:Nat) (out:List ByteArray):Prop where
  nod:out.Nodup
  mem:∀t,t∈out↔∃m,m≤n∧∃u,Tr c h m t u
theorem OuI.zero:OuI c h 0 [ByteArray.empty]:=⟨by simp,fun t=>by
 rw[aB]
 exact ⟨fun e=>⟨0,aO _,0,by rw[e]; exact .zero⟩,fun ⟨m,b,u,k⟩=>by rw[Nat.le_zero.1 b] at k; exact (K6.1 k).1⟩⟩
theorem OuI.len (e:SgOk c)(d:TO ltB){out:List ByteArray}(g:OuI c h n out):out.length=(txL c h n).length:=
 Nat.le_antisymm (KQ g.nod fun t b=>(KL e n).2 ((g.mem t).1 b)) (KQ (Qtw d (Hq d n)) fun t b=>(g.mem t).2 ((KL e n).1 b))
theorem OuI.next (w:SgOk c){out:List ByteArray}(g:OuI c h n out)(k:Lev c h (n+1) M){E:DLv}(i:E.Perm M):OuI c h (n+1) (out++E.map fun p=>p.1):=by
 have r:(E.map fun p=>p.1).Nodup:=by
  unfold List.Nodup
  rw[cK]
  exact i.symm.pairwise k.nod fun h e=>h e.symm
 refine ⟨aV.2 ⟨g.nod,r,fun x B y C e=> ?_⟩,fun t=> ?_⟩
 ·subst e
  obtain ⟨m,l,u,b⟩:=(g.mem x).1 B
  obtain ⟨p,f,rfl⟩:=aR.1 C
  have d:=k.mem p (i.mem_iff.1 f)
  obtain ⟨F,j⟩:=d.1
  have:=QvZ w b ((d.2 F).1 j)
  omega
 ·rw[aE,g.mem]
  constructor
  ·rintro (⟨m,l,b⟩ | o)
   ·exact ⟨m,by omega,b⟩
   ·obtain ⟨p,f,rfl⟩:=aR.1 o
    have d:=k.mem p (i.mem_iff.1 f)
    exact ⟨n+1,aO _,d.1.imp fun u z=>(d.2 u).1 z⟩
  ·rintro ⟨m,l,u,b⟩
   by_cases e:m=n+1
   ·subst e
    obtain ⟨p,f,rfl⟩:=k.all t u b
    exact .inr (aR.2 ⟨p,i.mem_iff.2 f,rfl⟩)
   ·exact .inl ⟨m,by omega,u,b⟩
end
end Go.Proofs.YtgpdhgadmjfokaaGreat
namespace Go.Proofs.YtgpdhgadmjfokaaGreat
open Go.RowKit
set_option maxRecDepth 100000
set_option maxHeartbeats 4000000
theorem Qtt {α:Type _}[DecidableEq α]{lt:α→α→Bool}(x:α):∀l:List α,(Z9 lt x l).length≤l.length+1
 | []=>aO _
 | y :: l=>by
  unfold Z9
  have:=Qtt (lt:=lt) x l
  split
  ·simp only[aj]; omega
  ·split <;> simp
section
variable {c:DSg}{h:Int}{n k i j:Nat}{S set:List Int}{a:DAr}{rs as_:List DAr}{x y z:DTx}{l L out:List DTx}{s t:ByteArray}{u v:Int}{g:QD}
theorem QoA (d:SgOk c)(b:c.1[k]? =some g):g.1.size≤6:=(d.sigs.1 k (ai.1 b).1 g b).1.2.2
theorem QsP {b:Bool}:(sgB b).size=1:=by unfold sgB; split <;> rfl
theorem Qjb (d:SgOk c):(wdA c a).size≤7:=by
 unfold wdA
 rw[aX,QsP]
 cases b:c.1[a.2.1.toNat]? with
 | none=>simp
 | some g=>have:=QoA d b; simp only[ao]; omega
theorem Qul (d:SgOk c)(k:Tr c h n t u):t.size≤7*n:=by
 induction k with
 | zero=>exact aO _
 | still _ _ _ b=>exact b
 | word _ _ _ b=>rw[aX]; have:=Qjb (c:=c) d (a:=by assumption); omega
theorem JY (e:SgOk c)(d:a∈c.2.2)(b:¬a.2.1= -1):0≤a.2.1∧a.2.1 < (c.1.length:Int):=by
 have:=(e.arcs a d).2.2.1.resolve_right fun k=>b k.1
 omega
def ftT (x:DTx)(j:Nat)(y:DTx):DTx:=(y.1,(x.2.1.take j).foldl (fun s k=>Z9 ltI k s) y.2.1,y.2.2)
theorem Qja:∀(m:List Int) {s:List Int},(m.foldl (fun s k=>Z9 ltI k s) s).length≤s.length+m.length
 | [],s=>aO _
 | k :: m,s=>by have b:=Qja m (s:=Z9 ltI k s); have d:=Qtt (lt:=ltI) k s; simp only[aT,aj]; omega
def Sm (N:Nat)(l:List DTx):Prop:=l.length≤N∧∀y∈l,y.2.1.length≤N
theorem Sm.put (g:Sm n l)(w:x.2.1.length≤1):Sm (n+1) (HK l x):=by
 obtain ⟨p,f⟩:=g
 suffices k:∀l:List DTx,(∀y∈l,y.2.1.length≤n)→(HK l x).length≤l.length+1∧∀y∈HK l x,y.2.1.length≤n+1 by
  obtain ⟨o,e⟩:=k l f
  exact ⟨by omega,e⟩
 intro l
 induction l with
 | nil=>exact fun _=>⟨aO _,fun y b=>by rw[HK,aB] at b; subst b; omega⟩
 | cons z l m=>
  intro d
  rw[HK]
  split
  ·refine ⟨by simp,fun y b=> ?_⟩
   rcases aD.1 b with rfl | b
   ·have q:=Qja x.2.1 (s:=z.2.1)
    have r:=d z (ax ..)
    dsimp only; omega
   ·have:=d y (aw _ b); omega
  ·obtain ⟨o,e⟩:=m fun y b=>d y (aw _ b)
   refine ⟨by simp only[aj]; omega,fun y b=> ?_⟩
   rcases aD.1 b with rfl | b
   ·have:=d y (ax ..); omega
   ·exact e y b
theorem Sm.ar (g:Sm n l):Sm (n+1) (arT c h x l a):=by
 unfold arT
 split
 ·exact g.put (aO _)
 ·exact ⟨da g.1,fun y b=>da (g.2 y b)⟩
theorem Sm.row:∀(as_:List DAr) {n:Nat} {l:List DTx},Sm n l→Sm (n+as_.length) (Qvi c h as_ x l)
 | [],_,_,g=>g
 | a :: l,n,_,g=>by
  have:=Sm.row l (g.ar (c:=c) (h:=h) (x:=x) (a:=a))
  rw[show n+(a :: l).length=n+1+l.length by simp only[aj]; omega]
  exact this
theorem Sm.le {m:Nat}(g:Sm n l)(h:n≤m):Sm m l:=⟨by have:=g.1; omega,fun y b=>by have:=g.2 y b; omega⟩
theorem Qs2 (d:c.2.2.length≤4000):∀(L:List DTx) {n:Nat} {l:List DTx},Sm n l→Sm (n+4000*L.length) (Qo5 c h L l)
 | [],_,_,g=>g
 | x :: L,n,_,g=>by
  have b:=(Sm.row (c:=c) (h:=h) (x:=x) c.2.2 g).le (m:=n+4000) (by omega)
  have:=Qs2 d L b
  rw[show n+4000*(x :: L).length=n+4000+4000*L.length by simp only[aj]; omega]
  exact this
theorem Sm.zero:Sm 0 []:=⟨aO _,fun _ h=>by cases h⟩
theorem Qw2 (b:c.2.2.length≤4000)(d:L.length≤n):Sm (4000*n) (Qo5 c h L []):=(Qs2 (h:=h) b L Sm.zero).le (by omega)
def txP (c:DSg)(h:Int):Nat→List ByteArray
 | 0=>[]
 | n+1=>txL c h n
theorem Qt8 (b:SgOk c):(Uj c h (n+1)).length≤4000*(Uj c h n).length:=by
 have:=(Qw2 (c:=c) (h:=h) b.few (aO (Uj c h n).length)).1
 rw[Uj,Qxc,aC]; omega
theorem Qup (d:SgOk c):(Uj c h n).length≤(txL c h n).length:=by
 have b:=(Qdt (h:=h) d n).1.1
 have e:=fun t=>KL (h:=h) (t:=t) d n
 have f:((Uj c h n).map fun x=>x.1).Nodup:=by
  have:=b.nod
  unfold unT at this
  rw[cK] at this
  unfold List.Nodup
  rw[cK]; exact this
 have o:=KQ f (m:=txL c h n) fun t p=>by
  obtain ⟨x,r,rfl⟩:=aR.1 p
  obtain ⟨u,q⟩:=(QiG b).1 ⟨x,r,rfl⟩
  exact (e _).2 ⟨n,aO _,u,q⟩
 rwa [aC] at o
end
end Go.Proofs.YtgpdhgadmjfokaaGreat
namespace Go.Proofs.YtgpdhgadmjfokaaGreat
open Go.RowKit
set_option maxRecDepth 100000
set_option maxHeartbeats 4000000
section
variable {c:DSg}{h:Int}{n k i j:Nat}{S set:List Int}{a:DAr}{rs as_:List DAr}{out:List Int}{s t:ByteArray}{u v:Int}{K M A D E L L1 L2:DLv}{p q:ByteArray×List Int}
theorem Qsi (m:S.Nodup)(b:∀u∈S,0≤u∧u < (n:Int)):S.length≤n:=by
 have d:(S.map Int.toNat).Nodup:=by
  unfold List.Nodup
  rw[cK]
  exact List.Pairwise.imp_of_mem (fun g l h e=>h (by have:=b _ g; have:=b _ l; omega)) m
 have f:(S.map Int.toNat) ⊆ List.range n:=fun x r=>by
  obtain ⟨u,o,rfl⟩:=aR.1 r
  have:=b u o
  exact cr.2 (by omega)
 have:=KQ d f
 rwa [aC,List.length_range] at this
def clV (c:DSg)(h:Int)(S:List Int):List Int:=clL c.2.2 h 301 0 S
@[reducible] def Rng (c:DSg) (S:List Int):Prop:=S.Nodup∧∀u∈S,0≤u∧u < (c.2.1.length:Int)
theorem QwR (f:SgOk c)(e:Rng c S)(k:Ch c.2.2 h (fun v=>v∈S) v):0≤v∧v < (c.2.1.length:Int):=by
 induction k with
 | base b=>exact e.2 _ b
 | step _ d _ _=>exact QhS f d
theorem QoK (b:SgOk c)(d:Rng c S)(g:ClI c.2.2 h (fun v=>v∈S) k out):out.length≤300:=by
 have:=Qsi g.nod fun u e=>QwR b d (g.ch u e)
 have:=b.some_; omega
theorem Qu6 (b:clL rs h (301 - k) k out=S)(d:out[k]? =some u)(e:k < 301):clL rs h (301 - (k+1)) (k+1) (clA rs h u out)=S:=by
 rw[show 301 - k=(301 - (k+1))+1 by omega,clL,d] at b; exact b
theorem Qxs (b:clL rs h (301 - k) k out=S)(g:out.length≤k):out=S:=by
 have e:out[k]? =none:=bD g
 cases d:301 - k with
 | zero=>rw[d] at b; exact b
 | succ f=>rw[d,clL,e] at b; exact b
theorem QsF (d:SgOk c)(b:Rng c S):∀(f:Nat) {k:Nat} {out:List Int},k+f=301→ClI c.2.2 h (fun v=>v∈S) k out→(∀v,v∈clL c.2.2 h f k out↔Ch c.2.2 h (fun v=>v∈S) v)∧(clL c.2.2 h f k out).Nodup
 | 0,k,out,e,g=>by have m:=g.le; have o:=QoK d b g; omega
 | f+1,k,out,e,g=>by
  rw[clL]
  cases l:out[k]? with
  | none=>exact ⟨g.end_ (List.getElem?_eq_none_iff.1 l),g.nod⟩
  | some u=>exact QsF d b f (by omega) (g.step l)
theorem QqH (d:SgOk c)(b:Rng c S):(∀v,v∈clV c h S↔Ch c.2.2 h (fun v=>v∈S) v)∧(clV c h S).Nodup:=QsF d b 301 (bV _) (ClI.zero b.1 fun _=>Iff.rfl)
theorem Qya (b:out[k]? =some u)(d:(clA as_ h u out)[k]? =some v):v=u:=by
 obtain ⟨r,e⟩:=Qbr (as_:=as_) (h:=h) (u:=u) (S:=out)
 rw[e,ba (ai.1 b).1,b] at d
 cases d; rfl
theorem QyL:out.length≤(clA as_ h u out).length:=by
 obtain ⟨r,b⟩:=Qbr (as_:=as_) (h:=h) (u:=u) (S:=out)
 rw[b,ae]; omega
theorem Qwi:(clA as_ h u out).length≤out.length+as_.length:=by
 unfold clA
 induction as_ generalizing out with
 | nil=>exact aO _
 | cons a l b=>
  rw[aT]
  split
  ·have:=b (out:=out++[a.2.2.2]); simp only[ae,aj,aA] at this ⊢; omega
  ·have:=b (out:=out); simp only[aj]; omega
theorem QaS (b:rs[i]? =some a):clA (rs.take (i+1)) h u out=if a.1=u∧inv h a=true∧¬a.2.2.2∈clA (rs.take i) h u out then clA (rs.take i) h u out++[a.2.2.2] else clA (rs.take i) h u out:=by
 rw[QG b]; unfold clA
 rw[bm]; rfl
theorem Ql0 {l:List Int}(k:(l.any fun y=>decide (v=y))=false):¬v∈l:=fun b=>by
 have:=cD.1 k v b
 simp at this
theorem QqX {l:List Int}(k:(l.any fun y=>decide (v=y))=true):v∈l:=by
 obtain ⟨y,b,e⟩:=ck.1 k
 rw[ab e]; exact b
theorem Qgm (f:rs[i]? =some a)(b:a.1=u)(d:a.2.1= -1)(e:((clA (rs.take i) h u out).any fun y=>decide (a.2.2.2=y))=false):clA (rs.take i) h u out++[a.2.2.2]=clA (rs.take (i+1)) h u out:=by rw[QaS f,if_pos ⟨b,QcR.2 (.inl d),Ql0 e⟩]
theorem Qg8 (f:rs[i]? =some a)(b:a.1=u)(d:a.2.1=h)(e:((clA (rs.take i) h u out).any fun y=>decide (a.2.2.2=y))=false):clA (rs.take i) h u out++[a.2.2.2]=clA (rs.take (i+1)) h u out:=by rw[QaS f,if_pos ⟨b,QcR.2 (.inr d),Ql0 e⟩]
theorem Qgh (d:rs[i]? =some a)(b:¬a.1=u):clA (rs.take i) h u out=clA (rs.take (i+1)) h u out:=by rw[QaS d,if_neg (fun g=>b g.1)]
theorem Qgy (e:rs[i]? =some a)(b:¬a.2.1= -1)(d:¬a.2.1=h):clA (rs.take i) h u out=clA (rs.take (i+1)) h u out:=by rw[QaS e,if_neg (fun g=>(QcR.1 g.2.1).elim b d)]
theorem QgA (d:rs[i]? =some a)(b:((clA (rs.take i) h u out).any fun y=>decide (a.2.2.2=y))=true):clA (rs.take i) h u out=clA (rs.take (i+1)) h u out:=by rw[QaS d,if_neg (fun g=>g.2.2 (QqX b))]
def edT (ss:List QD)(l:Int×Bool):ByteArray:=if l.1 < 0 then ⟨#[126]⟩ else ((ss[l.1.toNat]?).getD (ByteArray.empty,0)).1++sgB l.2
theorem Qyb (b:0≤a.2.1):edT c.1 (a.2.1,a.2.2.1)=wdA c a:=by unfold edT; rw[if_neg (by dsimp only; omega)]; rfl
def afT (c:DSg)(S:List Int)(h:Int)(i:Nat):DLv:=(c.2.2.take i).foldl (afS c S h) []
theorem QnJ (hi:c.2.2.length≤i):afT c S h i=afV c S h:=by unfold afT afV; rw[bB hi]
theorem Qa0 (b:c.2.2[i]? =some a):afT c S h (i+1)=afS c S h (afT c S h i) a:=by unfold afT; rw[QG b,bm]; rfl
theorem QtV (f:c.2.2[i]? =some a)(e:(S.any fun y=>decide (a.1=y))=true)(b:¬a.2.1= -1)(d:¬a.2.1=h)(h0:0≤a.2.1):Y2 .str (afT c S h i) (edT c.1 (a.2.1,a.2.2.1)) (((Z4 .str (afT c S h i) (edT c.1 (a.2.1,a.2.2.1))).getD [])++[a.2.2.2])=afT c S h (i+1):=by
 rw[Qa0 f,Qyb h0,afS,if_pos ⟨QqX e,QcY.2 ⟨b,d⟩⟩]
theorem QnN (d:c.2.2[i]? =some a)(b:(S.any fun y=>decide (a.1=y))=false):afT c S h i=afT c S h (i+1):=by rw[Qa0 d,afS,if_neg fun g=>Ql0 b g.1]
theorem QnR (d:c.2.2[i]? =some a)(b:a.2.1= -1):afT c S h i=afT c S h (i+1):=by rw[Qa0 d,afS,if_neg fun g=>(QcY.1 g.2).1 b]
theorem Qnv (d:c.2.2[i]? =some a)(b:a.2.1=h):afT c S h i=afT c S h (i+1):=by rw[Qa0 d,afS,if_neg fun g=>(QcY.1 g.2).2 b]
theorem Qt9 (g:∀z,((Z4 .str A z).getD []).length≤n):∀z,((Z4 .str (afS c S h A a) z).getD []).length≤n+1:=fun z=>by
 unfold afS
 split
 ·rw[VJ]
  split
  ·have:=g (wdA c a); simp only[ao,ae,aj,aA]; omega
  ·have:=g z; omega
 ·have:=g z; omega
theorem Qna:∀(l:List DAr) {n:Nat} {A:DLv},(∀z,((Z4 .str A z).getD []).length≤n)→∀z,((Z4 .str (l.foldl (afS c S h) A) z).getD []).length≤n+l.length
 | [],_,_,g=>g
 | a :: l,n,_,g=>fun z=>by
  have:=Qna l (Qt9 (c:=c) (S:=S) (h:=h) (a:=a) g) z
  simp only[aT,aj] at this ⊢; omega
theorem Qtb (z:ByteArray):((Z4 .str (afT c S h i) z).getD []).length≤i:=by
 have:=Qna (c:=c) (S:=S) (h:=h) (c.2.2.take i) (n:=0) (A:=[]) (fun z=>aO _) z
 simp only[ap] at this
 unfold afT; omega
theorem Qwk (l:SgOk c)(f:p∈afV c S h):p.2.length≤4000:=by
 have g:=Qca (c:=c) (h:=h) (S:=S)
 obtain ⟨j,e⟩:=aM.1 f
 have d:=Us (k:= .str) g.nod e rfl
 have b:=Qtb (c:=c) (S:=S) (h:=h) (i:=c.2.2.length) p.1
 rw[QnJ (aO _),d] at b
 have:=l.few
 simp only[ao] at b; omega
theorem Qtj (e:SgOk c)(d:p∈afV c S h):Rng c (ofG ltI p.2):=by
 refine ⟨Qcw (QaV Xb _),fun u f=> ?_⟩
 obtain ⟨a,b,_,_,_,rfl⟩:=(((Qca (c:=c) (h:=h) (S:=S)).mem p d).2 u).1 ((Kv Xb _).1 f)
 exact QhS e b
theorem Qvp (d:SgOk c)(b:p∈afV c S h):p.1.size≤7:=by
 have g:=(Qca (c:=c) (h:=h) (S:=S)).mem p b
 obtain ⟨v,f⟩:=g.1
 obtain ⟨a,_,_,_,e,_⟩:=(g.2 v).1 f
 rw[← e]; exact Qjb d
theorem QiO (b:SgOk c):Rng c [0]:=⟨by simp,fun u d=>by rw[aB] at d; have:=b.some_; omega⟩
theorem Qsx (e:SgOk c):Lev c h 0 [(ByteArray.empty,clV c h [0])]:=by
 have g:=(QqH (h:=h) e (QiO e)).1
 have b:∀v,v∈clV c h [0]↔Ch c.2.2 h (fun v=>v=0) v:=fun v=>(g v).trans (Ch.congr fun v=>aB)
 refine ⟨cy ..,fun p d=> ?_,fun t u f=>⟨_,aB.2 rfl,(K6.1 f).1.symm⟩⟩
 rw[aB] at d; subst d
 exact ⟨⟨0,(b 0).2 (.base rfl)⟩,fun u=>(b u).trans ⟨fun k=>K6.2 ⟨rfl,k⟩,fun k=>(K6.1 k).2⟩⟩
theorem Qcg (g:(D++L).Perm K)(e:L=L1++q :: L2):((D++[q])++(L1++L2)).Perm K:=by
 subst e
 refine List.Perm.trans ?_ g
 rw[aP]
 refine List.Perm.append_left _ ?_
 exact (List.perm_middle (a:=q) (l₁:=L1) (l₂:=L2)).symm
theorem Hv (g:(D++L).Perm K)(e:L=L1++q :: L2):q∈K:=g.mem_iff.1 (by rw[e]; simp)
theorem QoN (g:(D++L).Perm K):∀x∈D,x∈K:=fun x b=>g.mem_iff.1 (aG _ b)
theorem Qow (g:(D++L).Perm K)(d:K.Pairwise fun p q=>p.1≠q.1)(e:L=L1++q :: L2):∀x∈D,x.1≠q.1:=fun x f=>by
 have b:=g.symm.pairwise d fun h e=>h e.symm
 exact (List.pairwise_append.1 b).2.2 x f q (by rw[e]; simp)
theorem Qfw (g:(D++L).Perm K)(e:L=[]):D.Perm K:=by rw[e,bq] at g; exact g
theorem Qve (g:D.Perm K):Vs c h D s v↔Vs c h K s v:=by
 unfold Vs
 exact ⟨fun ⟨q,b,k⟩=>⟨q,g.mem_iff.1 b,k⟩,fun ⟨q,b,k⟩=>⟨q,g.mem_iff.2 b,k⟩⟩
theorem Qux:Vm c h D q (E++[p]) s v↔Vm c h D q E s v∨(s=q.1++p.1∧v∈p.2):=by
 unfold Vm
 constructor
 ·rintro (k | ⟨x,b,k⟩)
  ·exact .inl (.inl k)
  ·rcases aE.1 b with b | b
   ·exact .inl (.inr ⟨x,b,k⟩)
   ·rw[aB] at b; subst b; exact .inr k
 ·rintro ((k | ⟨x,b,k⟩) | k)
  ·exact .inl k
  ·exact .inr ⟨x,aG _ b,k⟩
  ·exact .inr ⟨p,aN _ (aB.2 rfl),k⟩
theorem QuW:NxI c h (Vs c h []) []:=NxI.zero.congr fun s v=>by simp[Vs]
theorem QxT (g:NxI c h (Vs c h D) M):NxI c h (Vm c h D q []) M:=g.congr fun _ _=>QtY.symm
theorem Qvv (f:SgOk c)(r:Lev c h n K)(g:NxI c h (Vm c h D q E) M)(b:(D++L).Perm K)(m:L=L1++q :: L2){R w x:DLv}(d:(E++R).Perm (afV c q.2 h))(l:R=w++p :: x):NxI c h (Vm c h D q (E++[p])) (Y2 .str M (q.1++p.1) (clV c h (ofG ltI p.2))):=by
 have o:=Qca (c:=c) (h:=h) (S:=q.2)
 have e:=Hv d l
 refine (g.step (W:=fun v=>v∈p.2) (QwL f r (QoN b) (Hv b m) (Qow b r.nod m) (QoN d) e (Qow d o.nod l)) (fun u=>((QqH f (Qtj f e)).1 u).trans (Ch.congr fun v=>Kv Xb _)) ((o.mem p e).1)).congr fun s v=>Qux.symm
theorem Qwy (g:NxI c h (Vm c h D q E) M){R:DLv}(b:(E++R).Perm (afV c q.2 h))(e:R=[]):NxI c h (Vs c h (D++[q])) M:=g.congr fun _ _=>QwE fun _=>(Qfw b e).mem_iff
theorem Qwc (f:Lev c h n K)(g:NxI c h (Vs c h D) M)(d:(D++L).Perm K)(e:L=[]):Lev c h (n+1) M:=by
 have b:NxI c h (Vs c h K) M:=g.congr fun _ _=>Qve (Qfw d e)
 exact f.next b.nod b.mem b.all
theorem Qu7 (e:SgOk c)(b:Lev c h n K)(d:q∈K):q.1.size≤7*n:=by
 obtain ⟨u,f⟩:=(b.mem q d).1
 exact Qul e (((b.mem q d).2 u).1 f)
theorem QwQ (b:SgOk c){out:List ByteArray}(g:OuI c h n out):VZ out=txL c h n:=
 Wx.ext (Qsh g.nod) (Hq Wx n) fun t=>by rw[(K0 out).mem_iff,g.mem,KL b]
end
end Go.Proofs.YtgpdhgadmjfokaaGreat
namespace Go.Proofs.YtgpdhgadmjfokaaGreat
open Go.RowKit
set_option maxRecDepth 100000
set_option maxHeartbeats 4000000
def Qzl (l:List ByteArray)(s:ByteArray):Bool:=l.any fun y=>decide (s=y)
section
variable {l:List ByteArray}{s y:ByteArray}{m:Int}
end
section
variable {c:DSg}[Decidable (SgOk c)]{h m mo:Int}{n:Nat}
theorem Qha (k:¬QmG c h m):([],false)=trV c h m:=(Qv0 k).symm
end
section
variable {a b:Q5}[∀s,Decidable (StgOk s)][∀c,Decidable (SgOk c)]{m:Int}{k:Nat}{s:ByteArray}
def tiV (a b:Q5)[∀s,Decidable (StgOk s)][∀c,Decidable (SgOk c)](m:Int):Bool×Bool:=
 if (sgV a).2=true∧(sgV b).2=true∧(trV (sgV a).1 (-1) m).2=true∧(trV (sgV b).1 (-1) m).2=true then ((trV (sgV a).1 (-1) m).1.all fun s=>Qzl (trV (sgV b).1 (-1) m).1 s,true) else (false,false)
end
end Go.Proofs.YtgpdhgadmjfokaaGreat
namespace Go.Proofs.YtgpdhgadmjfokaaGreat
open Go.RowKit
set_option maxRecDepth 100000
set_option maxHeartbeats 4000000
section
variable {ss:List QD}{l:Int×Bool}{g:QD}
theorem QzG (h:l.1 < 0):(⟨#[126]⟩:ByteArray)=edT ss l:=(if_pos h).symm
theorem Qzp (h:¬l.1 < 0)(a:ss[l.1.toNat]? =some g)(b:l.2=true):g.1++(⟨#[43]⟩:ByteArray)=edT ss l:=by unfold edT sgB; rw[if_neg h,a,if_pos b]; rfl
theorem QzA (h:¬l.1 < 0)(a:ss[l.1.toNat]? =some g)(b:l.2=false):g.1++(⟨#[45]⟩:ByteArray)=edT ss l:=by unfold edT sgB; rw[if_neg h,a,b]; rfl
end
theorem QcG (a:QmB)(l:KO)(f:∀g∈a,g.1.size≤6)(p:l.1 < (a.length:Int)):FC Tryz.prog 219 [(false,[.dat Ql a]),(true,[dI l.1,dB l.2])] [] 0 (Q7 (lf (dS (edT a l)))):=by
 refine Qt Tryz.func219 rfl rfl Tryz.ntmps219 fun n d m h o j i=> ?_
 refine acG 1 0 fun _=> ?_
 refine w_ ?_
 refine xbx 0 ?_
 refine w10 ?_
 refine cd_ (fun _ _=> ?_) fun _ _=> ?_
 refine w5 ?_
 cases k:(l.2)
 refine w7 ?_
 obtain ⟨q,b⟩:=gx a ((l.1).toNat)
 have e:=f _ (ah b)
 refine w3 ?_
 refine lc (Zn (Qa rfl) (Evl.str rfl) rfl (by (simp only[Xt]; omega))) ?_
 refine w2 ?_
 refine Qd<|fqS d ?_
 exact QzA ‹_› b ‹_›
 refine w5 ?_
 obtain ⟨r,c⟩:=gx a ((l.1).toNat)
 have e:=f _ (ah c)
 refine w3 ?_
 refine lc (Zn (Qa rfl) (Evl.str rfl) rfl (by (simp only[Xt]; omega))) ?_
 refine w2 ?_
 refine Qd<|fqS d ?_
 exact Qzp ‹_› c ‹_›
 refine w3 ?_
 refine Qd<|fqS d ?_
 first | exact QzG ‹_›
theorem QeG (s:List Int)(m:s.length≤100000000):FC Tryz.prog 218 [(false,[.dat QA s])] [] 0 (YJ 3 .int s):=by
 refine Qt Tryz.func218 rfl rfl Tryz.ntmps218 fun i b h c j f d=> ?_
 refine w6 ?_
 refine Qe9 (Qa rfl) Evl.val Yg rfl fun k a=> ?_
 refine w_ ?_
 refine cb_ (fun _=> ?_) fun _=> ?_
 refine w2 ?_
 refine lc (dBs 0 (e:= .int) Yj) ?_
 refine w_ ?_
 refine lc (QU 1 (Qa rfl) rfl (Evl.rep (Qa rfl)) rfl Yg Y4 (by first | omega | (simp only[ae,aC,ap,aj,aA]; omega) | (simp only[ae,bo,ap,aj,aA]; omega)) rfl (Fresh.of rfl) (nlr rfl)) ?_
 refine w2 ?_
 refine Qd<|fo_ b ?_
 rfl
 refine w3 ?_
 refine AC.wk (Wk.nilS 2 2 3 .int rfl (Fresh.of rfl) (nlr rfl))<|Qd<|fo_ b ?_
 exact (a ‹_›).symm
theorem Jz (c:ZB)(set:List Int)(b:Int)(D:SgOk c)(C:Rng c set):FC Tryz.prog 108 [(true,[.dat Ql c.1, .dat Qm c.2.1, .dat Qu c.2.2]),(false,[.dat QA set]),(false,[dI b])] [] 0 (YJ 3 .int (clV c b set)):=by
 have R:=D.few
 have U:=D.some_
 have W:=Qsi C.1 C.2
 refine Qt Tryz.func108 rfl rfl Tryz.ntmps108 fun O_ O Z L X_ N M=> ?_
 refine acI 2 fun _=> ?_
 refine w_ ?_
 refine xbx 0 ?_
 refine w4 ?_
 refine lc (dO 1 (QeG set (by omega)) Qln) ?_
 refine w7 ?_
 refine QL (fun J K=>∃(k:Nat) (j:List Int),k≤301∧J=301 - k∧(clL c.2.2 b (301 - k) k j=clV c b set)∧(ClI c.2.2 b (fun v=>v∈set) k j)∧K=⟨[(2,lI b),(3,lP 0 0),(6,lf (.val (.slice none 0 0))),(7,lR 2),(8,lI (k:Int))],[bx 0 27 [.dat Ql c.1, .dat Qm c.2.1, .dat Qu c.2.2],ar 2 3 .int j]⟩) ⟨0,set,aS _,rfl,rfl,(ClI.zero C.1 fun _=>Iff.rfl),rfl⟩ ?_ ?_
 exact wo [(2,1)]
 rintro J K ⟨k,j,S,T,G,F,rfl⟩
 have V:=QoK D C F
 refine w7 ?_
 cases x:(decide ((k:Int) < (j.length:Int)))
 have z:=aa x
 refine w7 ?_
 refine Qd<|fo_ O ?_
 exact Qxs G (by omega)
 have z:=ab x
 refine w7 ?_
 refine alL 20 fun _=> ?_
 refine w4 ?_
 obtain ⟨u,E⟩:=gx j k
 refine lp0 c.2.2.length (fun i=>⟨[(2,lI b),(3,lP 0 0),(6,lf (.val (.slice none 0 0))),(7,lR 3),(8,lI (k:Int)),(13,lI (k:Int)),(15,lI (j.length:Int)),(16,lB true),(19,lP 0 2),(20,lf (.dat Qu c.2.2)),(21,lI (c.2.2.length:Int)),(22,lI (i:Int))],[bx 0 27 [.dat Ql c.1, .dat Qm c.2.1, .dat Qu c.2.2],ar 3 3 .int (clA (c.2.2.take i) b u j)]⟩) ?_ fun i _=> ?_
 exact wp [(3,2)] ⟨rfl,(Qe (rfl)),trivial⟩
 have Q:=Qwi (as_:=c.2.2.take i) (h:=b) (u:=u) (out:=j)
 have P:=QyL (as_:=c.2.2.take i) (h:=b) (u:=u) (out:=j)
 have X:(c.2.2.take i).length≤c.2.2.length:=by simp only[ap]; omega
 refine w4 ?_
 cases A:(decide ((i:Int) < (c.2.2.length:Int)))
 have B:=aa A
 refine w7 ?_
 refine Qb<|Q2 ⟨k+1,(clA (c.2.2.take i) b u j),by omega,rfl,(by rw[bB (by omega)]; exact Qu6 G E (by omega)),(by rw[bB (by omega)]; exact F.step E),rfl⟩ (by omega) ?_
 exact wp [(2,3)] ⟨rfl,(Qe (by first | rfl | simp)),trivial⟩
 have B:=ab A
 refine w5 ?_
 obtain ⟨a,d⟩:=gx c.2.2 i
 refine w2 ?_
 refine lc (xal 4 Qs Zg) ?_
 refine w2 ?_
 obtain ⟨r,p⟩:=gx (clA (c.2.2.take i) b u j) k
 have Y:=Qya E p
 cases m:(decide (a.1=r))
 have s:=aa m
 apply dW (i4 26 _ _ _ _ (io 30 (lf (.ept 3 1 k 0)) :: io 31 (lI r) :: io 32 (lB false) :: i9 33 _ _ _ _ _ _ _ _ _ (i9 42 _ _ _ _ _ _ _ _ _ []))) [0,0,3,7,3,3,0,0,0,0,0,0,0,0,12288,0,0,0,0,0,524288,524288,0,0,0]
 refine z4 ?_
 refine zz (fun _ f=>ac (QE (e:= .int) (f.v rfl) (f.en 3 rfl) (f.v rfl) Yg Yw rfl (by omega) (by first | omega | (simp only[az]; omega))) rfl)<|zz (fun _ f=>ac (Q3 (e:= .int) (f.v rfl) (f.n 3 rfl) p rfl Yw rfl rfl) rfl)<|zz (fun _ f=>ac (QC (m) (Yi (f.v rfl) (f.v rfl) rfl)) rfl) ?_
 refine z16 ?_
 exact y2
 refine w6 ?_
 refine Qb ?_
 refine l0_ ?_
 exact wp [] ⟨rfl,(Qe (by first | exact Qgm d (by omega) ‹_› ‹_› | exact Qg8 d (by omega) ‹_› ‹_› | exact Qgh d (by omega) | exact Qgy d ‹_› ‹_› | exact QgA d ‹_›)),trivial⟩
 have s:=ab m
 cases o:(decide (a.2.1=(-1)))
 have t:=aa o
 cases q:(decide (a.2.1=b))
 have w:=aa q
 apply dW (i4 26 _ _ _ _ (io 30 (lf (.ept 3 1 k 0)) :: io 31 (lI r) :: io 32 (lB true) :: i3 33 _ _ _ (io 36 (lB false) :: i4 37 _ _ _ _ (io 41 (lB false) :: i9 42 _ _ _ _ _ _ _ _ _ [])))) [0,0,3,7,3,3,0,0,0,0,0,0,0,0,12288,0,0,0,0,0,524288,524288,0,0,0]
 refine z4 ?_
 refine zz (fun _ f=>ac (QE (e:= .int) (f.v rfl) (f.en 3 rfl) (f.v rfl) Yg Yw rfl (by omega) (by first | omega | (simp only[az]; omega))) rfl)<|zz (fun _ f=>ac (Q3 (e:= .int) (f.v rfl) (f.n 3 rfl) p rfl Yw rfl rfl) rfl)<|zz (fun _ f=>ac (QC (m) (Yi (f.v rfl) (f.v rfl) rfl)) rfl) ?_
 refine z3 ?_
 refine zz (fun _ f=>day rfl (f.k rfl) (QC (o) (Yi (f.v rfl) (Qp rfl) rfl)) rfl) ?_
 refine z4 ?_
 refine zz (fun _ f=>day rfl (f.k rfl) (QC (q) (Yi (f.v rfl) (f.v rfl) rfl)) rfl) ?_
 exact y9
 refine w6 ?_
 refine Qb ?_
 refine l0_ ?_
 exact wp [] ⟨rfl,(Qe (by first | exact Qgm d (by omega) ‹_› ‹_› | exact Qg8 d (by omega) ‹_› ‹_› | exact Qgh d (by omega) | exact Qgy d ‹_› ‹_› | exact QgA d ‹_›)),trivial⟩
 have w:=ab q
 apply dW (i4 26 _ _ _ _ (io 30 (lf (.ept 3 1 k 0)) :: io 31 (lI r) :: io 32 (lB true) :: i3 33 _ _ _ (io 36 (lB false) :: i4 37 _ _ _ _ (io 41 (lB true) :: i6 42 _ _ _ _ _ _ (io 48 (lB ((clA (c.2.2.take i) b u j).any (fun y=>decide (a.2.2.2=y)))) :: i2 49 _ _ []))))) [0,0,3,7,3,3,0,0,0,0,0,0,0,0,12288,0,0,0,0,0,524288,524288,0,0,0]
 refine z4 ?_
 refine zz (fun _ f=>ac (QE (e:= .int) (f.v rfl) (f.en 3 rfl) (f.v rfl) Yg Yw rfl (by omega) (by first | omega | (simp only[az]; omega))) rfl)<|zz (fun _ f=>ac (Q3 (e:= .int) (f.v rfl) (f.n 3 rfl) p rfl Yw rfl rfl) rfl)<|zz (fun _ f=>ac (QC (m) (Yi (f.v rfl) (f.v rfl) rfl)) rfl) ?_
 refine z3 ?_
 refine zz (fun _ f=>day rfl (f.k rfl) (QC (o) (Yi (f.v rfl) (Qp rfl) rfl)) rfl) ?_
 refine z4 ?_
 refine zz (fun _ f=>day rfl (f.k rfl) (QC (q) (Yi (f.v rfl) (f.v rfl) rfl)) rfl) ?_
 refine z6 ?_
 refine zz (fun _ f=>day rfl (f.k rfl) (dB_ (Zp (clA (c.2.2.take i) b u j) a.2.2.2) VT) rfl) ?_
 exact y2
 cases H:((clA (c.2.2.take i) b u j).any (fun y=>decide (a.2.2.2=y)))
 refine w5 ?_
 refine alI 53 fun _=> ?_
 refine lc (dBs 5 (e:= .int) Yj) ?_
 refine lc (dA 6 Y4) ?_
 refine w_ ?_
 refine Qb ?_
 refine w4 ?_
 refine Qb ?_
 refine l0_ ?_
 exact wp [(3,6)] ⟨rfl,(Qe (by first | exact Qgm d (by omega) ‹_› ‹_› | exact Qg8 d (by omega) ‹_› ‹_› | exact Qgh d (by omega) | exact Qgy d ‹_› ‹_› | exact QgA d ‹_›)),trivial⟩
 refine w6 ?_
 refine Qb ?_
 refine l0_ ?_
 exact wp [] ⟨rfl,(Qe (by first | exact Qgm d (by omega) ‹_› ‹_› | exact Qg8 d (by omega) ‹_› ‹_› | exact Qgh d (by omega) | exact Qgy d ‹_› ‹_› | exact QgA d ‹_›)),trivial⟩
 have t:=ab o
 apply dW (i4 26 _ _ _ _ (io 30 (lf (.ept 3 1 k 0)) :: io 31 (lI r) :: io 32 (lB true) :: i3 33 _ _ _ (io 36 (lB true) :: i9 37 _ _ _ _ _ _ _ _ _ (i2 46 _ _ (io 48 (lB ((clA (c.2.2.take i) b u j).any (fun y=>decide (a.2.2.2=y)))) :: i2 49 _ _ []))))) [0,0,3,7,3,3,0,0,0,0,0,0,0,0,12288,0,0,0,0,0,524288,524288,0,0,0]
 refine z4 ?_
 refine zz (fun _ f=>ac (QE (e:= .int) (f.v rfl) (f.en 3 rfl) (f.v rfl) Yg Yw rfl (by omega) (by first | omega | (simp only[az]; omega))) rfl)<|zz (fun _ f=>ac (Q3 (e:= .int) (f.v rfl) (f.n 3 rfl) p rfl Yw rfl rfl) rfl)<|zz (fun _ f=>ac (QC (m) (Yi (f.v rfl) (f.v rfl) rfl)) rfl) ?_
 refine z3 ?_
 refine zz (fun _ f=>day rfl (f.k rfl) (QC (o) (Yi (f.v rfl) (Qp rfl) rfl)) rfl) ?_
 refine z11 ?_
 refine zz (fun _ f=>day rfl (f.k rfl) (dB_ (Zp (clA (c.2.2.take i) b u j) a.2.2.2) VT) rfl) ?_
 exact y2
 cases I:((clA (c.2.2.take i) b u j).any (fun y=>decide (a.2.2.2=y)))
 refine w5 ?_
 refine alI 53 fun _=> ?_
 refine lc (dBs 7 (e:= .int) Yj) ?_
 refine lc (dA 8 Y4) ?_
 refine w_ ?_
 refine Qb ?_
 refine w4 ?_
 refine Qb ?_
 refine l0_ ?_
 exact wp [(3,8)] ⟨rfl,(Qe (by first | exact Qgm d (by omega) ‹_› ‹_› | exact Qg8 d (by omega) ‹_› ‹_› | exact Qgh d (by omega) | exact Qgy d ‹_› ‹_› | exact QgA d ‹_›)),trivial⟩
 refine w6 ?_
 refine Qb ?_
 refine l0_ ?_
 exact wp [] ⟨rfl,(Qe (by first | exact Qgm d (by omega) ‹_› ‹_› | exact Qg8 d (by omega) ‹_› ‹_› | exact Qgh d (by omega) | exact Qgy d ‹_› ‹_› | exact QgA d ‹_›)),trivial⟩
theorem Qf6 (c:ZB)(set:List Int)(b:Int)(n:SgOk c):FC Tryz.prog 109 [(true,[.dat Ql c.1, .dat Qm c.2.1, .dat Qu c.2.2]),(false,[.dat QA set]),(false,[dI b])] [] 0 (Is (lR 0) [(0,some (.res (moR (vOw 3 .int) .str (afV c set b) none)))]):=by
 have B:=n.few
 refine Qt Tryz.func109 rfl rfl Tryz.ntmps109 fun F w E t G v u=> ?_
 refine acI 2 fun _=> ?_
 refine w_ ?_
 refine xbx 0 ?_
 refine w3 ?_
 refine lc (QmY (k:= .str) (vOw 3 .int) 1 rfl (Fresh.of rfl) (nlr rfl)) ?_
 refine w6 ?_
 refine alL 13 fun _=> ?_
 refine w4 ?_
 refine lp0 c.2.2.length (fun k=>⟨[(1,lf (.dat QA set)),(2,lI b),(3,lP 0 0),(6,lf (.val (.map none))),(7,lR 1),(13,lf (.dat Qu c.2.2)),(14,lI (c.2.2.length:Int)),(15,lI (k:Int))],[bx 0 27 [.dat Ql c.1, .dat Qm c.2.1, .dat Qu c.2.2],(1,some (.res (moR (vOw 3 .int) .str (afT c set b k) none)))]⟩) ?_ fun k _=> ?_
 exact wp [] ⟨rfl,(QpJ (rfl)),trivial⟩
 refine w4 ?_
 cases o:(decide ((k:Int) < (c.2.2.length:Int)))
 have q:=aa o
 refine w8 ?_
 exact fi_ [(0,1)] w ⟨(QpJ (by exact QnJ (by omega))),trivial⟩
 have q:=ab o
 refine w5 ?_
 obtain ⟨a,d⟩:=gx c.2.2 k
 have am:=ah d
 refine w2 ?_
 refine lc (xal 2 Qs Zg) ?_
 refine w6 ?_
 refine alI 21 fun _=> ?_
 refine lc (dK (Zp set a.1) VT) ?_
 refine w_ ?_
 cases A:(set.any (fun y=>decide (a.1=y)))
 refine w16 ?_
 refine w_ ?_
 refine Qb ?_
 refine l0_ ?_
 exact wp [] ⟨rfl,(QpJ (by first | exact QtV d ‹_› ‹_› ‹_› (by have:=JY n am ‹_›; omega) | exact QnN d ‹_› | exact QnR d ‹_› | exact Qnv d ‹_›)),trivial⟩
 refine w5 ?_
 cases r:(!decide (a.2.1=(-1)))
 have s:(a.2.1=(-1)):=QM r
 refine w12 ?_
 refine Qb ?_
 refine l0_ ?_
 exact wp [] ⟨rfl,(QpJ (by first | exact QtV d ‹_› ‹_› ‹_› (by have:=JY n am ‹_›; omega) | exact QnN d ‹_› | exact QnR d ‹_› | exact Qnv d ‹_›)),trivial⟩
 have s:¬(a.2.1=(-1)):=QS r
 refine w6 ?_
 cases f:(!decide (a.2.1=b))
 have m:(a.2.1=b):=QM f
 refine w6 ?_
 refine Qb ?_
 refine l0_ ?_
 exact wp [] ⟨rfl,(QpJ (by first | exact QtV d ‹_› ‹_› ‹_› (by have:=JY n am ‹_›; omega) | exact QnN d ‹_› | exact QnR d ‹_› | exact Qnv d ‹_›)),trivial⟩
 have m:¬(a.2.1=b):=QS f
 refine w_ ?_
 apply dW (i3 34 _ _ _ [io 37 (ag [dI a.2.1,dB a.2.2.1]),io 38 (lf (dS (edT c.1 (a.2.1,a.2.2.1)))),io 10 _]) [0,0,3,3,0,0]
 refine z3 ?_
 refine zz (fun _ x=>ac (dK (Q8 a) YH) rfl) ?_
 refine zz (fun _ x=>ac (dK (QcG c.1 (a.2.1,a.2.2.1) (fun g C=>by obtain ⟨j,D⟩:=aM.1 C; exact QoA n D) (by have:=JY n am ‹_›; omega)) QkI) rfl) ?_
 exact y1
 refine w5 ?_
 refine lc (QlY (p:=edT c.1 (a.2.1,a.2.2.1)) 3 Qnp KU Qao (Qa rfl) rfl (Qo rfl) rfl rfl (Fresh.of rfl) (nlr rfl)) ?_
 refine w2 ?_
 refine alI 45 fun _=> ?_
 refine lc (dBs 4 (e:= .int) Yj) ?_
 refine lc (dA 5 Y4 (hb:=by (have z:=Qtb (c:=c) (S:=set) (h:=b) (i:=k) (edT c.1 (a.2.1,a.2.2.1)); simp only[aj,aA]; omega))) ?_
 refine lc (Qp4 (p:=edT c.1 (a.2.1,a.2.2.1)) Qnp KU (Qa rfl) rfl (Qo rfl) rfl (Qa rfl) rfl)<|Qb ?_
 refine w4 ?_
 refine Qb ?_
 refine l0_ ?_
 exact wp [] ⟨rfl,(QpJ (by first | exact QtV d ‹_› ‹_› ‹_› (by have:=JY n am ‹_›; omega) | exact QnN d ‹_› | exact QnR d ‹_› | exact Qnv d ‹_›)),trivial⟩
end Go.Proofs.YtgpdhgadmjfokaaGreat
