/- Abstract states: a slice of one's own whose elements are structs with slices in them, opened leaf by leaf; one slice taken out of a pool. No program is named here. -/
import Derived.Test.YtgpdhgadmjfokaaGreatUb
import Derived.Test.YtgpdhgadmjfokaaGreatEd
import Derived.Test.YtgpdhgadmjfokaaGreatDe
import Derived.Test.YtgpdhgadmjfokaaGreatEo
import Derived.Test.YtgpdhgadmjfokaaGreatAv
import Derived.Test.YtgpdhgadmjfokaaGreatAl
import Derived.Test.YtgpdhgadmjfokaaGreatWk
import Derived.Test.YtgpdhgadmjfokaaGreatUg
import Derived.Test.YtgpdhgadmjfokaaGreatDg
set_option linter.unusedSimpArgs false
set_option linter.unusedVariables false
set_option linter.unusedSectionVars false
namespace Go.Proofs.YtgpdhgadmjfokaaGreat
open Go.RowKit
structure Opens (t t':Ty) (E:TypeId) (e:Ty) where
  sub:t.Den→Hdr→t'.Den
  get:t'.Den→Hdr
  put:t'.Den→List e.Den→t.Den
  val:t.Den→List e.Den
  wd:t'.wd=t.wd
  h1:∀x z,get (sub x z)=z
  h2:∀x z,put (sub x z) (val x)=x
  own:∀{w:World} {fp:List Nat} {cs:List Value} {x:t.Den},Own t w fp cs x→∃z fg fi,fp.Perm (fg++fi)∧Own t' w fg cs (sub x z)∧Own (.sl E e) w fi [hdV z] (val x)
@[reducible] def QrK (E:TypeId) (e:Ty):Opens (.sl E e) .vl E e where
 sub:=fun _ z=>z
 get:=fun z=>z
 put:=fun _ y=>y
 val:=fun x=>x
 wd:=rfl
 h1:=fun _ _=>rfl
 h2:=fun _ _=>rfl
 own:=fun h=>by
  obtain ⟨z,rfl⟩:=QbO h
  exact ⟨z,[],_,dh _,⟨rfl,rfl⟩,h⟩
@[reducible] def Qtq (a:Ty) {b b':Ty} {E:TypeId} {e:Ty} (o:Opens b b' E e):Opens (.pr a b) (.pr a b') E e where
 sub:=fun x z=>(x.1,o.sub x.2 z)
 get:=fun y=>o.get y.2
 put:=fun y l=>(y.1,o.put y.2 l)
 val:=fun x=>o.val x.2
 wd:=by show a.wd+b'.wd=a.wd+b.wd; rw[o.wd]
 h1:=fun x z=>o.h1 x.2 z
 h2:=fun x z=>dy rfl (o.h2 x.2 z)
 own:=fun h=>by
  obtain ⟨f1,f2,l,r,rfl,rfl,k1,k2⟩:=h
  obtain ⟨z,fg,fi,p,q1,q2⟩:=o.own k2
  exact ⟨z,f1++fg,fi,by rw[aO]; exact p.append_left f1,⟨f1,fg,l,r,rfl,rfl,k1,q1⟩,q2⟩
@[reducible] def Qtx (b:Ty) {a a':Ty} {E:TypeId} {e:Ty} (o:Opens a a' E e):Opens (.pr a b) (.pr a' b) E e where
 sub:=fun x z=>(o.sub x.1 z,x.2)
 get:=fun y=>o.get y.1
 put:=fun y l=>(o.put y.1 l,y.2)
 val:=fun x=>o.val x.1
 wd:=by show a'.wd+b.wd=a.wd+b.wd; rw[o.wd]
 h1:=fun x z=>o.h1 x.1 z
 h2:=fun x z=>dy (o.h2 x.1 z) rfl
 own:=fun h=>by
  obtain ⟨f1,f2,l,r,rfl,rfl,k1,k2⟩:=h
  obtain ⟨z,fg,fi,p,q1,q2⟩:=o.own k1
  refine ⟨z,fg++f2,fi,(p.append_right f2).trans ?_,⟨fg,f2,l,r,rfl,rfl,q1,k2⟩,q2⟩
  rw[aO,aO]
  exact (List.perm_append_comm).append_left fg
section
variable {t t' e:Ty}{E E':TypeId}{w:World}
theorem Opens.list (o:Opens t t' E' e):∀{xs:List t.Den} {fp:List Nat} {cs:List Value},OwnL (Own t w) fp cs xs→
 ∃(ys:List t'.Den) (f i:List Nat),fp.Perm (f++i)∧ys.length=xs.length∧OwnL (Own t' w) f cs ys∧OwnL (Own (.sl E' e) w) i ((ys.map o.get).map hdV) ((ys.map o.get).map (rdF E' e w))∧(ys.map fun y=>o.put y (rdF E' e w (o.get y)))=xs
 | [],fp,cs,h=>⟨[],[],[],by rw[h.1]; exact dh _,rfl,⟨rfl,h.2⟩,⟨rfl,rfl⟩,rfl⟩
 | x :: xs,fp,cs,h=>by
  obtain ⟨B,C,c1,c2,rfl,rfl,l,m⟩:=h
  obtain ⟨z,a,b,v,k,j⟩:=o.own l
  obtain ⟨ys,f,i,p,n,q,r,u⟩:=Opens.list o m
  refine ⟨o.sub x z :: ys,a++f,b++i,(v.append p).trans ?_,by rw[ap,n,ap],⟨a,f,c1,c2,rfl,rfl,k,q⟩, ?_, ?_⟩
  ·rw[aO,aO]
   exact List.Perm.append_left a (List.perm_append_comm_assoc b f i)
  ·rw[aZ,o.h1]
   exact ⟨b,i,[hdV z],_,rfl,rfl,by rw[Qc4 j.rep]; exact j,r⟩
  ·rw[aZ,u,o.h1,Qc4 j.rep,o.h2]
theorem Opens.arr (o:Opens t t' E' e){xs:List t.Den}{fp:List Nat}{v:Value}(h:Own (.sl E t) w fp [v] xs):
 ∃(ys:List t'.Den) (f:Hdr→List e.Den) (a b:List Nat),fp.Perm (a++b)∧Own (.sl E t') w a [v] ys∧OwnL (Own (.sl E' e) w) b ((ys.map o.get).map hdV) ((ys.map o.get).map f)∧(ys.map fun y=>o.put y (f (o.get y)))=xs∧f none=[]:=by
 rcases h with ⟨rfl,h,rfl⟩ | ⟨g,i,j,fps,rfl,l,m,n,q,r,u⟩
 ·exact ⟨[],fun _=>[],[],[],dh _, .inl ⟨rfl,h,rfl⟩,⟨rfl,rfl⟩,rfl,rfl⟩
 ·obtain ⟨ys,a,b,p,k,z,B,C⟩:=o.list u
  refine ⟨ys,rdF E' e w,g :: a,b,p.cons g, .inr ⟨g,i,j,a,rfl,by rw[k]; exact l,m,by rw[k]; exact n,q,by rw[o.wd]; exact r, ?_⟩,B,C,Qc4 (x:=[]) (Own.rep (fp:=[]) (.inl ⟨rfl,rfl,rfl⟩))⟩
  rw[k,o.wd]; exact z
end
section
variable {A:Amb}{P:Program}{s:St}{Q:Exit→St→Prop}{c:Code}
theorem Rg.take (t:Nat){p:Nat}{E:TypeId}{e:Ty}{vs:List Hdr}{f:Hdr→List e.Den}{z:Hdr}{gh:Gh}{a:Act}{w:World}(U:s.tab.ent p=some (.pl true (.sl E e) vs f))(hz:z∈vs)(B:Fresh s t)(hk:A.k0≤t)(r:Rg A s gh a w):
 ∃gh':Gh,gh'.h t=hdV z∧(∀u,u≠t→gh'.h u=gh.h u)∧Rg A ⟨s.tm,(t,some (.arr E e (f z))) :: (p,none) :: s.tab⟩ gh' a w:=by
 have n:s.tab.al p:=⟨_,U⟩
 have a0:t≠p:=fun h=>B.al (h▸n)
 obtain ⟨_,h3⟩:=r.cx.en p _ U
 obtain ⟨G,X,m2⟩:=QcF (List.singleton_sublist.2 hz) h3
 obtain ⟨f1,Z,c1,c2,b,j,V,W⟩:=m2
 have I:Z=[]:=W.1
 have Y:c2=[]:=W.2
 rw[I,bp] at b
 rw[Y,bp] at j
 subst b
 rw[← j] at V
 have hO:Own (.sl E e) w G [hdV z] (f z):=V
 have K:∀g∈G,g∈gh.f p:=fun g i=>X.subset i
 have nv:G.Nodup:=X.nodup (r.cx.nd p n)
 have k:∀u,Tab.al ((t,some (.arr E e (f z))) :: (p,none) :: s.tab) u→u=t∨(u≠t∧u≠p∧s.tab.al u):=fun u ⟨x,l⟩=>by
  by_cases b:u=t
  ·exact .inl b
  ·rw[Qd,if_neg b,Qd] at l
   by_cases j:u=p
   ·rw[if_pos j] at l; cases l
   ·rw[if_neg j] at l; exact .inr ⟨b,j,_,l⟩
 let gh':Gh:=⟨fun u=>if u=t then hdV z else gh.h u,fun u=>if u=t then G else gh.f u,gh.N⟩
 have C:gh'.f t=G:=if_pos rfl
 have y:∀u,u≠t→gh'.f u=gh.f u:=fun u b=>if_neg b
 have J:∀u,u≠t→gh'.h u=gh.h u:=fun u b=>if_neg b
 refine ⟨gh',if_pos rfl,J,r.step ⟨fun u x l=> ?_,fun u D v H S g i m=> ?_,fun u v=> ?_,fun u v g i q=> ?_,r.cx.nl⟩ (fun u v=> ?_) (fun g h=>⟨h,rfl⟩) (Q6 w) (fun _ _ _=>rfl) (fun g q=> .inl q) fun u v g i=> ?_⟩
 ·rw[Qd] at l
  by_cases b:u=t
  ·rw[if_pos b] at l
   cases l
   show Own (.sl E e) w (gh'.f u) [gh'.h u] (f z)
   rw[b,C,show gh'.h t=hdV z from if_pos rfl]
   exact hO
  ·rw[if_neg b,Qd] at l
   by_cases j:u=p
   ·rw[if_pos j] at l; cases l
   ·rw[if_neg j] at l
    refine (r.cx.en u x l).mono (fun O M ha=> ?_) (fun g h=>⟨h,rfl⟩) (J u b) (y u b) fun _ _=>rfl
    have I:O≠t:=fun h=>B.en u x l (h▸M)
    rcases k O ha with h | ⟨_,_,h⟩
    ·exact absurd h I
    ·exact ⟨h,J O I⟩
 ·rcases k u v with b | ⟨b,F,o⟩
  ·rcases k D H with j | ⟨j,R,L⟩
   ·exact S (b.trans j.symm)
   ·rw[b,C] at i; rw[y D j] at m; exact r.cx.dj p D n L (fun h=>R h.symm) g (K g i) m
  ·rcases k D H with j | ⟨j,R,L⟩
   ·rw[j,C] at m; rw[y u b] at i; exact r.cx.dj p u n o (fun h=>F h.symm) g (K g m) i
   ·rw[y u b] at i; rw[y D j] at m; exact r.cx.dj u D o L S g i m
 ·rcases k u v with b | ⟨b,F,o⟩
  ·rw[b,C]; exact nv
  ·rw[y u b]; exact r.cx.nd u o
 ·rcases k u v with b | ⟨b,F,o⟩
  ·rw[b,C] at i; exact r.cx.no p n g (K g i) q
  ·rw[y u b] at i; exact r.cx.no u o g i q
 ·rcases k u v with b | ⟨b,F,o⟩
  ·rw[b]; exact .inr ⟨B,hk⟩
  ·exact .inl ⟨o,J u b,fun _=>rfl⟩
 ·rcases k u v with b | ⟨b,F,o⟩
  ·rw[b,C] at i; exact .inr ⟨p,n,K g i⟩
  ·rw[y u b] at i; exact .inr ⟨u,o,i⟩
end
section
variable {A:Amb}{P:Program}{s:St}{d:Nat}{ty T:TypeId}{pos:String}{af:Array Edge}{g:Option (Nat×Bool)}{x:Operand}
def ThP (s:St):List LV→List LV→Prop
 | [],ls'=>ls'=[]
 | l :: ls,ls'=>∃l' r,ls'=l' :: r∧(l=l'∨(∃q E e xs,l= .ref q∧s.tab.ent q=some (.arr E e xs)∧l'= .dat (.sl E e) xs)∨∃(p:Nat) (E:TypeId) (e:Ty) (vs:List Hdr) (f:Hdr→List e.Den) (z:Hdr),l= .dat .vl z∧s.tab.ent p=some (.pl true (.sl E e) vs f)∧z∈vs∧l'= .dat (.sl E e) (f z))∧ThP s ls r
end
def QuM:List LV→List LV→Prop
 | [],cs'=>cs'=[]
 | l :: ls,cs'=>∃l' r,cs'=l' :: r∧(l=l'∨(l= .val (.slice none 0 0)∧l'= .dat .vl none))∧QuM ls r
theorem LVs.vls {al:Nat→Prop}{gh:Gh}{w:World}:∀{ls ls':List LV} {vs:List Value},LVs al gh w ls vs→QuM ls ls'→LVs al gh w ls' vs
 | [],_,_,h,k=>by rw[show _=[] from k]; exact h
 | l :: ls,_,_,⟨v,vs',h1,h2,h3⟩,⟨l',r,k1,k2,k3⟩=>by
  rw[k1]
  refine ⟨v,vs',h1, ?_,h3.vls k3⟩
  rcases k2 with rfl | ⟨rfl,rfl⟩
  ·exact h2
  ·have a:v= .slice none 0 0:=h2
   rw[a]
   exact Rep.rd0 (t:= .vl) (w:=w) (show _=_ from rfl) rfl
end Go.Proofs.YtgpdhgadmjfokaaGreat
namespace Go.Proofs.YtgpdhgadmjfokaaGreat
open Go.RowKit
set_option maxRecDepth 100000
set_option maxHeartbeats 4000000
section
variable {I S C A:Type}
@[reducible] def dC (g1:Hdr→S) (g2:Hdr→C) (g3:Hdr→A) (y:I×Hdr×Hdr×Hdr):I×S×C×A:=(y.1,g1 y.2.1,g2 y.2.2.1,g3 y.2.2.2)
variable {xs:List (I×S×C×A)}{y1:List (I×Hdr×C×A)}{y2:List (I×Hdr×Hdr×A)}{y3:List (I×Hdr×Hdr×Hdr)}{g1:Hdr→S}{g2:Hdr→C}{g3:Hdr→A}{v1 v2 v3:List Hdr}
theorem QvT (a:(y1.map fun y=>(y.1,g1 y.2.1,y.2.2))=xs)(b:(y2.map fun y=>(y.1,y.2.1,g2 y.2.2.1,y.2.2.2))=y1)(d:(y3.map fun y=>(y.1,y.2.1,y.2.2.1,g3 y.2.2.2))=y2):y3.map (dC g1 g2 g3)=xs:=by
 subst a b d
 simp[dp,Function.comp_def]
end
section
variable [∀c,Decidable (SgOk c)][∀s,Decidable (ZF s)]
def QqQ:Nat→DSg→List YC→DSg×List YC
 | 0,c,l=>(c,l)
 | f+1,c,l=>if 0 < (Qcy c).length∧(Qcz c (QmM c)).isSome=true∧Quv c (QmM c) < ((Qcy c).length:Int) then QqQ f (QtI c (QmM c)).2 (l++[Qrd c (QmM c)]) else (c,l)
def Qwh (c:DSg):DSg×List YC×Bool:=if SgOk c∧(Qcy (QqQ 2 c []).1).length=0 then ((QqQ 2 c []).1,(QqQ 2 c []).2,true) else (KC,[],false)
variable {c og:DSg}{il:List YC}{n:Nat}{x:YC}
end
end Go.Proofs.YtgpdhgadmjfokaaGreat
namespace Go.Proofs.YtgpdhgadmjfokaaGreat
open Go.RowKit
set_option maxRecDepth 100000
set_option maxHeartbeats 4000000
section
variable [∀c,Decidable (SgOk c)][∀s,Decidable (ZF s)]{c:DSg}{m:Option YC}{M:List YC}{x z:YC}
def ChG (c:DSg)(m:Option YC)(M:List YC):Prop:=match m with
 | none=>M=[]
 | some y=>y∈M∧∀z∈M,¬Qe9 c z < Qe9 c y∧¬(Qe9 c z=Qe9 c y∧Qpl c z < Qpl c y)
theorem ChG.step (h:ChG c m M):ChG c (Qtp c m x) (M++[x]):=by
 cases m with
 | none=>
  have h:M=[]:=h
  subst h
  show x∈[x]∧_
  refine ⟨az.2 rfl,fun z a=> ?_⟩
  rw[bS,az] at a
  subst a; omega
 | some y=>
  obtain ⟨d,b⟩:=h
  simp only[Qtp]
  split
  ·rename_i e
   show x∈M++[x]∧_
   refine ⟨aN _ (az.2 rfl),fun z a=> ?_⟩
   rcases aA.1 a with a | a
   ·have:=b z a; omega
   ·rw[az] at a; subst a; omega
  ·rename_i e
   show y∈M++[x]∧_
   refine ⟨aH _ d,fun z a=> ?_⟩
   rcases aA.1 a with a | a
   ·exact b z a
   ·rw[az] at a; subst a; omega
end
end Go.Proofs.YtgpdhgadmjfokaaGreat
namespace Go.Proofs.YtgpdhgadmjfokaaGreat
open Go.RowKit
set_option maxRecDepth 100000
set_option maxHeartbeats 4000000
def swp (p:List Int):List Int:=[(p[1]?).getD 0,(p[0]?).getD 0]
def Qwe (P:List (List Int))(n:Nat):List (List Int):=(List.range n).flatMap fun a:Nat=>((List.range n).filter fun b:Nat=>(P.any fun p=>decide (p=[min (a:Int) (b:Int),max (a:Int) (b:Int)]))&&decide ((a:Int)≠(b:Int))).map fun b:Nat=>[(a:Int),(b:Int)]
section
variable {P:List (List Int)}{n:Nat}{x:List Int}{ms:List ByteArray}{g:YU}
variable [∀s,Decidable (StgOk s)]{s:QV}
end
end Go.Proofs.YtgpdhgadmjfokaaGreat
namespace Go.Proofs.YtgpdhgadmjfokaaGreat
open Go.RowKit
set_option maxRecDepth 100000
set_option maxHeartbeats 4000000
section
variable [∀s,Decidable (StgOk s)]{s:QV}{l:List (List Int)}{p:List Int}{k i m:Nat}{a b:Int}
def Qv7 (s:QV)(l:List (List Int)):List QF:=l.flatMap fun p=>Qr2 s ((p[0]?).getD 0) ((p[1]?).getD 0) [false,true]
end
end Go.Proofs.YtgpdhgadmjfokaaGreat
namespace Go.Proofs.YtgpdhgadmjfokaaGreat
open Go.RowKit
set_option maxRecDepth 100000
set_option maxHeartbeats 4000000
theorem QjH {n:Nat}{a:List DAr}:∀{f k:Nat} {c d:List ByteArray},goS n a f k c=some d→d.length=c.length
 | 0,_,c,d,h=>by rw[goS] at h; cases h; rfl
 | f+1,k,c,d,h=>by
  rw[goS] at h
  split at h
  ·rw[QjH h,Qf3]
  ·cases h
section
variable [∀s,Decidable (StgOk s)]{s:QV}{o x:QF}{k:Nat}{l:List QF}
theorem QjF (h:(sgV s).2=true):SgW (sgV s).1:=by
 unfold sgV at h ⊢
 split at h
 ·rename_i d
  rw[if_pos d]
  obtain ⟨i,m,n,_,e,u⟩:=Z0 d.1
  split at h
  ·rename_i c p
   have g:=QjH p
   rw[aK] at g
   refine ⟨i.sigs.2.2,⟨by show 1≤c.length; omega,by show c.length≤300; omega⟩, ?_, ?_⟩
   ·show (QL _ _).length≤_
    unfold QL
    rw[aE]; omega
   ·intro a f
    refine ⟨?_, ?_⟩
    ·show InR c.length a
     rw[g]; exact W5 e a f
    ·obtain ⟨v,q,rfl⟩:=aR.1 f
     obtain ⟨_,⟨r,t⟩,_⟩:=e v q
     obtain ⟨l,b⟩:∃l,s.2.2.1[v.2.1.toNat]? =some l:=⟨_,aj (by omega)⟩
     have j:=i.labs l (ai b)
     show UV (s.2.1.length:Int) ((Qce s.2.2.1 v.2.1).1,(Qce s.2.2.1 v.2.1).2)
     rw[Qfn b]; exact j
  ·cases h
 ·cases h
def ocG (s:QV)(o:QF):DSg:=(sgV (Jw s o)).1
def oc1 (s:QV)(o:QF):Int:=((Qcy (ocG s o)).length:Int)
def oc2 (s:QV)(o:QF):Int:=((ocG s o).2.1.length:Int)
def ocB (s:QV)(o:QF):Bool:=(QrY s).any fun y=>decide (o=y)
def ox1 (s:QV)(o:QF):Int:=if ocB s o=true then oc1 s o else 0
def ox2 (s:QV)(o:QF):Int:=if ocB s o=true then oc2 s o else 0
def Que (s:QV)(a:QF×Int×Int)(o:QF):QF×Int×Int:=
 if a.2.1 < 0∨oc1 s o < a.2.1∨(oc1 s o=a.2.1∧a.2.2 < oc2 s o) then (o,oc1 s o,oc2 s o) else a
def QnJ (s:QV)(l:List QF):QF×Int×Int:=l.foldl (Que s) ((0,0,false), -1,0)
def BeS (s:QV)(l:List QF)(k:Nat)(b:QF)(c t:Int):Prop:=QnJ s (l.take k)=(b,c,t)
def BeI (s:QV)(l:List QF)(k:Nat)(b:QF)(c t:Int):Prop:=QnJ s (l.take k)=(b,if k=0 then -1 else c,t)∧(k=0→c=0)
def boV (s:QV):QF:=(QnJ s (QrY s)).1
def boB (s:QV):Bool:=decide (0 < ((QrY s).length:Int))
end
end Go.Proofs.YtgpdhgadmjfokaaGreat
namespace Go.Proofs.YtgpdhgadmjfokaaGreat
open Go.RowKit
set_option maxRecDepth 100000
set_option maxHeartbeats 4000000
theorem QdY {b:Nat}:∀(i:Nat) (c:List ByteArray) (vs:List UInt8),(∀z∈c,z.size≤b)→∀z∈VE i c vs,z.size≤b+vs.length
 | _,_,[],h=>by rw[VE]; exact fun z a=>bg (h z a) (Nat.le_add_right ..)
 | i,c,v :: vs,h=>fun z a=>by
  rw[VE] at a
  have e:∀z∈c.set i ((c[i]?).getD ByteArray.empty++⟨#[v]⟩),z.size≤b+1:=fun z a=>by
   rcases cj a with d | d
   ·exact cP (h z d)
   ·rw[d,aQ]
    show _+1≤b+1
    cases f:c[i]? with
    | none=>exact Nat.succ_le_succ (aP b)
    | some x=>exact Nat.succ_le_succ (h x (ai f))
  have:=QdY (i+1) _ vs e z a
  rw[ap]; omega
theorem Qg1 {n:Nat}{e:List DAr}(g:∀a∈e,InR n a):∀{f k b:Nat} {c d:List ByteArray},goS n e f k c=some d→(∀z∈c,z.size≤b)→∀z∈d,z.size≤b+n*f
 | 0,_,b,c,d,h,hb=>by rw[goS] at h; cases h; exact hb
 | f+1,k,b,c,d,h,hb=>fun z i=>by
  rw[goS] at h
  split at h
  ·have j:=Qg1 g h (QdY 0 c _ hb) z i
   have l:=Qna g (k:Int)
   rw[Nat.mul_add]; omega
  ·cases h
section
variable [∀s,Decidable (StgOk s)]{s:QV}
theorem Qeh (h:(sgV s).2=true):∀z∈(sgV s).1.2.1,z.size≤2400:=by
 unfold sgV at h ⊢
 split at h
 ·rename_i d
  rw[if_pos d]
  obtain ⟨k,g,i,_,f,n⟩:=Z0 d.1
  split at h
  ·rename_i c j
   intro z a
   have l:=Qg1 (W5 f) j (b:=0) (fun z a=>by rw[cH a]; exact aM _) z a
   have e:=k.sigs.2.2
   have m:(Ql s).1.1.length*s.2.1.length≤300*8:=dF (by omega) e
   omega
  ·cases h
 ·cases h
theorem Qo7:(sgV (QE ⟨#[97]⟩ ⟨#[98]⟩ ⟨#[]⟩ ⟨#[97,43,62,98,43,32,98,43,62,97,45,32,97,45,62,98,45,32,42,98,45,62,97,43]⟩)).2=true:=by rw[QrT]; exact Qs6
end
theorem K8 (code:List UInt8)(at_:Int)(sd:Int)[∀s,Decidable (StgOk s)][∀s,Decidable (Xa s)](u:0≤at_∧at_≤800000000):FC Tryz.prog 190 [(false,[.ptr 0 0])] [bx 0 119 [.dat QP code,dI at_, .val (.int .u64 sd)]] 1 (Ex (fun x:DSg×Int×Int=>((1≤x.1.2.1.length∧x.1.2.1.length≤300)∧x.1.1.length≤8∧∀z∈x.1.2.1,ByteArray.size z≤2400)∧(at_≤x.2.1∧x.2.1≤at_+80)) (fun x:DSg×Int×Int=>ag [.ref 1, .ref 2, .ref 3]) (fun x:DSg×Int×Int=>[bx 0 119 [.dat QP code,dI x.2.1, .val (.int .u64 x.2.2)],ar 1 44 Qz x.1.1,ar 2 9 .str x.1.2.1,ar 3 46 QG x.1.2.2])):=by
 refine Qu Tryz.func190 rfl rfl Tryz.ntmps190 fun r f q i t l j=> ?_
 refine w_ ?_
 refine lc (xal 1 Wm ZI) ?_
 refine w6 ?_
 refine QQ (fun g h=>∃(k:Nat) (c:Int) (a:Int),k≤4∧g=4 - k∧(at_≤c∧c≤at_+20*k)∧h=⟨[(0,lP 0 0),(2,lP 1 0),(3,lI (k:Int))],[bx 0 119 [.dat QP code,dI c, .val (.int .u64 a)],bx 1 27 [.val (.slice none 0 0), .val (.slice none 0 0), .val (.slice none 0 0)]]⟩) ⟨0,at_,sd,aP _,rfl,by omega,rfl⟩ ?_ ?_
 exact wo []
 rintro g h ⟨k,c,a,n,o,v,rfl⟩
 refine w5 ?_
 cases d:(decide ((k:Int) < 4))
 have e:=aa d
 refine w4 ?_
 refine lc (dG 2 (QT (⟨#[97]⟩:ByteArray) (⟨#[98]⟩:ByteArray) (⟨#[]⟩:ByteArray) (⟨#[97,43,62,98,43,32,98,43,62,97,45,32,97,45,62,98,45,32,42,98,45,62,97,43]⟩:ByteArray) (by decide+kernel) (by decide+kernel)) Zt) ?_
 refine lc (QaU 5 (Xv (QE (⟨#[97]⟩:ByteArray) (⟨#[98]⟩:ByteArray) (⟨#[]⟩:ByteArray) (⟨#[97,43,62,98,43,32,98,43,62,97,45,32,97,45,62,98,45,32,42,98,45,62,97,43]⟩:ByteArray))) Qc8 ⟨_,_,rfl,(QaR (Qr rfl) ⟨_,_,rfl, .inl rfl,⟨_,_,rfl, .inr ⟨_,_,_,_,rfl,rfl,rfl⟩,⟨_,_,rfl, .inr ⟨_,_,_,_,rfl,rfl,rfl⟩,⟨_,_,rfl, .inr ⟨_,_,_,_,rfl,rfl,rfl⟩,⟨_,_,rfl, .inl rfl,rfl⟩⟩⟩⟩⟩),rfl⟩ rfl rfl rfl ⟨Fresh.of rfl,Fresh.of rfl,Fresh.of rfl,trivial⟩ (nlr rfl)) ?_
 refine w3 ?_
 refine lc (xal 8 Wm ZI) ?_
 refine w8 ?_
 subst f
 refine Za (x:=((((sgV (QE (⟨#[97]⟩:ByteArray) (⟨#[98]⟩:ByteArray) (⟨#[]⟩:ByteArray) (⟨#[97,43,62,98,43,32,98,43,62,97,45,32,97,45,62,98,45,32,42,98,45,62,97,43]⟩:ByteArray))).1).1,(((sgV (QE (⟨#[97]⟩:ByteArray) (⟨#[98]⟩:ByteArray) (⟨#[]⟩:ByteArray) (⟨#[97,43,62,98,43,32,98,43,62,97,45,32,97,45,62,98,45,32,42,98,45,62,97,43]⟩:ByteArray))).1).2.1,((sgV (QE (⟨#[97]⟩:ByteArray) (⟨#[98]⟩:ByteArray) (⟨#[]⟩:ByteArray) (⟨#[97,43,62,98,43,32,98,43,62,97,45,32,97,45,62,98,45,32,42,98,45,62,97,43]⟩:ByteArray))).1).2.2)),(c,a))) [(0,0),(1,5),(2,6),(3,7)] ?_ (Res.one rfl (Rs.cell rfl rfl XQ rfl)) rfl ⟨rfl,rfl,rfl,rfl,trivial⟩ rfl rfl
 exact ⟨⟨(QjF Qo7).some_,(QjF Qo7).sig8,Qeh Qo7⟩,by dsimp only; omega⟩
 have e:=ab d
 refine w6 ?_
 refine YQ 9 [(0,0)] (Ho code c a (by omega)) Qip e1_ ⟨rfl,trivial⟩ rfl (fun _=>rfl) (fun _=>⟨trivial,(Fresh.of rfl),(Fresh.of rfl),(Fresh.of rfl),trivial⟩) (nlr rfl) fun b p=>lc (QaU 13 (Xv b.1) Qc8 ⟨_,_,rfl,(QaR (Qr rfl) ⟨_,_,rfl, .inl rfl,⟨_,_,rfl, .inr ⟨_,_,_,_,rfl,rfl,rfl⟩,⟨_,_,rfl, .inr ⟨_,_,_,_,rfl,rfl,rfl⟩,⟨_,_,rfl, .inr ⟨_,_,_,_,rfl,rfl,rfl⟩,⟨_,_,rfl, .inl rfl,rfl⟩⟩⟩⟩⟩),rfl⟩ rfl rfl rfl ⟨Fresh.of rfl,Fresh.of rfl,Fresh.of rfl,trivial⟩ (nlr rfl)) ?_
 refine w3 ?_
 refine lc (xal 16 Wm ZI) ?_
 refine w6 ?_
 cases m:((sgV b.1).2)
 refine w7 ?_
 refine Qc<|Zs ⟨k+1,b.2.1,b.2.2,by omega,rfl,(by omega),rfl⟩ (by omega) ?_
 exact wo []
 refine w6 ?_
 subst f
 refine Za (x:=((((sgV b.1).1).1,(((sgV b.1).1).2.1,((sgV b.1).1).2.2)),(b.2.1,b.2.2))) [(0,0),(1,13),(2,14),(3,15)] ?_ (Res.one rfl (Rs.cell rfl rfl XQ rfl)) rfl ⟨rfl,rfl,rfl,rfl,trivial⟩ rfl rfl
 exact ⟨⟨(QjF ‹_›).some_,(QjF ‹_›).sig8,Qeh ‹_›⟩,by dsimp only; omega⟩
theorem XM (code:List UInt8)(at_:Int)(sd:Int)[∀s,Decidable (StgOk s)][∀s,Decidable (Xa s)](F:0≤at_∧at_≤700000000):FC Tryz.prog 86 [(false,[.ptr 0 0])] [bx 0 119 [.dat QP code,dI at_, .val (.int .u64 sd)]] 1 (Ex (fun x:DSg×Int×Int=>x.1.1.length≤8∧x.1.2.1.length≤301∧(at_≤x.2.1∧x.2.1≤at_+120)) (fun x:DSg×Int×Int=>ag [.dat Qj x.1.1, .dat Qm x.1.2.1, .dat Qw x.1.2.2]) (fun x:DSg×Int×Int=>[bx 0 119 [.dat QP code,dI x.2.1, .val (.int .u64 x.2.2)]])):=by
 refine Qu Tryz.func86 rfl rfl Tryz.ntmps86 fun D j C r E u t=> ?_
 refine w_ ?_
 refine lc (xal 1 Wm ZI) ?_
 refine w3 ?_
 refine YQ 2 [(0,0)] (K8 code at_ sd (by omega)) Qhq e1_ ⟨rfl,trivial⟩ rfl (fun _=>rfl) (fun _=>⟨trivial,(Fresh.of rfl),(Fresh.of rfl),(Fresh.of rfl),trivial⟩) (nlr rfl) fun a B=>lc (xal 6 Wm ZI) ?_
 refine w5 ?_
 have A:=Zy code a.2.1 a.2.2 20
 refine lc (dP 7 [] (QN code a.2.1 a.2.2 20 (by omega)) ZU) ?_
 refine w6 ?_
 refine cd_ (fun _ _=> ?_) fun _ _=> ?_
 refine w4 ?_
 refine cd_ (fun _ _=> ?_) fun _ _=> ?_
 refine w4 ?_
 refine cd_ (fun _ _=> ?_) fun _ _=> ?_
 refine w4 ?_
 refine cd_ (fun _ _=> ?_) fun _ _=> ?_
 refine w2 ?_
 refine Z6<|AC.wk (QY (p:=6) (off:=0) (q:=3) rfl rfl rfl)<|AC.wk (QY (p:=6) (off:=1) (q:=4) rfl rfl rfl)<|AC.wk (QY (p:=6) (off:=2) (q:=5) rfl rfl rfl) ?_
 refine w5 ?_
 subst j
 refine Za (x:=((a.1.1,(a.1.2.1,a.1.2.2)),((pkA 20 a.2.1),(pkS code a.2.1 a.2.2 20)))) [(0,0)] ?_ (Res.one rfl (Rs.cell rfl rfl XQ rfl)) rfl ⟨rfl,trivial⟩ rfl rfl
 (dsimp only; omega)
 refine w6 ?_
 refine cd_ (fun _ _=> ?_) fun _ _=> ?_
 refine w2 ?_
 refine Z6<|AC.wk (QY (p:=6) (off:=0) (q:=3) rfl rfl rfl)<|AC.wk (QY (p:=6) (off:=1) (q:=4) rfl rfl rfl)<|AC.wk (QY (p:=6) (off:=2) (q:=5) rfl rfl rfl) ?_
 refine w5 ?_
 subst j
 refine Za (x:=((a.1.1,(a.1.2.1,a.1.2.2)),((pkA 20 a.2.1),(pkS code a.2.1 a.2.2 20)))) [(0,0)] ?_ (Res.one rfl (Rs.cell rfl rfl XQ rfl)) rfl ⟨rfl,trivial⟩ rfl rfl
 (dsimp only; omega)
 obtain ⟨f,h⟩:=gx a.1.2.2 0
 apply dV (i4 49 _ _ _ _ [io 53 (lf (.ept 5 4 0 0)),io 54 (lf (.ept 5 4 0 2)),io 55 (lB f.2.2.1),io 56 _,io 57 (lf (.ept 5 4 0 0)),io 58 (lf (.ept 5 4 0 2)),⟨none,lf (.val undef),[ar 5 46 QG (a.1.2.2.set 0 (f.1,f.2.1, !f.2.2.1,f.2.2.2))]⟩]) [0,0,3,3,3,3,3,3,0,0,0]
 refine z4 ?_
 refine zz (fun _ b=>ac (QM (e:=QG) (b.v rfl) (b.en 5 rfl) (Qo rfl) WN W9 rfl (by omega) (by first | omega | (simp only[ay]; omega))) rfl)<|zz (fun _ b=>ac (Yt (b.v rfl) Qhe (by rw[(b.en 5 rfl)]; rfl) rfl) rfl)<|zz (fun _ b=>ac (Zv (e:=QG) (b.v rfl) (b.n 5 rfl) h rfl Qea rfl rfl) rfl) ?_
 refine z_ ?_
 refine zz (fun _ b=>ac (QM (e:=QG) (b.v rfl) (b.en 5 rfl) (Qo rfl) WN W9 rfl (by omega) (by first | omega | (simp only[ay]; omega))) rfl)<|zz (fun _ b=>ac (Yt (b.v rfl) Qhe (by rw[(b.en 5 rfl)]; rfl) rfl) rfl)<|zz (fun _ b=>ac (QA (e:=QG) (z':=(f.1,f.2.1, !f.2.2.1,f.2.2.2)) (b.v rfl) (b.n 5 rfl) h rfl (b.w rfl) rfl Qea rfl rfl) rfl) ?_
 exact zN
 refine w_ ?_
 refine Z6<|AC.wk (QY (p:=6) (off:=0) (q:=3) rfl rfl rfl)<|AC.wk (QY (p:=6) (off:=1) (q:=4) rfl rfl rfl)<|AC.wk (QY (p:=6) (off:=2) (q:=5) rfl rfl rfl) ?_
 refine w5 ?_
 subst j
 refine Za (x:=((a.1.1,(a.1.2.1,a.1.2.2.set 0 (f.1,f.2.1, !f.2.2.1,f.2.2.2))),((pkA 20 a.2.1),(pkS code a.2.1 a.2.2 20)))) [(0,0)] ?_ (Res.one rfl (Rs.cell rfl rfl XQ rfl)) rfl ⟨rfl,trivial⟩ rfl rfl
 (dsimp only; omega)
 obtain ⟨g,k⟩:=gx a.1.2.1 0
 apply dV (i4 34 _ _ _ _ [io 38 (lf (.ept 4 1 0 0)),io 39 (lf (dS g)),⟨some 40,lR 8,[ar 8 9 .str ([g])]⟩,⟨some 41,lR 9,[ar 9 9 .str (a.1.2.1++([g])),(4,none),(8,none)]⟩,io 42 _,⟨none,lf (.val undef),[bx 6 27 [.ref 3, .ref 9, .ref 5]]⟩]) [0,0,3,3,3,3,3,0,0,0]
 refine z4 ?_
 refine zz (fun _ b=>ac (QM (e:= .str) (b.v rfl) (b.en 4 rfl) (Qo rfl) QaE VX rfl (by omega) (by first | omega | (simp only[ay]; omega))) rfl)<|zz (fun _ b=>ac (Zv (e:= .str) (b.v rfl) (b.n 4 rfl) k rfl VX rfl rfl) rfl) ?_
 refine zz (fun _ b=>ac (dBs 8 (e:= .str) WE) rfl) ?_
 refine zz (fun _ b=>ac (dA 9 Ji (hb:=by (simp only[ap,aD]; omega))) rfl) ?_
 refine z_ ?_
 refine zz (fun _ b=>ac (QX (b.v rfl) (b.en 6 rfl) (b.w rfl) (by simp only[Q2,WB,bj,bz]; rw[(b.en 9 rfl)]; rfl) QiL rfl) rfl) ?_
 exact zN
 refine w_ ?_
 refine Z6<|AC.wk (QY (p:=6) (off:=0) (q:=3) rfl rfl rfl)<|AC.wk (QY (p:=6) (off:=1) (q:=9) rfl rfl rfl)<|AC.wk (QY (p:=6) (off:=2) (q:=5) rfl rfl rfl) ?_
 refine w5 ?_
 subst j
 refine Za (x:=((a.1.1,(a.1.2.1++([g]),a.1.2.2)),((pkA 20 a.2.1),(pkS code a.2.1 a.2.2 20)))) [(0,0)] ?_ (Res.one rfl (Rs.cell rfl rfl XQ rfl)) rfl ⟨rfl,trivial⟩ rfl rfl
 (dsimp only; simp only[ah,ay,ap,aD]; omega)
 refine w6 ?_
 refine cd_ (fun _ _=> ?_) fun _ _=> ?_
 refine w2 ?_
 refine Z6<|AC.wk (QY (p:=6) (off:=0) (q:=3) rfl rfl rfl)<|AC.wk (QY (p:=6) (off:=1) (q:=4) rfl rfl rfl)<|AC.wk (QY (p:=6) (off:=2) (q:=5) rfl rfl rfl) ?_
 refine w5 ?_
 subst j
 refine Za (x:=((a.1.1,(a.1.2.1,a.1.2.2)),((pkA 20 a.2.1),(pkS code a.2.1 a.2.2 20)))) [(0,0)] ?_ (Res.one rfl (Rs.cell rfl rfl XQ rfl)) rfl ⟨rfl,trivial⟩ rfl rfl
 (dsimp only; omega)
 have m:=Zy code (pkA 20 a.2.1) (pkS code a.2.1 a.2.2 20) 9
 obtain ⟨d,l⟩:=gx a.1.2.2 0
 apply dV (i3 25 _ _ _ [⟨some 28,lI (pkV code (pkA 20 a.2.1) (pkS code a.2.1 a.2.2 20) 9),[bx 0 119 [.dat QP code,dI (pkA 9 (pkA 20 a.2.1)), .val (.int .u64 (pkS code (pkA 20 a.2.1) (pkS code a.2.1 a.2.2 20) 9))],(0,none)]⟩,io 29 _,io 30 (lf (.ept 5 4 0 0)),io 31 (lf (.ept 5 4 0 3)),⟨none,lf (.val undef),[ar 5 46 QG (a.1.2.2.set 0 (d.1,d.2.1,d.2.2.1,(pkV code (pkA 20 a.2.1) (pkS code a.2.1 a.2.2 20) 9) - 1))]⟩]) [0,0,3,3,3,0,0,0]
 refine z3 ?_
 refine zz (fun _ b=>ac (dP 10 [] (QN code (pkA 20 a.2.1) (pkS code a.2.1 a.2.2 20) 9 (by omega)) ZU) rfl) ?_
 refine z_ ?_
 refine zz (fun _ b=>ac (QM (e:=QG) (b.v rfl) (b.en 5 rfl) (Qo rfl) WN W9 rfl (by omega) (by first | omega | (simp only[ay]; omega))) rfl)<|zz (fun _ b=>ac (Yt (b.v rfl) Qnh (by rw[(b.en 5 rfl)]; rfl) rfl) rfl)<|zz (fun _ b=>ac (QA (e:=QG) (z':=(d.1,d.2.1,d.2.2.1,(pkV code (pkA 20 a.2.1) (pkS code a.2.1 a.2.2 20) 9) - 1)) (b.v rfl) (b.n 5 rfl) l rfl (b.w rfl) rfl Yu rfl rfl) rfl) ?_
 exact zN
 refine w_ ?_
 refine Z6<|AC.wk (QY (p:=6) (off:=0) (q:=3) rfl rfl rfl)<|AC.wk (QY (p:=6) (off:=1) (q:=4) rfl rfl rfl)<|AC.wk (QY (p:=6) (off:=2) (q:=5) rfl rfl rfl) ?_
 refine w5 ?_
 subst j
 refine Za (x:=((a.1.1,(a.1.2.1,a.1.2.2.set 0 (d.1,d.2.1,d.2.2.1,(pkV code (pkA 20 a.2.1) (pkS code a.2.1 a.2.2 20) 9) - 1))),((pkA 9 (pkA 20 a.2.1)),(pkS code (pkA 20 a.2.1) (pkS code a.2.1 a.2.2 20) 9)))) [(0,0)] ?_ (Res.one rfl (Rs.cell rfl rfl XQ rfl)) rfl ⟨rfl,trivial⟩ rfl rfl
 (dsimp only; omega)
 obtain ⟨c,i⟩:=gx a.1.2.1 0
 have o:=Qi1 code (⟨#[48,49,50]⟩:ByteArray) c (pkA 20 a.2.1) (pkS code a.2.1 a.2.2 20)
 apply dV (i5 10 _ _ _ _ _ [io 15 (lf (.ept 4 1 0 0)),io 16 (lf (dS c)),⟨some 17,lf (dS ((spV code (⟨#[48,49,50]⟩:ByteArray) c (pkA 20 a.2.1) (pkS code a.2.1 a.2.2 20)).1)),[bx 0 119 [.dat QP code,dI ((spV code (⟨#[48,49,50]⟩:ByteArray) c (pkA 20 a.2.1) (pkS code a.2.1 a.2.2 20)).2.1), .val (.int .u64 ((spV code (⟨#[48,49,50]⟩:ByteArray) c (pkA 20 a.2.1) (pkS code a.2.1 a.2.2 20)).2.2))],(0,none)]⟩,io 18 (lf (.ept 4 1 0 0)),⟨none,lf (.val undef),[ar 4 9 .str (a.1.2.1.set 0 ((spV code (⟨#[48,49,50]⟩:ByteArray) c (pkA 20 a.2.1) (pkS code a.2.1 a.2.2 20)).1))]⟩]) [0,0,3,7,7,7,7,3,0,0]
 refine z5 ?_
 refine zz (fun _ b=>ac (QM (e:= .str) (b.v rfl) (b.en 4 rfl) (Qo rfl) QaE VX rfl (by omega) (by first | omega | (simp only[ay]; omega))) rfl)<|zz (fun _ b=>ac (Zv (e:= .str) (b.v rfl) (b.n 4 rfl) i rfl VX rfl rfl) rfl) ?_
 refine zz (fun _ b=>ac (dP 11 [] (Wo code (pkA 20 a.2.1) (pkS code a.2.1 a.2.2 20) c (⟨#[48,49,50]⟩:ByteArray) (by omega) (by have b:=‹(_∧_∧∀z∈_,ByteArray.size z≤2400)∧_›; have y:=b.1.2.2 _ (ai ‹_›); exact ⟨by omega,by decide⟩)) Qc1) rfl) ?_
 refine zz (fun _ b=>ac (QM (e:= .str) (b.v rfl) (b.en 4 rfl) (Qo rfl) QaE VX rfl (by omega) (by first | omega | (simp only[ay]; omega))) rfl)<|zz (fun _ b=>ac (QA (e:= .str) (z':=(spV code (⟨#[48,49,50]⟩:ByteArray) c (pkA 20 a.2.1) (pkS code a.2.1 a.2.2 20)).1) (b.v rfl) (b.n 4 rfl) i rfl (b.w rfl) rfl VX rfl rfl) rfl) ?_
 exact zN
 refine w_ ?_
 refine Z6<|AC.wk (QY (p:=6) (off:=0) (q:=3) rfl rfl rfl)<|AC.wk (QY (p:=6) (off:=1) (q:=4) rfl rfl rfl)<|AC.wk (QY (p:=6) (off:=2) (q:=5) rfl rfl rfl) ?_
 refine w5 ?_
 subst j
 refine Za (x:=((a.1.1,(a.1.2.1.set 0 ((spV code (⟨#[48,49,50]⟩:ByteArray) c (pkA 20 a.2.1) (pkS code a.2.1 a.2.2 20)).1),a.1.2.2)),(((spV code (⟨#[48,49,50]⟩:ByteArray) c (pkA 20 a.2.1) (pkS code a.2.1 a.2.2 20)).2.1),((spV code (⟨#[48,49,50]⟩:ByteArray) c (pkA 20 a.2.1) (pkS code a.2.1 a.2.2 20)).2.2)))) [(0,0)] ?_ (Res.one rfl (Rs.cell rfl rfl XQ rfl)) rfl ⟨rfl,trivial⟩ rfl rfl
 (dsimp only; simp only[ah,ay,ap,aD]; omega)
end Go.Proofs.YtgpdhgadmjfokaaGreat
