/- Walks over abstract states: prime implicants, both sides. -/
import Derived.Test.YtndabgcpnmeeoaaGreatMHn
import Derived.Test.YtndabgcpnmeeoaaGreatMWw
import Derived.Test.YtndabgcpnmeeoaaGreatMAv
import Derived.Test.YtndabgcpnmeeoaaGreatMBc
import Derived.Test.YtndabgcpnmeeoaaGreatMDa
import Derived.Test.YtndabgcpnmeeoaaGreatMAi
import Derived.Test.YtndabgcpnmeeoaaGreatMAl
import Derived.Test.YtndabgcpnmeeoaaGreatMWk
import Derived.Shelf.Lays
import Derived.Shelf.Strings.OnBuilder
import Derived.Test.YtndabgcpnmeeoaaGreatMGi
set_option linter.unusedSimpArgs false
set_option linter.unusedVariables false
set_option linter.unusedSectionVars false
namespace Go.Proofs.YtndabgcpnmeeoaaGreat
open Go.RowKit
set_option maxRecDepth 100000
set_option maxHeartbeats 4000000
def Quo (cube:ByteArray)(codes:List ByteArray):Bool:=codes.any fun c=>Y4 cube c
def QxN (cube:ByteArray)(off:List ByteArray)(i:Nat):Bool:=decide (bAt cube (i:Int)=45)||Quo (Hl cube (i:Int) ⟨#[45]⟩) off
def QxX (cube:ByteArray)(off:List ByteArray):Bool:=(List.range cube.size).all (QxN cube off)
def prB (on off:List ByteArray)(x:ByteArray):Bool:=Quo x on&&(!(Quo x off)&&QxX x off)
def cuF (c:ByteArray):List ByteArray:=[c++⟨#[45]⟩,c++⟨#[48]⟩,c++⟨#[49]⟩]
def Q1:Nat→List ByteArray
 | 0=>[⟨#[]⟩]
 | n+1=>(Q1 n).flatMap cuF
def Qe8 (n:Int)(on off:List ByteArray):List ByteArray:=(Q1 n.toNat).filter (prB on off)
def QyF (n:Int)(on off:List ByteArray)(k:Nat):List ByteArray:=((Q1 n.toNat).take k).filter (prB on off)
section
variable {n m:Int}{k j:Nat}{c x cube:ByteArray}{l on off codes:List ByteArray}{u:UInt8}
theorem Qjx:(l.flatMap cuF).length=3*l.length:=by
 induction l with
 | nil=>rfl
 | cons x l a=>rw[List.flatMap_cons,ai,a,au]; show 3+_=_; omega
theorem QjG {n:Nat}:(Q1 n).length=3 ^ n:=by
 induction n with
 | zero=>rfl
 | succ n a=>rw[Q1,Qjx,a,Nat.pow_succ]; omega
theorem QcZ {n:Nat}(h:n≤8):(Q1 n).length≤6561:=by rw[QjG]; exact Nat.pow_le_pow_right (by decide) h
theorem QmF (a:l[k]? =some x):(l.take k).flatMap cuF++[x++⟨#[45]⟩,x++⟨#[48]⟩,x++⟨#[49]⟩]=(l.take (k+1)).flatMap cuF:=by
 rw[Qw a,db]; simp[cuF]
theorem Qp9 {n:Nat}(h:(Q1 n).length≤j):((Q1 n).take j).flatMap cuF=Q1 (n+1):=by rw[aR h]; rfl
theorem Ww:∀{n:Nat} {x:ByteArray},x∈Q1 n→x.size=n
 | 0,x,h=>by rw[Q1,aD] at h; subst h; rfl
 | n+1,x,h=>by
  rw[Q1,cH] at h
  obtain ⟨c,a,h⟩:=h
  have:=Ww a
  simp only[cuF,aC,cA,or_false] at h
  rcases h with rfl | rfl | rfl <;> rw[aA,this] <;> rfl
end
theorem Qa4 (n:Int)(I:0≤n∧n≤8):FC Tryz.prog 213 [(false,[dI n])] [] 0 (YV 9 .str (Q1 n.toNat)):=by
 refine Qp Tryz.func213 rfl rfl Tryz.ntmps213 fun E y D t F w v=> ?_
 refine acI 0 fun _=> ?_
 refine w4 ?_
 refine lc (dBs 0 (e:= .str) Ya) ?_
 refine w8 ?_
 refine QD (fun r s=>∃(b:Int) (a:List ByteArray),r=(n - b).toNat∧(0≤b∧b≤n)∧(a=Q1 b.toNat)∧s=⟨[(2,lf (.val (.slice none 0 0))),(3,lR 1),(8,lI n),(9,lI b)],[ar 1 9 .str a]⟩) ⟨0,[(⟨#[]⟩:ByteArray)],rfl,by omega,rfl,rfl⟩ ?_ ?_
 exact wp [(1,0)] ⟨(Qk (by first | rfl | simp)),trivial⟩
 rintro r s ⟨b,a,C,H,d,rfl⟩
 have z:a.length≤6561:=by rw[d]; exact QcZ (n:=b.toNat) (by omega)
 refine w4 ?_
 cases f:(decide (b < n))
 have g:=aa f
 refine w7 ?_
 refine Qd<|fo_ y ?_
 ·(rw[d,show b=n by omega]; done)
 have g:=ab f
 refine w5 ?_
 refine lc (dBs 2 (e:= .str) Ya) ?_
 refine w9 ?_
 refine lp0 a.length (fun j=>⟨[(2,lf (.val (.slice none 0 0))),(3,lR 1),(4,lR 3),(8,lI n),(9,lI b),(10,lB true),(12,lR 1),(13,lI (a.length:Int)),(14,lI (j:Int))],[ar 1 9 .str a,ar 3 9 .str (((a).take j).flatMap cuF)]⟩) ?_ fun j _=> ?_
 exact wp [(3,2)] ⟨rfl,(Qk (rfl)),trivial⟩
 have A:=Qjx (l:=(a).take j)
 have B:((a).take j).length≤(a).length:=by simp only[ap]; omega
 refine w4 ?_
 cases h:(decide ((j:Int) < (a.length:Int)))
 have i:=aa h
 refine w6 ?_
 refine Qb ?_
 refine w4 ?_
 refine Qb<|Zb ⟨(b+1),(((a).take j).flatMap cuF),rfl,by omega,(by rw[d] at*; rw[Qp9 (by omega),show (b+1).toNat=b.toNat+1 by omega]),rfl⟩ (by omega) ?_
 exact wp [(1,3)] ⟨(Qk (by first | rfl | simp)),trivial⟩
 have i:=ab h
 refine w6 ?_
 obtain ⟨G,o⟩:=gx a j
 have p:=o
 have q:=Ww (d▸ae o)
 refine w6 ?_
 refine lc (QA (Qa rfl) (Evl.str rfl) rfl (by first | omega | (simp only[aA,Zh]; omega))) ?_
 refine w_ ?_
 refine lc (QA (Qa rfl) (Evl.str rfl) rfl (by first | omega | (simp only[aA,Zh]; omega))) ?_
 refine w_ ?_
 refine lc (QA (Qa rfl) (Evl.str rfl) rfl (by first | omega | (simp only[aA,Zh]; omega))) ?_
 refine lc (dBs 4 (e:= .str) Ya) ?_
 refine lc (dA 5 VT) ?_
 refine w_ ?_
 refine Qb ?_
 refine w4 ?_
 refine Qb ?_
 refine l0_ ?_
 exact wp [(3,5)] ⟨rfl,(Qk ((QmF p))),trivial⟩
theorem Qbs (n:Int)(I:0≤n∧n≤8):FC Tryz.prog 226 [(false,[dI n])] [] 0 (YV 9 .str (Q1 n.toNat)):=by
 refine Qp Tryz.func226 rfl rfl Tryz.ntmps226 fun E y D t F w v=> ?_
 refine acI 0 fun _=> ?_
 refine w4 ?_
 refine lc (dBs 0 (e:= .str) Ya) ?_
 refine w4 ?_
 refine QD (fun r s=>∃(b:Int) (a:List ByteArray),r=b.toNat∧(0≤b∧b≤n)∧(a=Q1 (n - b).toNat)∧s=⟨[(0,lI b),(2,lf (.val (.slice none 0 0))),(3,lR 1)],[ar 1 9 .str a]⟩) ⟨n,[(⟨#[]⟩:ByteArray)],rfl,by omega,(by rw[show (n - n).toNat=0 by omega]; rfl),rfl⟩ ?_ ?_
 exact wp [(1,0)] ⟨(Qk (by first | rfl | simp)),trivial⟩
 rintro r s ⟨b,a,C,H,d,rfl⟩
 have z:a.length≤6561:=by rw[d]; exact QcZ (n:=(n - b).toNat) (by omega)
 refine w5 ?_
 cases f:(decide (0 < b))
 have g:=aa f
 refine w7 ?_
 refine Qd<|fo_ y ?_
 ·(rw[d,show b=0 by omega,Int.sub_zero]; done)
 have g:=ab f
 refine w14 ?_
 refine AC.wk (Wk.nilS 2 4 9 .str rfl (Fresh.of rfl) (nlr rfl)) ?_
 refine lp0 a.length (fun j=>⟨[(0,lI b),(2,lf (.val (.slice none 0 0))),(3,lR 1),(4,lR 3),(8,lI b),(9,lB true),(12,lR 1),(13,lI (a.length:Int)),(14,lI (j:Int))],[ar 1 9 .str a,ar 3 9 .str (((a).take j).flatMap cuF)]⟩) ?_ fun j _=> ?_
 exact wp [(3,2)] ⟨rfl,(Qk (rfl)),trivial⟩
 have A:=Qjx (l:=(a).take j)
 have B:((a).take j).length≤(a).length:=by simp only[ap]; omega
 refine w4 ?_
 cases h:(decide ((j:Int) < (a.length:Int)))
 have i:=aa h
 refine w6 ?_
 refine Qb ?_
 refine w5 ?_
 refine Qb<|Zb ⟨(b - 1),(((a).take j).flatMap cuF),rfl,by omega,(by rw[d] at*; rw[Qp9 (by omega),show (n - (b - 1)).toNat=(n - b).toNat+1 by omega]),rfl⟩ (by omega) ?_
 exact wp [(1,3)] ⟨(Qk (by first | rfl | simp)),trivial⟩
 have i:=ab h
 refine w6 ?_
 obtain ⟨G,o⟩:=gx a j
 have p:=o
 have q:=Ww (d▸ae o)
 refine w6 ?_
 refine lc (QA (Qa rfl) (Evl.str rfl) rfl (by first | omega | (simp only[aA,Zh]; omega))) ?_
 refine w_ ?_
 refine lc (QA (Qa rfl) (Evl.str rfl) rfl (by first | omega | (simp only[aA,Zh]; omega))) ?_
 refine w_ ?_
 refine lc (QA (Qa rfl) (Evl.str rfl) rfl (by first | omega | (simp only[aA,Zh]; omega))) ?_
 refine lc (dBs 4 (e:= .str) Ya) ?_
 refine lc (dA 5 VT) ?_
 refine w_ ?_
 refine Qb ?_
 refine w4 ?_
 refine Qb ?_
 refine l0_ ?_
 exact wp [(3,5)] ⟨rfl,(Qk ((QmF p))),trivial⟩
end Go.Proofs.YtndabgcpnmeeoaaGreat
namespace Go.Proofs.YtndabgcpnmeeoaaGreat
open Go.RowKit
set_option maxRecDepth 100000
set_option maxHeartbeats 4000000
def dpB (on off:List ByteArray)(x:ByteArray):Bool:= !(prB on off x)
section
variable {n:Int}{k:Nat}{x:ByteArray}{l on off:List ByteArray}
end
end Go.Proofs.YtndabgcpnmeeoaaGreat
namespace Go.Proofs.YtndabgcpnmeeoaaGreat
open Go.RowKit
set_option maxRecDepth 100000
set_option maxHeartbeats 4000000
section
variable {n:Int}{on off:List ByteArray}
def PrP (n:Int)(on off:List ByteArray):Prop:=OOk n on off∧((Qe8 n on off).length:Int)≤60
instance (n:Int) (on off:List ByteArray):Decidable (PrP n on off):=inferInstanceAs (Decidable (_∧_))
def Qyt (n:Int)(on off:List ByteArray):List ByteArray:=if PrP n on off then Qe8 n on off else []
end
end Go.Proofs.YtndabgcpnmeeoaaGreat
namespace Go.Proofs.YtndabgcpnmeeoaaGreat
open Go.RowKit
set_option maxRecDepth 100000
set_option maxHeartbeats 4000000
def inC (l:List ByteArray)(c:ByteArray):Bool:=l.any fun p=>Y4 p c
def Hp (c:ByteArray)(k:Nat):Int:=(((List.range k).filter fun i:Nat=> !decide (bAt c (i:Int)=45)).length:Int)
def Ht (l:List ByteArray)(k:Nat):Int:=((l.take k).map fun c=>Hp c c.size).sum
def YC (l:List ByteArray):Int:=Ht l l.length
def Qv4 (x y:ByteArray):Int:=if ltB x y then -1 else if ltB y x then 1 else 0
def QwB:List ByteArray→List ByteArray→Int
 | [],[]=>0
 | [],_ :: _=> -1
 | _ :: _,[]=>1
 | x :: a,y :: b=>if Qv4 x y=0 then QwB a b else Qv4 x y
def btB (l:List ByteArray)(st:List ByteArray×Bool):Bool:= !st.2||(decide (YC l < YC st.1)||(decide (YC l=YC st.1)&&decide (QwB l st.1 < 0)))
def upS (st:List ByteArray×Bool)(l:List ByteArray):List ByteArray×Bool:=if btB l st=true then (l,true) else st
def QrF (xs:List (List ByteArray))(st:List ByteArray×Bool):List ByteArray×Bool:=xs.foldl upS st
def lfI (m:Nat)(l:List ByteArray):List (List ByteArray):=if (YQ (Qia l)).length=l.length∧m=0 then [Qia l] else []
def leI (ps:List ByteArray):Nat→List ByteArray→List ByteArray→List (List ByteArray)
 | 0,on,l=>match on with
  | []=>lfI 0 l
  | _ :: _=>[]
 | m+1,on,l=>match on with
  | []=>lfI (m+1) l
  | c :: _=>ps.flatMap fun p=>if Y4 p c=true then leI ps m (on.filter fun x=> !(Y4 p x)) (l++[p]) else []
def Qw0 (on tk:List ByteArray):Option ByteArray:=on.find? fun c=> !(inC tk c)
def leS (ps on:List ByteArray):Nat→List ByteArray→List (List ByteArray)
 | 0,tk=>match Qw0 on tk with
  | none=>[tk]
  | some _=>[]
 | m+1,tk=>match Qw0 on tk with
  | none=>[tk]
  | some c=>ps.flatMap fun p=>if Y4 p c=true then leS ps on m (Z8 ltB p tk) else []
def Qyg (ps on:List ByteArray)(k:Nat):List ByteArray×Bool:=QrF (leI ps k on []) ([],false)
def Qw9 (ps on:List ByteArray)(k:Nat):List ByteArray×Bool:=QrF (leS ps on k []) ([],false)
def fmV (f:Nat→List ByteArray×Bool):Nat→Nat→List ByteArray×Bool
 | 0,_=>([],false)
 | n+1,k=>if (f k).2=true then f k else fmV f n (k+1)
def GdL (l:List ByteArray):Prop:=l.length≤100∧∀x∈l,x.size≤1000
section
variable {ps on l tk best rest:List ByteArray}{xs ys:List (List ByteArray)}{st:List ByteArray×Bool}{k m:Nat}{more:Int}{c p x:ByteArray}{f g:Nat→List ByteArray×Bool}{b:Bool}
theorem QrB (Q:List ByteArray→Prop)(h:∀l∈xs,Q l)(h0:Q st.1):Q (QrF xs st).1:=by
 induction xs generalizing st with
 | nil=>exact h0
 | cons l xs d=>
  refine d (fun z a=>h z (aw _ a)) (st:=upS st l) ?_
  unfold upS
  split
  ·exact h l (ax ..)
  ·exact h0
def ch1 (ps on l:List ByteArray)(more:Int)(c p:ByteArray):List (List ByteArray):=if Y4 p c=true then leI ps (more - 1).toNat (on.filter fun x=> !(Y4 p x)) (l++[p]) else []
def chK (ps on l:List ByteArray)(more:Int)(c:ByteArray)(k:Nat):List (List ByteArray):=(ps.take k).flatMap (ch1 ps on l more c)
theorem Qpx (h:GdL l):∀x∈lfI m l,GdL x:=fun x a=>by
 unfold lfI at a
 split at a
 ·rw[aD] at a
  subst a
  exact ⟨by rw[QnL]; exact h.1,fun y d=>h.2 y ((Qc8 l).mem_iff.1 d)⟩
 ·cases a
theorem Qml (h:∀x∈l,x.size≤1000)(d:p.size≤1000):∀x∈l++[p],x.size≤1000:=fun x a=>by
 rcases aM.1 a with a | a
 ·exact h x a
 ·rw[aD] at a; subst a; exact d
theorem QqH (e:∀p∈ps,p.size≤1000):∀(m:Nat) {on l:List ByteArray},l.length+m≤100→(∀x∈l,x.size≤1000)→∀x∈leI ps m on l,GdL x
 | 0,on,l,h1,h2,x,a=>by
  cases on with
  | nil=>exact Qpx (m:=0) ⟨by omega,h2⟩ x a
  | cons c t=>cases a
 | m+1,on,l,h1,h2,x,a=>by
  cases on with
  | nil=>exact Qpx (m:=m+1) ⟨by omega,h2⟩ x a
  | cons c t=>
   obtain ⟨p,d,a⟩:=cH.1 (show x∈ps.flatMap _ from a)
   split at a
   ·exact QqH e m (by rw[ai,dn]; omega) (Qml h2 (e p d)) x a
   ·cases a
def se1 (ps on tk:List ByteArray)(more:Int)(c p:ByteArray):List (List ByteArray):=if 0 < more∧Y4 p c=true then leS ps on (more - 1).toNat (Z8 ltB p tk) else []
def seK (ps on tk:List ByteArray)(more:Int)(c:ByteArray)(k:Nat):List (List ByteArray):=(ps.take k).flatMap (se1 ps on tk more c)
end
end Go.Proofs.YtndabgcpnmeeoaaGreat
namespace Go.Proofs.YtndabgcpnmeeoaaGreat
open Go.RowKit
set_option maxRecDepth 100000
set_option maxHeartbeats 4000000
section
variable {l a b:List ByteArray}{c x y:ByteArray}{k j:Nat}{u:UInt8}{st:List ByteArray×Bool}
theorem Qhb (d:c[((k:Int)).toNat]? =some u)(h:¬u=45):Hp c k+1=Hp c (k+1):=by
 unfold Hp
 rw[bY,bz,ai]
 simp[Zo d,h]
theorem Qf0 (d:c[((k:Int)).toNat]? =some u)(h:u=45):Hp c k=Hp c (k+1):=by
 unfold Hp
 rw[bY,bz,ai]
 simp[Zo d,h]
theorem Qdr:0≤Hp c k∧Hp c k≤(k:Int):=by
 unfold Hp
 have:((List.range k).filter fun i:Nat=> !decide (bAt c (i:Int)=45)).length≤(List.range k).length:=bM ..
 rw[List.length_range] at this
 omega
theorem Qbp (d:l[k]? =some c):Ht l k+Hp c c.size=Ht l (k+1):=by
 unfold Ht
 rw[Qw d,bt,List.sum_append]
 simp
theorem Qda (h:∀x∈l,x.size≤1000):0≤Ht l k∧Ht l k≤1000*(k:Int):=by
 induction k with
 | zero=>exact ⟨cK _,cK _⟩
 | succ k g=>
  cases d:l[k]? with
  | none=>
   have:Ht l (k+1)=Ht l k:=by
    have:=cR.1 d
    unfold Ht; rw[aR (by omega),aR this]
   rw[this]; omega
  | some c=>
   rw[← Qbp d]
   have e:=Qdr (c:=c) (k:=c.size)
   have f:=h c (ae d)
   omega
theorem QhU (h:l.length≤k):Ht l k=YC l:=by unfold YC Ht; rw[aR h,aR (aK _)]
theorem Qig (h:GdL l):0≤YC l∧YC l≤100000:=by
 have:=Qda (k:=l.length) h.2
 have:=h.1
 unfold YC
 omega
end
theorem Wj (l:List ByteArray)(t:GdL l):FC Tryz.prog 108 [(false,[.dat Qj l])] [] 0 (QX (lI (YC l))):=by
 have G:=t.1
 have H:=Qig t
 refine Qp Tryz.func108 rfl rfl Tryz.ntmps108 fun P F O C Q E D=> ?_
 refine w9 ?_
 refine alL 7 fun _=> ?_
 refine w4 ?_
 refine QD (fun r s=>∃(k:Nat) (v:Int),k≤l.length∧r=l.length - k∧(v=Ht l k)∧s=⟨[(2,lI 0),(3,lI v),(7,lf (.dat Qj l)),(8,lI (l.length:Int)),(9,lI (k:Int))],[]⟩) ⟨0,0,aP _,rfl,rfl,rfl⟩ ?_ ?_
 exact wo []
 rintro r s ⟨k,v,I,K,A,rfl⟩
 have N:=Qda (k:=k) t.2
 refine w4 ?_
 cases o:(decide ((k:Int) < (l.length:Int)))
 have p:=aa o
 refine w7 ?_
 refine Qd<|fqI F ?_
 exact A.trans (QhU (by omega))
 have p:=ab o
 refine w5 ?_
 obtain ⟨e,q⟩:=gx l k
 have w:=q
 have B:=t.2 _ (ae q)
 refine w6 ?_
 refine alS 13 fun _=> ?_
 refine lc (Zd (Qa rfl) rfl Zz) ?_
 refine w3 ?_
 refine QD (fun r s=>∃(j:Nat) (d:Int),j≤e.size∧r=e.size - j∧(d=Ht l k+Hp e j)∧s=⟨[(2,lI 0),(3,lI d),(5,lf (dS e)),(7,lf (.dat Qj l)),(8,lI (l.length:Int)),(9,lI (k:Int)),(10,lB true),(11,lf (.elt .str e 0)),(12,lf (dS e)),(13,lf (dS e)),(14,lI (e.size:Int)),(15,lI (j:Int))],[]⟩) ⟨0,v,aP _,rfl,(by rw[A]; simp[Hp]),rfl⟩ ?_ ?_
 exact wo []
 rintro r s ⟨j,d,J,L,n,rfl⟩
 have M:=Qdr (c:=e) (k:=j)
 refine w4 ?_
 cases f:(decide ((j:Int) < (e.size:Int)))
 have i:=aa f
 refine w6 ?_
 refine Qb<|Zb ⟨k+1,d,by omega,rfl,(by rw[n,show j=e.size by omega,Qbp w]),rfl⟩ (by omega) ?_
 exact wo []
 have i:=ab f
 refine w11 ?_
 obtain ⟨h,z⟩:=gs e (((j:Int)).toNat)
 refine w_ ?_
 refine lc (QT (Qa rfl) (Q0 45 rfl) rfl) ?_
 refine w_ ?_
 cases g:(!decide (h=45))
 have m:(h=45):=Qu g
 refine w6 ?_
 refine Qb<|Zb ⟨j+1,d,by omega,rfl,(by rw[n]; first | rw[Int.add_assoc,Qhb ‹_› ‹_›] | rw[Qf0 ‹_› ‹_›]),rfl⟩ (by omega) ?_
 exact wo []
 have m:¬(h=45):=QE g
 refine w5 ?_
 refine Qb ?_
 refine w4 ?_
 refine Qb<|Zb ⟨j+1,(d+1),by omega,rfl,(by rw[n]; first | rw[Int.add_assoc,Qhb ‹_› ‹_›] | rw[Qf0 ‹_› ‹_›]),rfl⟩ (by omega) ?_
 exact wo []
theorem WW (l:List ByteArray)(hg:GdL l):FC Tryz.prog 227 [(false,[.dat Qj l])] [] 0 (QX (lI (YC l))):=by
 have hg1:=hg.1
 have hgr:=Qig hg
 refine Qp Tryz.func227 rfl rfl Tryz.ntmps227 fun O_ hO w0_ N0_ X_ h0_ f0_=> ?_
 refine w9 ?_
 refine alL 7 fun _=> ?_
 refine w4 ?_
 refine QD (fun m_ s_=>∃(k:Nat) (n_:Int),k≤l.length∧m_=l.length - k∧(n_=Ht l k)∧s_=⟨[(2,lI 0),(3,lI n_),(7,lf (.dat Qj l)),(8,lI (l.length:Int)),(9,lI (k:Int))],[]⟩) ⟨0,0,aP _,rfl,rfl,rfl⟩ ?_ ?_
 exact wo []
 rintro m_ s_ ⟨k,n_,hk2,hm3,hn,rfl⟩
 have hnr:=Qda (k:=k) hg.2
 refine w4 ?_
 cases hb4:(decide ((k:Int) < (l.length:Int)))
 have hb4':=aa hb4
 refine w7 ?_
 refine Qd<|fqI hO ?_
 exact hn.trans (QhU (by omega))
 have hb4':=ab hb4
 refine w5 ?_
 obtain ⟨cx,hx6⟩:=gx l k
 have hcx:=hx6
 have hscx:=hg.2 _ (ae hx6)
 refine w8 ?_
 refine QD (fun m_ s_=>∃(j:Nat) (wn_:Int),j≤cx.size∧m_=cx.size - j∧(wn_=Ht l k+Hp cx j)∧s_=⟨[(2,lI 0),(3,lI wn_),(5,lf (dS cx)),(6,lI (j:Int)),(7,lf (.dat Qj l)),(8,lI (l.length:Int)),(9,lI (k:Int)),(10,lB true),(11,lf (.elt .str cx 0)),(12,lf (dS cx))],[]⟩) ⟨0,n_,aP _,rfl,(by rw[hn]; simp[Hp]),rfl⟩ ?_ ?_
 exact wo []
 rintro m_ s_ ⟨j,wn_,hk7,hm8,hw2,rfl⟩
 have hmr:=Qdr (c:=cx) (k:=j)
 refine w4 ?_
 refine alS 14 fun _=> ?_
 refine lc (Zd (Qa rfl) rfl Zz) ?_
 refine w2 ?_
 cases hb10:(decide ((j:Int) < (cx.size:Int)))
 have hb10':=aa hb10
 refine w6 ?_
 refine Qb<|Zb ⟨k+1,wn_,by omega,rfl,(by rw[hw2,show j=cx.size by omega,Qbp hcx]),rfl⟩ (by omega) ?_
 exact wo []
 have hb10':=ab hb10
 refine w7 ?_
 obtain ⟨c11,hc12⟩:=gs cx (((j:Int)).toNat)
 refine w_ ?_
 refine lc (QT (Qa rfl) (Q0 45 rfl) rfl) ?_
 refine w_ ?_
 cases hb13:(!decide (c11=45))
 have hb13':(c11=45):=Qu hb13
 refine w7 ?_
 refine Qb<|Zb ⟨j+1,wn_,by omega,rfl,(by rw[hw2]; first | rw[Int.add_assoc,Qhb ‹_› ‹_›] | rw[Qf0 ‹_› ‹_›]),rfl⟩ (by omega) ?_
 exact wo []
 have hb13':¬(c11=45):=QE hb13
 refine w5 ?_
 refine Qb ?_
 refine w5 ?_
 refine Qb<|Zb ⟨j+1,(wn_+1),by omega,rfl,(by rw[hw2]; first | rw[Int.add_assoc,Qhb ‹_› ‹_›] | rw[Qf0 ‹_› ‹_›]),rfl⟩ (by omega) ?_
 exact wo []
end Go.Proofs.YtndabgcpnmeeoaaGreat
namespace Go.Proofs.YtndabgcpnmeeoaaGreat
open Go.RowKit
set_option maxRecDepth 100000
set_option maxHeartbeats 4000000
def ChP (ps on l:List ByteArray)(more:Int):Prop:=0≤more∧(l.length:Int)+more≤100∧(∀x∈l,x.size≤1000)∧on.length≤1000∧∀p∈ps,p.size≤1000∧∀c∈on,p.size≤c.size
section
variable {ps on l tk best:List ByteArray}{st:List ByteArray×Bool}{k:Nat}{more:Int}{c p x:ByteArray}{b:Bool}{f:ByteArray→Bool}
theorem ChP.next (h:ChP ps on l more)(m:ps[k]? =some p)(s:¬more=0):ChP ps (on.filter f) (l++[p]) (more - 1):=by
 obtain ⟨o,r,g,i,a⟩:=h
 have d:=ae m
 refine ⟨by omega,by rw[ai,dn]; omega,Qml g (a p d).1,bu (bM ..) i,fun q e=>⟨(a q e).1,fun c j=>(a q e).2 c (bl.1 j).1⟩⟩
theorem ChP.run (h:ChP ps on l more)(a:GdL st.1):GdL (QrF (leI ps more.toNat on l) st).1:=
 QrB GdL (QqH (fun p d=>(h.2.2.2.2 p d).1) more.toNat (by have:=h.1; have:=h.2.1; omega) h.2.2.1) a
def hd0 (on:List ByteArray):ByteArray:=(on[0]?).getD ByteArray.empty
end
def mnV (n:Int)(on off:List ByteArray):List ByteArray×Bool:=if ((Qe8 n on off).length:Int)≤60 then fmV (Qyg (Qe8 n on off) on) 7 0 else ([],false)
section
variable {n:Int}{on off ps:List ByteArray}{k:Nat}{q:Int}
end
end Go.Proofs.YtndabgcpnmeeoaaGreat
namespace Go.Proofs.YtndabgcpnmeeoaaGreat
open Go.RowKit
set_option maxRecDepth 100000
set_option maxHeartbeats 4000000
def mcV (n:Int)(on off:List ByteArray):List ByteArray:=if PrP n on off then (fmV (Qw9 (Qe8 n on off) on) 7 0).1 else []
def mcB (n:Int)(on off:List ByteArray):Bool:=decide (PrP n on off)&&(fmV (Qw9 (Qe8 n on off) on) 7 0).2
def nfV [∀c,Decidable (SgOk c)](c:DSg)(sig:Int):List ByteArray:=if QfV c sig KT then mcV (c.1.length:Int) (Qeo c sig KT).1 (Qeo c sig KT).2 else []
def nfB [∀c,Decidable (SgOk c)](c:DSg)(sig:Int):Bool:=decide (QfV c sig KT)&&mcB (c.1.length:Int) (Qeo c sig KT).1 (Qeo c sig KT).2
section
variable {n:Int}{ps on off l tk:List ByteArray}{x c p code:ByteArray}{k m:Nat}{f:Nat→List ByteArray×Bool}{s:DSg}{sig:Int}
theorem Qem {a:ByteArray}{u:UInt8}(d:∀v∈a.toList,Vk v)(e:Vk u):∀v∈(a++⟨#[u]⟩:ByteArray).toList,Vk v:=fun v b=>by
 rw[bp,ByteArray.data_append,Array.toList_append,aM] at b
 rcases b with b | b
 ·exact d v (by rw[bp]; exact b)
 ·have:v=u:=by simpa using b
  rw[this]; exact e
theorem QfH:∀{n:Nat} {x:ByteArray},x∈Q1 n→∀u∈x.toList,Vk u
 | 0,x,h=>fun u a=>by
  rw[Q1,aD] at h; subst h
  rw[bp] at a; cases a
 | n+1,x,h=>by
  rw[Q1,cH] at h
  obtain ⟨c,b,h⟩:=h
  have:=QfH b
  simp only[cuF,aC,cA,or_false] at h
  rcases h with rfl | rfl | rfl
  ·exact Qem this (.inr (.inr rfl))
  ·exact Qem this (.inl rfl)
  ·exact Qem this (.inr (.inl rfl))
section
variable [∀c,Decidable (SgOk c)](hT:QfV s sig KT)(hx:s.2.1[k]? =some x)
include hT
include hx
end
end
end Go.Proofs.YtndabgcpnmeeoaaGreat
namespace Go.Proofs.YtndabgcpnmeeoaaGreat
open Go.RowKit
theorem Qer {A:Amb}{P:Program}{s:St}{fn:Func}{m n o p q:ResultVar}{c1 c2 c3 c4 l:Bool×List LV}(M:fn.results= #[m,n,o,p,q])(H:Rs A P s m c1)(I:Rs A P s n c2)(J:Rs A P s o c3)(K:Rs A P s p c4)(L:Rs A P s q l):Res A P fn s (.tup [c1,c2,c3,c4,l]):=fun f a w g=>by
 obtain ⟨j,r,B⟩:=H f a w g
 obtain ⟨i,t,C⟩:=I f a w g
 obtain ⟨h,u,D⟩:=J f a w g
 obtain ⟨e,v,F⟩:=K f a w g
 obtain ⟨d,z,G⟩:=L f a w g
 refine ⟨.tuple #[j,i,h,e,d], ?_,[j,i,h,e,d],rfl,j,[i,h,e,d],rfl,B,i,[h,e,d],rfl,C,h,[e,d],rfl,D,e,[d],rfl,F,d,[],rfl,G,rfl⟩
 rw[Wn,M]; simp[XU,r,t,u,v,z,dL]
section
variable {A:Amb}{P:Program}{s:St}{x y:Operand}{T ty:TypeId}{pos:String}{af:Array Edge}{g:Option (Nat×Bool)}
theorem Qg4 {q d i j n:Nat}{E:TypeId}{b0 I:Bool}{ls:List LV}{M:List (Nat×LV)}(D:Evl A s x (.ept q d i j))(L:s.tab.ent q=some (.obx E d n ls M))(hl:(ovr ls M)[i*d+j]? =some (dB b0))(hy:Evl A s y (dB I))(hT:tsh P T=some (false,1)):
 Does A P ⟨none, .store T x y,ty,pos,af,g⟩ s ⟨s.tm,(q,some (.obx E d n ls ((i*d+j,dB I) :: M))) :: s.tab⟩:=fun a w K Q r hK=>by
 obtain ⟨J,r⟩:=r
 obtain ⟨g,G,c,h1,h2⟩:=D J a w r ⟨_,L⟩
 have W:a.eval y= .bool I:=hy.b r
 obtain ⟨N,g',a1,m,fps,Y,Z,p3,p4,p5,p6,p7,p8⟩:=r.cx.en q _ L
 rw[h1] at Y
 simp only[Value.slice.injEq,bn,Addr.mk.injEq,and_true] at Y
 obtain ⟨rfl,rfl,rfl⟩:=Y
 obtain ⟨fa,f1,fb,e,v,u,X,k2,k3,k4,k5,k6⟩:=p8.parts hl
 obtain rfl:f1=[]:=k5.1
 have V:i*d+j < (ovr ls M).length:=(ah.1 hl).1
 have a0:G*d≤m.size:=by rw[p6]; exact cv _ p4
 have z:(a.eval y).cells=[a.eval y].toArray:=by
  rw[W]; rfl
 have O:=W7 (P:=P) (w:=w) (b:=g) (o:=i*d+j) hT (a.eval y) [a.eval y] z rfl p3 (by omega) (by rw[W]; simp[Value.oneCell'])
 have e0:(execOp a.eval ⟨none, .store T x y,ty,pos,af,‹_›⟩).run P w= .ok .skip (XL w g (i*d+j) [a.eval y]):=by
  simp only[execOp,h2,Instr.storeAt,Instr.sureAddr,az,bd,aI,O]
 unfold Oper.wp
 rw[e0,Oper.upon_skip]
 obtain ⟨B,m1,m2,m3⟩:=WF g E (0,0) [a.eval y] w (i*d+j) m p3 (by simp; omega)
 have C:∀F,F≠g→(XL w g (i*d+j) [a.eval y]).heap[F]? =w.heap[F]? :=fun F h=>YD _ _ _ _ _ h
 have hN:(g :: fps).Nodup:=by rw[← Z]; exact r.cx.nd q ⟨_,L⟩
 refine hK _ _ ⟨J,r.mod L (VB _ _ _ _) (fun F _ S=>C F fun h=>S (by rw[Z,h]; simp)) ⟨N,g,c,B,fps,h1,Z,m1,p4,p5,by rw[m2]; exact p6,by simpa [ovr] using p7, ?_⟩⟩
 have t:∀(l:List LV) (f:List Nat) (c:List Value),(∀x∈f,x∈fps)→LOs s.tab.al J w l f c→LOs s.tab.al J (XL w g (i*d+j) [a.eval y]) l f c:=fun l f c hf h=>h.mono (fun _ _ h=>⟨h,rfl⟩) fun x D=>C x fun h=>(bA.1 hN).1 (h▸hf x D)
 have H:=LOs.put (p:=i*d+j) (l:=dB I) (f1:=[]) (v:=a.eval y) V (t _ _ _ (fun x D=>by rw[X]; simp[D]) k4) ⟨rfl,by rw[W]⟩ (t _ _ _ (fun x D=>by rw[X]; simp[D]) k6)
 rw[X]
 have e2:B.toList.take (G*d)=e++a.eval y :: u:=by
  have R:(e++v :: u).length=G*d:=by rw[← k2]; simp; omega
  have e3:m.toList=e++v :: u++m.toList.drop (G*d):=by rw[← k2,bL]
  rw[m3]
  generalize m.toList.drop (G*d)=rest at e3
  rw[e3,← k3]
  have t1:(e++v :: u++rest).take e.length=e:=by rw[aU,dh]
  have t2:(e++v :: u++rest).drop (e.length+[a.eval y].length)=u++rest:=by
   rw[aU]
   show (e++(v :: u++rest)).drop (e.length+1)=_
   rw[List.drop_length_add_append]
   rfl
  rw[t1,t2]
  have U:(e++a.eval y :: u).length=G*d:=by simpa using R
  rw[show e++[a.eval y]++(u++rest)=(e++a.eval y :: u)++rest by simp,← U,dh]
 rw[e2]
 exact H
end
section
variable {E:TypeId}{xs:List (Int×Bool×List ByteArray)}{k:Nat}{a:Int}{b b':Bool}{c c':List ByteArray}
abbrev c3T (E:TypeId):Ty:= .pr .int (.pr .bool (.sl E .str))
theorem Qgx (E:TypeId)(x:Int×Bool×List ByteArray)(xs:List (Int×Bool×List ByteArray)):Q5 (c3T E) (x :: xs)=dI x.1 :: dB x.2.1 :: .dat (.sl E .str) x.2.2 :: Q5 (c3T E) xs:=rfl
theorem QdN:∀{xs:List (Int×Bool×List ByteArray)} {k:Nat},xs[k]? =some (a,b,c)→(Q5 (c3T E) xs)[k*3+1]? =some (dB b)∧(Q5 (c3T E) xs).set (k*3+1) (dB b')=Q5 (c3T E) (xs.set k (a,b',c))
 | [],k,h=>by cases h
 | x :: xs,0,h=>by
  obtain rfl:x=(a,b,c):=by simpa using h
  exact ⟨rfl,rfl⟩
 | x :: xs,k+1,h=>by
  obtain ⟨d,e⟩:=QdN (xs:=xs) (k:=k) (by simpa using h)
  rw[Qgx,show (k+1)*3+1=k*3+1+1+1+1 by omega]
  refine ⟨d, ?_⟩
  rw[bI,bI,bI,e,bI,Qgx]
theorem QdI:∀{xs:List (Int×Bool×List ByteArray)} {k:Nat},xs[k]? =some (a,b,c)→(Q5 (c3T E) xs)[k*3+2]? =some (.dat (.sl E .str) c)∧(Q5 (c3T E) xs).set (k*3+2) (.dat (.sl E .str) c')=Q5 (c3T E) (xs.set k (a,b,c'))
 | [],k,h=>by cases h
 | x :: xs,0,h=>by
  obtain rfl:x=(a,b,c):=by simpa using h
  exact ⟨rfl,rfl⟩
 | x :: xs,k+1,h=>by
  obtain ⟨d,e⟩:=QdI (xs:=xs) (k:=k) (by simpa using h)
  rw[Qgx,show (k+1)*3+2=k*3+2+1+1+1 by omega]
  refine ⟨d, ?_⟩
  rw[bI,bI,bI,e,bI,Qgx]
end
end Go.Proofs.YtndabgcpnmeeoaaGreat
namespace Go.Proofs.YtndabgcpnmeeoaaGreat
open Go.RowKit
def QfT:Go.Shelf.Ren:=⟨fun | 156=>231 | 165=>354 | 166=>355 | 169=>356 | 240=>463 | 241=>464 | 276=>526 | 277=>527 | n=>n,fun | 31=>25 | 9=>9 | 3=>3 | 4=>4 | 0=>0 | 20=>20 | 72=>385 | 76=>388 | 70=>383 | 37=>22 | 75=>387 | 127=>394 | 164=>510 | 5=>5 | 80=>390 | n=>n,fun | n=>n⟩
theorem QwP:Go.Proofs.Lays.n156 Tryz.prog QfT:={
 mixed:=by kernel_rfl,
 f156:=Tryz.func231.trans (congrArg some (by kernel_rfl)),
 f165:=Tryz.func354.trans (congrArg some (by kernel_rfl)),
 f166:=Tryz.func355.trans (congrArg some (by kernel_rfl)),
 f169:=Tryz.func356.trans (congrArg some (by kernel_rfl)),
 f240:=Tryz.func463.trans (congrArg some (by kernel_rfl)),
 f241:=Tryz.func464.trans (congrArg some (by kernel_rfl)),
 f276:=Tryz.func526.trans (congrArg some (by kernel_rfl)),
 f277:=Tryz.func527.trans (congrArg some (by kernel_rfl)),
 t0:=Tryz.underlying0,
 a0:=Tryz.isAgg0,
 z0:=Tryz.sizeOf0,
 v0:=Tryz.zeroValue0,
 t3:=Tryz.underlying3,
 a3:=Tryz.isAgg3,
 z3:=Tryz.sizeOf3,
 v3:=Tryz.zeroValue3,
 t4:=Tryz.underlying4,
 a4:=Tryz.isAgg4,
 z4:=Tryz.sizeOf4,
 v4:=Tryz.zeroValue4,
 t9:=Tryz.underlying9,
 a9:=Tryz.isAgg9,
 z9:=Tryz.sizeOf9,
 v9:=Tryz.zeroValue9,
 t20:=Tryz.underlying20,
 a20:=Tryz.isAgg20,
 z20:=Tryz.sizeOf20,
 v20:=Tryz.zeroValue20,
 t31:=Tryz.underlying25,
 a31:=Tryz.isAgg25,
 z31:=Tryz.sizeOf25,
 v31:=Tryz.zeroValue25,
 t37:=Tryz.underlying22,
 a37:=Tryz.isAgg22,
 z37:=Tryz.sizeOf22,
 v37:=Tryz.zeroValue22,
 t70:=Tryz.underlying383,
 a70:=Tryz.isAgg383,
 z70:=Tryz.sizeOf383,
 v70:=Tryz.zeroValue383,
 t72:=Tryz.underlying385,
 a72:=Tryz.isAgg385,
 z72:=Tryz.sizeOf385,
 v72:=Tryz.zeroValue385,
 t75:=Tryz.underlying387,
 a75:=Tryz.isAgg387,
 z75:=Tryz.sizeOf387,
 v75:=Tryz.zeroValue387,
 t76:=Tryz.underlying388,
 a76:=Tryz.isAgg388,
 z76:=Tryz.sizeOf388,
 v76:=Tryz.zeroValue388,
 t127:=Tryz.underlying394,
 a127:=Tryz.isAgg394,
 z127:=Tryz.sizeOf394,
 v127:=Tryz.zeroValue394,
 t164:=Tryz.underlying510,
 a164:=Tryz.isAgg510,
 z164:=Tryz.sizeOf510,
 v164:=Tryz.zeroValue510}
theorem Qxo:Go.Proofs.Builder.Extra Tryz.prog QfT:={
 sizeBuilder:=by kernel_rfl,
 liesBuilder:=by kernel_rfl,
 t5:=Tryz.underlying5,
 a5:=Tryz.isAgg5,
 z5:=Tryz.sizeOf5,
 v5:=Tryz.zeroValue5,
 infoByte:=by kernel_rfl,
 cellsByte:=by kernel_rfl,
 sizeByte:=by kernel_rfl,
 neB5:=by decide}
def jnB (l:List ByteArray)(sep:ByteArray):ByteArray:=⟨(Lib.join (l.map fun x=>x.data.toList) sep.data.toList).toArray⟩
section
variable {l:List ByteArray}{x y sep:ByteArray}
theorem QiT:fB (x++y)=fB x++fB y:=by simp[fB]
theorem QpT:fB (jnB l sep)=Lib.join (l.map fB) (fB sep):=rfl
theorem QsQ:jnB [x] sep=x:=QjP (by rw[QpT]; exact Lib.join_one _ _)
theorem Qox (h:l≠[]):jnB (l++[y]) sep=jnB l sep++sep++y:=QjP (by
 rw[QiT,QiT,QpT,QpT]
 cases l with
 | nil=>exact absurd rfl h
 | cons x r=>
  rw[cN,be,be,bt,Lib.join_cons,Lib.join_cons]
  simp[Lib.joinTail])
theorem QrY (h:∀x∈l,x.size≤1000000):Lib.lens (l.map fB)≤1000000*l.length:=by
 induction l with
 | nil=>exact aK _
 | cons x l d=>
  have e:=d fun y c=>h y (aw _ c)
  have f:=h x (ax ..)
  have a:(fB x).length=x.size:=by simp[fB]
  have b:Lib.lens ((x :: l).map fB)=(fB x).length+Lib.lens (l.map fB):=by simp[Lib.lens]
  rw[b,a,au]; omega
theorem Qq0 (h0:0 < l.length)(c:l.length≤1000)(e:∀x∈l,x.size≤1000000)(d:sep.size≤1000):(Lib.join (l.map fB) (fB sep)).length≤1002000000:=by
 cases l with
 | nil=>cases h0
 | cons x r=>
  have a:=QrY e
  rw[be,Lib.join_length,aJ,← be (f:=fB)]
  have b:(fB sep).length=sep.size:=by simp[fB]
  rw[b]
  rw[au] at a c
  have g:sep.size*r.length≤1000*1000:=cQ d (by omega)
  omega
end
theorem Ql9 (l:List ByteArray)(sep:ByteArray)(h0:0 < l.length)(G:l.length≤1000)(K:∀x∈l,x.size≤1000000)(H:sep.size≤1000):FC Tryz.prog 231 [(false,[.dat Qj l]),(false,[dS sep])] [] 0 (QX (lf (dS (jnB l sep)))):=fun p w W t E=>by
 obtain ⟨v,Q,rfl,⟨S,h,z⟩,V,R,rfl,⟨T,i,B⟩,rfl⟩:=E
 simp only[aH,and_true] at h i
 subst h
 subst i
 have D:Rep Qj w [v] l:=Rd.rep z
 obtain ⟨rfl,I⟩:=LVR.str B
 obtain ⟨A,c,r,O,U,P⟩:=D
 simp only[aH,and_true] at r
 subst r
 obtain ⟨b,o,rfl,L⟩:=P h0
 have a:∀(j:Nat) x,l[j]? =some x→w.cell? ⟨b,o+j,none⟩=some (.string x):=fun j x J=>by
  obtain ⟨u,M,N⟩:=L j x J
  obtain ⟨rfl,_⟩:u=[.string x]∧x.size≤maxLen:=M
  have:=N 0 _ rfl
  simpa [Ty.wd] using this
 have m:b < w.heap.size:=World.block_lt_of_cell? w _ (a 0 _ (aj h0))
 have k:=Qq0 h0 G K H
 refine Calls.mono (Any.strings_Join QwP Qxo b o c l sep w a m (by omega) O (bu k (by decide))) fun e s F=> ?_
 obtain ⟨rfl,d⟩:=F
 have d:Nw w s:=d
 exact ⟨_,_,[],p,rfl,⟨rfl,rfl⟩,WE Z0 p s fun g f=>aX (t.nl g f) d.size,⟨_,rfl,Qcw (x:=jnB l sep) (by
  have C:(jnB l sep).size=(Lib.join (l.map fB) (fB sep)).length:=by simp[jnB,ByteArray.size]; rfl
  rw[C]; unfold maxLen; omega)⟩,⟨d.grw,fun g f _=>Below.block d g f,fun g f=> .inl f,fun q n=>absurd n (Z0 q)⟩,fun q n=>absurd n (by omega)⟩
end Go.Proofs.YtndabgcpnmeeoaaGreat
namespace Go.Proofs.YtndabgcpnmeeoaaGreat
open Go.RowKit
set_option maxRecDepth 100000
set_option maxHeartbeats 4000000
def HR (c:DSg)(cube:ByteArray)(q:Int):Bool:= !(Y4 cube (Y6 c q))
def Wz (c:DSg)(R Q:List Int)(cube:ByteArray)(k:Nat):Bool:=Y4 cube (cdA c k)&&(!(decide ((k:Int)∈R))&& !(decide ((k:Int)∈Q)))
def KH (c:DSg)(R:List Int)(cube:ByteArray)(a:DAr):Bool:= !(Y4 cube (Y6 c a.1))&&(Y4 cube (Y6 c a.2.2.2)&& !(decide (a.2.2.2∈R)))
def Wi (c:DSg)(R Q:List Int)(cube:ByteArray):Int:=
 if R.any (HR c cube)=true then 1 else if (List.range c.2.1.length).any (Wz c R Q cube)=true then 2 else if c.2.2.any (KH c R cube)=true then 3 else 0
section
variable {c:DSg}{R Q:List Int}{cube w w2:ByteArray}{q:Int}{i k m:Nat}{a:DAr}
theorem Xc {b:Bool}(h:R.any (fun y=>decide (q=y))=b):decide (q∈R)=b:=by
 rw[← h,co,dE,bC]
 exact ⟨fun g=>⟨q,g,aE rfl⟩,fun ⟨y,d,e⟩=>by rw[ab e]; exact d⟩
theorem Qtf (d:R[i]? =some q)(b:c.2.1[q.toNat]? =some w)(h:Y4 cube w=false):(1:Int)=Wi c R Q cube:=
 (if_pos (bC.2 ⟨q,ae d,by unfold HR; rw[YW b,h]; rfl⟩)).symm
theorem Qpj (b:c.2.1[q.toNat]? =some w)(h:Y4 cube w=true):HR c cube q=false:=by unfold HR; rw[YW b,h]; rfl
theorem QtL (g:NoneTo (HR c cube) R i)(hi:R.length≤i)(b:c.2.1[k]? =some w)(d:Y4 cube w=true)(e:decide ((k:Int)∈R)=false)(f:decide ((k:Int)∈Q)=false):(2:Int)=Wi c R Q cube:=by
 have h:=(ah.1 b).1
 unfold Wi
 rw[g.any_no hi,if_neg (by decide),if_pos (bC.2 ⟨k,bD.2 h,by unfold Wz; rw[Qrc b,d,e,f]; rfl⟩)]
theorem Jx (b:c.2.1[k]? =some w)(g:Y4 cube w=false):Wz c R Q cube k=false:=by unfold Wz; rw[Qrc b,g]; rfl
theorem Ja (g:decide ((k:Int)∈R)=true):Wz c R Q cube k=false:=by unfold Wz; rw[g]; simp
theorem Jg (g:decide ((k:Int)∈Q)=true):Wz c R Q cube k=false:=by unfold Wz; rw[g]; simp
theorem QiH (b:∀j,j < k→Wz c R Q cube j=false)(e:c.2.1.length≤k):(List.range c.2.1.length).any (Wz c R Q cube)=false:=cr.2 fun j d=>by
 rw[b j (aX (bD.1 d) e)]; decide
theorem Qtw (g:NoneTo (HR c cube) R i)(hi:R.length≤i)(h:∀j,j < k→Wz c R Q cube j=false)(l:c.2.1.length≤k)(o:c.2.2[m]? =some a)(n:c.2.1[a.1.toNat]? =some w)(b:c.2.1[a.2.2.2.toNat]? =some w2)(d:Y4 cube w=false)(e:Y4 cube w2=true)(f:decide (a.2.2.2∈R)=false):(3:Int)=Wi c R Q cube:=by
 unfold Wi
 rw[g.any_no hi,if_neg (by decide),QiH h l,if_neg (by decide),if_pos (bC.2 ⟨a,ae o,by unfold KH; rw[YW n,YW b,d,e,f]; rfl⟩)]
theorem Jn (b:c.2.1[a.1.toNat]? =some w)(g:Y4 cube w=true):KH c R cube a=false:=by unfold KH; rw[YW b,g]; rfl
theorem Jt (b:c.2.1[a.2.2.2.toNat]? =some w)(g:Y4 cube w=false):KH c R cube a=false:=by unfold KH; rw[YW b,g]; simp
theorem K0 (g:decide (a.2.2.2∈R)=true):KH c R cube a=false:=by unfold KH; rw[g]; simp
theorem Qty (b:NoneTo (HR c cube) R i)(hi:R.length≤i)(d:∀j,j < k→Wz c R Q cube j=false)(f:c.2.1.length≤k)(e:NoneTo (KH c R cube) c.2.2 m)(g:c.2.2.length≤m):(0:Int)=Wi c R Q cube:=by
 unfold Wi
 rw[b.any_no hi,if_neg (by decide),QiH d f,if_neg (by decide),e.any_no g,if_neg (by decide)]
theorem QaV (b:∀j,j < k→Wz c R Q cube j=false)(h:Wz c R Q cube k=false):∀j,j < k+1→Wz c R Q cube j=false:=fun j d=>by
 by_cases e:j=k
 ·subst e; exact h
 ·exact b j (by omega)
end
theorem XN (c:ZX)(b:List Int)(d:List Int)(cube:ByteArray)(h:SgOk c)(hz:(cube.size:Int)≤(c.1.length:Int))(hR:∀q∈b,0≤q∧q < (c.2.1.length:Int)):FC Tryz.prog 102 [(true,[.dat Ql c.1, .dat Qj c.2.1, .dat Qv c.2.2]),(false,[.dat Qi b]),(false,[.dat Qi d]),(false,[dS cube])] [] 0 (QX (lI (Wi c b d cube))):=by
 have hr:∀a∈c.2.2,InR c.2.1.length a:=fun a ha=>ZL (h.arcs a ha)
 have a4:=h.some_
 have a3:=h.few
 have h8:=h.sigs.2.2
 refine Qp Tryz.func102 rfl rfl Tryz.ntmps102 fun O_ G a7 Y X_ a0 Z=> ?_
 refine w_ ?_
 refine xbx 0 ?_
 refine w5 ?_
 refine alL 15 fun _=> ?_
 refine w4 ?_
 refine lpK b.length (fun i=>NoneTo (HR c cube) b i) (fun i=>⟨[(1,lf (.dat Qi b)),(2,lf (.dat Qi d)),(3,lf (dS cube)),(4,lP 0 0),(15,lf (.dat Qi b)),(16,lI (b.length:Int)),(17,lI (i:Int))],[bx 0 28 [.dat Ql c.1, .dat Qj c.2.1, .dat Qv c.2.2]]⟩) (NoneTo.zero) ?_ fun i _ E=> ?_
 exact wo []
 refine w4 ?_
 cases v:(decide ((i:Int) < (b.length:Int)))
 have x:=aa v
 refine w7 ?_
 refine alL 31 fun _=> ?_
 refine w4 ?_
 refine lpK c.2.1.length (fun k=>∀j,j < k→Wz c b d cube j=false) (fun k=>⟨[(1,lf (.dat Qi b)),(2,lf (.dat Qi d)),(3,lf (dS cube)),(4,lP 0 0),(31,lf (.dat Qj c.2.1)),(32,lI (c.2.1.length:Int)),(33,lI (k:Int))],[bx 0 28 [.dat Ql c.1, .dat Qj c.2.1, .dat Qv c.2.2]]⟩) ((fun j hj=>absurd hj (aW j))) ?_ fun k _ t=> ?_
 exact wo []
 refine w4 ?_
 cases z:(decide ((k:Int) < (c.2.1.length:Int)))
 have A:=aa z
 refine w7 ?_
 refine alL 55 fun _=> ?_
 refine w4 ?_
 refine lpK c.2.2.length (fun m=>NoneTo (KH c b cube) c.2.2 m) (fun m=>⟨[(1,lf (.dat Qi b)),(3,lf (dS cube)),(4,lP 0 0),(55,lf (.dat Qv c.2.2)),(56,lI (c.2.2.length:Int)),(57,lI (m:Int))],[bx 0 28 [.dat Ql c.1, .dat Qj c.2.1, .dat Qv c.2.2]]⟩) (NoneTo.zero) ?_ fun m _ F=> ?_
 exact wo []
 refine w4 ?_
 cases B:(decide ((m:Int) < (c.2.2.length:Int)))
 have C:=aa B
 refine w6 ?_
 refine Qd<|fqI G ?_
 exact Qty E (by omega) t (by omega) F (by omega)
 have C:=ab B
 refine w5 ?_
 obtain ⟨ar,l⟩:=gx c.2.2 m
 have e:=l
 have u:=hr _ (ae l)
 have a1:=u.1
 have a2:=u.2
 refine w2 ?_
 refine lc (xal 1 YE ZG) ?_
 refine w8 ?_
 refine alI 65 fun _=> ?_
 obtain ⟨V,n⟩:=gx c.2.1 ((ar.1).toNat)
 have f:=n
 have S:=(h.codes _ (ae n)).2
 refine w2 ?_
 refine lc (dK (Xl cube V (by omega)) UR) ?_
 refine w2 ?_
 cases I:(Y4 cube V)
 refine w5 ?_
 obtain ⟨W,o⟩:=gx c.2.1 ((ar.2.2.2).toNat)
 have g:=o
 have T:=(h.codes _ (ae o)).2
 refine w2 ?_
 refine lgy rfl rfl (dK (Xl cube W (by omega)) UR) ?_
 refine w2 ?_
 cases J:(Y4 cube W)
 refine w13 ?_
 refine Qb ?_
 refine lK_ ((F.step e (by first | exact Jn f ‹_› | exact Jt g ‹_› | exact K0 (by first | assumption | exact Xc ‹_›)))) ?_
 exact wo []
 refine w3 ?_
 refine lgy rfl rfl (dK (QG b ar.2.2.2) YA) ?_
 refine w3 ?_
 cases K:(b.any (fun y=>decide (ar.2.2.2=y)))
 refine w4 ?_
 refine Qd<|fqI G ?_
 exact Qtw E (by omega) t (by omega) e f g ‹_› ‹_› (by first | assumption | exact Xc ‹_›)
 refine w6 ?_
 refine Qb ?_
 refine lK_ ((F.step e (by first | exact Jn f ‹_› | exact Jt g ‹_› | exact K0 (by first | assumption | exact Xc ‹_›)))) ?_
 exact wo []
 refine w16 ?_
 refine w7 ?_
 refine Qb ?_
 refine lK_ ((F.step e (by first | exact Jn f ‹_› | exact Jt g ‹_› | exact K0 (by first | assumption | exact Xc ‹_›)))) ?_
 exact wo []
 have A:=ab z
 refine w6 ?_
 obtain ⟨w,p⟩:=gx c.2.1 k
 have H:=p
 have a6:=(h.codes _ (ae p)).2
 refine w8 ?_
 refine lc (dK (Xl cube w (by omega)) UR) ?_
 refine w_ ?_
 cases L:(Y4 cube w)
 refine w16 ?_
 refine w2 ?_
 refine Qb ?_
 refine lK_ ((QaV t (by first | exact Jx H ‹_› | exact Ja (by first | assumption | exact Xc ‹_›) | exact Jg (by first | assumption | exact Xc ‹_›)))) ?_
 exact wo []
 refine w2 ?_
 refine lgy rfl rfl (dK (QG b (k:Int)) YA) ?_
 refine w3 ?_
 cases M:(b.any (fun y=>decide ((k:Int)=y)))
 refine w2 ?_
 refine lgy rfl rfl (dK (QG d (k:Int)) YA) ?_
 refine w3 ?_
 cases N:(d.any (fun y=>decide ((k:Int)=y)))
 refine w4 ?_
 refine Qd<|fqI G ?_
 exact QtL E (by omega) H ‹_› (by first | assumption | exact Xc ‹_›) (by first | assumption | exact Xc ‹_›)
 refine w6 ?_
 refine Qb ?_
 refine lK_ ((QaV t (by first | exact Jx H ‹_› | exact Ja (by first | assumption | exact Xc ‹_›) | exact Jg (by first | assumption | exact Xc ‹_›)))) ?_
 exact wo []
 refine w12 ?_
 refine Qb ?_
 refine lK_ ((QaV t (by first | exact Jx H ‹_› | exact Ja (by first | assumption | exact Xc ‹_›) | exact Jg (by first | assumption | exact Xc ‹_›)))) ?_
 exact wo []
 have x:=ab v
 refine w5 ?_
 obtain ⟨q,r⟩:=gx b i
 have P:=r
 have a5:=hR _ (ae r)
 refine w2 ?_
 refine alI 20 fun _=> ?_
 refine w7 ?_
 obtain ⟨X,s⟩:=gx c.2.1 ((q).toNat)
 have D:=s
 have U:=(h.codes _ (ae s)).2
 refine w2 ?_
 refine lc (dK (Xl cube X (by omega)) UR) ?_
 refine w2 ?_
 cases O:(Y4 cube X)
 refine w4 ?_
 refine Qd<|fqI G ?_
 exact Qtf P D ‹_›
 refine w6 ?_
 refine Qb ?_
 refine lK_ ((E.step P (Qpj D ‹_›))) ?_
 exact wo []
theorem Vt (c:ZX)(b:List Int)(d:List Int)(cube:ByteArray)(o:SgOk c)(hz:(cube.size:Int)≤(c.1.length:Int))(hR:∀q∈b,0≤q∧q < (c.2.1.length:Int)):FC Tryz.prog 105 [(true,[.dat Ql c.1, .dat Qj c.2.1, .dat Qv c.2.2]),(false,[.dat Qi b]),(false,[.dat Qi d]),(false,[dS cube])] [] 0 (QX (lI (Wi c b d cube))):=by
 have hr:∀a∈c.2.2,InR c.2.1.length a:=fun a ha=>ZL (o.arcs a ha)
 have a6:=o.some_
 have a5:=o.few
 have h8:=o.sigs.2.2
 refine Qp Tryz.func105 rfl rfl Tryz.ntmps105 fun O_ L a9 a0 X_ a2 a1=> ?_
 refine w_ ?_
 refine xbx 0 ?_
 refine w5 ?_
 refine alL 15 fun _=> ?_
 refine w4 ?_
 refine lpK b.length (fun i=>NoneTo (HR c cube) b i) (fun i=>⟨[(1,lf (.dat Qi b)),(2,lf (.dat Qi d)),(3,lf (dS cube)),(4,lP 0 0),(15,lf (.dat Qi b)),(16,lI (b.length:Int)),(17,lI (i:Int))],[bx 0 28 [.dat Ql c.1, .dat Qj c.2.1, .dat Qv c.2.2]]⟩) (NoneTo.zero) ?_ fun i _ J=> ?_
 exact wo []
 refine w4 ?_
 cases C:(decide ((i:Int) < (b.length:Int)))
 have D:=aa C
 refine w7 ?_
 refine alL 31 fun _=> ?_
 refine w4 ?_
 refine lpK c.2.1.length (fun k=>∀j,j < k→Wz c b d cube j=false) (fun k=>⟨[(1,lf (.dat Qi b)),(2,lf (.dat Qi d)),(3,lf (dS cube)),(4,lP 0 0),(31,lf (.dat Qj c.2.1)),(32,lI (c.2.1.length:Int)),(33,lI (k:Int))],[bx 0 28 [.dat Ql c.1, .dat Qj c.2.1, .dat Qv c.2.2]]⟩) ((fun j hj=>absurd hj (aW j))) ?_ fun k _ A=> ?_
 exact wo []
 refine w4 ?_
 cases E:(decide ((k:Int) < (c.2.1.length:Int)))
 have F:=aa E
 refine w7 ?_
 refine alL 55 fun _=> ?_
 refine w4 ?_
 refine lpK c.2.2.length (fun m=>NoneTo (KH c b cube) c.2.2 m) (fun m=>⟨[(1,lf (.dat Qi b)),(3,lf (dS cube)),(4,lP 0 0),(55,lf (.dat Qv c.2.2)),(56,lI (c.2.2.length:Int)),(57,lI (m:Int))],[bx 0 28 [.dat Ql c.1, .dat Qj c.2.1, .dat Qv c.2.2]]⟩) (NoneTo.zero) ?_ fun m _ K=> ?_
 exact wo []
 refine w4 ?_
 cases G:(decide ((m:Int) < (c.2.2.length:Int)))
 have H:=aa G
 refine w6 ?_
 refine Qd<|fqI L ?_
 exact Qty J (by omega) A (by omega) K (by omega)
 have H:=ab G
 refine w5 ?_
 obtain ⟨ar,p⟩:=gx c.2.2 m
 have e:=p
 have B:=hr _ (ae p)
 have a3:=B.1
 have a4:=B.2
 refine w2 ?_
 refine lc (xal 1 YE ZG) ?_
 refine w8 ?_
 refine alI 65 fun _=> ?_
 obtain ⟨X,r⟩:=gx c.2.1 ((ar.1).toNat)
 have f:=r
 have U:=(o.codes _ (ae r)).2
 refine w2 ?_
 refine lc (dK (X6 cube X (by omega)) UX) ?_
 refine w2 ?_
 cases N:(Y4 cube X)
 refine w5 ?_
 obtain ⟨Y,s⟩:=gx c.2.1 ((ar.2.2.2).toNat)
 have g:=s
 have V:=(o.codes _ (ae s)).2
 refine w2 ?_
 refine lgy rfl rfl (dK (X6 cube Y (by omega)) UX) ?_
 refine w2 ?_
 cases O:(Y4 cube Y)
 refine w13 ?_
 refine Qb ?_
 refine lK_ ((K.step e (by first | exact Jn f ‹_› | exact Jt g ‹_› | exact K0 (by first | assumption | exact Xc ‹_›)))) ?_
 exact wo []
 refine w3 ?_
 refine lgy rfl rfl (dK (Ws b ar.2.2.2) UY) ?_
 refine w3 ?_
 cases h:(decide (ar.2.2.2∈b))
 have x:=aa h
 refine w4 ?_
 refine Qd<|fqI L ?_
 exact Qtw J (by omega) A (by omega) e f g ‹_› ‹_› (by first | assumption | exact Xc ‹_›)
 have x:=ab h
 refine w6 ?_
 refine Qb ?_
 refine lK_ ((K.step e (by first | exact Jn f ‹_› | exact Jt g ‹_› | exact K0 (by first | assumption | exact Xc ‹_›)))) ?_
 exact wo []
 refine w16 ?_
 refine w7 ?_
 refine Qb ?_
 refine lK_ ((K.step e (by first | exact Jn f ‹_› | exact Jt g ‹_› | exact K0 (by first | assumption | exact Xc ‹_›)))) ?_
 exact wo []
 have F:=ab E
 refine w6 ?_
 obtain ⟨w,t⟩:=gx c.2.1 k
 have M:=t
 have a8:=(o.codes _ (ae t)).2
 refine w8 ?_
 refine lc (dK (X6 cube w (by omega)) UX) ?_
 refine w_ ?_
 cases P:(Y4 cube w)
 refine w16 ?_
 refine w2 ?_
 refine Qb ?_
 refine lK_ ((QaV A (by first | exact Jx M ‹_› | exact Ja (by first | assumption | exact Xc ‹_›) | exact Jg (by first | assumption | exact Xc ‹_›)))) ?_
 exact wo []
 refine w2 ?_
 refine lgy rfl rfl (dK (Ws b (k:Int)) UY) ?_
 refine w3 ?_
 cases l:(decide ((k:Int)∈b))
 have y:=aa l
 refine w2 ?_
 refine lgy rfl rfl (dK (Ws d (k:Int)) UY) ?_
 refine w3 ?_
 cases n:(decide ((k:Int)∈d))
 have z:=aa n
 refine w4 ?_
 refine Qd<|fqI L ?_
 exact QtL J (by omega) M ‹_› (by first | assumption | exact Xc ‹_›) (by first | assumption | exact Xc ‹_›)
 have z:=ab n
 refine w6 ?_
 refine Qb ?_
 refine lK_ ((QaV A (by first | exact Jx M ‹_› | exact Ja (by first | assumption | exact Xc ‹_›) | exact Jg (by first | assumption | exact Xc ‹_›)))) ?_
 exact wo []
 have y:=ab l
 refine w12 ?_
 refine Qb ?_
 refine lK_ ((QaV A (by first | exact Jx M ‹_› | exact Ja (by first | assumption | exact Xc ‹_›) | exact Jg (by first | assumption | exact Xc ‹_›)))) ?_
 exact wo []
 have D:=ab C
 refine w5 ?_
 obtain ⟨q,u⟩:=gx b i
 have T:=u
 have a7:=hR _ (ae u)
 refine w2 ?_
 refine alI 20 fun _=> ?_
 refine w7 ?_
 obtain ⟨Z,v⟩:=gx c.2.1 ((q).toNat)
 have I:=v
 have W:=(o.codes _ (ae v)).2
 refine w2 ?_
 refine lc (dK (X6 cube Z (by omega)) UX) ?_
 refine w2 ?_
 cases S:(Y4 cube Z)
 refine w4 ?_
 refine Qd<|fqI L ?_
 exact Qtf T I ‹_›
 refine w6 ?_
 refine Qb ?_
 refine lK_ ((J.step T (Qpj I ‹_›))) ?_
 exact wo []
end Go.Proofs.YtndabgcpnmeeoaaGreat
