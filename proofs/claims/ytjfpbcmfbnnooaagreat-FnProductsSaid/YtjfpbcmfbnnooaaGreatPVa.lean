import Derived.Test.YtjfpbcmfbnnooaaGreatPWw
import Derived.Laws.Bits64b
set_option linter.all false
namespace Go.Proofs.YtjfpbcmfbnnooaaGreat
open Tryz
set_option maxHeartbeats 4000000
set_option maxRecDepth 100000
open Go.RowKit
set_option maxRecDepth 100000
set_option maxHeartbeats 4000000
inductive Rch (es:List (Int×Int)):Int→Prop
  | zero:Rch es 0
  | step {u v:Int}:Rch es u→(u,v)∈es→Rch es v
def ZT (rs:List DAr):List (Int×Int):=rs.map fun a=>(a.1,a.2.2.2)
def InE (n:Nat)(e:Int×Int):Prop:=(0≤e.1∧e.1<n)∧0≤e.2∧e.2<n
def Qd0 (n:Nat)(es:List (Int×Int)):Prop:=∀k:Nat,k<n→Rch es k
def Vx (e:Int×Int)(m:List Bool):List Bool:=if m[e.1.toNat]? =some true then m.set e.2.toNat true else m
def XX:List (Int×Int)→List Bool→List Bool
 | [],m=>m
 | e::es,m=>XX es (Vx e m)
def XU (es:List (Int×Int)):Nat→List Bool→List Bool
 | 0,m=>m
 | f+1,m=>XU es f (XX es m)
section
variable {es:List (Int×Int)}{e:Int×Int}{m:List Bool}{n f i k:Nat}{rs:List DAr}{a:DAr}{b:Bool}
def Qir:(Vx e m).length=m.length:=by unfold Vx;split <;> simp
def QrR:(XX es m).length=m.length:=by
 induction es generalizing m with
 | nil=>rfl
 | cons e es c=>rw[XX,c,Qir]
def QgX (h:m[i]? =some true):(Vx e m)[i]? =some true:=by
 unfold Vx
 split
 ·by_cases c:e.2.toNat=i
  ·rw[c,bj (ae.1 h).1]
  ·rw[bh c];exact h
 ·exact h
def QgI (h:m[i]? =some true):(XX es m)[i]? =some true:=by
 induction es generalizing m with
 | nil=>exact h
 | cons e es c=>rw[XX];exact c (QgX h)
def QrQ (c:e∈es)(h:m[e.1.toNat]? =some true)(g:e.2.toNat<m.length):(XX es m)[e.2.toNat]? =some true:=by
 induction es generalizing m with
 | nil=>cases c
 | cons d es j=>
  rw[XX]
  rcases aK.1 c with rfl|c
  ·refine QgI ?_
   unfold Vx
   rw[if_pos h,bj g]
  ·exact j c (QgX h) (by rw[Qir];exact g)
def Qd4 (m:List Bool):Nat:=(m.filter fun b=> !b).length
theorem Qkz (h:m[i]? =some false):Qd4 (m.set i true)+1=Qd4 m:=by
 induction m generalizing i with
 | nil=>simp at h
 | cons x l c=>
  cases i with
  | zero=>
   simp only[bQ,br] at h
   subst h
   simp[Qd4]
  | succ i=>
   have:=c (i:=i) (by simpa using h)
   simp only[Qd4,du,dn] at this ⊢
   split <;> simp_all
def Qr4 {α:Type _}{vs:List α}{i:Nat}{c:α}(h:vs[i]? =some c):vs.set i c=vs:=by
 apply bL
 intro j
 by_cases e:i=j
 ·subst e;rw[bj (ae.1 h).1,h]
 ·rw[bh e]
def Qsa:Vx e m=m∨Qd4 (Vx e m)<Qd4 m:=by
 unfold Vx
 split
 ·cases h:m[e.2.toNat]? with
  | none=>left;rw[List.set_eq_of_length_le];rwa [cQ] at h
  | some b=>
   cases b with
   | true=>left;exact Qr4 h
   | false=>right;have:=Qkz h;omega
 ·exact .inl rfl
def QrP:XX es m=m∨Qd4 (XX es m)<Qd4 m:=by
 induction es generalizing m with
 | nil=>exact .inl rfl
 | cons e es d=>
  rw[XX]
  rcases Qsa (e:=e) (m:=m) with h|h
  ·rw[h];exact d
  ·rcases d (m:=Vx e m) with c|c
   ·rw[c];exact .inr h
   ·exact .inr (Nat.lt_trans c h)
def Qh9 (h:XX es m=m):∀f,XU es f m=m
 | 0=>rfl
 | f+1=>by rw[XU,h];exact Qh9 h f
def Qi7 (h:Qd4 m<f):XX es (XU es f m)=XU es f m:=by
 induction f generalizing m with
 | zero=>omega
 | succ f d=>
  rw[XU]
  rcases QrP (es:=es) (m:=m) with c|c
  ·rw[c,Qh9 c,c]
  ·exact d (by omega)
def QnJ (h:m[i]? =some true):(XU es f m)[i]? =some true:=by
 induction f generalizing m with
 | zero=>exact h
 | succ f c=>rw[XU];exact c (QgI h)
def Qdr:(XU es f m).length=m.length:=by
 induction f generalizing m with
 | zero=>rfl
 | succ f c=>rw[XU,c,QrR]
def m0 (n:Nat):List Bool:=(List.replicate n false).set 0 true
def QA3 (h:1≤n):Qd4 (m0 n)<n:=by
 have c:(List.replicate n false)[0]? =some false:=by rw[ck,if_pos (by omega)]
 have:=Qkz c
 have d:Qd4 (List.replicate n false)=n:=by simp[Qd4]
 unfold m0
 omega
def Qlt (l:(e.1,e.2)∈es)(o:InE n e)(h:∀k:Nat,m[k]? =some true→Rch es k):∀k:Nat,(Vx e m)[k]? =some true→Rch es k:=fun k c=>by
 obtain ⟨⟨p,q⟩,r,s⟩:=o
 unfold Vx at c
 split at c
 ·rename_i j
  by_cases g:e.2.toNat=k
  ·have d:=h _ j
   rw[show ((e.1.toNat:Nat):Int)=e.1 by omega] at d
   rw[show (k:Int)=e.2 by omega]
   exact .step d l
  ·rw[bh g] at c;exact h k c
 ·exact h k c
def Qlb {c:List (Int×Int)}(d:∀e∈c,e∈es)(j:∀e∈es,InE n e)(h:∀k:Nat,m[k]? =some true→Rch es k):∀k:Nat,(XX c m)[k]? =some true→Rch es k:=by
 induction c generalizing m with
 | nil=>exact h
 | cons e c l=>rw[XX];exact l (fun e g=>d e (az _ g)) (Qlt (d e (aA ..)) (j e (d e (aA ..))) h)
def QkU (c:∀e∈es,InE n e)(h:∀k:Nat,m[k]? =some true→Rch es k):∀k:Nat,(XU es f m)[k]? =some true→Rch es k:=by
 induction f generalizing m with
 | zero=>exact h
 | succ f d=>rw[XU];exact d (Qlb (fun _ h=>h) c h)
def Qpy (o:1≤n)(l:∀e∈es,InE n e)(k:Nat)(c:k<n):(XU es n (m0 n))[k]? =some true↔Rch es k:=by
 have p:(XU es n (m0 n)).length=n:=by rw[Qdr];simp[m0]
 constructor
 ·refine QkU l (fun k c=> ?_) k
  unfold m0 at c
  by_cases e:0=k
  ·subst e;exact .zero
  ·rw[bh e,ck] at c
   split at c <;> cases c
 ·intro h
  have d:∀u:Int,Rch es u→0≤u∧u<n∧(XU es n (m0 n))[u.toNat]? =some true:=fun u q=>by
   induction q with
   | zero=>exact ⟨by omega,by omega,QnJ (by unfold m0;exact bj (by simp;omega))⟩
   | @step u v _ he ih=>
    obtain ⟨_,g,j⟩:=l _ he
    refine ⟨g,j,?_⟩
    have g:0≤v:=g
    have j:v<(n:Int):=j
    have:=QrQ he ih.2.2 (by rw[p];show v.toNat<n;omega)
    rwa [Qi7 (QA3 o)] at this
  exact (d k h).2.2
def QgZ {n:Nat}(h:∀a∈rs,InR n a):∀e∈ZT rs,InE n e:=fun e d=>by
 obtain ⟨a,c,rfl⟩:=aW.1 d
 exact h a c
def Qii (c:rs[i]? =some a):XX ((ZT rs).drop i) m=XX ((ZT rs).drop (i+1)) (Vx (a.1,a.2.2.2) m):=by
 rw[Yx (x:=(a.1,a.2.2.2)) (by unfold ZT;rw[bl,c];rfl),XX]
def Qis (h:m[a.1.toNat]? =some b)(hb:b=true):Vx (a.1,a.2.2.2) m=m.set a.2.2.2.toNat true:=by unfold Vx;rw[if_pos (by rw[h,hb])]
def Qls (h:m[a.1.toNat]? =some b)(hb:b=false):Vx (a.1,a.2.2.2) m=m:=by unfold Vx;rw[if_neg (by rw[h,hb];intro h;cases h)]
def Qvi (h:rs.length≤i):XX ((ZT rs).drop i) m=m:=by rw[cr (by simpa [ZT] using h),XX]
section
variable [Decidable (Qd0 n es)]
def QzY (j:1≤n)(o:∀e∈es,InE n e)(d:XU es n (m0 n)=m)(g:m[k]? =some b)(hb:b=false):false=decide (Qd0 n es):=(aj (p:=Qd0 n es) fun h=>by
 have l:(XU es n (m0 n)).length=n:=by rw[Qdr];simp[m0]
 have c:k<n:=by rw[← l,d];exact (ae.1 g).1
 have:=(Qpy j o k c).2 (h k c)
 rw[d,g,hb] at this
 cases this).symm
def QwA (d:1≤n)(o:∀e∈es,InE n e)(c:XU es n (m0 n)=m)(h:∀j,j<k→m[j]? =some true)(q:m.length≤k):true=decide (Qd0 n es):=(ay (p:=Qd0 n es) fun j g=>by
 have l:(XU es n (m0 n)).length=n:=by rw[Qdr];simp[m0]
 rw[c] at l
 exact (Qpy d o j g).1 (by rw[c];exact h j (by omega))).symm
end
end
def QuW {m:List Bool}{k:Nat}{b:Bool}(h:∀j,j<k→m[j]? =some true)(c:m[k]? =some b)(hb:b=true):∀j,j<k+1→m[j]? =some true:=fun j d=>by
 by_cases e:j=k
 ·rw[e,c,hb]
 ·exact h j (by omega)
def Qdb (as_:QtR)(u:as_.length≤1000000):FC prog 149 [(false,[.dat Qq as_])] [] 0 (WB 204 QdY (ZT as_)):=by
 refine Ql func149 rfl rfl ntmps149 fun s p r j t o l=>w4 ?_
 refine lc (dBs 0 (e:=QdY) Qay)<|w9 ?_
 refine lp0 as_.length (fun k=>⟨[(2,lf (.val (.slice none 0 0))),(3,lR 1),(7,lf (.dat Qq as_)),(8,lI (as_.length:Int)),(9,lI (k:Int))],[ar 1 204 QdY (ZT (as_.take k))]⟩) ?_ fun k _=> ?_
 exact wp [(1,0)] ⟨(Qg rfl),trivial⟩
 have q:(ZT (as_.take k)).length≤as_.length:=by simp only[ZT,aC,au];omega
 refine w4 ?_
 cases c:(decide ((k:Int)<(as_.length:Int)))
 have d:=ab c
 refine w8 ?_
 refine fo_ p ?_
 rw[Zy (by omega)]
 have d:=aa c
 refine w5 ?_
 obtain ⟨h,g⟩:=gx as_ k
 refine w2 ?_
 refine lc (xal 2 Yi Yp)<|w8 ?_
 refine lc (Qh QoJ ⟨_,_,rfl,(Qm rfl),⟨_,_,rfl,(Qm rfl),rfl⟩⟩ (ao.1 rfl) rfl rfl)<|lc (dBs 3 (e:=QdY) Qay (hab:=by exact ⟨_,_,_,_,rfl,⟨[dI h.1],[dI h.2.2.2],_,_,_,_,rfl,rfl,⟨rfl,rfl⟩,⟨rfl,rfl⟩,rfl⟩,⟨rfl,rfl⟩,rfl⟩))<|lc (dA 4 Qo4)<|w_ ?_
 refine Qc<|w4 ?_
 exact Qc<|l0_<|wp [(1,4)] ⟨(Qg (by rw[Qr g];simp[ZT])),trivial⟩
def Kx (s:List Int)(v:Int):FC prog 224 [(false,[.dat Qv s]),(false,[dI v])] [] 0 (QJ (lI (Zj (fun y=>decide (v=y)) s))):=by
 refine Ql func224 rfl rfl ntmps224 fun u j r l w p o=>w6 ?_
 refine alL 6 fun _=> ?_
 refine w4 ?_
 refine lpK s.length (fun k=>NoneTo (fun y=>decide (v=y)) s k) (fun k=>⟨[(0,lf (.dat Qv s)),(1,lI v),(7,lI (s.length:Int)),(8,lI (k:Int))],[]⟩) (NoneTo.zero) ?_ fun k _ c=> ?_
 exact wo []
 refine w4 ?_
 cases d:(decide ((k:Int)<(s.length:Int)))
 have g:=ab d
 refine w7 ?_
 refine fqI j ?_
 first|exact (c.no (by omega)).symm
 have g:=aa d
 refine w12 ?_
 obtain ⟨t,h⟩:=gx s k
 refine w4 ?_
 cases q:(decide (v=t))
 refine w6 ?_
 exact Qc<|lK_ (c.step h ‹_›)<|wo []
 refine w6 ?_
 exact fqI j<|(c.at h ‹_›).symm
def Uj (s:List Int)(v:Int):FC prog 147 [(false,[.dat Qv s]),(false,[dI v])] [] 0 (QJ (lB (s.any (fun y=>decide (v=y))))):=by
 refine Ql func147 rfl rfl ntmps147 fun l h j c o g d=>w6 ?_
 refine lc (dK (Kx s v) QmW)<|w4 ?_
 exact fqB h<|WI _ _
def Qhn (c:Yw)[Decidable (Qd0 c.2.1.length (ZT c.2.2))](M:1≤c.2.1.length∧c.2.1.length≤300)(H:∀a∈c.2.2,InR c.2.1.length a):FC prog 125 [(true,[.dat Qj c.1,.dat Qd c.2.1,.dat Qq c.2.2])] [] 0 (QJ (lB (decide (Qd0 c.2.1.length (ZT c.2.2))))):=by
 have x:=QgZ H
 have Z:(List.replicate c.2.1.length (Ty.zero .bool)).length=c.2.1.length:=aQ ..
 refine Ql func125 rfl rfl ntmps125 fun O_ G a0 O X_ Q P=>w_ ?_
 refine xbx 0 ?_
 refine w6 ?_
 refine lc (WW 1 (e:= .bool) (n:=c.2.1.length) (Qa rfl) (Qa rfl) QcH Qu4 rfl (by omega) (by omega) rfl (Fresh.of rfl) (nlr rfl))<|w5 ?_
 obtain ⟨x2,C⟩:=gx (List.replicate c.2.1.length (Ty.zero .bool)) 0
 refine lc (QO (e:= .bool) (z':=true) (Qa rfl) rfl C rfl (Evl.ev Zx) rfl U1 rfl rfl)<|w9 ?_
 refine Qy (fun z A=>∃(p:Nat) (g:List Bool),p≤c.2.1.length∧z=c.2.1.length - p∧(XU (ZT c.2.2) c.2.1.length (m0 c.2.1.length)=XU (ZT c.2.2) (c.2.1.length - p) g)∧(g.length=c.2.1.length)∧A=⟨[(1,lP 0 0),(2,lB false),(3,lR 2),(16,lI (c.2.1.length:Int)),(17,lI (p:Int))],[bx 0 28 [.dat Qj c.1,.dat Qd c.2.1,.dat Qq c.2.2],(2,some (.arr 4 .bool g))]⟩) ⟨0,(List.replicate c.2.1.length (Ty.zero .bool)).set 0 true,aL _,rfl,rfl,(by simp),rfl⟩ ?_ ?_
 exact wp [(2,1)] ⟨rfl,(Qg rfl),trivial⟩
 rintro z A ⟨p,g,T,U,B,R,rfl⟩
 refine w4 ?_
 cases t:(decide ((p:Int)<(c.2.1.length:Int)))
 have u:=ab t
 refine w10 ?_
 refine lpK g.length (fun k=>∀j,j<k→g[j]? =some true) (fun k=>⟨[(37,lR 2),(38,lI (g.length:Int)),(39,lI (k:Int))],[(2,some (.arr 4 .bool g))]⟩) ((fun j S=>absurd S (aS j))) ?_ fun k _ F=> ?_
 exact wo []
 refine w4 ?_
 cases v:(decide ((k:Int)<(g.length:Int)))
 have w:=ab v
 refine w7 ?_
 refine fqB G ?_
 first|exact QwA M.1 x (by rw[B,show c.2.1.length - p=0 by omega];rfl) F (by omega)
 have w:=aa v
 refine w6 ?_
 obtain ⟨D,o⟩:=gx g k
 refine w7 ?_
 cases I:(D)
 refine w5 ?_
 exact fqB G<|QzY M.1 x (by rw[B,show c.2.1.length - p=0 by omega];rfl) o ‹_›
 refine w6 ?_
 exact Qc<|lK_ ((QuW F o ‹_›))<|wo []
 have u:=aa t
 refine w7 ?_
 refine alL 20 fun _=> ?_
 refine w4 ?_
 refine Qy (fun z A=>∃(i:Nat) (d:List Bool),i≤c.2.2.length∧z=c.2.2.length - i∧(XX (ZT c.2.2) g=XX ((ZT c.2.2).drop i) d)∧(d.length=c.2.1.length)∧A=⟨[(1,lP 0 0),(2,lB false),(3,lR 3),(16,lI (c.2.1.length:Int)),(17,lI (p:Int)),(20,lf (.dat Qq c.2.2)),(21,lI (c.2.2.length:Int)),(22,lI (i:Int))],[bx 0 28 [.dat Qj c.1,.dat Qd c.2.1,.dat Qq c.2.2],(3,some (.arr 4 .bool d))]⟩) ⟨0,g,aL _,rfl,rfl,R,rfl⟩ ?_ ?_
 exact wo [(3,2)]
 rintro z A ⟨i,d,K,L,q,r,rfl⟩
 refine w4 ?_
 cases l:(decide ((i:Int)<(c.2.2.length:Int)))
 have s:=ab l
 refine w6 ?_
 exact Qc<|Zb ⟨p+1,d,by omega,rfl,(by rw[B,show c.2.1.length - p=(c.2.1.length - (p+1))+1 by omega,XU,q,Qvi (by omega)]),r,rfl⟩ (by omega)<|wo [(2,3)]
 have s:=aa l
 refine w5 ?_
 obtain ⟨ar,h⟩:=gx c.2.2 i
 obtain ⟨⟨V,W⟩,X,Y⟩:=H _ (ah h)
 refine w2 ?_
 refine lc (xal 4 Yi Yp)<|w6 ?_
 refine alI 28 fun _=> ?_
 refine w_ ?_
 obtain ⟨E,N⟩:=gx d ((ar.1).toNat)
 refine w2 ?_
 cases J:(E)
 refine w6 ?_
 exact Qc<|Zb ⟨i+1,d,by omega,rfl,(by rw[q,Qii h];first|rw[Qis ‹_› ‹_›]|rw[Qls ‹_› ‹_›]),(by exact r),rfl⟩ (by omega)<|wo []
 refine w6 ?_
 obtain ⟨a1,y⟩:=gx d ((ar.2.2.2).toNat)
 refine lc (QO (e:= .bool) (z':=true) (Qa rfl) rfl y rfl (Evl.ev Zx) rfl U1 rfl rfl)<|Qc<|w4 ?_
 exact Qc<|Zb ⟨i+1,(d.set ((ar.2.2.2).toNat) true),by omega,rfl,(by rw[q,Qii h];first|rw[Qis ‹_› ‹_›]|rw[Qls ‹_› ‹_›]),(by (rw[ax];exact r)),rfl⟩ (by omega)<|wp [] ⟨rfl,(Qg rfl),trivial⟩
structure SgOk (c:DSg):Prop where
  sigs:Z4 c.1
  some_:1≤c.2.1.length∧c.2.1.length≤300
  few:c.2.2.length≤4000
  codes:∀x∈c.2.1,Q7 x (c.1.length:Int)
  arcs:∀a∈c.2.2,XS c a
  all:Qd0 c.2.1.length (ZT c.2.2)
def Z5 {α:Type}{p:α→Prop}{l:List α}{k:Nat}{x:α}(h:∀j,j<k→∀x,l[j]? =some x→p x)(f:l[k]? =some x)(d:p x):∀j,j<k+1→∀x,l[j]? =some x→p x:=fun j g y b=>by
 by_cases e:j=k
 ·subst e;rw[f] at b;cases b;exact d
 ·exact h j (by omega) y b
def X7 {α:Type}{p:α→Prop}{l:List α}{k:Nat}(h:∀j,j<k→∀x,l[j]? =some x→p x)(e:l.length≤k):∀x∈l,p x:=fun x d=>by
 obtain ⟨j,b⟩:=aG.1 d
 have:=(ae.1 b).1
 exact h j (by omega) x b
def We {c:DSg}{a:DAr}(h:XS c a):InR c.2.1.length a:=by
 obtain ⟨⟨b,e⟩,⟨d,f⟩,_⟩:=h
 exact ⟨⟨b,by omega⟩,d,by omega⟩
section
variable {c:DSg}[Decidable (SgOk c)]{x:BA}{a:DAr}{k i:Nat}
def QvG (h:¬Z4 c.1):false=decide (SgOk c):=(aj fun g=>h g.sigs).symm
def QvH (h:¬((1:Int)≤(c.2.1.length:Int)∧(c.2.1.length:Int)≤300)):false=decide (SgOk c):=(aj fun g=>h (by have:=g.some_;omega)).symm
def QvI (h:(4000:Int)<(c.2.2.length:Int)):false=decide (SgOk c):=(aj fun g=>by have:=g.few;omega).symm
def QvJ (b:c.2.1[k]? =some x)(h:¬Q7 x (c.1.length:Int)):false=decide (SgOk c):=(aj fun g=>h (g.codes x (ah b))).symm
def QgU (b:c.2.2[k]? =some a)(h:¬XS c a):false=decide (SgOk c):=(aj fun g=>h (g.arcs a (ah b))).symm
def QvF [Decidable (Qd0 c.2.1.length (ZT c.2.2))](b:Z4 c.1)(f:(1:Int)≤(c.2.1.length:Int)∧(c.2.1.length:Int)≤300)(j:¬(4000:Int)<(c.2.2.length:Int))(d:∀x∈c.2.1,Q7 x (c.1.length:Int))(e:∀a∈c.2.2,XS c a):
 decide (Qd0 c.2.1.length (ZT c.2.2))=decide (SgOk c):=bu.2 ⟨fun h=>⟨b,by omega,by omega,d,e,h⟩,fun g=>g.all⟩
end
def YC (c:Yw)[∀c,Decidable (SgOk c)]:FC prog 51 [(true,[.dat Qj c.1,.dat Qd c.2.1,.dat Qq c.2.2])] [] 0 (QJ (lB (decide (SgOk c)))):=by
 classical
 refine Ql func51 rfl rfl ntmps51 fun F n E A G C B=>w_ ?_
 refine xbx 0 ?_
 refine w6 ?_
 refine lc (dK (WH c.1) Qbb)<|w2 ?_
 cases o:(decide (Z4 c.1))
 have p:=ab o
 refine w16 ?_
 refine w2 ?_
 exact fqB n<|QvG ‹_›
 have p:=aa o
 refine w2 ?_
 refine alL 13 fun _=> ?_
 refine w_ ?_
 refine lgy rfl rfl (dK (ZD (c.2.1.length:Int) 1 300) Yj)<|w3 ?_
 cases q:(decide (1≤(c.2.1.length:Int)∧(c.2.1.length:Int)≤300))
 have r:=ab q
 refine w11 ?_
 exact fqB n<|QvH ‹_›
 have r:=aa q
 refine w2 ?_
 refine alL 20 fun _=> ?_
 refine w4 ?_
 refine cd_ (fun _ _=> ?_) fun _ _=> ?_
 refine w9 ?_
 refine lpK c.2.1.length (fun k=>∀j,j<k→∀x,c.2.1[j]? =some x→Q7 x (c.1.length:Int)) (fun k=>⟨[(1,lP 0 0),(25,lf (.dat Qd c.2.1)),(26,lI (c.2.1.length:Int)),(27,lI (k:Int))],[bx 0 28 [.dat Qj c.1,.dat Qd c.2.1,.dat Qq c.2.2]]⟩) ((fun j z=>absurd z (aS j))) ?_ fun k _ w=> ?_
 exact wo []
 refine w4 ?_
 cases s:(decide ((k:Int)<(c.2.1.length:Int)))
 have t:=ab s
 refine w11 ?_
 refine lpK c.2.2.length (fun i=>∀j,j<i→∀a,c.2.2[j]? =some a→XS c a) (fun i=>⟨[(1,lP 0 0),(39,lf (.dat Qq c.2.2)),(40,lI (c.2.2.length:Int)),(41,lI (i:Int))],[bx 0 28 [.dat Qj c.1,.dat Qd c.2.1,.dat Qq c.2.2]]⟩) ((fun j z=>absurd z (aS j))) ?_ fun i _ y=> ?_
 exact wo []
 refine w4 ?_
 cases b:(decide ((i:Int)<(c.2.2.length:Int)))
 have h:=ab b
 refine w5 ?_
 refine lc (dK (Qhn c (by omega) (fun a D=>We (X7 y (by omega) a D))) Qmk)<|w3 ?_
 exact fqB n<|QvF ‹_› ‹_› ‹_› (X7 w (by omega)) (X7 y (by omega))
 have h:=aa b
 refine w5 ?_
 obtain ⟨u,f⟩:=gx c.2.2 i
 refine w2 ?_
 refine lc (xal 1 Yi Yp)<|w5 ?_
 refine lc (dK (Qho c u (X7 w (by omega)) (by have:=(‹Z4 c.1›).2.2;omega)) Qmj)<|w2 ?_
 cases d:(decide (XS c u))
 have l:=ab d
 refine w5 ?_
 exact fqB n<|QgU f ‹_›
 have l:=aa d
 refine w6 ?_
 exact Qc<|lK_ ((Z5 y f ‹_›))<|wo []
 have t:=aa s
 refine w5 ?_
 obtain ⟨v,g⟩:=gx c.2.1 k
 refine w9 ?_
 refine lc (dK (HG v (c.1.length:Int)) Qfz)<|w2 ?_
 cases e:(decide (Q7 v (c.1.length:Int)))
 have m:=ab e
 refine w5 ?_
 exact fqB n<|QvJ g ‹_›
 have m:=aa e
 refine w6 ?_
 exact Qc<|lK_ ((Z5 w g ‹_›))<|wo []
 refine w4 ?_
 exact fqB n<|QvI ‹_›
section
variable {A:Amb}{P:Program}{s:St}{x y:Operand}{d:Nat}{T T' ty:TypeId}{pos:String}{af:Array Edge}{g:Option (Nat×Bool)}{n a b:Int}
def QlB (h:0≤n∧n≤9223372036854775807):IntKind.u64.wrap n=n:=by
 simp[IntKind.wrap,IntKind.bits,IntKind.signed]
 omega
def Quo (h:0≤n∧n≤9223372036854775807):IntKind.i64.wrap n=n:=IntWalk.i64_in _ (by omega)
def KY (c:Evl A s x (dI n))(l:P.underlying T=some (.int .i64))(j:P.underlying T'=some (.int .u64))(h0:0≤n)(k:Nat.blt d A.n=true):
 Does A P ⟨some d,.convert T T' x,ty,pos,af,g⟩ s (s.put d (lf (.val (.int .u64 n)))):=
 Qk rfl k fun f a w r=>by
  have h:=c.i r
  have m:=(LVR.int (c f a w r)).2
  have e:=QlB (n:=n) (by omega)
  refine ⟨.int .u64 n,?_,_,rfl,rfl⟩
  simp only[execOp,h,convert,run_underlying l,run_underlying j,aw,aF,Conv.intToInt,e]
  simp
def Qa3 (k:Evl A s x (.val (.int .u64 n)))(j:P.underlying T=some (.int .u64))(h:P.underlying T'=some (.int .i64))(h0:0≤n∧n≤9223372036854775807)(i:Nat.blt d A.n=true):
 Does A P ⟨some d,.convert T T' x,ty,pos,af,g⟩ s (s.put d (lf (dI n))):=
 Qk rfl i fun e a w r=>by
  have f:a.eval x= .int .u64 n:=k e a w r
  have c:=Quo h0
  refine ⟨.int .i64 n,?_,_,rfl,YR (by omega)⟩
  simp only[execOp,f,convert,run_underlying j,run_underlying h,aw,aF,Conv.intToInt,c]
  simp
def Qhv (j:Evl A s x (.val (.int .u64 a)))(k:Evl A s y (.val (.int .u64 b)))(i:Nat.blt d A.n=true):Does A P ⟨some d,.binOp .gtr T x y T',ty,pos,af,g⟩ s (s.put d (lf (dB (decide (b<a))))):=
 Qk rfl i fun e c w r=>by
  have f:c.eval x= .int .u64 a:=j e c w r
  have h:c.eval y= .int .u64 b:=k e c w r
  refine ⟨.bool (decide (b<a)),?_,_,rfl,ZY⟩
  simp only[execOp,f,h,eqGuard_at_int,binOp,Op.intCmp]
  simp
end
def Qs2 (n:Nat)(c:n≤1000000):bits BinOp.and IntKind.u64 (n:Int) 4294967295=n:=by
 have h:=bits_and_u64_nat n 4294967295 (by omega) (by decide)
 rw[show ((4294967295:Nat):Int)=4294967295 from rfl] at h
 rw[h,show (4294967295:Nat)=2 ^ 32 - 1 from rfl,Nat.and_two_pow_sub_one_eq_mod,cH (by omega)]
def Qws (n:Nat)(w:World)(c:n≤1000000):Calls prog 232 #[.int .u64 1,.int .u64 n] w fun e w'=>e= .returned (.tuple #[.int .u64 0,.int .u64 n])∧w'=w:=by
 have f:bits BinOp.and IntKind.u64 1 4294967295=1:=by decide
 have h:=Qs2 n c
 have i:(n:Int) / 4294967296=0:=by omega
 have j:=QlB (n:=n) (by omega)
 have k:IntKind.u64.wrap 0=0:=by decide
 have l:bits BinOp.and IntKind.u64 0 4294967295=0:=by decide
 go_enter func232,ntmps232
 go_wp2
 go_ret2
 exact ⟨rfl,rfl⟩
def QAv (a n:Int)(k:a=1)(u:0≤n∧n≤1000000):FC prog 232 [(false,[.val (.int .u64 a)]),(false,[.val (.int .u64 n)])] [] 0 (QJ (.tup [(false,[.val (.int .u64 0)]),(false,[.val (.int .u64 n)])])):=QsM fun t w B h=>by
 obtain ⟨o,q,rfl,⟨v,i,c⟩,p,r,rfl,⟨z,j,f⟩,rfl⟩:=h
 simp only[aN,and_true] at i j
 subst i j k
 have c:o= .int .u64 1:=c
 have f:p= .int .u64 n:=f
 subst c f
 obtain ⟨m,rfl⟩:∃m:Nat,n=m:=⟨n.toNat,by omega⟩
 refine Calls.mono (Qws m w (by omega)) fun e C l=> ?_
 obtain ⟨rfl,rfl⟩:=l
 exact ⟨_,rfl,Q4 _,[.int .u64 0,.int .u64 m],rfl,_,_,rfl,⟨_,rfl,rfl⟩,_,_,rfl,⟨_,rfl,rfl⟩,rfl⟩
def QpZ {v:Int}{m k:Nat}:cpy (List.replicate m v++List.replicate k (0:Int)) m k ((((List.replicate m v++List.replicate k (0:Int))).take (0+m)).drop 0)=List.replicate (m+min m k) v++List.replicate (k - min m k) 0:=by
 have c:(List.replicate m v++List.replicate k (0:Int)).take m=List.replicate m v:=List.take_left' (by simp)
 have e:(List.replicate m v++List.replicate k (0:Int)).drop (m+min m k)=List.replicate (k - min m k) 0:=by
  rw[List.drop_append,aQ,cr (by simp),dX,List.drop_replicate]
  congr 1
  omega
 rw[cpy,bJ,dH,c,aQ,e,List.take_replicate,dt (Nat.min_le_left _ _),List.replicate_append_replicate]
def Qr3 {n v:Int}(f:0≤n):cpy (List.replicate n.toNat (Ty.zero .int)) 0 (List.replicate n.toNat (Ty.zero .int)).length [v]=List.replicate (((min [v].length (List.replicate n.toNat (Ty.zero .int)).length:Nat):Int)).toNat v++List.replicate (n.toNat - (((min [v].length (List.replicate n.toNat (Ty.zero .int)).length:Nat):Int)).toNat) 0:=by
 have h:=QpZ (v:=v) (m:=0) (k:=n.toNat)
 have e:(Ty.zero .int:Int)=0:=rfl
 cases c:n.toNat with
 | zero=>simp[cpy]
 | succ k=>simp[cpy,e,List.replicate_succ]
def Qr2 {n m v:Int}{l:List Int}(h0:0≤m)(h:m≤n)(f:l=List.replicate m.toNat v++List.replicate (n.toNat - m.toNat) 0)(e:l.length=n.toNat):
 cpy l m.toNat (l.length - m.toNat) ((l.take (0+m.toNat)).drop 0)=List.replicate (m+((min ((l.take (0+m.toNat)).drop 0).length (l.length - m.toNat):Nat):Int)).toNat v++List.replicate (n.toNat - (m+((min ((l.take (0+m.toNat)).drop 0).length (l.length - m.toNat):Nat):Int)).toNat) 0:=by
 have c:((l.take (0+m.toNat)).drop 0).length=m.toNat:=by simp[e];omega
 rw[c,e]
 rw[f,QpZ]
 congr 2 <;> omega
def X8 (s:List Int)(n:Int)(v:Int)(u:s=[v])(C:0≤n∧n≤1000000):FC prog 158 [(false,[.dat Qv s]),(false,[dI n])] [] 0 (WB 3 .int (List.replicate n.toNat v)):=by
 have w:(s.length:Int)=1:=by rw[u];rfl
 have k:decide (n<0)=false:=aj (by omega)
 have j:decide ((9223372036854775807:Int)<n)=false:=aj (by omega)
 have o:(List.replicate n.toNat (Ty.zero .int)).length=n.toNat:=aQ ..
 refine Ql func158 rfl rfl ntmps158 fun L I K F M H G=>w8 ?_
 cases q:(decide (n<0))
 refine w5 ?_
 refine lc (KY (Qa rfl) VB QjZ (by omega) rfl)<|w_ ?_
 refine lc (KY (Qa rfl) VB QjZ (by omega) rfl)<|lc (dK (QAv (s.length:Int) n w C) QmZ)<|w9 ?_
 refine lc (Qhv (Qa rfl) Evl.val rfl)<|w_ ?_
 cases r:(decide ((0:Int)<(0:Int)))
 refine w_ ?_
 refine lgy rfl rfl (Qhv (Qa rfl) Evl.val rfl)<|w2 ?_
 cases t:(decide ((9223372036854775807:Int)<n))
 refine w4 ?_
 refine lc (Qa3 (Qa rfl) QjZ VB (by omega) rfl)<|lc (Qfe 0 (e:= .int) (n:=n) (Qa rfl) (Qa rfl) ZX Qpz rfl (by omega) (by omega) (by omega) rfl (Fresh.of rfl) (nlr rfl))<|w5 ?_
 refine lc (Qe9 (e:= .int) (xs:=List.replicate (n).toNat (Ty.zero .int)) (lo:=0) (n:=(List.replicate (n).toNat (Ty.zero .int)).length) (ys:=s) (QsI (Qa rfl) rfl) rfl (by omega) (Evl.rep (Qa rfl)) rfl rfl ZX Qpz rfl)<|w4 ?_
 refine Qy (fun D E=>∃(m:Int) (l:List Int),D=(n - m).toNat∧(0≤m∧m≤n∧(0<n→0<m))∧(l=List.replicate m.toNat v++List.replicate (n.toNat - m.toNat) 0)∧(l.length=n.toNat)∧E=⟨[(4,lf (.val (.slice none 0 0))),(7,lR 1),(8,lI m)],[ar 1 3 .int l]⟩) ⟨((min s.length ((List.replicate (n).toNat (Ty.zero .int)).length):Nat):Int),cpy (List.replicate (n).toNat (Ty.zero .int)) 0 ((List.replicate (n).toNat (Ty.zero .int)).length) s,rfl,(by rw[o,u];simp;omega),(by rw[u];exact Qr3 C.1),(by rw[QiS (by omega)];exact o),rfl⟩ ?_ ?_
 exact wp [(1,0)] ⟨(Qg rfl),trivial⟩
 rintro D E ⟨m,l,J,B,z,p,rfl⟩
 refine w7 ?_
 cases f:(decide (m<(l.length:Int)))
 have i:=ab f
 refine w8 ?_
 refine fo_ I ?_
 rw[z,show n.toNat - m.toNat=0 by omega,show m.toNat=n.toNat by omega];simp
 have i:=aa f
 refine w3 ?_
 apply dV (i3 38 _ _ _ (io 41 (lf (.sub 1 1 ((m).toNat) (l.length - (m).toNat)))::i2 42 _ _ [io 44 (lf (.sub 1 1 0 ((m).toNat))),⟨some 45,lI ((min ((l.take (0+((m).toNat))).drop 0).length (l.length - (m).toNat):Nat):Int),[ar 1 3 .int (cpy l ((m).toNat) (l.length - (m).toNat) ((l.take (0+((m).toNat))).drop 0))]⟩,io 46 _,io 8 _])) [0,1,3,1,15,31,15,1,0,0]
 refine z3 ?_
 refine zz (fun _ c=>ac (Wt (e:= .int) (a:=(m).toNat) (b:=l.length - (m).toNat) (l:=(some m)) (h:=none) (c.v rfl) (c.en 1 rfl) (by exact (c.v rfl)) (by exact trivial) ZX Zv rfl (by first|(simp only[aq,ap];omega)|omega|(simp only[aq,ap,ai,au,aQ];omega)) (by first|(simp only[aq,ap];omega)|omega|(simp only[aq,ap,ai,au,aQ];omega)) (by first|(simp only[aq,ap];omega)|omega|(simp only[aq,ap,ai,au,aQ];omega)) (by first|rfl|simp) (by first|rfl|simp)) rfl)<|z2 ?_
 exact zz (fun _ c=>ac (Wt (e:= .int) (a:=0) (b:=(m).toNat) (l:=none) (h:=(some m)) (c.v rfl) (c.en 1 rfl) (by exact trivial) (by exact (c.v rfl)) ZX Zv rfl (by first|(simp only[aq,ap];omega)|omega|(simp only[aq,ap,ai,au,aQ];omega)) (by first|(simp only[aq,ap];omega)|omega|(simp only[aq,ap,ai,au,aQ];omega)) (by first|(simp only[aq,ap];omega)|omega|(simp only[aq,ap,ai,au,aQ];omega)) (by first|rfl|simp) (by first|rfl|simp)) rfl)<|zz (fun _ c=>ac (Qe9 (e:= .int) (xs:=l) (lo:=(m).toNat) (n:=l.length - (m).toNat) (ys:=(l.take (0+((m).toNat))).drop 0) (QsJ (c.v rfl) (c.en 1 rfl)) (c.en 1 rfl) (by omega) (V7 (e:= .int) (c.v rfl) (c.en 1 rfl) (by omega)) rfl rfl ZX Qpz rfl) rfl)<|y2
 exact Zb ⟨(m+((min ((l.take (0+((m).toNat))).drop 0).length (l.length - (m).toNat):Nat):Int)),(cpy l ((m).toNat) (l.length - (m).toNat) ((l.take (0+((m).toNat))).drop 0)),rfl,(by simp only[aX,au,p];omega),(Qr2 B.1 B.2.1 z p),(by rw[QiS (by omega)];exact p),rfl⟩ (by simp only[aX,au,p];omega)<|wp [] ⟨(Qg rfl),trivial⟩
 exact absurd (t.symm.trans (show (decide ((9223372036854775807:Int)<n))=false from j)) (by decide)
 exact absurd (r.symm.trans (show (decide ((0:Int)<(0:Int)))=false from (by decide))) (by decide)
 exact absurd (q.symm.trans (show (decide (n<0))=false from k)) (by decide)
def Qd2 (l:List (List Int))(e:Int×Int):List (List Int):=l.modify e.1.toNat (· ++[e.2])
def YH (n:Nat)(es:List (Int×Int)):List (List Int):=es.foldl Qd2 (List.replicate n [])
def bfT (o:Int):List Int→List Int×List Int→List Int×List Int
 | [],st=>st
 | t::ts,st=>if (st.1[t.toNat]?).getD 0<0 then bfT o ts (st.1.set t.toNat ((st.1[o.toNat]?).getD 0+1),st.2++[t]) else bfT o ts st
def bfK (nx:List (List Int)):Nat→Nat→List Int×List Int→List Int
 | 0,_,st=>st.1
 | f+1,k,st=>match st.2[k]? with
  | none=>st.1
  | some o=>bfK nx f (k+1) (bfT o ((nx[o.toNat]?).getD []) st)
def Q6 (n:Nat)(es:List (Int×Int)):List Int:=bfK (YH n es) (n+1) 0 ((List.replicate n (-1)).set 0 0,[0])
def Qhk (l:List Int):Nat:=(l.filter (· < 0)).length
structure BI (n:Nat) (es:List (Int×Int)) (st:List Int×List Int):Prop where
  len:st.1.length=n
  cnt:Qhk st.1+st.2.length=n
  q:∀x∈st.2,(0≤x∧x<n)∧Rch es x∧∃v,st.1[x.toNat]? =some v∧0≤v
  nn:∀(i:Nat) v,st.1[i]? =some v→0≤v→(i:Int)∈st.2
  rng:∀v∈st.1,-1≤v∧v≤(st.2.length:Int)
section
variable {n k i f:Nat}{es:List (Int×Int)}{e:Int×Int}{l ts ys q out:List Int}{o t c w:Int}{nx:List (List Int)}{st:List Int×List Int}
def QgB {α:Type _}{l:List α}{i:Nat}{x:α}{g:α→α}(h:l[i]? =some x):l.set i (g x)=l.modify i g:=by
 apply bL
 intro j
 rw[cU]
 by_cases e:i=j
 ·subst e;rw[bj (ae.1 h).1,h];simp
 ·rw[bh e];simp[e]
def Qrw {l:List (List Int)}:(es.foldl Qd2 l).length=l.length:=by
 induction es generalizing l with
 | nil=>rfl
 | cons e es a=>rw[bn,a];simp[Qd2]
def KO:(YH n es).length=n:=by unfold YH;rw[Qrw];simp
def QnY (a:es[k]? =some e)(b:(YH n (es.take k))[e.1.toNat]? =some ys):(YH n (es.take k)).set e.1.toNat (ys++[e.2])=YH n (es.take (k+1)):=by
 rw[QgB (g:=(· ++[e.2])) b,Qr a]
 simp[YH,bN,Qd2]
def Qrx {l:List (List Int)}{i:Nat}{t:Int}(g:∀e∈es,0≤e.1):t∈((es.foldl Qd2 l)[i]?).getD []↔t∈(l[i]?).getD []∨(i<l.length∧((i:Int),t)∈es):=by
 induction es generalizing l with
 | nil=>simp
 | cons e es r=>
  rw[bn,r (fun e m=>g e (az _ m))]
  have s:=g e (aA ..)
  have p:(Qd2 l e).length=l.length:=by simp[Qd2]
  rw[p]
  have j:t∈((Qd2 l e)[i]?).getD []↔t∈(l[i]?).getD []∨(i<l.length∧((i:Int),t)=e):=by
   unfold Qd2
   rw[cU]
   by_cases b:e.1.toNat=i
   ·cases h:l[i]? with
    | none=>
     have:=cQ.1 h
     simp[b]
     intro d;omega
    | some x=>
     have:=(ae.1 h).1
     simp[b,this]
     have:((i:Int),t)=e↔t=e.2:=⟨fun h=>by rw[← h],fun h=>Prod.ext (by show (i:Int)=e.1;omega) h⟩
     rw[this]
   ·simp[b]
    intro _ d
    exact absurd (show e.1.toNat=i by rw[← d];rfl) b
  rw[j,aK]
  constructor
  ·rintro ((h|⟨h,a⟩)|⟨h,a⟩)
   ·exact .inl h
   ·exact .inr ⟨h,.inl a⟩
   ·exact .inr ⟨h,.inr a⟩
  ·rintro (h|⟨h,a|a⟩)
   ·exact .inl (.inl h)
   ·exact .inl (.inr ⟨h,a⟩)
   ·exact .inr ⟨h,a⟩
def Qdw {i:Nat}(g:∀e∈es,InE n e)(a:(YH n es)[i]? =some ys):t∈ys↔((i:Int),t)∈es:=by
 have h:=Qrx (l:=List.replicate n []) (i:=i) (t:=t) (es:=es) (fun e b=>(g e b).1.1)
 have d:i<n:=by have:=(ae.1 a).1;rwa [KO] at this
 change t∈((YH n es)[i]?).getD []↔_ at h
 rw[a] at h
 simpa [d] using h
def Qif {i:Nat}(a:(YH n es)[i]? =some ys):ys.length≤es.length:=by
 have:∀(l:List (List Int)) (i:Nat) (ys:List Int),(es.foldl Qd2 l)[i]? =some ys→ys.length≤((l[i]?).getD []).length+es.length:=by
  clear a
  induction es with
  | nil=>intro l i ys h;simp at h;simp[h]
  | cons e es d=>
   intro l i ys h
   rw[bn] at h
   have:=d _ _ _ h
   have j:(((Qd2 l e)[i]?).getD []).length≤((l[i]?).getD []).length+1:=by
    unfold Qd2
    rw[cU]
    cases m:l[i]? with
    | none=>simp
    | some x=>by_cases b:e.1.toNat=i <;> simp[b]
   rw[av];omega
 have h:=this _ _ _ a
 have g:(((List.replicate n ([]:List Int))[i]?).getD []).length=0:=by
  rw[ck];split <;> rfl
 omega
def QwJ (g:ts[i]? =some t)(a:out[t.toNat]? =some c)(b:c<0)(d:out[o.toNat]? =some w):bfT o (ts.drop i) (out,q)=bfT o (ts.drop (i+1)) (out.set t.toNat (w+1),q++[t]):=by
 rw[Yx g,bfT]
 simp[a,d,b]
def Qtj (d:ts[i]? =some t)(a:out[t.toNat]? =some c)(b:¬c<0):bfT o (ts.drop i) (out,q)=bfT o (ts.drop (i+1)) (out,q):=by
 rw[Yx d,bfT]
 simp only[a,ap,if_neg b]
def QwI (h:ts.length≤i):bfT o (ts.drop i) st=st:=by rw[cr h,bfT]
def Qz4 (a:q[k]? =some o)(b:nx[o.toNat]? =some ts)(d:k<n+1):bfK nx (n+1 - k) k (out,q)=bfK nx (n+1 - (k+1)) (k+1) (bfT o (ts.drop 0) (out,q)):=by
 rw[show n+1 - k=(n+1 - (k+1))+1 by omega,bfK]
 simp[a,b]
def QwH (h:q.length≤k):bfK nx f k (out,q)=out:=by
 cases f with
 | zero=>rfl
 | succ f=>rw[bfK];simp[bt h]
theorem QkA {l:List Int}(h:l[i]? =some c)(a:c<0)(d:0≤w):Qhk (l.set i w)+1=Qhk l:=by
 induction l generalizing i with
 | nil=>simp at h
 | cons x l b=>
  cases i with
  | zero=>
   simp only[bQ,br] at h
   subst h
   simp[Qhk,a,show¬w<0 by omega]
  | succ i=>
   have:=b (i:=i) (by simpa using h)
   simp only[Qhk,du,dn] at this ⊢
   split <;> simp_all
def BI.step (h:BI n es (out,q))(L:∀e∈es,InE n e)(D:o∈q)(C:(o,t)∈es)(B:out[t.toNat]? =some c)(K:c<0)(E:out[o.toNat]? =some w):BI n es (out.set t.toNat (w+1),q++[t]):=by
 obtain ⟨H,y,s,I,z⟩:=h
 have M:0≤w:=by
  obtain ⟨_,_,v,a,m⟩:=s o D
  have a:out[o.toNat]? =some v:=a
  rw[E] at a;cases a;exact m
 have u:=z w (ah E)
 have p:=(ae.1 B).1
 obtain ⟨_,b,d⟩:=L _ C
 have b:0≤t:=b
 have d:t<(n:Int):=d
 refine ⟨by simpa using H,?_,?_,?_,?_⟩
 ·have a:=QkA B K (show 0≤w+1 by omega)
  have y:Qhk out+q.length=n:=y
  show Qhk (out.set t.toNat (w+1))+(q++[t]).length=n
  rw[ai,cy];omega
 ·intro x j
  show (0≤x∧x<n)∧Rch es x∧∃v,(out.set t.toNat (w+1))[x.toNat]? =some v∧0≤v
  rcases aO.1 j with j|j
  ·obtain ⟨a,m,v,A,J⟩:=s x j
   refine ⟨a,m,?_⟩
   by_cases r:t.toNat=x.toNat
   ·exact ⟨w+1,by rw[← r,bj p],by omega⟩
   ·exact ⟨v,by rw[bh r];exact A,J⟩
  ·rw[aI] at j
   subst j
   exact ⟨⟨b,d⟩,.step (s o D).2.1 C,w+1,bj p,by omega⟩
 ·intro i v g G
  have g:(out.set t.toNat (w+1))[i]? =some v:=g
  show (i:Int)∈q++[t]
  by_cases r:t.toNat=i
  ·exact aO.2 (.inr (by rw[aI];omega))
  ·rw[bh r] at g
   exact aO.2 (.inl (I i v g G))
 ·intro v g
  show -1≤v∧v≤((q++[t]).length:Int)
  rw[ai,cy]
  have F:w≤(q.length:Int):=u.2
  rcases cE g with a|a
  ·have m:=z v a
   have A:v≤(q.length:Int):=m.2
   omega
  ·omega
def BI.q_le (h:BI n es (out,q)):q.length≤n:=by have:=h.cnt;simp only at this;omega
def BI.at_ (h:BI n es (out,q))(a:q[k]? =some o):(0≤o∧o<n)∧o∈q:=⟨(h.q o (ah a)).1,ah a⟩
def Qex (p:∀e∈es,InE n e):∀(ts:List Int) (st:List Int×List Int),BI n es st→o∈st.2→(∀t∈ts,(o,t)∈es)→BI n es (bfT o ts st)∧(∃r,(bfT o ts st).2=st.2++r)∧∀t∈ts,t∈(bfT o ts st).2
 | [],st,h,_,_=>⟨h,⟨[],by simp[bfT]⟩,fun t g=>by cases g⟩
 | t::ts,st,h,ho,he=>by
  have d:=he t (aA ..)
  obtain ⟨_,j,m⟩:=p _ d
  have j:0≤t:=j
  have m:t<(n:Int):=m
  obtain ⟨c,v⟩:∃c,st.1[t.toNat]? =some c:=⟨_,ak (by rw[h.len];omega)⟩
  obtain ⟨w,z,_⟩:=(h.q o ho).2.2
  rw[bfT,v,z]
  simp only[ap]
  split
  ·rename_i y
   have A:=BI.step (out:=st.1) (q:=st.2) h p ho d v y z
   obtain ⟨s,⟨r,b⟩,u⟩:=Qex p ts _ A (aO.2 (.inl ho)) (fun t g=>he t (az _ g))
   refine ⟨s,⟨[t]++r,by rw[b];simp⟩,fun x a=> ?_⟩
   rcases aK.1 a with rfl|a
   ·rw[b];simp
   ·exact u x a
  ·rename_i y
   obtain ⟨s,⟨r,b⟩,u⟩:=Qex p ts st h ho (fun t g=>he t (az _ g))
   refine ⟨s,⟨r,b⟩,fun x a=> ?_⟩
   rcases aK.1 a with rfl|a
   ·have:=h.nn _ _ v (by omega)
    rw[show ((x.toNat:Nat):Int)=x by omega] at this
    rw[b];exact aO.2 (.inl this)
   ·exact u x a
def QoF (s:∀e∈es,InE n e):∀(f k:Nat) (st:List Int×List Int),BI n es st→n+1≤f+k→k≤st.2.length→(∀j o,j<k→st.2[j]? =some o→∀t,(o,t)∈es→t∈st.2)→
 ∃r,BI n es (bfK (YH n es) f k st,st.2++r)∧∀o∈st.2++r,∀t,(o,t)∈es→t∈st.2++r
 | 0,k,st,h,hf,hk,_=>by have:=BI.q_le (out:=st.1) (q:=st.2) h;omega
 | f+1,k,st,h,hf,hk,hcl=>by
  rw[bfK]
  cases m:st.2[k]? with
  | none=>
   refine ⟨[],by simpa using h,fun o d t b=> ?_⟩
   rw[bH] at d ⊢
   obtain ⟨j,p⟩:=aG.1 d
   have H:=(ae.1 p).1
   have I:=cQ.1 m
   exact hcl j o (by omega) p t b
  | some o=>
   simp only
   have d:=ah m
   obtain ⟨D,E⟩:=(h.q o d).1
   obtain ⟨ys,v⟩:∃ys,(YH n es)[o.toNat]? =some ys:=⟨_,ak (by rw[KO];omega)⟩
   rw[v,ap]
   have u:∀t,t∈ys↔(o,t)∈es:=fun t=>by
    have:=Qdw (t:=t) s v
    rwa [show ((o.toNat:Nat):Int)=o by omega] at this
   obtain ⟨A,⟨r,g⟩,B⟩:=Qex s ys st h d (fun t b=>(u t).1 b)
   have C:=(ae.1 m).1
   obtain ⟨G,x,y⟩:=QoF s f (k+1) (bfT o ys st) A (by omega) (by rw[g,ai];omega) (fun j F p a t b=>by
    rw[g] at a ⊢
    rw[bm (by omega)] at a
    by_cases z:j=k
    ·subst z
     rw[m] at a;cases a
     rw[← g];exact B t ((u t).2 b)
    ·exact aO.2 (.inl (hcl j F (by omega) a t b)))
   rw[g,aM] at x y
   exact ⟨r++G,x,y⟩
def BI.start (p:1≤n):BI n es ((List.replicate n (-1)).set 0 0,[0]):=by
 have d:(List.replicate n (-1:Int))[0]? =some (-1):=by rw[ck,if_pos (by omega)]
 refine ⟨by simp,?_,?_,?_,?_⟩
 ·have g:=QkA (w:=0) d (by decide) (by decide)
  have m:Qhk (List.replicate n (-1:Int))=n:=by simp[Qhk]
  show Qhk ((List.replicate n (-1)).set 0 0)+1=n
  omega
 ·intro x j
  rw[aI.1 j]
  exact ⟨⟨by omega,by omega⟩,.zero,0,bj (by simp;omega),by decide⟩
 ·intro i v a g
  have a:((List.replicate n (-1:Int)).set 0 0)[i]? =some v:=a
  by_cases b:0=i
  ·subst b;simp
  ·rw[bh b,ck] at a
   split at a
   ·cases a;omega
   ·cases a
 ·intro v a
  show -1≤v∧v≤1
  rcases cE a with h|h
  ·rw[cV h];omega
  ·omega
def Qah (b:1≤n)(d:∀e∈es,InE n e):∃r,BI n es (Q6 n es,[0]++r)∧∀o∈[0]++r,∀t,(o,t)∈es→t∈[0]++r:=
 QoF d (n+1) 0 _ (BI.start b) (by omega) (aL _) (fun j o a=>absurd a (aS j))
def QkD [Decidable (Qd0 n es)](B:1≤n)(D:∀e∈es,InE n e):(!((Q6 n es).any fun y=>decide (-1=y)))=decide (Qd0 n es):=by
 obtain ⟨r,h,z⟩:=Qah B D
 have C:∀u,Rch es u→u∈[0]++r:=fun u E=>by
  induction E with
  | zero=>simp
  | step _ A G=>exact z _ G _ A
 rw[cC,aY,cA,bV]
 constructor
 ·intro g k b
  have d:k<(Q6 n es).length:=by have:=h.len;simp only at this;omega
  have m:=cZ d
  have p:=g _ m
  have H:=(h.rng _ m).1
  have s:=h.nn k _ (ak d) (by simp only[aY] at p;omega)
  exact (h.q _ s).2.1
 ·intro g x F
  obtain ⟨k,b⟩:=aG.1 F
  have d:=(ae.1 b).1
  have j:k<n:=by have:=h.len;simp only at this;omega
  obtain ⟨_,_,v,a,I⟩:=h.q _ (C _ (g k j))
  have a:(Q6 n es)[((k:Int)).toNat]? =some v:=a
  rw[show ((k:Int)).toNat=k by omega,b] at a
  cases a
  simp only[aY];omega
end
def Qtv {xs:List (List Int)}{i:Nat}{ys:List Int}(h:xs[i]? =some ys):(Zh Qv xs)[i*1+0]? =some (.dat Qv ys):=K3 (e:= .sl 3 .int) (j:=0) h rfl
def Qfs {xs:List (List Int)}{i:Nat}{x ys:List Int}(h:xs[i]? =some x):(Zh Qv xs).set (i*1+0) (.dat Qv ys)=Zh Qv (xs.set i ys):=
 (K4 (e:= .sl 3 .int) (j:=0) (x':=ys) h rfl (by decide)).symm
theorem US (n:Int)(l:List (Int×Int))(b:Int)(hn:1≤n∧n≤1000)(T:∀e∈l,InE n.toNat e)(b6:l.length≤10000)(N:b=0):FC prog 148 [(false,[dI n]),(false,[.dat Qg8 l]),(false,[dI b])] [] 0 (WB 3 .int (Q6 n.toNat l)):=by
 refine Ql func148 rfl rfl ntmps148 fun O_ hO c5 a8 X_ b0 a9=>w3 ?_
 apply dW [⟨some 15,lR 0,[ar 0 3 .int ([(-1)])]⟩,io 16 (lI n),⟨some 17,lR 1,[ar 1 3 .int (List.replicate n.toNat (-1))]⟩,io 18 (lI n),⟨some 19,lR 2,[ar 2 62 Qv (List.replicate (n).toNat (Ty.zero Qv))]⟩,io 7 (lR 1),io 8 _] [0,1,0,7,7,24,0]
 refine zz (fun _ d=>ac (dBs 0 (e:= .int) Ye) rfl)<|z_ ?_
 refine zz (fun _ d=>ac (dOB 1 (X8 ([(-1)]) n (-1) rfl (by omega)) QfH) rfl)<|z_ ?_
 exact zz (fun _ d=>ac (Qfe 2 (e:=Qv) (n:=n) (d.v rfl) (d.v rfl) JA QA7 rfl (by omega) (by omega) (by omega) rfl (d.fr 2 rfl) (nlr rfl)) rfl)<|y2
 refine w7 ?_
 refine lp0 l.length (fun k=>⟨[(2,lI b),(6,lf (.val (.slice none 0 0))),(7,lR 1),(8,lR 3),(20,lf (.dat Qg8 l)),(21,lI (l.length:Int)),(22,lI (k:Int))],[ar 1 3 .int (List.replicate n.toNat (-1)),ar 3 62 Qv (YH n.toNat (l.take k))]⟩) ?_ fun k _=> ?_
 exact wp [(3,2)] ⟨rfl,(Qg (by simp only[List.take_zero];rfl)),trivial⟩
 refine w4 ?_
 cases L:(decide ((k:Int)<(l.length:Int)))
 have M:=ab L
 refine w3 ?_
 refine Q5 ?_
 have X:YH n.toNat (l.take k)=YH n.toNat l:=by rw[Zy (by omega)]
 refine AC.wk (QlP 8 (q:=3) (e:=Qv) (xs:=YH n.toNat (l.take k)) rfl rfl) ?_
 rw[X]
 have c2:(List.replicate n.toNat (-1:Int)).length=n.toNat:=aQ ..
 have b9:=KO (n:=n.toNat) (es:=l)
 refine w4 ?_
 obtain ⟨x6,a0⟩:=gx (List.replicate n.toNat (-1)) ((b).toNat)
 refine lc (QO (e:= .int) (z':=0) (Qa rfl) rfl a0 rfl (Evl.ev (Qn rfl)) rfl Zv rfl rfl)<|w3 ?_
 refine lc (dBs 4 (e:= .int) Ye)<|w7 ?_
 refine Qy (fun Q R=>∃(k:Nat) (out:List Int) (q:List Int),k≤n.toNat∧Q=n.toNat - k∧(Q6 n.toNat l=bfK (YH n.toNat l) (n.toNat+1 - k) k (out,q))∧(BI n.toNat l (out,q))∧R=⟨[(6,lf (.val (.slice none 0 0))),(7,lR 5),(8,lf (.dat Y2 (YH n.toNat l))),(11,lR 6),(12,lI (k:Int))],[ar 5 3 .int out,ar 6 3 .int q]⟩) ⟨0,(List.replicate n.toNat (-1)).set ((b).toNat) 0,[b],aL _,rfl,(by rw[N];rfl),(by rw[N];exact BI.start (by omega)),rfl⟩ ?_ ?_
 exact wp [(5,1),(6,4)] ⟨(Qg rfl),(Qg rfl),trivial⟩
 rintro Q R ⟨k,out,q,b5,b7,hA,S,rfl⟩
 have c1:=S.q_le
 have c0:out.length=n.toNat:=S.len
 refine w7 ?_
 cases B:(decide ((k:Int)<(q.length:Int)))
 have H:=ab B
 refine w8 ?_
 refine fo_ hO ?_
 rw[hA,QwH (by omega)]
 have H:=aa B
 refine w9 ?_
 obtain ⟨o,m⟩:=gx q k
 have a5:=S.at_ m
 refine w_ ?_
 refine alI 55 fun _=> ?_
 obtain ⟨ts,r⟩:=gx (YH n.toNat l) ((o).toNat)
 have c3:=Qif r
 have E:∀t∈ts,(o,t)∈l:=fun t ht=>by have:=(Qdw T r).1 ht;rwa [show ((o.toNat:Nat):Int)=o by omega] at this
 refine w2 ?_
 refine alL 57 fun _=> ?_
 refine w4 ?_
 refine Qy (fun Q R=>∃(i:Nat) (a:List Int) (y:List Int),i≤ts.length∧Q=ts.length - i∧(Q6 n.toNat l=bfK (YH n.toNat l) (n.toNat+1 - (k+1)) (k+1) (bfT o (ts.drop i) (a,y)))∧(BI n.toNat l (a,y))∧(y[k]? =some o)∧R=⟨[(6,lf (.val (.slice none 0 0))),(7,lR 7),(8,lf (.dat Y2 (YH n.toNat l))),(11,lR 8),(12,lI (k:Int)),(57,lf (.dat Qv ts)),(58,lI (ts.length:Int)),(59,lI (i:Int))],[ar 7 3 .int a,ar 8 3 .int y]⟩) ⟨0,out,q,aL _,rfl,(hA.trans (Qz4 m r (by omega))),S,m,rfl⟩ ?_ ?_
 exact wo [(7,5),(8,6)]
 rintro Q R ⟨i,a,y,a2,a4,G,g,s,rfl⟩
 have a7:=g.q_le
 have a6:a.length=n.toNat:=g.len
 have Z:=g.at_ s
 have Y:=(ae.1 s).1
 refine w4 ?_
 cases C:(decide ((i:Int)<(ts.length:Int)))
 have I:=ab C
 refine w7 ?_
 exact Qc<|Zb ⟨k+1,a,y,by omega,rfl,(by rw[G,QwI (by omega)]),g,rfl⟩ (by omega)<|wo [(5,7),(6,8)]
 have I:=aa C
 refine w5 ?_
 obtain ⟨z,j⟩:=gx ts i
 obtain ⟨_,h,V⟩:=T _ (E _ (ah j))
 have h:0≤z:=h
 refine w8 ?_
 obtain ⟨a1,O⟩:=gx a ((z).toNat)
 refine w3 ?_
 cases D:(decide (a1<0))
 have J:=ab D
 refine w6 ?_
 exact Qc<|Zb ⟨i+1,a,y,by omega,rfl,(by (rw[G,Qtj j ‹_› ‹_›];done)),(by exact g),(by exact s),rfl⟩ (by omega)<|wo []
 have J:=aa D
 refine w10 ?_
 obtain ⟨A,P⟩:=gx a ((o).toNat)
 have U: -1≤A∧A≤(y.length:Int):=g.rng _ (ah P)
 refine w_ ?_
 refine alI 76 fun _=> ?_
 refine w2 ?_
 refine lc (QO (e:= .int) (z':=A+1) (Qa rfl) rfl O rfl (Qm rfl) rfl Zv rfl rfl)<|w4 ?_
 refine lc (dBs 9 (e:= .int) Ye)<|lc (dA 10 Xg)<|w_ ?_
 refine Qc<|w4 ?_
 exact Qc<|Zb ⟨i+1,(a.set ((z).toNat) (A+1)),(y++([z])),by omega,rfl,(by (rw[G,QwJ j ‹_› ‹_› ‹_›];done)),(by exact g.step T Z.2 (E _ (ah j)) ‹_› ‹_› ‹_›),(by (rw[bm Y];exact s)),rfl⟩ (by omega)<|wp [(8,10)] ⟨(Qg rfl),(Qg rfl),trivial⟩
 have M:=aa L
 refine w5 ?_
 obtain ⟨e,F⟩:=gx l k
 refine w2 ?_
 refine lc (xal 11 QdY Qay)<|w2 ?_
 have W:=T _ (ah F)
 have b8:=KO (n:=n.toNat) (es:=l.take k)
 obtain ⟨⟨b1,b2⟩,b3,b4⟩:=W
 obtain ⟨ys,x⟩:=gx (YH n.toNat (l.take k)) e.1.toNat
 have c4:=Qif x
 have a3:(l.take k).length≤l.length:=by simp only[au];omega
 have u:=Qtv x
 have K:e.1.toNat*1+0<(Zh Qv (YH n.toNat (l.take k))).length:=by rw[Wn];show e.1.toNat*1+0<(YH n.toNat (l.take k)).length*1;omega
 refine AC.wk (Qab (q:=3) rfl (by omega))<|AC.wk (V1 12 (q:=3) (p:=e.1.toNat*1+0) (E':=3) (e':= .int) (ys:=ys) rfl (u) (Fresh.of rfl) (aD rfl)) ?_
 apply dV (i6 26 _ _ _ _ _ _ (io 32 (lf (.ept 3 1 ((e.1).toNat) 0))::io 33 (lR 12)::i2 34 _ _ [⟨some 36,lR 13,[ar 13 3 .int ([e.2])]⟩,⟨some 37,lR 14,[ar 14 3 .int (ys++([e.2])),(12,none),(13,none)]⟩,io 38 (lf (.ept 3 1 ((e.1).toNat) 0)),⟨none,lf (.val undef),[(3,some (.obx 62 1 ((YH n.toNat (l.take k)).length) (Zh Qv (YH n.toNat (l.take k))) [((e.1).toNat*1+0,.ref 14),(e.1.toNat*1+0,.ref 12)]))]⟩])) [0,1,1,7,15,15,7,7,255,255,255,7,0,0]
 refine z6 ?_
 refine zz (fun _ d=>ac (ZW (d.v rfl) (d.en 3 rfl) (d.v rfl) JA VK rfl (by omega) (by omega)) rfl)<|zz (fun _ d=>ac (Y4 (d.v rfl) (d.n 3 rfl) (show (ovr _ _)[e.1.toNat*1+0]? =some (.ref 12) from by simp only[ovr,bp,ax,K,u,dc,if_true,if_false,↓reduceIte]) (d.n 12 rfl) VK rfl) rfl)<|z2 ?_
 exact zz (fun _ d=>ac (dBs 13 (e:= .int) Ye) rfl)<|zz (fun _ d=>ac (dA 14 Xg) rfl)<|zz (fun _ d=>ac (ZW (d.v rfl) (d.en 3 rfl) (d.v rfl) JA VK rfl (by omega) (by omega)) rfl)<|zz (fun _ d=>ac (Hb (t:=12) (d.v rfl) (d.n 3 rfl) (show (ovr _ _)[e.1.toNat*1+0]? =some (.ref 12) from by simp only[ovr,bp,ax,K,u,dc,if_true,if_false,↓reduceIte]) (d.v rfl) (d.n 14 rfl) VK) rfl)<|zN
 refine w_ ?_
 refine AC.wk (Vp (q:=3) (t:=14) (p:=e.1.toNat*1+0) rfl (by simp only[ovr,bp,ax,K,u,dc,if_true,if_false,↓reduceIte]) rfl)<|AC.wk (Vo (q:=3) (e:=Qv) ((YH n.toNat (l.take k)).set e.1.toNat (ys++[e.2])) rfl (by simp only[ax]) (by simp only[ovr,cM];exact Qfs x))<|w3 ?_
 exact Qc<|l0_<|wp [] ⟨rfl,(Qg (QnY F x)),trivial⟩
end Go.Proofs.YtjfpbcmfbnnooaaGreat
