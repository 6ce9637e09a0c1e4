/- Walks over abstract states: valid state graphs, the program. -/
import Derived.Test.YtndabgcpnmeeoaaGreatMVa
import Derived.Test.YtndabgcpnmeeoaaGreatMAu
import Derived.Test.YtndabgcpnmeeoaaGreatMAv
import Derived.Test.YtndabgcpnmeeoaaGreatMWk
import Derived.Shelf.Lays
import Derived.Shelf.Lays2
import Derived.Shelf.Slices.In.SortNone
import Derived.Shelf.Slices.In.CompactI
import Derived.Test.YtndabgcpnmeeoaaGreatMApp
set_option linter.unusedSimpArgs false
set_option linter.unusedVariables false
set_option linter.unusedSectionVars false
namespace Go.Proofs.YtndabgcpnmeeoaaGreat
open Go.RowKit
set_option maxRecDepth 100000
set_option maxHeartbeats 4000000
section
variable {c:DSg}{a:DAr}{x y:ByteArray}{k:Nat}
theorem Qmq (h:¬(0≤a.1∧a.1≤(c.2.1.length:Int) - 1)):¬Xx c a:=fun g=>h g.1
theorem QlA (h:¬(0≤a.2.2.2∧a.2.2.2≤(c.2.1.length:Int) - 1)):¬Xx c a:=fun g=>h g.2.1
theorem Ql5 (h:¬UM (c.1.length:Int) (a.2.1,a.2.2.1)):¬Xx c a:=fun g=>h g.2.2.1
theorem QlF (b:c.2.1[a.1.toNat]? =some x)(d:c.2.1[a.2.2.2.toNat]? =some y)(h:¬Fit a x y):¬Xx c a:=fun g=>h (by have:=g.2.2.2; rwa [YW b,YW d] at this)
theorem Qu3 (b:0≤a.1∧a.1≤(c.2.1.length:Int) - 1)(d:0≤a.2.2.2∧a.2.2.2≤(c.2.1.length:Int) - 1)(e:UM (c.1.length:Int) (a.2.1,a.2.2.1))(f:c.2.1[a.1.toNat]? =some x)(g:c.2.1[a.2.2.2.toNat]? =some y)(h:Fit a x y):Xx c a:=
 ⟨b,d,e,by rw[YW f,YW g]; exact h⟩
end
theorem VH (c:ZX)[∀c,Decidable (SgOk c)]:FC Tryz.prog 181 [(true,[.dat Ql c.1, .dat Qj c.2.1, .dat Qv c.2.2])] [] 0 (QX (lB (decide (SgOk c)))):=by
 classical
 refine Qp Tryz.func181 rfl rfl Tryz.ntmps181 fun Y p X U Z W V=> ?_
 refine w_ ?_
 refine xbx 0 ?_
 refine w6 ?_
 refine lc (dK (J2 c.1) Qk6) ?_
 refine w2 ?_
 cases E:(decide (XA c.1))
 have F:=aa E
 refine w16 ?_
 refine w_ ?_
 refine Qd<|fqB p ?_
 exact QpL ‹_›
 have F:=ab E
 refine w2 ?_
 refine alL 14 fun _=> ?_
 refine w_ ?_
 refine lgy rfl rfl (dK (Q9 (c.2.1.length:Int) 1 300) ZP) ?_
 refine w3 ?_
 cases G:(decide (1≤(c.2.1.length:Int)∧(c.2.1.length:Int)≤300))
 have H:=aa G
 refine w10 ?_
 refine Qd<|fqB p ?_
 exact Qo1 ‹_›
 have H:=ab G
 refine w2 ?_
 refine alL 21 fun _=> ?_
 refine w4 ?_
 refine cd_ (fun _ _=> ?_) fun _ _=> ?_
 refine w4 ?_
 refine alL 26 fun _=> ?_
 refine w8 ?_
 refine alL 30 fun _=> ?_
 refine w4 ?_
 refine lpK c.2.1.length (fun k=>∀j,j < k→∀x,c.2.1[j]? =some x→YM x (c.1.length:Int)) (fun k=>⟨[(1,lP 0 0),(3,lI ((c.2.1.length:Int) - 1)),(30,lf (.dat Qj c.2.1)),(31,lI (c.2.1.length:Int)),(32,lI (k:Int))],[bx 0 28 [.dat Ql c.1, .dat Qj c.2.1, .dat Qv c.2.2]]⟩) ((fun j S=>absurd S (aW j))) ?_ fun k _ D=> ?_
 exact wo []
 refine w4 ?_
 cases I:(decide ((k:Int) < (c.2.1.length:Int)))
 have J:=aa I
 refine w7 ?_
 refine alL 44 fun _=> ?_
 refine w4 ?_
 refine lpK c.2.2.length (fun i=>∀j,j < i→∀a,c.2.2[j]? =some a→Xx c a) (fun i=>⟨[(1,lP 0 0),(3,lI ((c.2.1.length:Int) - 1)),(44,lf (.dat Qv c.2.2)),(45,lI (c.2.2.length:Int)),(46,lI (i:Int))],[bx 0 28 [.dat Ql c.1, .dat Qj c.2.1, .dat Qv c.2.2]]⟩) ((fun j S=>absurd S (aW j))) ?_ fun i _ Q=> ?_
 exact wo []
 refine w4 ?_
 cases q:(decide ((i:Int) < (c.2.2.length:Int)))
 have t:=aa q
 refine w3 ?_
 apply dW (i5 92 _ _ _ _ _ [io 97 (lf (.dat (.sl 359 (.pr .int .int)) (Z5 c.2.2))),io 98 (lf (.dat Qi (JT (c.2.1.length:Int).toNat (Z5 c.2.2)))),io 99 (lB ((JT (c.2.1.length:Int).toNat (Z5 c.2.2)).any (fun y=>decide ((-1)=y)))),io 100 _,io 2 _]) [0,0,0,7,7,7,0,0,0,0]
 refine z5 ?_
 refine zz (fun _ b=>ac (dK (QaW c.2.2 (by omega)).frozen Qjs) rfl) ?_
 refine zz (fun _ b=>ac (dK (Qai (c.2.1.length:Int) (Z5 c.2.2) 0 (by omega) (Qc3 (fun a R=>ZL (Xg Q (by omega) a R))) (by simp only[Z5,aJ]; omega) rfl).frozen Qj3) rfl) ?_
 refine zz (fun _ b=>ac (dK (QG (JT (c.2.1.length:Int).toNat (Z5 c.2.2)) (-1)) YA) rfl) ?_
 exact y2
 refine Qd<|fqB p ?_
 exact (QqY (by omega) (Qc3 (fun a R=>ZL (Xg Q (by omega) a R)))).trans (Qqp ‹_› ‹_› ‹_› (Xg D (by omega)) (Xg Q (by omega)))
 have t:=ab q
 refine w5 ?_
 obtain ⟨ar,f⟩:=gx c.2.2 i
 refine w2 ?_
 refine lc (xal 1 YE ZG) ?_
 refine w2 ?_
 cases d:(decide (0≤ar.1∧ar.1≤((c.2.1.length:Int) - 1)))
 have u:=aa d
 apply dW (i3 50 _ _ _ (io 53 (lB false) :: i9 54 _ _ _ _ _ _ _ _ _ (i9 63 _ _ _ _ _ _ _ _ _ (i9 72 _ _ _ _ _ _ _ _ _ (i9 81 _ _ _ _ _ _ _ _ _ [io 90 _]))))) [0,0,3,0,0,0,0,0,192,0,0,0,0,0,0,24576,24576,0,253952,253952,253952,0,0,0,0,0,33554432,33554432,234881024,234881024,33554432,33554432,4261412864,4261412864,17146314752,17146314752,4261412864,4261412864,0,0,0]
 refine z3 ?_
 refine zz (fun _ b=>ac (QS (d) (dK (Q9 ar.1 0 ((c.2.1.length:Int) - 1)) ZP)) rfl) ?_
 refine z16 ?_
 refine z16 ?_
 exact y5
 refine w4 ?_
 refine Qd<|fqB p ?_
 exact QdR f (by first | exact Qmq ‹_› | exact QlA ‹_› | exact Ql5 ‹_› | exact QlF (x:=l) (y:=m) ‹_› ‹_› ‹_›)
 have u:=ab d
 cases e:(decide (0≤ar.2.2.2∧ar.2.2.2≤((c.2.1.length:Int) - 1)))
 have v:=aa e
 apply dW (i3 50 _ _ _ (io 53 (lB true) :: i5 54 _ _ _ _ _ (io 59 (lB false) :: i9 60 _ _ _ _ _ _ _ _ _ (i9 69 _ _ _ _ _ _ _ _ _ (i9 78 _ _ _ _ _ _ _ _ _ (i4 87 _ _ _ _ [])))))) [0,0,3,0,0,0,0,0,192,0,0,0,0,0,0,24576,24576,0,253952,253952,253952,0,0,0,0,0,33554432,33554432,234881024,234881024,33554432,33554432,4261412864,4261412864,17146314752,17146314752,4261412864,4261412864,0,0,0]
 refine z3 ?_
 refine zz (fun _ b=>ac (QS (d) (dK (Q9 ar.1 0 ((c.2.1.length:Int) - 1)) ZP)) rfl) ?_
 refine z5 ?_
 refine zz (fun _ b=>day rfl (b.k rfl) (QS (e) (dK (Q9 ar.2.2.2 0 ((c.2.1.length:Int) - 1)) ZP)) rfl) ?_
 refine z16 ?_
 exact y15
 refine w4 ?_
 refine Qd<|fqB p ?_
 exact QdR f (by first | exact Qmq ‹_› | exact QlA ‹_› | exact Ql5 ‹_› | exact QlF (x:=l) (y:=m) ‹_› ‹_› ‹_›)
 have v:=ab e
 cases g:(decide (UM (c.1.length:Int) (ar.2.1,ar.2.2.1)))
 have z:=aa g
 apply dW (i3 50 _ _ _ (io 53 (lB true) :: i5 54 _ _ _ _ _ (io 59 (lB true) :: i7 60 _ _ _ _ _ _ _ (io 67 (ag [dI ar.2.1,dB ar.2.2.1]) :: i3 68 _ _ _ (io 71 (lB false) :: i9 72 _ _ _ _ _ _ _ _ _ (i9 81 _ _ _ _ _ _ _ _ _ [io 90 _])))))) [0,0,3,0,0,0,0,0,192,0,0,0,0,0,0,24576,24576,0,253952,253952,253952,0,0,0,0,0,33554432,33554432,234881024,234881024,33554432,33554432,4261412864,4261412864,17146314752,17146314752,4261412864,4261412864,0,0,0]
 refine z3 ?_
 refine zz (fun _ b=>ac (QS (d) (dK (Q9 ar.1 0 ((c.2.1.length:Int) - 1)) ZP)) rfl) ?_
 refine z5 ?_
 refine zz (fun _ b=>day rfl (b.k rfl) (QS (e) (dK (Q9 ar.2.2.2 0 ((c.2.1.length:Int) - 1)) ZP)) rfl) ?_
 refine z7 ?_
 refine zz (fun _ b=>day rfl (b.k rfl) (Qq XJ ⟨_,_,rfl,(b.w rfl),⟨_,_,rfl,(b.w rfl),rfl⟩⟩ (av.1 rfl) rfl rfl) rfl) ?_
 refine z3 ?_
 refine zz (fun _ b=>day rfl (b.k rfl) (QS (g) (dK (KG (ar.2.1,ar.2.2.1) (c.1.length:Int) (by have:=(‹XA c.1›).2.2; omega)) QcH)) rfl) ?_
 refine z16 ?_
 exact y3
 refine w4 ?_
 refine Qd<|fqB p ?_
 exact QdR f (by first | exact Qmq ‹_› | exact QlA ‹_› | exact Ql5 ‹_› | exact QlF (x:=l) (y:=m) ‹_› ‹_› ‹_›)
 have z:=ab g
 obtain ⟨l,M⟩:=gx c.2.1 ((ar.1).toNat)
 have O:YM l (c.1.length:Int)→l.size=c.1.length:=fun h=>by have:=h.2; omega
 have K:c.2.1.length≤k→l.size=c.1.length:=fun h=>O (Xg D h _ (ae M))
 obtain ⟨m,N⟩:=gx c.2.1 ((ar.2.2.2).toNat)
 have P:YM m (c.1.length:Int)→m.size=c.1.length:=fun h=>by have:=h.2; omega
 have L:c.2.1.length≤k→m.size=c.1.length:=fun h=>P (Xg D h _ (ae N))
 apply dW (i3 50 _ _ _ (io 53 (lB true) :: i5 54 _ _ _ _ _ (io 59 (lB true) :: i7 60 _ _ _ _ _ _ _ (io 67 (ag [dI ar.2.1,dB ar.2.2.1]) :: i3 68 _ _ _ (io 71 (lB true) :: i9 72 _ _ _ _ _ _ _ _ _ (i7 81 _ _ _ _ _ _ _ (io 88 (lB (decide (Fit ar l m))) :: i2 89 _ _ []))))))) [0,0,3,0,0,0,0,0,192,0,0,0,0,0,0,24576,24576,0,253952,253952,253952,0,0,0,0,0,33554432,33554432,234881024,234881024,33554432,33554432,4261412864,4261412864,17146314752,17146314752,4261412864,4261412864,0,0,0]
 refine z3 ?_
 refine zz (fun _ b=>ac (QS (d) (dK (Q9 ar.1 0 ((c.2.1.length:Int) - 1)) ZP)) rfl) ?_
 refine z5 ?_
 refine zz (fun _ b=>day rfl (b.k rfl) (QS (e) (dK (Q9 ar.2.2.2 0 ((c.2.1.length:Int) - 1)) ZP)) rfl) ?_
 refine z7 ?_
 refine zz (fun _ b=>day rfl (b.k rfl) (Qq XJ ⟨_,_,rfl,(b.w rfl),⟨_,_,rfl,(b.w rfl),rfl⟩⟩ (av.1 rfl) rfl rfl) rfl) ?_
 refine z3 ?_
 refine zz (fun _ b=>day rfl (b.k rfl) (QS (g) (dK (KG (ar.2.1,ar.2.2.1) (c.1.length:Int) (by have:=(‹XA c.1›).2.2; omega)) QcH)) rfl) ?_
 refine z16 ?_
 refine zz (fun _ b=>day rfl (b.k rfl) (dK (Qat ar l m (by have:=K (by omega); have:=L (by omega); omega)) QkH) rfl) ?_
 exact y2
 cases r:(decide (Fit ar l m))
 have A:=aa r
 refine w4 ?_
 refine Qd<|fqB p ?_
 exact QdR f (by first | exact Qmq ‹_› | exact QlA ‹_› | exact Ql5 ‹_› | exact QlF (x:=l) (y:=m) ‹_› ‹_› ‹_›)
 have A:=ab r
 refine w6 ?_
 refine Qb ?_
 refine lK_ ((Xq Q f (Qu3 ‹_› ‹_› ‹_› (x:=l) (y:=m) ‹_› ‹_› ‹_›))) ?_
 exact wo []
 have J:=ab I
 refine w5 ?_
 obtain ⟨o,n⟩:=gx c.2.1 k
 have C:YM o (c.1.length:Int)→o.size=c.1.length:=fun h=>by have:=h.2; omega
 have T:c.2.1.length≤k→o.size=c.1.length:=fun h=>C (Xg D h _ (ae n))
 refine w8 ?_
 refine alL 38 fun _=> ?_
 refine w_ ?_
 refine lc (dK (QdP o (c.1.length:Int)) Qkb) ?_
 refine w2 ?_
 cases s:(decide (YM o (c.1.length:Int)))
 have B:=aa s
 refine w4 ?_
 refine Qd<|fqB p ?_
 exact Qqs n ‹_›
 have B:=ab s
 refine w6 ?_
 refine Qb ?_
 refine lK_ ((Xq D n ‹_›)) ?_
 exact wo []
 refine w3 ?_
 refine Qd<|fqB p ?_
 exact Qo8 ‹_›
end Go.Proofs.YtndabgcpnmeeoaaGreat
namespace Go.Proofs.YtndabgcpnmeeoaaGreat
open Go.RowKit
set_option maxRecDepth 100000
set_option maxHeartbeats 4000000
def Qx0 (a b:UInt8):Bool:=decide (a=b)||(decide (a=48)&&decide (b=43))||(decide (a=43)&&decide (b=49))||(decide (a=49)&&decide (b=45))||(decide (a=45)&&decide (b=48))||(decide (a=43)&&decide (b=45))||(decide (a=45)&&decide (b=43))
def Qtj (s:ByteArray):Prop:=∀x∈s.toList,x=48∨x=43∨x=49∨x=45
instance (s:ByteArray):Decidable (Qtj s):=inferInstanceAs (Decidable (∀x∈s.toList,x=48∨x=43∨x=49∨x=45))
def SignsOk (c:DSg)(s:ByteArray):Prop:=Qtj s∧s.size=c.2.1.length∧SgOk c
instance (c:DSg) (s:ByteArray) [Decidable (SgOk c)]:Decidable (SignsOk c s):=inferInstanceAs (Decidable (_∧_))
def QtJ (c:DSg)(s:ByteArray):Bool:=c.2.2.all fun a=>Qx0 (bAt s a.1) (bAt s a.2.2.2)
def Qx7 (s:ByteArray)(a:DAr):Bool:=(decide (bAt s a.1=43)&&(decide (bAt s a.2.2.2=49)||decide (bAt s a.2.2.2=45)))||(decide (bAt s a.1=45)&&(decide (bAt s a.2.2.2=48)||decide (bAt s a.2.2.2=43)))
def okP (c:DSg)(s:ByteArray)[Decidable (SgOk c)]:Bool:=decide (SignsOk c s)&&QtJ c s
def QyD (as_:List DAr)(q:Int):List DAr:=as_.filter fun a=>decide (a.1=q)
def QxR:ByteArray:=⟨#[48,43,49,45,48]⟩
section
variable {a b x:UInt8}{k i:Nat}{s:ByteArray}{c:DSg}{l:List DAr}{e:DAr}{q:Int}
section
variable [Decidable (SignsOk c s)]
end
theorem SignsOk.at_ (h:SignsOk c s)(f:e∈c.2.2):(0≤e.1∧e.1 < (s.size:Int))∧0≤e.2.2.2∧e.2.2.2 < (s.size:Int):=by
 have d:=ZL (h.2.2.arcs e f)
 rw[h.2.1]
 exact d
end
theorem XH (a:QnF):FC Tryz.prog 347 [(true,[dI a.1,dI a.2.1,dB a.2.2.1,dI a.2.2.2])] [] 0 (QX (ag [dI a.2.1,dB a.2.2.1])):=by
 refine Qp Tryz.func347 rfl rfl Tryz.ntmps347 fun m h j d n g f=> ?_
 refine acG 0 0 fun _=> ?_
 refine acG 0 1 fun _=> ?_
 refine acG 0 3 fun _=> ?_
 refine w_ ?_
 refine xbx 0 ?_
 refine lc (xal 1 Zk XY) ?_
 refine w6 ?_
 refine lc (Qq XJ ⟨_,_,rfl,(Qo rfl),⟨_,_,rfl,(Qo rfl),rfl⟩⟩ (av.1 rfl) rfl rfl) ?_
 refine w3 ?_
 exact fe_ h
end Go.Proofs.YtndabgcpnmeeoaaGreat
namespace Go.Proofs.YtndabgcpnmeeoaaGreat
open Go.RowKit
set_option maxRecDepth 100000
set_option maxHeartbeats 4000000
def DelI {α:Type _}(p:α→Bool)(l0 l:List α)(i j:Int):Prop:=(0≤i∧i < j∧j≤(l.length:Int))∧l.length=l0.length∧l.take i.toNat=(l0.take j.toNat).filter p∧l.drop j.toNat=l0.drop j.toNat
section
variable {α:Type _}{p f:α→Bool}{l0 l:List α}{i j:Int}{x:α}
theorem Ho (f:α→Bool)(l:List α):(ZO f l= -1∧∀x∈l,f x=false)∨∃(k:Nat) (x:α),ZO f l=(k:Int)∧l[k]? =some x∧f x=true∧NoneTo f l k:=by
 unfold ZO
 cases h:l.findIdx? f with
 | none=>exact .inl ⟨rfl,fun x g=>by simpa using List.findIdx?_eq_none_iff.1 h x g⟩
 | some k=>
  obtain ⟨a,b,c⟩:=cC.1 h
  exact .inr ⟨k,l[k],rfl,aj a,b,fun j e y m=>by
   obtain ⟨n,d⟩:=ah.1 m
   have:=c j e
   rw[d] at this
   simpa using this⟩
theorem QiI (f:α→Bool)(l:List α): -1≤ZO f l∧ZO f l < (l.length:Int):=by
 rcases Ho f l with ⟨h,_⟩ | ⟨k,x,h,a,_⟩
 ·omega
 ·have:=(ah.1 a).1
  omega
theorem Qbx (h:ZO f l= -1):l=l.filter fun x=> !f x:=by
 rcases Ho f l with ⟨_,a⟩ | ⟨k,_,a,_⟩
 ·exact (dc.2 fun x b=>by rw[a x b]; rfl).symm
 ·omega
theorem DelI.start (h:¬ZO f l= -1):DelI (fun x=> !f x) l l (ZO f l) (ZO f l+1):=by
 rcases Ho f l with ⟨a,_⟩ | ⟨k,x,a,d,e,g⟩
 ·exact absurd a h
 ·have o:=(ah.1 d).1
  rw[a]
  refine ⟨by omega,rfl, ?_,rfl⟩
  rw[show ((k:Int)+1).toNat=k+1 by omega,show ((k:Int)).toNat=k by omega,Qw d,bz]
  have:([x].filter fun x=> !f x)=[]:=by simp[e]
  rw[this,bE]
  refine (dc.2 fun y m=> ?_).symm
  obtain ⟨n,b⟩:=aL.1 m
  have c:=(ah.1 b).1
  rw[ap] at c
  rw[List.getElem?_take_of_lt (by omega)] at b
  rw[g n (by omega) y b]; rfl
theorem DelI.at_ (h:DelI p l0 l i j)(b:l[j.toNat]? =some x):l0[j.toNat]? =some x:=by
 obtain ⟨c,d,e,a⟩:=h
 have:=congrArg (fun l:List α=>l[0]?) a
 simpa [b] using this.symm
theorem DelI.lt (h:DelI p l0 l i j)(a:l[j.toNat]? =some x):j < (l.length:Int):=by
 have:=(ah.1 a).1
 obtain ⟨b,_⟩:=h
 omega
theorem DelI.drop_ (h:DelI p l0 l i j)(a:l[j.toNat]? =some x)(g:p x=false):DelI p l0 l i (j+1):=by
 have b:=h.at_ a
 have m:=h.lt a
 obtain ⟨k,c,d,e⟩:=h
 refine ⟨by omega,c, ?_, ?_⟩
 ·rw[show (j+1).toNat=j.toNat+1 by omega,Qw b,bz,d]; simp[g]
 ·have:=congrArg (List.drop 1) e
  rw[dJ,dJ] at this
  rw[show (j+1).toNat=j.toNat+1 by omega]
  exact this
theorem DelI.keep (h:DelI p l0 l i j)(a:l[j.toNat]? =some x)(k:p x=true):DelI p l0 (l.set i.toNat x) (i+1) (j+1):=by
 have b:=h.at_ a
 have n:=h.lt a
 obtain ⟨m,c,d,e⟩:=h
 refine ⟨by rw[ay]; omega,by rw[ay]; exact c, ?_, ?_⟩
 ·have g:(l.set i.toNat x)[i.toNat]? =some x:=aY (by omega)
  rw[show (j+1).toNat=j.toNat+1 by omega,show (i+1).toNat=i.toNat+1 by omega,Qw g,Qw b,bz,List.take_set_of_le (aK _),d]
  simp[k]
 ·have:=congrArg (List.drop 1) e
  rw[dJ,dJ] at this
  rw[show (j+1).toNat=j.toNat+1 by omega,List.drop_set_of_lt (by omega)]
  exact this
theorem DelI.end_ {z:List α}(h:DelI p l0 l i j)(g:¬j < (l.length:Int))(n:Nat)(b:n=i.toNat):(l.take i.toNat++z).take n=l0.filter p:=by
 obtain ⟨c,d,a,e⟩:=h
 subst b
 rw[List.take_left' (by rw[ap]; omega),a,aR (by omega)]
end
theorem Qa6 (l:Qm9)(name:ByteArray):FC Tryz.prog 499 [(false,[.dat Ql l]),(false,[dS name])] [] 0 (QX (lI (ZO (fun x:Qz=>decide (x.1=name)) l))):=by
 refine Qp Tryz.func499 rfl rfl Tryz.ntmps499 fun s h q m t o n=> ?_
 refine w6 ?_
 refine alL 7 fun _=> ?_
 refine w4 ?_
 refine lpK l.length (fun k=>NoneTo (fun x:Qz=>decide (x.1=name)) l k) (fun k=>⟨[(1,lf (dS name)),(7,lf (.dat Ql l)),(8,lI (l.length:Int)),(9,lI (k:Int))],[]⟩) (NoneTo.zero) ?_ fun k _ a=> ?_
 exact wo []
 refine w4 ?_
 cases b:(decide ((k:Int) < (l.length:Int)))
 have c:=aa b
 refine w6 ?_
 refine Qd<|fqI h ?_
 first | exact (a.no (by omega)).symm
 have c:=ab b
 refine w6 ?_
 obtain ⟨r,g⟩:=gx l k
 refine w2 ?_
 refine lc (xal 0 Zw HI) ?_
 refine w9 ?_
 cases d:(decide (r.1=name))
 have e:=aa d
 refine w6 ?_
 refine Qb ?_
 refine lK_ (a.step g ‹_›) ?_
 exact wo []
 have e:=ab d
 refine w5 ?_
 refine Qd<|fqI h ?_
 exact (a.at g ‹_›).symm
end Go.Proofs.YtndabgcpnmeeoaaGreat
namespace Go.Proofs.YtndabgcpnmeeoaaGreat
open Go.RowKit
theorem Qcc:∀{t:Ty} {w:World} {cs:List Value} {x y:t.Den},Rep t w cs x→Rep t w cs y→x=y
 | .int,_,_,x,y,h,k=>by have f:=h.1; have d:=k.1; rw[f] at d; simpa using d
 | .bool,_,_,x,y,h,k=>by have f:_=_:=h; have d:_=_:=k; rw[f] at d; simpa using d
 | .str,_,_,x,y,h,k=>by have f:=h.1; have d:=k.1; rw[f] at d; simpa using d
 | .u8,_,_,x,y,h,k=>by
  have f:_=_:=h; have d:_=_:=k; rw[f] at d
  simp only[aH,Value.int.injEq,and_true,true_and] at d
  exact UInt8.toNat_inj.1 (by omega)
 | .vl,_,_,x,y,h,k=>by
  have f:_=_:=h; have d:_=_:=k; rw[f] at d
  exact QmL (by simpa using d)
 | .sl E e,w,cs,xs,ys,⟨A,c,f,d,h3,h4⟩,⟨A',c',k1,k2,k3,k4⟩=>by
  rw[f] at k1
  simp only[aH,Value.slice.injEq,and_true] at k1
  obtain ⟨rfl,K,rfl⟩:=k1
  apply bK
  intro i
  rcases cY i xs.length with m | m
  ·obtain ⟨b,o,B,C⟩:=h4 (by omega)
   obtain ⟨J,N,q,D⟩:=k4 (by omega)
   rw[B] at q
   cases q
   obtain ⟨p,u,H⟩:=C i xs[i] (aj m)
   obtain ⟨g,v,I⟩:=D i ys[i] (aj (by omega))
   have F:p=g:=by
    apply bK
    intro j
    have L:=u.len
    have M:=v.len
    rcases cY j e.wd with G | G
    ·have z:=H j p[j] (aj (by omega))
     have n:=I j g[j] (aj (by omega))
     rw[z] at n
     rw[aj (by omega),aj (by omega)]
     exact n
    ·rw[bH (by omega),bH (by omega)]
   subst F
   rw[aj m,aj (by omega),Qcc u v]
  ·rw[bH m,bH (by omega)]
 | .pr a b,w,cs,x,y,⟨l,r,f,d,h3⟩,⟨l',r',k1,k2,k3⟩=>by
  rw[f] at k1
  obtain ⟨rfl,rfl⟩:=List.append_inj k1 (by rw[d.len,k2.len])
  exact Prod.ext (Qcc d k2) (Qcc h3 k3)
theorem QoZ {E:TypeId}{e:Ty}{w:World}{fp:List Nat}{cs:List Value}{x:List e.Den}(h:Own (.sl E e) w fp cs x):∃v:Hdr,cs=[hdV v]:=by
 rcases h with ⟨_,h,_⟩ | ⟨g,a,b,fps,_,h,_⟩
 ·exact ⟨none,h⟩
 ·exact ⟨some (g,0,x.length,a),h⟩
open Classical in
noncomputable def rdF (E:TypeId) (e:Ty) (w:World) (v:Hdr):List e.Den:=if h:∃x,Rep (.sl E e) w [hdV v] x then h.choose else []
theorem QoG {E:TypeId}{e:Ty}{w:World}{v:Hdr}{x:List e.Den}(h:Rep (.sl E e) w [hdV v] x):rdF E e w v=x:=by
 have a:∃x,Rep (.sl E e) w [hdV v] x:=⟨x,h⟩
 unfold rdF
 rw[dif_pos a]
 exact Qcc a.choose_spec h
theorem Qfn {E:TypeId}{e:Ty}{w:World}:∀{xs:List (List e.Den)} {fp:List Nat} {cs:List Value},OwnL (Own (.sl E e) w) fp cs xs→∃vs:List Hdr,cs=vs.map hdV∧vs.map (rdF E e w)=xs
 | [],_,_,h=>⟨[],h.2,rfl⟩
 | x :: xs,_,_,⟨f1,f2,c1,c2,h1,h2,h3,h4⟩=>by
  obtain ⟨v,rfl⟩:=QoZ h3
  obtain ⟨vs,rfl,a⟩:=Qfn h4
  exact ⟨v :: vs,by rw[h2]; rfl,by rw[be,a,QoG h3.rep]⟩
theorem Qch {E:TypeId}{e:Ty}{w:World}{f:Hdr→List e.Den}:∀{vs:List Hdr} {fp:List Nat},OwnL (Own (.sl E e) w) fp (vs.map hdV) (vs.map f)→∀v∈vs,∃a,Own (.sl E e) w a [hdV v] (f v)∧∀g∈a,g∈fp
 | [],_,_,v,hv=>by cases hv
 | u :: vs,fp,h,v,hv=>by
  obtain ⟨j,o,c1,c2,rfl,d,i,k⟩:=h
  obtain ⟨z,rfl⟩:=QoZ i
  simp only[be,cN,cV,aH] at d
  obtain ⟨l,rfl⟩:=d
  rcases aC.1 hv with rfl | hv
  ·exact ⟨j,by rw[l]; exact i,fun g b=>aS _ b⟩
  ·obtain ⟨a,m,n⟩:=Qch k v hv
   exact ⟨a,m,fun g b=>aV _ (n g b)⟩
theorem Qmi {w:World}:∀(vs:List Hdr),OwnL (Own .vl w) [] (vs.map hdV) vs
 | []=>⟨rfl,rfl⟩
 | v :: vs=>⟨[],[],[hdV v],vs.map hdV,rfl,rfl,⟨rfl,rfl⟩,Qmi vs⟩
theorem QhY {E E':TypeId}{e:Ty}{w:World}{fp:List Nat}{v:Value}{xs:List (List e.Den)}(h:Own (.sl E (.sl E' e)) w fp [v] xs):
 ∃j k vs f,fp=j++k∧Own (.sl E .vl) w j [v] vs∧OwnL (Own (.sl E' e) w) k (vs.map hdV) (vs.map f)∧vs.map f=xs:=by
 rcases h with ⟨rfl,h,rfl⟩ | ⟨g,b,a,fps,rfl,n,o,r,p,q,d⟩
 ·exact ⟨[],[],[],fun _=>[],rfl, .inl ⟨rfl,h,rfl⟩,⟨rfl,rfl⟩,rfl⟩
 ·obtain ⟨vs,m,i⟩:=Qfn d
  have l:vs.length=xs.length:=by rw[← i,aJ]
  rw[m] at d
  refine ⟨[g],fps,vs,rdF E' e w,rfl, .inr ⟨g,b,a,[],rfl,by rw[l]; exact n,o,by omega,p,q, ?_⟩,by rw[i]; exact d,i⟩
  have:(a.toList.take (vs.length*Ty.wd .vl))=vs.map hdV:=by rw[l]; exact m
  rw[this]
  exact Qmi vs
section
variable {A:Amb}{P:Program}{s:St}{Q:Exit→St→Prop}{c:Code}
theorem R.pool {q:Nat}(p:Nat){E E':TypeId}{e:Ty}{xs:List (List e.Den)}{a:Act}{w:World}(Y:s.tab.ent q=some (.arr E (.sl E' e) xs))(z:Fresh s p)(hk:A.k0≤p)(r:R A s a w):
 ∃(vs:List Hdr) (f:Hdr→List e.Den),vs.map f=xs∧R A ⟨s.tm,(p,some (.pl false (.sl E' e) vs f)) :: (q,some (.arr E .vl vs)) :: s.tab⟩ a w:=by
 obtain ⟨m,r⟩:=r
 have C:s.tab.al q:=⟨_,Y⟩
 have H:q≠p:=fun h=>z.al (h▸C)
 have hO:Own (.sl E (.sl E' e)) w (m.f q) [m.h q] xs:=r.cx.en q _ Y
 obtain ⟨D,W,vs,f,M,h2,h3,h4⟩:=QhY hO
 have G:=r.cx.nd q C
 rw[M] at G
 obtain ⟨n1,n2,n3⟩:=bi.1 G
 have mg:∀g∈D,g∈m.f q:=fun g i=>by rw[M]; exact aS _ i
 have K:∀g∈W,g∈m.f q:=fun g i=>by rw[M]; exact aV _ i
 have l:∀t,Tab.al ((p,some (.pl false (.sl E' e) vs f)) :: (q,some (.arr E .vl vs)) :: s.tab) t→t=p∨(t≠p∧s.tab.al t):=fun t ⟨x,n⟩=>by
  by_cases d:t=p
  ·exact .inl d
  ·refine .inr ⟨d, ?_⟩
   rw[Qf,if_neg d,Qf] at n
   by_cases j:t=q
   ·rw[j]; exact C
   ·rw[if_neg j] at n; exact ⟨_,n⟩
 let k:Gh:=⟨fun t=>if t=p then .slice none 0 0 else m.h t,fun t=>if t=p then [] else if t=q then D else m.f t,fun g=>m.N g∨g∈W⟩
 have I:k.f q=D:=by show (if q=p then [] else if q=q then D else m.f q)=D; rw[if_neg H,if_pos rfl]
 have F:k.f p=[]:=if_pos rfl
 have L:∀t,t≠p→t≠q→k.f t=m.f t:=fun t d j=>by show (if t=p then [] else if t=q then D else m.f t)=_; rw[if_neg d,if_neg j]
 have J:∀t,t≠p→k.h t=m.h t:=fun t d=>if_neg d
 have o:∀t,t≠p→∀g∈k.f t,g∈m.f t:=fun t d g i=>by
  by_cases j:t=q
  ·rw[j,I] at i; rw[j]; exact mg g i
  ·rwa [L t d j] at i
 have X:∀g,m.N g→k.N g∧w.heap[g]? =w.heap[g]? :=fun g h=>⟨.inl h,rfl⟩
 refine ⟨vs,f,h4,k,r.step ⟨fun t x n=> ?_,fun t U y S hn g i B=> ?_,fun t y=> ?_,fun t y g i b=> ?_,fun g b=> ?_⟩ (fun t y=> ?_) X (ZA w) (fun _ _ _=>rfl) (fun g b=> ?_) fun t y g i=> ?_⟩
 ·rw[Qf] at n
  by_cases d:t=p
  ·rw[if_pos d] at n
   cases n
   rw[d]
   refine ⟨if_pos rfl,F,fun v hv=> ?_⟩
   obtain ⟨fv,k1,k2⟩:=Qch h3 v hv
   exact k1.rd fun g i=> .inr (k2 g i)
  ·rw[if_neg d,Qf] at n
   by_cases j:t=q
   ·rw[if_pos j] at n
    cases n
    show Own (.sl E .vl) w (k.f t) [k.h t] vs
    rw[j,I,J q H]
    exact h2
   ·rw[if_neg j] at n
    refine (r.cx.en t x n).mono (fun T O ha=> ?_) X (J t d) (L t d j) fun _ _=>rfl
    have V:T≠p:=fun h=>z.en t x n (h▸O)
    rcases l T ha with h | ⟨_,h⟩
    ·exact absurd h V
    ·exact ⟨h,J T V⟩
 ·rcases l t y with d | ⟨d,u⟩
  ·rw[d,F] at i; cases i
  ·rcases l U S with j | ⟨j,a2⟩
   ·rw[j,F] at B; cases B
   ·exact r.cx.dj t U u a2 hn g (o t d g i) (o U j g B)
 ·rcases l t y with d | ⟨d,u⟩
  ·rw[d,F]; exact bJ
  ·by_cases j:t=q
   ·rw[j,I]; exact n1
   ·rw[L t d j]; exact r.cx.nd t u
 ·rcases l t y with d | ⟨d,u⟩
  ·rw[d,F] at i; cases i
  ·rcases b with b | b
   ·exact r.cx.no t u g (o t d g i) b
   ·by_cases j:t=q
    ·rw[j,I] at i; exact n3 g i g b rfl
    ·exact r.cx.dj t q u C j g (o t d g i) (K g b)
 ·rcases b with b | b
  ·exact r.cx.nl g b
  ·exact r.cx.lt C g (K g b)
 ·rcases l t y with d | ⟨d,u⟩
  ·rw[d]; exact .inr ⟨z,hk⟩
  ·exact .inl ⟨u,J t d,fun _=>rfl⟩
 ·rcases b with b | b
  ·exact .inl b
  ·exact .inr (.inr ⟨q,C,K g b,fun Z=>r.xn g Z (r.ox q C g (K g b) Z)⟩)
 ·rcases l t y with d | ⟨d,u⟩
  ·rw[d,F] at i; cases i
  ·exact .inr ⟨t,u,o t d g i⟩
theorem AC.pool {q:Nat}(p:Nat){E E':TypeId}{e:Ty}{xs:List (List e.Den)}(d:s.tab.ent q=some (.arr E (.sl E' e) xs))(b:Fresh s p)(g:A.k0≤p)
 (k:∀(vs:List Hdr) (f:Hdr→List e.Den),vs.map f=xs→AC A P c Q ⟨s.tm,(p,some (.pl false (.sl E' e) vs f)) :: (q,some (.arr E .vl vs)) :: s.tab⟩):AC A P c Q s:=fun a w r=>by
 obtain ⟨vs,f,h,i⟩:=R.pool p d b g r
 exact k vs f h a w i
theorem AL.pool {ops:Array Oper}{l:List Oper}{q:Nat}(p:Nat){E E':TypeId}{e:Ty}{xs:List (List e.Den)}(d:s.tab.ent q=some (.arr E (.sl E' e) xs))(b:Fresh s p)(g:A.k0≤p)
 (k:∀(vs:List Hdr) (f:Hdr→List e.Den),vs.map f=xs→AL A P ops l Q ⟨s.tm,(p,some (.pl false (.sl E' e) vs f)) :: (q,some (.arr E .vl vs)) :: s.tab⟩):AL A P ops l Q s:=fun a w r=>by
 obtain ⟨vs,f,h,i⟩:=R.pool p d b g r
 exact k vs f h a w i
theorem Evl.pl {x:Operand}{p:Nat}{e:Ty}{vs:List Hdr}{f:Hdr→e.Den}{v:Hdr}(j:Evl A s x (.dat .vl v))(i:s.tab.ent p=some (.pl false e vs f))(hv:v∈vs):Evl A s x (.dat e (f v)):=fun b a w r=>by
 obtain ⟨_,_,h⟩:=r.cx.en p _ i
 have d:Rd b.N .vl w [a.eval x] v:=j b a w r
 have g:[a.eval x]=[hdV v]:=d.rep
 show Rd b.N e w [a.eval x] (f v)
 rw[g]
 exact h v hv
theorem Qqo {i q p:Nat}{E E':TypeId}{e:Ty}{zs vs:List Hdr}{f:Hdr→List e.Den}(hi:lk s.tm i=some (lf (.ref q)))(x:s.tab.ent q=some (.arr E .vl zs))(T:s.tab.ent p=some (.pl false (.sl E' e) vs f))(W:∀z∈zs,z∈vs):
 Wk A s ⟨(i,lf (.dat (.sl E (.sl E' e)) (zs.map f))) :: s.tm,(q,none) :: s.tab⟩:=fun a w r=>by
 obtain ⟨d,r⟩:=r
 obtain ⟨v,O,l,C,R⟩:=r.tm i _ hi
 simp only[aH,and_true] at C
 subst C
 have V:v=d.h q:=R ⟨_,x⟩
 have S:Own (.sl E .vl) w (d.f q) [d.h q] zs:=r.cx.en q _ x
 obtain ⟨_,_,X⟩:=r.cx.en p _ T
 refine ⟨_,(r.freeze x).know O (pv:=lf (.dat (.sl E (.sl E' e)) (zs.map f))) ⟨_,rfl, ?_⟩⟩
 rw[V]
 show Rd (fun g=>d.N g∨g∈d.f q) (.sl E (.sl E' e)) w [d.h q] (zs.map f)
 obtain ⟨wM,Y,F⟩:=UF (fun g=>d.N g∨g∈d.f q) w
 refine ⟨wM,Y, ?_⟩
 rcases S with ⟨_,o,t⟩ | ⟨g,n,G,fps,J,o,t,K,L,g6,M⟩
 ·subst t
  exact ⟨none,0,o,aK _,aP _,fun h=>absurd h (by simp)⟩
 ·refine ⟨_,n,by rw[aJ]; exact o,by rw[aJ]; exact K,L,fun _=>⟨g,0,rfl,fun j y D=> ?_⟩⟩
  rw[bg] at D
  obtain ⟨z,k,rfl⟩:=cj.1 D
  obtain ⟨wN,w1,w2⟩:=X z (W z (ae k))
  refine ⟨[hdV z],w2.kp (w1.kp fun I B=>F I (.inl B)),fun b u U=> ?_⟩
  obtain ⟨fv,H,Z,o2,o3⟩:=M.get j z k
  have o4:H=[hdV z]:=Z.2
  subst o4
  have m:=o3 b u U
  rw[bm] at m
  split at m
  ·rw[du (F g (.inr (by rw[J]; simp)))]
   simp only[World.cell?,t]
   simpa using m
  ·cases m
end
end Go.Proofs.YtndabgcpnmeeoaaGreat
namespace Go.Proofs.YtndabgcpnmeeoaaGreat
open Go.RowKit
section
variable {α:Type}[DecidableEq α][Inhabited α]
omit [Inhabited α] in
theorem QfS (y:α):∀l:List α,YQ (l++[y])=YQ l++(if l.getLast? =some y then [] else [y])
 | []=>by simp[YQ]
 | [x]=>by
  by_cases h:x=y
  ·simp[YQ,h]
  ·simp[YQ,h]
 | x :: z :: l=>by
  have b:=QfS y (z :: l)
  have a:(x :: z :: l).getLast? =(z :: l).getLast? :=by simp
  rw[a]
  show (if x=z then YQ ((z :: l)++[y]) else x :: YQ ((z :: l)++[y]))=(if x=z then YQ (z :: l) else x :: YQ (z :: l))++_
  rw[b]
  split <;> simp
theorem QaA (zs:List α):∀m,m≤zs.length→Lib.compactUpTo zs.toArray m=YQ (zs.take m)
 | 0,_=>by simp[Lib.compactUpTo,YQ]
 | m+1,hm=>by
  have d:zs[m]? =some zs[m]:=aj (by omega)
  have c:(zs.toArray)[m]! =zs[m]:=by rw[getElem!_pos _ m (by simp; omega)]; simp
  rw[Lib.compactUpTo_succ,QaA zs m (by omega),Qw d,QfS,c]
  refine congrArg _ ?_
  cases m with
  | zero=>simp[Lib.keeps]
  | succ k=>
   have a:(zs.toArray)[k]! =zs[k]:=by rw[getElem!_pos _ k (by simp; omega)]; simp
   have f:(zs.take (k+1)).getLast? =some zs[k]:=by
    rw[List.getLast?_eq_getElem?,ap,show min (k+1) zs.length - 1=k by omega,List.getElem?_take_of_lt (by omega)]
    exact aj (by omega)
   rw[f]
   have b:Lib.keeps zs.toArray (k+1)= !decide (zs[k]=zs[k+1]):=by
    unfold Lib.keeps
    rw[c,show k+1 - 1=k from rfl,a]
    by_cases e:zs[k]=zs[k+1]
    ·simp[e]
    ·simp[e,Ne.symm e]
   rw[b]
   by_cases e:zs[k]=zs[k+1]
   ·simp[e]
   ·simp[e]
theorem Qkn (zs:List α):Lib.compact zs=YQ zs:=by
 have:=QaA zs zs.length (aK _)
 rw[dU] at this
 exact this
omit [Inhabited α] in
theorem Qhu:∀l:List α,(YQ l).length≤l.length
 | []=>aK _
 | [_]=>aK _
 | x :: y :: l=>by
  have:=Qhu (y :: l)
  unfold YQ
  split
  ·simp only[au] at*; omega
  ·simp only[au] at*; omega
end
def Qp4 (P:Program)(f:FuncId):Prop:=∀(blk cap:Nat) (zs:List Int) (w:World),Sort.Holds (Value.int .i64) w blk 0 zs.toArray→zs.length≤9223372036854775807→zs.length≤cap→
 Calls P f #[.slice (some ⟨blk,0,none⟩) zs.length cap] w fun e w'=>e= .returned (.slice (some ⟨blk,0,none⟩) (YQ zs).length cap)∧∃q,w'=Sort.putRow (Value.int .i64) (Sort.ahead w q) blk 0 (YQ zs++List.replicate (zs.length - (YQ zs).length) 0).toArray
def Qh6 (P:Program)(f:FuncId):Prop:=∀w:World,Calls P f #[.slice none 0 0] w fun e w'=>e= .returned (.slice none 0 0)∧w'=w
theorem Qp2 {P:Program}{f:FuncId}{E:TypeId}(U:Qp4 P f)(R:Qh6 P f)(xs:List Int)(hl:xs.length≤1000000000):FC P f [(false,[.ref 0])] [(0,some (.arr E .int xs))] 0 (YV E .int (YQ xs)):=fun u w vs A V=>by
 obtain ⟨v,a0,rfl,⟨l,D,C⟩,rfl⟩:=V
 simp only[aH,and_true] at D
 subst D
 have hv:v=u.h 0:=C ⟨_,rfl⟩
 subst hv
 have S:Own (.sl E .int) w (u.f 0) [u.h 0] xs:=A.en 0 _ rfl
 have a:∀(y:List Int) q,Tab.al [(0,some (Ent.arr E .int y))] q→q=0:=fun y q ⟨e,b⟩=>by
  rw[Qf] at b
  split at b
  ·assumption
  ·cases b
 rcases S with ⟨p,o,G⟩ | ⟨g,j,z,fps,p,o,H,Y,k,F,K⟩
 ·simp only[aH,and_true] at o
  subst G
  rw[o]
  refine Calls.mono (R w) fun e w' b=> ?_
  obtain ⟨rfl,rfl⟩:=b
  refine ⟨_,_,_,u,rfl,⟨rfl,rfl⟩,⟨fun q e b=> ?_,fun q J d t s=>absurd ((a _ q d).trans (a _ J t).symm) s,fun q d=> ?_,fun q d g i=> ?_,fun g i=>A.nl g i⟩,⟨_,rfl,fun _=>o.symm⟩,
   ⟨ZA _,fun _ _ _=>rfl,fun g i=> .inl i,fun q d g i=> ?_⟩,fun q h _=>absurd h (aW _)⟩
  ·rw[Qf] at b
   split at b
   ·rename_i B; subst B; cases b
    exact .inl ⟨p,by rw[o],rfl⟩
   ·cases b
  ·rw[a _ q d,p]; exact bJ
  ·rw[a _ q d,p] at i; cases i
  ·rw[a _ q d,p] at i; cases i
 ·simp only[aH,and_true] at o
  rw[da] at K
  obtain ⟨rfl,ht,Z⟩:=Qa2 K
  have i:g < w.heap.size:=(bV.1 H).1
  rw[o]
  have X:xs.length≤9223372036854775807:=by unfold maxLen at k; omega
  refine Calls.mono (U g j xs w (holds_of_blockI H ht) X Y) fun e w' b=> ?_
  obtain ⟨rfl,n,rfl⟩:=b
  have W:=Qhu xs
  have L:(YQ xs++List.replicate (xs.length - (YQ xs).length) (0:Int)).length=xs.length:=by simp; omega
  generalize T:YQ xs++List.replicate (xs.length - (YQ xs).length) (0:Int)=row at*
  have r:Sort.putRow (Value.int .i64) (Sort.ahead w n) g 0 row.toArray=Sort.grow (Sort.putRow (Value.int .i64) (Sort.ahead w n) g 0 row.toArray) #[]:=(Sort.grow_empty _).symm
  rw[r]
  obtain ⟨k1,k2,k3,M,k5⟩:=grownBy_sortedI (w:=w) (g:=g) (n:=n) (os:= #[]) row.toArray
  have O:∀x:Int,x∈YQ xs→x∈xs:=fun x G=>KO.1 G
  refine ⟨_,_,_,⟨fun _=> .slice (some ⟨g,0,none⟩) (YQ xs).length j,u.f,u.N⟩,rfl,⟨rfl,rfl⟩,⟨fun q e b=> ?_,fun q J d t s=>absurd ((a _ q d).trans (a _ J t).symm) s,fun q d=> ?_,fun q d m c=> ?_,fun m c=>aX (A.nl m c) M⟩,⟨_,rfl,fun _=>rfl⟩,
   ⟨⟨k1,k2,k3,M⟩,fun m C Q=> ?_,fun m C=> .inl C,fun q d m c=> ?_⟩,fun q h _=>absurd h (aW _)⟩
  ·rw[Qf] at b
   split at b
   ·rename_i B; subst B; cases b
    refine .inr ⟨g,j,_,[],p,rfl,heap_sortedI _ H,by omega,k,by simpa [Sort.putCells] using F, ?_⟩
    show OwnL (Own .int _) [] (List.take ((YQ xs).length*1) _) (YQ xs)
    have I:=take_putCellsI z row (by have:z.size=j*1:=F; omega)
    rw[da,show (YQ xs).length=min (YQ xs).length row.length by omega,← List.take_take,I,← List.map_take,← T,List.take_left' rfl]
    exact Qgw fun x G=>Z x (O x G)
   ·cases b
  ·rw[a _ q d]; exact A.nd 0 ⟨_,rfl⟩
  ·rw[a _ q d] at c; exact A.no 0 ⟨_,rfl⟩ m c
  ·exact k5 m C fun B=>Q 0 ⟨_,rfl⟩ (by rw[p]; cases B; exact ax ..)
  ·rw[a _ q d] at c; exact .inr ⟨0,⟨_,rfl⟩,c⟩
def QnN:Go.Shelf.Ren:=⟨fun | 189=>386 | 125=>249 | 257=>479 | 128=>372 | 129=>373 | 294=>533 | 295=>534 | 296=>535 | 297=>536 | 298=>537 | 299=>538 | 216=>539 | 300=>540 | 301=>541 | 328=>569 | 329=>468 | 330=>469 | 331=>570 | 332=>571 | 215=>374 | 343=>582 | n=>n,fun | 28=>123 | 3=>3 | 46=>279 | 0=>0 | 51=>406 | 53=>132 | 4=>4 | 183=>400 | 182=>399 | 131=>40 | 5=>5 | 9=>9 | 218=>465 | 222=>469 | 228=>513 | 229=>514 | n=>n,fun | n=>n⟩
theorem QtC:Go.Proofs.Lays.n189 Tryz.prog QnN:={
 mixed:=by kernel_rfl,
 f125:=Tryz.func249.trans (congrArg some (by kernel_rfl)),
 f128:=Tryz.func372.trans (congrArg some (by kernel_rfl)),
 f129:=Tryz.func373.trans (congrArg some (by kernel_rfl)),
 f189:=Tryz.func386.trans (congrArg some (by kernel_rfl)),
 f215:=Tryz.func374.trans (congrArg some (by kernel_rfl)),
 f216:=Tryz.func539.trans (congrArg some (by kernel_rfl)),
 f257:=Tryz.func479.trans (congrArg some (by kernel_rfl)),
 f294:=Tryz.func533.trans (congrArg some (by kernel_rfl)),
 f295:=Tryz.func534.trans (congrArg some (by kernel_rfl)),
 f296:=Tryz.func535.trans (congrArg some (by kernel_rfl)),
 f297:=Tryz.func536.trans (congrArg some (by kernel_rfl)),
 f298:=Tryz.func537.trans (congrArg some (by kernel_rfl)),
 f299:=Tryz.func538.trans (congrArg some (by kernel_rfl)),
 f300:=Tryz.func540.trans (congrArg some (by kernel_rfl)),
 f301:=Tryz.func541.trans (congrArg some (by kernel_rfl)),
 f328:=Tryz.func569.trans (congrArg some (by kernel_rfl)),
 f329:=Tryz.func468.trans (congrArg some (by kernel_rfl)),
 f330:=Tryz.func469.trans (congrArg some (by kernel_rfl)),
 f331:=Tryz.func570.trans (congrArg some (by kernel_rfl)),
 f332:=Tryz.func571.trans (congrArg some (by kernel_rfl)),
 f343:=Tryz.func582.trans (congrArg some (by kernel_rfl)),
 t0:=Tryz.underlying0,
 a0:=Tryz.isAgg0,
 z0:=Tryz.sizeOf0,
 v0:=Tryz.zeroValue0,
 t3:=Tryz.underlying3,
 a3:=Tryz.isAgg3,
 z3:=Tryz.sizeOf3,
 v3:=Tryz.zeroValue3,
 t4:=Tryz.underlying4,
 a4:=Tryz.isAgg4,
 z4:=Tryz.sizeOf4,
 v4:=Tryz.zeroValue4,
 t5:=Tryz.underlying5,
 a5:=Tryz.isAgg5,
 z5:=Tryz.sizeOf5,
 v5:=Tryz.zeroValue5,
 t9:=Tryz.underlying9,
 a9:=Tryz.isAgg9,
 z9:=Tryz.sizeOf9,
 v9:=Tryz.zeroValue9,
 t28:=Tryz.underlying123,
 a28:=Tryz.isAgg123,
 z28:=Tryz.sizeOf123,
 v28:=Tryz.zeroValue123,
 t46:=Tryz.underlying279,
 a46:=Tryz.isAgg279,
 z46:=Tryz.sizeOf279,
 v46:=Tryz.zeroValue279,
 t51:=Tryz.underlying406,
 a51:=Tryz.isAgg406,
 z51:=Tryz.sizeOf406,
 v51:=Tryz.zeroValue406,
 t53:=Tryz.underlying132,
 a53:=Tryz.isAgg132,
 z53:=Tryz.sizeOf132,
 v53:=Tryz.zeroValue132,
 t131:=Tryz.underlying40,
 a131:=Tryz.isAgg40,
 z131:=Tryz.sizeOf40,
 v131:=Tryz.zeroValue40,
 t182:=Tryz.underlying399,
 a182:=Tryz.isAgg399,
 z182:=Tryz.sizeOf399,
 v182:=Tryz.zeroValue399,
 t183:=Tryz.underlying400,
 a183:=Tryz.isAgg400,
 z183:=Tryz.sizeOf400,
 v183:=Tryz.zeroValue400,
 t218:=Tryz.underlying465,
 a218:=Tryz.isAgg465,
 z218:=Tryz.sizeOf465,
 v218:=Tryz.zeroValue465,
 t222:=Tryz.underlying469,
 a222:=Tryz.isAgg469,
 z222:=Tryz.sizeOf469,
 v222:=Tryz.zeroValue469,
 t228:=Tryz.underlying513,
 a228:=Tryz.isAgg513,
 z228:=Tryz.sizeOf513,
 v228:=Tryz.zeroValue513,
 t229:=Tryz.underlying514,
 a229:=Tryz.isAgg514,
 z229:=Tryz.sizeOf514,
 v229:=Tryz.zeroValue514}
theorem QuB:QqU Tryz.prog 386:=fun a b f w c d e=>calls_of_every_depth fun D=>AnyS.slices_Sort_int_in QtC D a 0 b f w c d e
theorem Qrf:QiC Tryz.prog 386:=fun w=>Calls.mono (Any.slices_Sort_int_none QtC none 0 w) fun _ _ ⟨a,b⟩=>⟨a,b▸Q6 _⟩
theorem QlI (l:List Int)(a:l.length≤1000000000):FC Tryz.prog 386 [(false,[.ref 0])] [(0,some (.arr 3 .int l))] 1 (Is (.tup []) [(0,some (.arr 3 .int (XW l)))]):=Qpp QuB Qrf l a
def QgH:Go.Shelf.Ren:=⟨fun | 20=>387 | n=>n,fun | 22=>123 | 3=>3 | 4=>4 | 0=>0 | n=>n,fun | n=>n⟩
theorem QiB:Go.Proofs.Lays2.n20 Tryz.prog QgH:={
 mixed:=by kernel_rfl,
 f20:=Tryz.func387.trans (congrArg some (by kernel_rfl)),
 t0:=Tryz.underlying0,
 a0:=Tryz.isAgg0,
 z0:=Tryz.sizeOf0,
 v0:=Tryz.zeroValue0,
 t3:=Tryz.underlying3,
 a3:=Tryz.isAgg3,
 z3:=Tryz.sizeOf3,
 v3:=Tryz.zeroValue3,
 t4:=Tryz.underlying4,
 a4:=Tryz.isAgg4,
 z4:=Tryz.sizeOf4,
 v4:=Tryz.zeroValue4,
 t22:=Tryz.underlying123,
 a22:=Tryz.isAgg123,
 z22:=Tryz.sizeOf123,
 v22:=Tryz.zeroValue123,
 i3:=by kernel_rfl}
theorem Qui:Qp4 Tryz.prog 387:=fun a b f w e c d=>by
 have h:=calls_of_every_depth fun D=>AnyS.slices_Compact_int_in QiB D a 0 b f w e c d
 rw[Qkn] at h
 exact h
theorem Qoh:Qh6 Tryz.prog 387:=fun w=>calls_of_every_depth fun D=>AnyS.slices_Compact_int_empty_in QiB D none 0 w
theorem QkO (l:List Int)(a:l.length≤1000000000):FC Tryz.prog 387 [(false,[.ref 0])] [(0,some (.arr 3 .int l))] 0 (YV 3 .int (YQ l)):=Qp2 Qui Qoh l a
end Go.Proofs.YtndabgcpnmeeoaaGreat
namespace Go.Proofs.YtndabgcpnmeeoaaGreat
open Go.RowKit
section
variable {E:TypeId}{e:Ty}{w:World}{f:Hdr→List e.Den}
end
section
variable {A:Amb}{P:Program}{s:St}{Q:Exit→St→Prop}{c:Code}
theorem Qxq {x:Operand}{p:Nat}{E:TypeId}{e:Ty}{vs:List Hdr}{f:Hdr→List e.Den}{v:Hdr}(o:Evl A s x (.dat .vl v))(h:s.tab.ent p=some (.pl true (.sl E e) vs f))(hv:v∈vs):EvB A s x (false,[.dat (.sl E e) (f v)]):=fun b a w r=>by
 obtain ⟨_,l⟩:=r.cx.en p _ h
 have j:Rd b.N .vl w [a.eval x] v:=o b a w r
 have k:[a.eval x]=[hdV v]:=j.rep
 obtain ⟨i,q,t⟩:=Qch l v hv
 refine ⟨_,rfl, ?_⟩
 have m:Own (.sl E e) w i [a.eval x] (f v):=by rw[k]; exact q
 exact m.rd fun g n=>r.cx.lt ⟨_,h⟩ g (t g n)
end
section
variable {A:Amb}{P:Program}{s:St}{f:FuncId}{xs:List Operand}{tys:Array TypeId}{args:List (Bool×List LV)}{d:Nat}{ty:TypeId}{pos:String}{af:Array Edge}{g:Option (Nat×Bool)}{pv:PV}
end
end Go.Proofs.YtndabgcpnmeeoaaGreat
namespace Go.Proofs.YtndabgcpnmeeoaaGreat
open Go.RowKit
def ltP:List Int→List Int→Bool
 | [],[]=>false
 | [],_ :: _=>true
 | _ :: _,[]=>false
 | x :: a,y :: b=>if x < y then true else if y < x then false else ltP a b
def Qxc (x y:Int):Int:=if x < y then -1 else if y < x then 1 else 0
def QxF:List Int→List Int→Int
 | [],[]=>0
 | [],_ :: _=> -1
 | _ :: _,[]=>1
 | x :: a,y :: b=>if Qxc x y=0 then QxF a b else Qxc x y
end Go.Proofs.YtndabgcpnmeeoaaGreat
