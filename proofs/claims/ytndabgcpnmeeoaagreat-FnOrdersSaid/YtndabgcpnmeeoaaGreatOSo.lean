/- Walks over abstract states: valid state graphs, the program. -/
import Derived.Test.YtndabgcpnmeeoaaGreatOVa
import Derived.Test.YtndabgcpnmeeoaaGreatOAu
import Derived.DeepKeys3
import Derived.Test.YtndabgcpnmeeoaaGreatOWj
import Derived.Test.YtndabgcpnmeeoaaGreatOAk
import Derived.Test.YtndabgcpnmeeoaaGreatOIdx
import Derived.Test.YtndabgcpnmeeoaaGreatProg
import Derived.KernelRfl
import Derived.Test.YtndabgcpnmeeoaaGreatOAv
import Derived.Test.YtndabgcpnmeeoaaGreatOWb
import Derived.Shelf.Lays
import Derived.Shelf.Lays2
import Derived.Shelf.Slices.In.SortNone
import Derived.Shelf.Slices.In.CompactI
set_option linter.unusedSimpArgs false
set_option linter.unusedVariables false
set_option linter.unusedSectionVars false
namespace Go.Proofs.YtndabgcpnmeeoaaGreat
open Go.RowKit
set_option maxRecDepth 100000
set_option maxHeartbeats 4000000
section
variable {c:DSg}{a:DAr}{x y:ByteArray}{k:Nat}
theorem Qnf (h:¬(0≤a.1∧a.1≤(c.2.1.length:Int) - 1)):¬XJ c a:=fun g=>h g.1
theorem Qng (h:¬(0≤a.2.2.2∧a.2.2.2≤(c.2.1.length:Int) - 1)):¬XJ c a:=fun g=>h g.2.1
theorem Qnh (h:¬H0 (c.1.length:Int) (a.2.1,a.2.2.1)):¬XJ c a:=fun g=>h g.2.2.1
theorem Qni (b:c.2.1[a.1.toNat]? =some x)(d:c.2.1[a.2.2.2.toNat]? =some y)(h:¬Fit a x y):¬XJ c a:=fun g=>h (by have:=g.2.2.2; rwa [Ka b,Ka d] at this)
theorem QvI (b:0≤a.1∧a.1≤(c.2.1.length:Int) - 1)(d:0≤a.2.2.2∧a.2.2.2≤(c.2.1.length:Int) - 1)(e:H0 (c.1.length:Int) (a.2.1,a.2.2.1))(f:c.2.1[a.1.toNat]? =some x)(g:c.2.1[a.2.2.2.toNat]? =some y)(h:Fit a x y):XJ c a:=
 ⟨b,d,e,by rw[Ka f,Ka g]; exact h⟩
end
theorem Uy (c:Qew)[∀c,Decidable (SgOk c)]:FC Tryz.prog 181 [(true,[.dat Qo c.1, .dat Qu c.2.1, .dat Yo c.2.2])] [] 0 (Za (lB (decide (SgOk c)))):=by
 classical
 refine Qn Tryz.func181 rfl rfl Tryz.ntmps181 fun Y p X U Z W V=> ?_
 refine w_ ?_
 refine xbx 0 ?_
 refine w6 ?_
 refine lc (dK (QaK c.1) Qlk) ?_
 refine w2 ?_
 cases E:(decide (XM c.1))
 have F:=aa E
 refine w16 ?_
 refine w_ ?_
 refine Qe<|fqB p ?_
 exact QsH ‹_›
 have F:=ab E
 refine w2 ?_
 refine alL 14 fun _=> ?_
 refine w_ ?_
 refine lgy rfl rfl (dK (QP (c.2.1.length:Int) 1 300) Zf) ?_
 refine w3 ?_
 cases G:(decide (1≤(c.2.1.length:Int)∧(c.2.1.length:Int)≤300))
 have H:=aa G
 refine w10 ?_
 refine Qe<|fqB p ?_
 exact QsI ‹_›
 have H:=ab G
 refine w2 ?_
 refine alL 21 fun _=> ?_
 refine w4 ?_
 refine cd_ (fun _ _=> ?_) fun _ _=> ?_
 refine w4 ?_
 refine alL 26 fun _=> ?_
 refine w8 ?_
 refine alL 30 fun _=> ?_
 refine w4 ?_
 refine lpK c.2.1.length (fun k=>∀j,j < k→∀x,c.2.1[j]? =some x→Y8 x (c.1.length:Int)) (fun k=>⟨[(1,lP 0 0),(3,lI ((c.2.1.length:Int) - 1)),(30,lf (.dat Qu c.2.1)),(31,lI (c.2.1.length:Int)),(32,lI (k:Int))],[bx 0 28 [.dat Qo c.1, .dat Qu c.2.1, .dat Yo c.2.2]]⟩) ((fun j S=>absurd S (bi j))) ?_ fun k _ D=> ?_
 exact wo []
 refine w4 ?_
 cases I:(decide ((k:Int) < (c.2.1.length:Int)))
 have J:=aa I
 refine w7 ?_
 refine alL 44 fun _=> ?_
 refine w4 ?_
 refine lpK c.2.2.length (fun i=>∀j,j < i→∀a,c.2.2[j]? =some a→XJ c a) (fun i=>⟨[(1,lP 0 0),(3,lI ((c.2.1.length:Int) - 1)),(44,lf (.dat Yo c.2.2)),(45,lI (c.2.2.length:Int)),(46,lI (i:Int))],[bx 0 28 [.dat Qo c.1, .dat Qu c.2.1, .dat Yo c.2.2]]⟩) ((fun j S=>absurd S (bi j))) ?_ fun i _ Q=> ?_
 exact wo []
 refine w4 ?_
 cases q:(decide ((i:Int) < (c.2.2.length:Int)))
 have t:=aa q
 refine w3 ?_
 apply dW (i5 92 _ _ _ _ _ [io 97 (lf (.dat (.sl 359 (.pr .int .int)) (Z1 c.2.2))),io 98 (lf (.dat Qm (Qab (c.2.1.length:Int).toNat (Z1 c.2.2)))),io 99 (lB ((Qab (c.2.1.length:Int).toNat (Z1 c.2.2)).any (fun y=>decide ((-1)=y)))),io 100 _,io 2 _]) [0,0,0,7,7,7,0,0,0,0]
 refine z5 ?_
 refine zz (fun _ b=>ac (dK (Qci c.2.2 (by omega)).frozen QlT) rfl) ?_
 refine zz (fun _ b=>ac (dK (Qbi (c.2.1.length:Int) (Z1 c.2.2) 0 (by omega) (QfW (fun a R=>Qa8 (YH Q (by omega) a R))) (by simp only[Z1,aB]; omega) rfl).frozen QlS) rfl) ?_
 refine zz (fun _ b=>ac (dK (Zj (Qab (c.2.1.length:Int).toNat (Z1 c.2.2)) (-1)) Ud) rfl) ?_
 exact y2
 refine Qe<|fqB p ?_
 exact (Qrn (by omega) (QfW (fun a R=>Qa8 (YH Q (by omega) a R)))).trans (QsG ‹_› ‹_› ‹_› (YH D (by omega)) (YH Q (by omega)))
 have t:=ab q
 refine w5 ?_
 obtain ⟨ar,f⟩:=gx c.2.2 i
 refine w2 ?_
 refine lc (xal 1 W8 XH) ?_
 refine w2 ?_
 cases d:(decide (0≤ar.1∧ar.1≤((c.2.1.length:Int) - 1)))
 have u:=aa d
 apply dW (i3 50 _ _ _ (io 53 (lB false) :: i9 54 _ _ _ _ _ _ _ _ _ (i9 63 _ _ _ _ _ _ _ _ _ (i9 72 _ _ _ _ _ _ _ _ _ (i9 81 _ _ _ _ _ _ _ _ _ [io 90 _]))))) [0,0,3,0,0,0,0,0,192,0,0,0,0,0,0,24576,24576,0,253952,253952,253952,0,0,0,0,0,33554432,33554432,234881024,234881024,33554432,33554432,4261412864,4261412864,17146314752,17146314752,4261412864,4261412864,0,0,0]
 refine z3 ?_
 refine zz (fun _ b=>ac (Q4 (d) (dK (QP ar.1 0 ((c.2.1.length:Int) - 1)) Zf)) rfl) ?_
 refine z16 ?_
 refine z16 ?_
 exact y5
 refine w4 ?_
 refine Qe<|fqB p ?_
 exact QfP f (by first | exact Qnf ‹_› | exact Qng ‹_› | exact Qnh ‹_› | exact Qni (x:=l) (y:=m) ‹_› ‹_› ‹_›)
 have u:=ab d
 cases e:(decide (0≤ar.2.2.2∧ar.2.2.2≤((c.2.1.length:Int) - 1)))
 have v:=aa e
 apply dW (i3 50 _ _ _ (io 53 (lB true) :: i5 54 _ _ _ _ _ (io 59 (lB false) :: i9 60 _ _ _ _ _ _ _ _ _ (i9 69 _ _ _ _ _ _ _ _ _ (i9 78 _ _ _ _ _ _ _ _ _ (i4 87 _ _ _ _ [])))))) [0,0,3,0,0,0,0,0,192,0,0,0,0,0,0,24576,24576,0,253952,253952,253952,0,0,0,0,0,33554432,33554432,234881024,234881024,33554432,33554432,4261412864,4261412864,17146314752,17146314752,4261412864,4261412864,0,0,0]
 refine z3 ?_
 refine zz (fun _ b=>ac (Q4 (d) (dK (QP ar.1 0 ((c.2.1.length:Int) - 1)) Zf)) rfl) ?_
 refine z5 ?_
 refine zz (fun _ b=>day rfl (b.k rfl) (Q4 (e) (dK (QP ar.2.2.2 0 ((c.2.1.length:Int) - 1)) Zf)) rfl) ?_
 refine z16 ?_
 exact y15
 refine w4 ?_
 refine Qe<|fqB p ?_
 exact QfP f (by first | exact Qnf ‹_› | exact Qng ‹_› | exact Qnh ‹_› | exact Qni (x:=l) (y:=m) ‹_› ‹_› ‹_›)
 have v:=ab e
 cases g:(decide (H0 (c.1.length:Int) (ar.2.1,ar.2.2.1)))
 have z:=aa g
 apply dW (i3 50 _ _ _ (io 53 (lB true) :: i5 54 _ _ _ _ _ (io 59 (lB true) :: i7 60 _ _ _ _ _ _ _ (io 67 (ag [dI ar.2.1,dB ar.2.2.1]) :: i3 68 _ _ _ (io 71 (lB false) :: i9 72 _ _ _ _ _ _ _ _ _ (i9 81 _ _ _ _ _ _ _ _ _ [io 90 _])))))) [0,0,3,0,0,0,0,0,192,0,0,0,0,0,0,24576,24576,0,253952,253952,253952,0,0,0,0,0,33554432,33554432,234881024,234881024,33554432,33554432,4261412864,4261412864,17146314752,17146314752,4261412864,4261412864,0,0,0]
 refine z3 ?_
 refine zz (fun _ b=>ac (Q4 (d) (dK (QP ar.1 0 ((c.2.1.length:Int) - 1)) Zf)) rfl) ?_
 refine z5 ?_
 refine zz (fun _ b=>day rfl (b.k rfl) (Q4 (e) (dK (QP ar.2.2.2 0 ((c.2.1.length:Int) - 1)) Zf)) rfl) ?_
 refine z7 ?_
 refine zz (fun _ b=>day rfl (b.k rfl) (Qj Qaq ⟨_,_,rfl,(b.w rfl),⟨_,_,rfl,(b.w rfl),rfl⟩⟩ (av.1 rfl) rfl rfl) rfl) ?_
 refine z3 ?_
 refine zz (fun _ b=>day rfl (b.k rfl) (Q4 (g) (dK (JW (ar.2.1,ar.2.2.1) (c.1.length:Int) (by have:=(‹XM c.1›).2.2; omega)) QeL)) rfl) ?_
 refine z16 ?_
 exact y3
 refine w4 ?_
 refine Qe<|fqB p ?_
 exact QfP f (by first | exact Qnf ‹_› | exact Qng ‹_› | exact Qnh ‹_› | exact Qni (x:=l) (y:=m) ‹_› ‹_› ‹_›)
 have z:=ab g
 obtain ⟨l,M⟩:=gx c.2.1 ((ar.1).toNat)
 have O:Y8 l (c.1.length:Int)→l.size=c.1.length:=fun h=>by have:=h.2; omega
 have K:c.2.1.length≤k→l.size=c.1.length:=fun h=>O (YH D h _ (ai M))
 obtain ⟨m,N⟩:=gx c.2.1 ((ar.2.2.2).toNat)
 have P:Y8 m (c.1.length:Int)→m.size=c.1.length:=fun h=>by have:=h.2; omega
 have L:c.2.1.length≤k→m.size=c.1.length:=fun h=>P (YH D h _ (ai N))
 apply dW (i3 50 _ _ _ (io 53 (lB true) :: i5 54 _ _ _ _ _ (io 59 (lB true) :: i7 60 _ _ _ _ _ _ _ (io 67 (ag [dI ar.2.1,dB ar.2.2.1]) :: i3 68 _ _ _ (io 71 (lB true) :: i9 72 _ _ _ _ _ _ _ _ _ (i7 81 _ _ _ _ _ _ _ (io 88 (lB (decide (Fit ar l m))) :: i2 89 _ _ []))))))) [0,0,3,0,0,0,0,0,192,0,0,0,0,0,0,24576,24576,0,253952,253952,253952,0,0,0,0,0,33554432,33554432,234881024,234881024,33554432,33554432,4261412864,4261412864,17146314752,17146314752,4261412864,4261412864,0,0,0]
 refine z3 ?_
 refine zz (fun _ b=>ac (Q4 (d) (dK (QP ar.1 0 ((c.2.1.length:Int) - 1)) Zf)) rfl) ?_
 refine z5 ?_
 refine zz (fun _ b=>day rfl (b.k rfl) (Q4 (e) (dK (QP ar.2.2.2 0 ((c.2.1.length:Int) - 1)) Zf)) rfl) ?_
 refine z7 ?_
 refine zz (fun _ b=>day rfl (b.k rfl) (Qj Qaq ⟨_,_,rfl,(b.w rfl),⟨_,_,rfl,(b.w rfl),rfl⟩⟩ (av.1 rfl) rfl rfl) rfl) ?_
 refine z3 ?_
 refine zz (fun _ b=>day rfl (b.k rfl) (Q4 (g) (dK (JW (ar.2.1,ar.2.2.1) (c.1.length:Int) (by have:=(‹XM c.1›).2.2; omega)) QeL)) rfl) ?_
 refine z16 ?_
 refine zz (fun _ b=>day rfl (b.k rfl) (dK (Qbj ar l m (by have:=K (by omega); have:=L (by omega); omega)) QlR) rfl) ?_
 exact y2
 cases r:(decide (Fit ar l m))
 have A:=aa r
 refine w4 ?_
 refine Qe<|fqB p ?_
 exact QfP f (by first | exact Qnf ‹_› | exact Qng ‹_› | exact Qnh ‹_› | exact Qni (x:=l) (y:=m) ‹_› ‹_› ‹_›)
 have A:=ab r
 refine w6 ?_
 refine Qf ?_
 refine lK_ ((Y6 Q f (QvI ‹_› ‹_› ‹_› (x:=l) (y:=m) ‹_› ‹_› ‹_›))) ?_
 exact wo []
 have J:=ab I
 refine w5 ?_
 obtain ⟨o,n⟩:=gx c.2.1 k
 have C:Y8 o (c.1.length:Int)→o.size=c.1.length:=fun h=>by have:=h.2; omega
 have T:c.2.1.length≤k→o.size=c.1.length:=fun h=>C (YH D h _ (ai n))
 refine w8 ?_
 refine alL 38 fun _=> ?_
 refine w_ ?_
 refine lc (dK (Qe2 o (c.1.length:Int)) QlQ) ?_
 refine w2 ?_
 cases s:(decide (Y8 o (c.1.length:Int)))
 have B:=aa s
 refine w4 ?_
 refine Qe<|fqB p ?_
 exact QsK n ‹_›
 have B:=ab s
 refine w6 ?_
 refine Qf ?_
 refine lK_ ((Y6 D n ‹_›)) ?_
 exact wo []
 refine w3 ?_
 refine Qe<|fqB p ?_
 exact QsJ ‹_›
end Go.Proofs.YtndabgcpnmeeoaaGreat
namespace Go.Proofs.YtndabgcpnmeeoaaGreat
open Go.RowKit
set_option maxRecDepth 100000
set_option maxHeartbeats 4000000
def Qze (a b:UInt8):Bool:=decide (a=b)||(decide (a=48)&&decide (b=43))||(decide (a=43)&&decide (b=49))||(decide (a=49)&&decide (b=45))||(decide (a=45)&&decide (b=48))||(decide (a=43)&&decide (b=45))||(decide (a=45)&&decide (b=43))
def Qve (s:ByteArray):Prop:=∀x∈s.toList,x=48∨x=43∨x=49∨x=45
instance (s:ByteArray):Decidable (Qve s):=inferInstanceAs (Decidable (∀x∈s.toList,x=48∨x=43∨x=49∨x=45))
def SignsOk (c:DSg)(s:ByteArray):Prop:=Qve s∧s.size=c.2.1.length∧SgOk c
instance (c:DSg) (s:ByteArray) [Decidable (SgOk c)]:Decidable (SignsOk c s):=inferInstanceAs (Decidable (_∧_))
def Qvq (c:DSg)(s:ByteArray):Bool:=c.2.2.all fun a=>Qze (bAt s a.1) (bAt s a.2.2.2)
def QxH (s:ByteArray)(a:DAr):Bool:=(decide (bAt s a.1=43)&&(decide (bAt s a.2.2.2=49)||decide (bAt s a.2.2.2=45)))||(decide (bAt s a.1=45)&&(decide (bAt s a.2.2.2=48)||decide (bAt s a.2.2.2=43)))
def okP (c:DSg)(s:ByteArray)[Decidable (SgOk c)]:Bool:=decide (SignsOk c s)&&Qvq c s
def QxR (as_:List DAr)(q:Int):List DAr:=as_.filter fun a=>decide (a.1=q)
def Qzk:ByteArray:=⟨#[48,43,49,45,48]⟩
section
variable {a b x:UInt8}{k i:Nat}{s:ByteArray}{c:DSg}{l:List DAr}{e:DAr}{q:Int}
section
variable [Decidable (SignsOk c s)]
end
theorem SignsOk.at_ (h:SignsOk c s)(f:e∈c.2.2):(0≤e.1∧e.1 < (s.size:Int))∧0≤e.2.2.2∧e.2.2.2 < (s.size:Int):=by
 have d:=Qa8 (h.2.2.arcs e f)
 rw[h.2.1]
 exact d
end
theorem QaL (a:Qt3):FC Tryz.prog 347 [(true,[dI a.1,dI a.2.1,dB a.2.2.1,dI a.2.2.2])] [] 0 (Za (ag [dI a.2.1,dB a.2.2.1])):=by
 refine Qn Tryz.func347 rfl rfl Tryz.ntmps347 fun m h j d n g f=> ?_
 refine acG 0 0 fun _=> ?_
 refine acG 0 1 fun _=> ?_
 refine acG 0 3 fun _=> ?_
 refine w_ ?_
 refine xbx 0 ?_
 refine lc (xal 1 QL Xy) ?_
 refine w6 ?_
 refine lc (Qj Qaq ⟨_,_,rfl,(Ql rfl),⟨_,_,rfl,(Ql rfl),rfl⟩⟩ (av.1 rfl) rfl rfl) ?_
 refine w3 ?_
 exact fe_ h
end Go.Proofs.YtndabgcpnmeeoaaGreat
namespace Go.Proofs.YtndabgcpnmeeoaaGreat
open Go.RowKit
set_option maxRecDepth 100000
set_option maxHeartbeats 4000000
def DelI {α:Type _}(p:α→Bool)(l0 l:List α)(i j:Int):Prop:=(0≤i∧i < j∧j≤(l.length:Int))∧l.length=l0.length∧l.take i.toNat=(l0.take j.toNat).filter p∧l.drop j.toNat=l0.drop j.toNat
section
variable {α:Type _}{p f:α→Bool}{l0 l:List α}{i j:Int}{x:α}
theorem Qmr (f:α→Bool)(l:List α):(ZO f l= -1∧∀x∈l,f x=false)∨∃(k:Nat) (x:α),ZO f l=(k:Int)∧l[k]? =some x∧f x=true∧NoneTo f l k:=by
 unfold ZO
 cases h:l.findIdx? f with
 | none=>exact .inl ⟨rfl,fun x g=>by simpa using List.findIdx?_eq_none_iff.1 h x g⟩
 | some k=>
  obtain ⟨a,b,c⟩:=bS.1 h
  exact .inr ⟨k,l[k],rfl,ap a,b,fun j e y m=>by
   obtain ⟨n,d⟩:=ah.1 m
   have:=c j e
   rw[d] at this
   simpa using this⟩
theorem DelI.start (h:¬ZO f l= -1):DelI (fun x=> !f x) l l (ZO f l) (ZO f l+1):=by
 rcases Qmr f l with ⟨a,_⟩ | ⟨k,x,a,d,e,g⟩
 ·exact absurd a h
 ·have o:=(ah.1 d).1
  rw[a]
  refine ⟨by omega,rfl, ?_,rfl⟩
  rw[show ((k:Int)+1).toNat=k+1 by omega,show ((k:Int)).toNat=k by omega,Qs d,bO]
  have:([x].filter fun x=> !f x)=[]:=by simp[e]
  rw[this,bG]
  refine (List.filter_eq_self.2 fun y m=> ?_).symm
  obtain ⟨n,b⟩:=aO.1 m
  have c:=(ah.1 b).1
  rw[ao] at c
  rw[List.getElem?_take_of_lt (by omega)] at b
  rw[g n (by omega) y b]; rfl
theorem DelI.at_ (h:DelI p l0 l i j)(b:l[j.toNat]? =some x):l0[j.toNat]? =some x:=by
 obtain ⟨c,d,e,a⟩:=h
 have:=congrArg (fun l:List α=>l[0]?) a
 simpa [b] using this.symm
theorem DelI.lt (h:DelI p l0 l i j)(a:l[j.toNat]? =some x):j < (l.length:Int):=by
 have:=(ah.1 a).1
 obtain ⟨b,_⟩:=h
 omega
theorem DelI.keep (h:DelI p l0 l i j)(a:l[j.toNat]? =some x)(k:p x=true):DelI p l0 (l.set i.toNat x) (i+1) (j+1):=by
 have b:=h.at_ a
 have n:=h.lt a
 obtain ⟨m,c,d,e⟩:=h
 refine ⟨by rw[au]; omega,by rw[au]; exact c, ?_, ?_⟩
 ·have g:(l.set i.toNat x)[i.toNat]? =some x:=aX (by omega)
  rw[show (j+1).toNat=j.toNat+1 by omega,show (i+1).toNat=i.toNat+1 by omega,Qs g,Qs b,bO,List.take_set_of_le (aL _),d]
  simp[k]
 ·have:=congrArg (List.drop 1) e
  rw[List.drop_drop,List.drop_drop] at this
  rw[show (j+1).toNat=j.toNat+1 by omega,List.drop_set_of_lt (by omega)]
  exact this
theorem DelI.end_ {z:List α}(h:DelI p l0 l i j)(g:¬j < (l.length:Int))(n:Nat)(b:n=i.toNat):(l.take i.toNat++z).take n=l0.filter p:=by
 obtain ⟨c,d,a,e⟩:=h
 subst b
 rw[List.take_left' (by rw[ao]; omega),a,aJ (by omega)]
end
theorem Qcp (l:Qk1)(name:ByteArray):FC Tryz.prog 499 [(false,[.dat Qo l]),(false,[dS name])] [] 0 (Za (lI (ZO (fun x:QB=>decide (x.1=name)) l))):=by
 refine Qn Tryz.func499 rfl rfl Tryz.ntmps499 fun s h q m t o n=> ?_
 refine w6 ?_
 refine alL 7 fun _=> ?_
 refine w4 ?_
 refine lpK l.length (fun k=>NoneTo (fun x:QB=>decide (x.1=name)) l k) (fun k=>⟨[(1,lf (dS name)),(7,lf (.dat Qo l)),(8,lI (l.length:Int)),(9,lI (k:Int))],[]⟩) (NoneTo.zero) ?_ fun k _ a=> ?_
 exact wo []
 refine w4 ?_
 cases b:(decide ((k:Int) < (l.length:Int)))
 have c:=aa b
 refine w6 ?_
 refine Qe<|fqI h ?_
 first | exact (a.no (by omega)).symm
 have c:=ab b
 refine w6 ?_
 obtain ⟨r,g⟩:=gx l k
 refine w2 ?_
 refine lc (xal 0 QE Hg) ?_
 refine w9 ?_
 cases d:(decide (r.1=name))
 have e:=aa d
 refine w6 ?_
 refine Qf ?_
 refine lK_ (a.step g ‹_›) ?_
 exact wo []
 have e:=ab d
 refine w5 ?_
 refine Qe<|fqI h ?_
 exact (a.at g ‹_›).symm
end Go.Proofs.YtndabgcpnmeeoaaGreat
namespace Go.Proofs.YtndabgcpnmeeoaaGreat
open Go.RowKit
set_option maxRecDepth 100000
set_option maxHeartbeats 4000000
abbrev PSt:=Int×Bool
def ixP (ps:List PSt)(p:PSt):Int:=(ps.idxOf p:Nat)
def psP (ps:List PSt)(p:PSt):List PSt:=if p∈ps then ps else ps++[p]
def cdP (c:DSg)(ps:List PSt)(cs:List ByteArray)(p:PSt):List ByteArray:=if p∈ps then cs else cs++[Qes c p.1++⟨#[if p.2 then 49 else 48]⟩]
def QxT:Nat→List PSt→List (PSt×Int)
 | _,[]=>[]
 | n,p :: ps=>(p,(n:Int)) :: QxT (n+1) ps
def QzS (ps:List PSt):List (PSt×Int):=QxT 0 ps
section
variable {c:DSg}{ps:List PSt}{p:PSt}{cs:List ByteArray}{n:Nat}{code:ByteArray}
end
end Go.Proofs.YtndabgcpnmeeoaaGreat
namespace Go.Proofs.YtndabgcpnmeeoaaGreat
open Go.RowKit
set_option maxRecDepth 100000
set_option maxHeartbeats 4000000
abbrev Ins:=List PSt×List ByteArray×List DAr
def Qti (s:ByteArray)(p:PSt):Bool:=(decide (bAt s p.1=43)&& !p.2)||(decide (bAt s p.1=45)&&p.2)
def Qyf (s:ByteArray)(p:PSt)(a:DAr):Bool:=(decide (bAt s a.2.2.2=48)&&p.2)||(decide (bAt s a.2.2.2=49)&& !p.2)||(Qti s p&&QxH s a)
def Qxu (c:DSg)(st:Ins)(k:Int)(l:Q9)(p:PSt):Ins:=(psP st.1 p,cdP c st.1 st.2.1 p,st.2.2++[(k,l.1,l.2,ixP st.1 p)])
def Qyk (c:DSg)(s:ByteArray)(k:Int)(p:PSt)(st:Ins)(a:DAr):Ins:=if Qyf s p a=true then st else Qxu c st k (a.2.1,a.2.2.1) (a.2.2.2,p.2)
def Qzi (c:DSg)(s:ByteArray)(st:Ins)(k:Int)(p:PSt):Ins:=if Qti s p=true then Qxu c st k ((c.1.length:Int),decide (bAt s p.1=43)) (p.1, !p.2) else st
def Qy6 (c:DSg)(s:ByteArray)(st:Ins)(k:Int):Ins:=match st.1[k.toNat]? with
 | none=>st
 | some p=>(QxR c.2.2 p.1).foldl (Qyk c s k p) (Qzi c s st k p)
section
variable {c:DSg}{s:ByteArray}{st:Ins}{k:Int}{p:PSt}{a:DAr}{i:Nat}{x:UInt8}{l:List DAr}
end
end Go.Proofs.YtndabgcpnmeeoaaGreat
namespace Go.Proofs.YtndabgcpnmeeoaaGreat
open Go.RowKit
set_option maxRecDepth 100000
set_option maxHeartbeats 4000000
def vB (b:Bool):Int:=if b then 1 else 0
def Qwa (p:PSt):Int:=2*p.1+vB p.2
def QzW (x:UInt8)(v:Int):Bool:=if x=48 then decide (v=0) else if x=49 then decide (v=1) else true
section
variable {c:DSg}{s:ByteArray}{ps:List PSt}{p:PSt}{cs:List ByteArray}{i:Nat}{k v z q:Int}{code:ByteArray}{a:DAr}
theorem QmX (b:Bool):vB b=0∨vB b=1:=by cases b <;> simp[vB]
theorem Qth (b:Bool):decide (vB b=1)=b:=by cases b <;> rfl
abbrev QzT (k v:Int):Int→Bool:=fun z=>decide (z=2*k+v)
end
end Go.Proofs.YtndabgcpnmeeoaaGreat
namespace Go.Proofs.YtndabgcpnmeeoaaGreat
open Go.RowKit
set_option maxRecDepth 100000
set_option maxHeartbeats 4000000
def QsW (s:ByteArray):Bool:=decide (bAt s 0=49)||decide (bAt s 0=45)
def QwQ (c:DSg)(s:ByteArray):Ins:=(psP [] (0,QsW s),cdP c [] [] (0,QsW s),[])
def Qyc (c:DSg)(s:ByteArray):Nat→Nat→Ins→Ins
 | 0,_,st=>st
 | f+1,k,st=>if k < st.1.length then Qyc c s f (k+1) (Qy6 c s st (k:Int)) else st
def Qb8 (c:DSg)(s:ByteArray):Ins:=Qyc c s 601 0 (QwQ c s)
def QuE (c:DSg)(name:ByteArray)(st:Ins):DSg:=(c.1++[(name,3)],st.2.1,st.2.2)
structure InsI (c:DSg) (st:Ins):Prop where
  rng:∀p∈st.1,0≤p.1∧p.1 < (c.2.1.length:Int)
  nd:st.1.Nodup
  len:st.2.1.length=st.1.length
section
variable {c:DSg}{s name:ByteArray}{st:Ins}{ps:List PSt}{cs:List ByteArray}{as_:List DAr}{p:PSt}{k:Int}{l:Q9}{i j n:Nat}{b:Bool}{z:Int}
theorem QjX:∀(n:Nat) (l:List Nat),l.Nodup→(∀x∈l,x < n)→l.length≤n
 | 0,[],_,_=>aL _
 | 0,x :: l,_,h=>absurd (h x (aw ..)) (bi x)
 | n+1,l,hd,h=>by
  have g:=QjX n (l.erase n) (hd.erase n) fun x f=>by
   have d:=h x (List.mem_of_mem_erase f)
   have m:x≠n:=fun e=>by subst e; exact (List.Nodup.not_mem_erase hd) f
   omega
  have d:=List.length_erase (a:=n) (l:=l)
  split at d <;> omega
theorem InsI.few (h:InsI c st)(y:c.2.1.length≤300):st.1.length≤600:=by
 have g:=QjX 600 (st.1.map fun p=>(Qwa p).toNat) ?_ ?_
 ·simpa using g
 ·rw[List.Nodup,bX]
  refine List.Pairwise.imp_of_mem ?_ h.nd
  intro a b q r d e
  apply d
  have m:=h.rng a q
  have v:=h.rng b r
  have o:=QmX a.2
  have w:=QmX b.2
  unfold Qwa at e
  have f:a.1=b.1∧vB a.2=vB b.2:=by omega
  refine Prod.ext f.1 ?_
  rw[← Qth a.2,f.2,Qth]
 ·intro x u
  obtain ⟨p,t,rfl⟩:=aR.1 u
  have m:=h.rng p t
  have o:=QmX p.2
  unfold Qwa
  omega
end
abbrev Qul (name:ByteArray):QB→Bool:=fun x=>decide (x.1=name)
section
variable [∀c,Decidable (SgOk c)][∀s,Decidable (KJ s)]{c:DSg}{s name:ByteArray}{st:Ins}
def QxU (c:DSg)(name s:ByteArray):Bool:=okP c s&&decide (KJ name)&& !(c.1.any (Qul name))&& !decide (c.1.length=8)
def QxV:DSg×List Int:=(QaW,[])
def Qy8 (c:DSg)(name s:ByteArray):(DSg×List Int)×Bool:=
 if QxU c name s=true∧SgOk (QuE c name (Qb8 c s)) then ((QuE c name (Qb8 c s),(Qb8 c s).1.map fun p=>p.1),true) else (QxV,false)
def QzC (c:DSg)(name s:ByteArray):(DSg×List Int)×Bool:=
 if QxU c name s=true then ((QuE c name (Qb8 c s),(Qb8 c s).1.map fun p=>p.1),decide (SgOk (QuE c name (Qb8 c s)))) else (QxV,false)
end
end Go.Proofs.YtndabgcpnmeeoaaGreat
namespace Go.Proofs.YtndabgcpnmeeoaaGreat
open Go.RowKit
set_option maxRecDepth 100000
set_option maxHeartbeats 4000000
@[reducible] def Qrx:(ByteArray)→Int→(ByteArray)×Int:=fun _ k=>(Qvk (k),k+1)
@[reducible] def Qvh:(QvB)→Int→(QvB)×Int:=fun _ k=>((k,k+1,decide ((k+1+1) % 3=0),k+1+1+1),k+1+1+1+1)
def mSG (c:DSg)(k:Int):DSg×Int:=(((Qv fS c.1 k).1,(Qv Qrx c.2.1 (Qv fS c.1 k).2).1,(Qv Qvh c.2.2 (Qv Qrx c.2.1 (Qv fS c.1 k).2).2).1),(Qv Qvh c.2.2 (Qv Qrx c.2.1 (Qv fS c.1 k).2).2).2)
section
variable [∀c,Decidable (SgOk c)][∀s,Decidable (KJ s)]
end
end Go.Proofs.YtndabgcpnmeeoaaGreat
namespace Go.Proofs.YtndabgcpnmeeoaaGreat
open Go.RowKit
theorem Qa2:∀{t:Ty} {w:World} {cs:List Value} {x y:t.Den},Rep t w cs x→Rep t w cs y→x=y
 | .int,_,_,x,y,h,k=>by have f:=h.1; have d:=k.1; rw[f] at d; simpa using d
 | .bool,_,_,x,y,h,k=>by have f:_=_:=h; have d:_=_:=k; rw[f] at d; simpa using d
 | .str,_,_,x,y,h,k=>by have f:=h.1; have d:=k.1; rw[f] at d; simpa using d
 | .u8,_,_,x,y,h,k=>by
  have f:_=_:=h; have d:_=_:=k; rw[f] at d
  simp only[aD,Value.int.injEq,and_true,true_and] at d
  exact UInt8.toNat_inj.1 (by omega)
 | .vl,_,_,x,y,h,k=>by
  have f:_=_:=h; have d:_=_:=k; rw[f] at d
  exact QnI (by simpa using d)
 | .sl E e,w,cs,xs,ys,⟨A,c,f,d,h3,h4⟩,⟨A',c',k1,k2,k3,k4⟩=>by
  rw[f] at k1
  simp only[aD,Value.slice.injEq,and_true] at k1
  obtain ⟨rfl,K,rfl⟩:=k1
  apply bF
  intro i
  rcases dp i xs.length with m | m
  ·obtain ⟨b,o,B,C⟩:=h4 (by omega)
   obtain ⟨J,N,q,D⟩:=k4 (by omega)
   rw[B] at q
   cases q
   obtain ⟨p,u,H⟩:=C i xs[i] (ap m)
   obtain ⟨g,v,I⟩:=D i ys[i] (ap (by omega))
   have F:p=g:=by
    apply bF
    intro j
    have L:=u.len
    have M:=v.len
    rcases dp j e.wd with G | G
    ·have z:=H j p[j] (ap (by omega))
     have n:=I j g[j] (ap (by omega))
     rw[z] at n
     rw[ap (by omega),ap (by omega)]
     exact n
    ·rw[bp (by omega),bp (by omega)]
   subst F
   rw[ap m,ap (by omega),Qa2 u v]
  ·rw[bp m,bp (by omega)]
 | .pr a b,w,cs,x,y,⟨l,r,f,d,h3⟩,⟨l',r',k1,k2,k3⟩=>by
  rw[f] at k1
  obtain ⟨rfl,rfl⟩:=List.append_inj k1 (by rw[d.len,k2.len])
  exact Prod.ext (Qa2 d k2) (Qa2 h3 k3)
theorem J5 {E:TypeId}{e:Ty}{w:World}{fp:List Nat}{cs:List Value}{x:List e.Den}(h:Own (.sl E e) w fp cs x):∃v:Hdr,cs=[hdV v]:=by
 rcases h with ⟨_,h,_⟩ | ⟨g,a,b,fps,_,h,_⟩
 ·exact ⟨none,h⟩
 ·exact ⟨some (g,0,x.length,a),h⟩
open Classical in
noncomputable def rdF (E:TypeId) (e:Ty) (w:World) (v:Hdr):List e.Den:=if h:∃x,Rep (.sl E e) w [hdV v] x then h.choose else []
theorem Qsw {E:TypeId}{e:Ty}{w:World}{v:Hdr}{x:List e.Den}(h:Rep (.sl E e) w [hdV v] x):rdF E e w v=x:=by
 have a:∃x,Rep (.sl E e) w [hdV v] x:=⟨x,h⟩
 unfold rdF
 rw[dif_pos a]
 exact Qa2 a.choose_spec h
theorem QcC {E:TypeId}{e:Ty}{w:World}:∀{xs:List (List e.Den)} {fp:List Nat} {cs:List Value},OwnL (Own (.sl E e) w) fp cs xs→∃vs:List Hdr,cs=vs.map hdV∧vs.map (rdF E e w)=xs
 | [],_,_,h=>⟨[],h.2,rfl⟩
 | x :: xs,_,_,⟨f1,f2,c1,c2,h1,h2,h3,h4⟩=>by
  obtain ⟨v,rfl⟩:=J5 h3
  obtain ⟨vs,rfl,a⟩:=QcC h4
  exact ⟨v :: vs,by rw[h2]; rfl,by rw[aU,a,Qsw h3.rep]⟩
theorem K8 {E:TypeId}{e:Ty}{w:World}{f:Hdr→List e.Den}:∀{vs:List Hdr} {fp:List Nat},OwnL (Own (.sl E e) w) fp (vs.map hdV) (vs.map f)→∀v∈vs,∃a,Own (.sl E e) w a [hdV v] (f v)∧∀g∈a,g∈fp
 | [],_,_,v,hv=>by cases hv
 | u :: vs,fp,h,v,hv=>by
  obtain ⟨j,o,c1,c2,rfl,d,i,k⟩:=h
  obtain ⟨z,rfl⟩:=J5 i
  simp only[aU,bH,bN,aD] at d
  obtain ⟨l,rfl⟩:=d
  rcases aE.1 hv with rfl | hv
  ·exact ⟨j,by rw[l]; exact i,fun g b=>aH _ b⟩
  ·obtain ⟨a,m,n⟩:=K8 k v hv
   exact ⟨a,m,fun g b=>aN _ (n g b)⟩
theorem Qij {w:World}:∀(vs:List Hdr),OwnL (Own .vl w) [] (vs.map hdV) vs
 | []=>⟨rfl,rfl⟩
 | v :: vs=>⟨[],[],[hdV v],vs.map hdV,rfl,rfl,⟨rfl,rfl⟩,Qij vs⟩
theorem QfC {E E':TypeId}{e:Ty}{w:World}{fp:List Nat}{v:Value}{xs:List (List e.Den)}(h:Own (.sl E (.sl E' e)) w fp [v] xs):
 ∃j k vs f,fp=j++k∧Own (.sl E .vl) w j [v] vs∧OwnL (Own (.sl E' e) w) k (vs.map hdV) (vs.map f)∧vs.map f=xs:=by
 rcases h with ⟨rfl,h,rfl⟩ | ⟨g,b,a,fps,rfl,n,o,r,p,q,d⟩
 ·exact ⟨[],[],[],fun _=>[],rfl, .inl ⟨rfl,h,rfl⟩,⟨rfl,rfl⟩,rfl⟩
 ·obtain ⟨vs,m,i⟩:=QcC d
  have l:vs.length=xs.length:=by rw[← i,aB]
  rw[m] at d
  refine ⟨[g],fps,vs,rdF E' e w,rfl, .inr ⟨g,b,a,[],rfl,by rw[l]; exact n,o,by omega,p,q, ?_⟩,by rw[i]; exact d,i⟩
  have:(a.toList.take (vs.length*Ty.wd .vl))=vs.map hdV:=by rw[l]; exact m
  rw[this]
  exact Qij vs
section
variable {A:Amb}{P:Program}{s:St}{Q:Exit→St→Prop}{c:Code}
theorem R.pool {q:Nat}(p:Nat){E E':TypeId}{e:Ty}{xs:List (List e.Den)}{a:Act}{w:World}(Y:s.tab.ent q=some (.arr E (.sl E' e) xs))(z:Fresh s p)(hk:A.k0≤p)(r:R A s a w):
 ∃(vs:List Hdr) (f:Hdr→List e.Den),vs.map f=xs∧R A ⟨s.tm,(p,some (.pl false (.sl E' e) vs f)) :: (q,some (.arr E .vl vs)) :: s.tab⟩ a w:=by
 obtain ⟨m,r⟩:=r
 have C:s.tab.al q:=⟨_,Y⟩
 have H:q≠p:=fun h=>z.al (h▸C)
 have hO:Own (.sl E (.sl E' e)) w (m.f q) [m.h q] xs:=r.cx.en q _ Y
 obtain ⟨D,W,vs,f,M,h2,h3,h4⟩:=QfC hO
 have G:=r.cx.nd q C
 rw[M] at G
 obtain ⟨n1,n2,n3⟩:=aT.1 G
 have mg:∀g∈D,g∈m.f q:=fun g i=>by rw[M]; exact aH _ i
 have K:∀g∈W,g∈m.f q:=fun g i=>by rw[M]; exact aN _ i
 have l:∀t,Tab.al ((p,some (.pl false (.sl E' e) vs f)) :: (q,some (.arr E .vl vs)) :: s.tab) t→t=p∨(t≠p∧s.tab.al t):=fun t ⟨x,n⟩=>by
  by_cases d:t=p
  ·exact .inl d
  ·refine .inr ⟨d, ?_⟩
   rw[Qd,if_neg d,Qd] at n
   by_cases j:t=q
   ·rw[j]; exact C
   ·rw[if_neg j] at n; exact ⟨_,n⟩
 let k:Gh:=⟨fun t=>if t=p then .slice none 0 0 else m.h t,fun t=>if t=p then [] else if t=q then D else m.f t,fun g=>m.N g∨g∈W⟩
 have I:k.f q=D:=by show (if q=p then [] else if q=q then D else m.f q)=D; rw[if_neg H,if_pos rfl]
 have F:k.f p=[]:=if_pos rfl
 have L:∀t,t≠p→t≠q→k.f t=m.f t:=fun t d j=>by show (if t=p then [] else if t=q then D else m.f t)=_; rw[if_neg d,if_neg j]
 have J:∀t,t≠p→k.h t=m.h t:=fun t d=>if_neg d
 have o:∀t,t≠p→∀g∈k.f t,g∈m.f t:=fun t d g i=>by
  by_cases j:t=q
  ·rw[j,I] at i; rw[j]; exact mg g i
  ·rwa [L t d j] at i
 have X:∀g,m.N g→k.N g∧w.heap[g]? =w.heap[g]? :=fun g h=>⟨.inl h,rfl⟩
 refine ⟨vs,f,h4,k,r.step ⟨fun t x n=> ?_,fun t U y S hn g i B=> ?_,fun t y=> ?_,fun t y g i b=> ?_,fun g b=> ?_⟩ (fun t y=> ?_) X (QV w) (fun _ _ _=>rfl) (fun g b=> ?_) fun t y g i=> ?_⟩
 ·rw[Qd] at n
  by_cases d:t=p
  ·rw[if_pos d] at n
   cases n
   rw[d]
   refine ⟨if_pos rfl,F,fun v hv=> ?_⟩
   obtain ⟨fv,k1,k2⟩:=K8 h3 v hv
   exact k1.rd fun g i=> .inr (k2 g i)
  ·rw[if_neg d,Qd] at n
   by_cases j:t=q
   ·rw[if_pos j] at n
    cases n
    show Own (.sl E .vl) w (k.f t) [k.h t] vs
    rw[j,I,J q H]
    exact h2
   ·rw[if_neg j] at n
    refine (r.cx.en t x n).mono (fun T O ha=> ?_) X (J t d) (L t d j) fun _ _=>rfl
    have V:T≠p:=fun h=>z.en t x n (h▸O)
    rcases l T ha with h | ⟨_,h⟩
    ·exact absurd h V
    ·exact ⟨h,J T V⟩
 ·rcases l t y with d | ⟨d,u⟩
  ·rw[d,F] at i; cases i
  ·rcases l U S with j | ⟨j,a2⟩
   ·rw[j,F] at B; cases B
   ·exact r.cx.dj t U u a2 hn g (o t d g i) (o U j g B)
 ·rcases l t y with d | ⟨d,u⟩
  ·rw[d,F]; exact bL
  ·by_cases j:t=q
   ·rw[j,I]; exact n1
   ·rw[L t d j]; exact r.cx.nd t u
 ·rcases l t y with d | ⟨d,u⟩
  ·rw[d,F] at i; cases i
  ·rcases b with b | b
   ·exact r.cx.no t u g (o t d g i) b
   ·by_cases j:t=q
    ·rw[j,I] at i; exact n3 g i g b rfl
    ·exact r.cx.dj t q u C j g (o t d g i) (K g b)
 ·rcases b with b | b
  ·exact r.cx.nl g b
  ·exact r.cx.lt C g (K g b)
 ·rcases l t y with d | ⟨d,u⟩
  ·rw[d]; exact .inr ⟨z,hk⟩
  ·exact .inl ⟨u,J t d,fun _=>rfl⟩
 ·rcases b with b | b
  ·exact .inl b
  ·exact .inr (.inr ⟨q,C,K g b,fun Z=>r.xn g Z (r.ox q C g (K g b) Z)⟩)
 ·rcases l t y with d | ⟨d,u⟩
  ·rw[d,F] at i; cases i
  ·exact .inr ⟨t,u,o t d g i⟩
theorem AC.pool {q:Nat}(p:Nat){E E':TypeId}{e:Ty}{xs:List (List e.Den)}(d:s.tab.ent q=some (.arr E (.sl E' e) xs))(b:Fresh s p)(g:A.k0≤p)
 (k:∀(vs:List Hdr) (f:Hdr→List e.Den),vs.map f=xs→AC A P c Q ⟨s.tm,(p,some (.pl false (.sl E' e) vs f)) :: (q,some (.arr E .vl vs)) :: s.tab⟩):AC A P c Q s:=fun a w r=>by
 obtain ⟨vs,f,h,i⟩:=R.pool p d b g r
 exact k vs f h a w i
theorem AL.pool {ops:Array Oper}{l:List Oper}{q:Nat}(p:Nat){E E':TypeId}{e:Ty}{xs:List (List e.Den)}(d:s.tab.ent q=some (.arr E (.sl E' e) xs))(b:Fresh s p)(g:A.k0≤p)
 (k:∀(vs:List Hdr) (f:Hdr→List e.Den),vs.map f=xs→AL A P ops l Q ⟨s.tm,(p,some (.pl false (.sl E' e) vs f)) :: (q,some (.arr E .vl vs)) :: s.tab⟩):AL A P ops l Q s:=fun a w r=>by
 obtain ⟨vs,f,h,i⟩:=R.pool p d b g r
 exact k vs f h a w i
theorem Evl.pl {x:Operand}{p:Nat}{e:Ty}{vs:List Hdr}{f:Hdr→e.Den}{v:Hdr}(j:Evl A s x (.dat .vl v))(i:s.tab.ent p=some (.pl false e vs f))(hv:v∈vs):Evl A s x (.dat e (f v)):=fun b a w r=>by
 obtain ⟨_,_,h⟩:=r.cx.en p _ i
 have d:Rd b.N .vl w [a.eval x] v:=j b a w r
 have g:[a.eval x]=[hdV v]:=d.rep
 show Rd b.N e w [a.eval x] (f v)
 rw[g]
 exact h v hv
end
end Go.Proofs.YtndabgcpnmeeoaaGreat
namespace Go.Proofs.YtndabgcpnmeeoaaGreat
open Go.RowKit
section
variable {α:Type}[DecidableEq α][Inhabited α]
omit [Inhabited α] in
theorem QgK (y:α):∀l:List α,Yi (l++[y])=Yi l++(if l.getLast? =some y then [] else [y])
 | []=>by simp[Yi]
 | [x]=>by
  by_cases h:x=y
  ·simp[Yi,h]
  ·simp[Yi,h]
 | x :: z :: l=>by
  have b:=QgK y (z :: l)
  have a:(x :: z :: l).getLast? =(z :: l).getLast? :=by simp
  rw[a]
  show (if x=z then Yi ((z :: l)++[y]) else x :: Yi ((z :: l)++[y]))=(if x=z then Yi (z :: l) else x :: Yi (z :: l))++_
  rw[b]
  split <;> simp
theorem Qbe (zs:List α):∀m,m≤zs.length→Lib.compactUpTo zs.toArray m=Yi (zs.take m)
 | 0,_=>by simp[Lib.compactUpTo,Yi]
 | m+1,hm=>by
  have d:zs[m]? =some zs[m]:=ap (by omega)
  have c:(zs.toArray)[m]! =zs[m]:=by rw[dX _ m (by simp; omega)]; simp
  rw[Lib.compactUpTo_succ,Qbe zs m (by omega),Qs d,QgK,c]
  refine congrArg _ ?_
  cases m with
  | zero=>simp[Lib.keeps]
  | succ k=>
   have a:(zs.toArray)[k]! =zs[k]:=by rw[dX _ k (by simp; omega)]; simp
   have f:(zs.take (k+1)).getLast? =some zs[k]:=by
    rw[List.getLast?_eq_getElem?,ao,show min (k+1) zs.length - 1=k by omega,List.getElem?_take_of_lt (by omega)]
    exact ap (by omega)
   rw[f]
   have b:Lib.keeps zs.toArray (k+1)= !decide (zs[k]=zs[k+1]):=by
    unfold Lib.keeps
    rw[c,show k+1 - 1=k from rfl,a]
    by_cases e:zs[k]=zs[k+1]
    ·simp[e]
    ·simp[e,Ne.symm e]
   rw[b]
   by_cases e:zs[k]=zs[k+1]
   ·simp[e]
   ·simp[e]
theorem QkZ (zs:List α):Lib.compact zs=Yi zs:=by
 have:=Qbe zs zs.length (aL _)
 rw[bM] at this
 exact this
omit [Inhabited α] in
theorem Qjp:∀l:List α,(Yi l).length≤l.length
 | []=>aL _
 | [_]=>aL _
 | x :: y :: l=>by
  have:=Qjp (y :: l)
  unfold Yi
  split
  ·simp only[aq] at*; omega
  ·simp only[aq] at*; omega
end
def Qqo (P:Program)(f:FuncId):Prop:=∀(blk cap:Nat) (zs:List Int) (w:World),Sort.Holds (Value.int .i64) w blk 0 zs.toArray→zs.length≤9223372036854775807→zs.length≤cap→
 Calls P f #[.slice (some ⟨blk,0,none⟩) zs.length cap] w fun e w'=>e= .returned (.slice (some ⟨blk,0,none⟩) (Yi zs).length cap)∧∃q,w'=Sort.putRow (Value.int .i64) (Sort.ahead w q) blk 0 (Yi zs++List.replicate (zs.length - (Yi zs).length) 0).toArray
def QiV (P:Program)(f:FuncId):Prop:=∀w:World,Calls P f #[.slice none 0 0] w fun e w'=>e= .returned (.slice none 0 0)∧w'=w
theorem Qqw {P:Program}{f:FuncId}{E:TypeId}(U:Qqo P f)(R:QiV P f)(xs:List Int)(hl:xs.length≤1000000000):FC P f [(false,[.ref 0])] [(0,some (.arr E .int xs))] 0 (XB E .int (Yi xs)):=fun u w vs A V=>by
 obtain ⟨v,a0,rfl,⟨l,D,C⟩,rfl⟩:=V
 simp only[aD,and_true] at D
 subst D
 have hv:v=u.h 0:=C ⟨_,rfl⟩
 subst hv
 have S:Own (.sl E .int) w (u.f 0) [u.h 0] xs:=A.en 0 _ rfl
 have a:∀(y:List Int) q,Tab.al [(0,some (Ent.arr E .int y))] q→q=0:=fun y q ⟨e,b⟩=>by
  rw[Qd] at b
  split at b
  ·assumption
  ·cases b
 rcases S with ⟨p,o,G⟩ | ⟨g,j,z,fps,p,o,H,Y,k,F,K⟩
 ·simp only[aD,and_true] at o
  subst G
  rw[o]
  refine Calls.mono (R w) fun e w' b=> ?_
  obtain ⟨rfl,rfl⟩:=b
  refine ⟨_,_,_,u,rfl,⟨rfl,rfl⟩,⟨fun q e b=> ?_,fun q J d t s=>absurd ((a _ q d).trans (a _ J t).symm) s,fun q d=> ?_,fun q d g i=> ?_,fun g i=>A.nl g i⟩,⟨_,rfl,fun _=>o.symm⟩,
   ⟨QV _,fun _ _ _=>rfl,fun g i=> .inl i,fun q d g i=> ?_⟩,fun q h _=>absurd h (bi _)⟩
  ·rw[Qd] at b
   split at b
   ·rename_i B; subst B; cases b
    exact .inl ⟨p,by rw[o],rfl⟩
   ·cases b
  ·rw[a _ q d,p]; exact bL
  ·rw[a _ q d,p] at i; cases i
  ·rw[a _ q d,p] at i; cases i
 ·simp only[aD,and_true] at o
  rw[cr] at K
  obtain ⟨rfl,ht,Z⟩:=QcB K
  have i:g < w.heap.size:=(bA.1 H).1
  rw[o]
  have X:xs.length≤9223372036854775807:=by unfold maxLen at k; omega
  refine Calls.mono (U g j xs w (holds_of_blockI H ht) X Y) fun e w' b=> ?_
  obtain ⟨rfl,n,rfl⟩:=b
  have W:=Qjp xs
  have L:(Yi xs++List.replicate (xs.length - (Yi xs).length) (0:Int)).length=xs.length:=by simp; omega
  generalize T:Yi xs++List.replicate (xs.length - (Yi xs).length) (0:Int)=row at*
  have r:Sort.putRow (Value.int .i64) (Sort.ahead w n) g 0 row.toArray=Sort.grow (Sort.putRow (Value.int .i64) (Sort.ahead w n) g 0 row.toArray) #[]:=(Sort.grow_empty _).symm
  rw[r]
  obtain ⟨k1,k2,k3,M,k5⟩:=grownBy_sortedI (w:=w) (g:=g) (n:=n) (os:= #[]) row.toArray
  have O:∀x:Int,x∈Yi xs→x∈xs:=fun x G=>JN.1 G
  refine ⟨_,_,_,⟨fun _=> .slice (some ⟨g,0,none⟩) (Yi xs).length j,u.f,u.N⟩,rfl,⟨rfl,rfl⟩,⟨fun q e b=> ?_,fun q J d t s=>absurd ((a _ q d).trans (a _ J t).symm) s,fun q d=> ?_,fun q d m c=> ?_,fun m c=>bq (A.nl m c) M⟩,⟨_,rfl,fun _=>rfl⟩,
   ⟨⟨k1,k2,k3,M⟩,fun m C Q=> ?_,fun m C=> .inl C,fun q d m c=> ?_⟩,fun q h _=>absurd h (bi _)⟩
  ·rw[Qd] at b
   split at b
   ·rename_i B; subst B; cases b
    refine .inr ⟨g,j,_,[],p,rfl,heap_sortedI _ H,by omega,k,by simpa [Sort.putCells] using F, ?_⟩
    show OwnL (Own .int _) [] (List.take ((Yi xs).length*1) _) (Yi xs)
    have I:=take_putCellsI z row (by have:z.size=j*1:=F; omega)
    rw[cr,show (Yi xs).length=min (Yi xs).length row.length by omega,← eb,I,← List.map_take,← T,List.take_left' rfl]
    exact Qii fun x G=>Z x (O x G)
   ·cases b
  ·rw[a _ q d]; exact A.nd 0 ⟨_,rfl⟩
  ·rw[a _ q d] at c; exact A.no 0 ⟨_,rfl⟩ m c
  ·exact k5 m C fun B=>Q 0 ⟨_,rfl⟩ (by rw[p]; cases B; exact aw ..)
  ·rw[a _ q d] at c; exact .inr ⟨0,⟨_,rfl⟩,c⟩
def QpT:Go.Shelf.Ren:=⟨fun | 189=>386 | 125=>249 | 257=>479 | 128=>372 | 129=>373 | 294=>533 | 295=>534 | 296=>535 | 297=>536 | 298=>537 | 299=>538 | 216=>539 | 300=>540 | 301=>541 | 328=>569 | 329=>468 | 330=>469 | 331=>570 | 332=>571 | 215=>374 | 343=>582 | n=>n,fun | 28=>123 | 3=>3 | 46=>279 | 0=>0 | 51=>406 | 53=>132 | 4=>4 | 183=>400 | 182=>399 | 131=>40 | 5=>5 | 9=>9 | 218=>465 | 222=>469 | 228=>513 | 229=>514 | n=>n,fun | n=>n⟩
theorem Qvu:Go.Proofs.Lays.n189 Tryz.prog QpT:={
 mixed:=by kernel_rfl,
 f125:=Tryz.func249.trans (congrArg some (by kernel_rfl)),
 f128:=Tryz.func372.trans (congrArg some (by kernel_rfl)),
 f129:=Tryz.func373.trans (congrArg some (by kernel_rfl)),
 f189:=Tryz.func386.trans (congrArg some (by kernel_rfl)),
 f215:=Tryz.func374.trans (congrArg some (by kernel_rfl)),
 f216:=Tryz.func539.trans (congrArg some (by kernel_rfl)),
 f257:=Tryz.func479.trans (congrArg some (by kernel_rfl)),
 f294:=Tryz.func533.trans (congrArg some (by kernel_rfl)),
 f295:=Tryz.func534.trans (congrArg some (by kernel_rfl)),
 f296:=Tryz.func535.trans (congrArg some (by kernel_rfl)),
 f297:=Tryz.func536.trans (congrArg some (by kernel_rfl)),
 f298:=Tryz.func537.trans (congrArg some (by kernel_rfl)),
 f299:=Tryz.func538.trans (congrArg some (by kernel_rfl)),
 f300:=Tryz.func540.trans (congrArg some (by kernel_rfl)),
 f301:=Tryz.func541.trans (congrArg some (by kernel_rfl)),
 f328:=Tryz.func569.trans (congrArg some (by kernel_rfl)),
 f329:=Tryz.func468.trans (congrArg some (by kernel_rfl)),
 f330:=Tryz.func469.trans (congrArg some (by kernel_rfl)),
 f331:=Tryz.func570.trans (congrArg some (by kernel_rfl)),
 f332:=Tryz.func571.trans (congrArg some (by kernel_rfl)),
 f343:=Tryz.func582.trans (congrArg some (by kernel_rfl)),
 t0:=Tryz.underlying0,
 a0:=Tryz.isAgg0,
 z0:=Tryz.sizeOf0,
 v0:=Tryz.zeroValue0,
 t3:=Tryz.underlying3,
 a3:=Tryz.isAgg3,
 z3:=Tryz.sizeOf3,
 v3:=Tryz.zeroValue3,
 t4:=Tryz.underlying4,
 a4:=Tryz.isAgg4,
 z4:=Tryz.sizeOf4,
 v4:=Tryz.zeroValue4,
 t5:=Tryz.underlying5,
 a5:=Tryz.isAgg5,
 z5:=Tryz.sizeOf5,
 v5:=Tryz.zeroValue5,
 t9:=Tryz.underlying9,
 a9:=Tryz.isAgg9,
 z9:=Tryz.sizeOf9,
 v9:=Tryz.zeroValue9,
 t28:=Tryz.underlying123,
 a28:=Tryz.isAgg123,
 z28:=Tryz.sizeOf123,
 v28:=Tryz.zeroValue123,
 t46:=Tryz.underlying279,
 a46:=Tryz.isAgg279,
 z46:=Tryz.sizeOf279,
 v46:=Tryz.zeroValue279,
 t51:=Tryz.underlying406,
 a51:=Tryz.isAgg406,
 z51:=Tryz.sizeOf406,
 v51:=Tryz.zeroValue406,
 t53:=Tryz.underlying132,
 a53:=Tryz.isAgg132,
 z53:=Tryz.sizeOf132,
 v53:=Tryz.zeroValue132,
 t131:=Tryz.underlying40,
 a131:=Tryz.isAgg40,
 z131:=Tryz.sizeOf40,
 v131:=Tryz.zeroValue40,
 t182:=Tryz.underlying399,
 a182:=Tryz.isAgg399,
 z182:=Tryz.sizeOf399,
 v182:=Tryz.zeroValue399,
 t183:=Tryz.underlying400,
 a183:=Tryz.isAgg400,
 z183:=Tryz.sizeOf400,
 v183:=Tryz.zeroValue400,
 t218:=Tryz.underlying465,
 a218:=Tryz.isAgg465,
 z218:=Tryz.sizeOf465,
 v218:=Tryz.zeroValue465,
 t222:=Tryz.underlying469,
 a222:=Tryz.isAgg469,
 z222:=Tryz.sizeOf469,
 v222:=Tryz.zeroValue469,
 t228:=Tryz.underlying513,
 a228:=Tryz.isAgg513,
 z228:=Tryz.sizeOf513,
 v228:=Tryz.zeroValue513,
 t229:=Tryz.underlying514,
 a229:=Tryz.isAgg514,
 z229:=Tryz.sizeOf514,
 v229:=Tryz.zeroValue514}
theorem QwL:QqF Tryz.prog 386:=fun a b f w c d e=>calls_of_every_depth fun D=>AnyS.slices_Sort_int_in Qvu D a 0 b f w c d e
theorem QsP:Qa3 Tryz.prog 386:=fun w=>Calls.mono (Any.slices_Sort_int_none Qvu none 0 w) fun _ _ ⟨a,b⟩=>⟨a,b▸QM _⟩
theorem Qub (l:List Int)(a:l.length≤1000000000):FC Tryz.prog 386 [(false,[.ref 0])] [(0,some (.arr 3 .int l))] 1 (Is (.tup []) [(0,some (.arr 3 .int (VE l)))]):=Qqy QwL QsP l a
def QhS:Go.Shelf.Ren:=⟨fun | 20=>387 | n=>n,fun | 22=>123 | 3=>3 | 4=>4 | 0=>0 | n=>n,fun | n=>n⟩
theorem Qjv:Go.Proofs.Lays2.n20 Tryz.prog QhS:={
 mixed:=by kernel_rfl,
 f20:=Tryz.func387.trans (congrArg some (by kernel_rfl)),
 t0:=Tryz.underlying0,
 a0:=Tryz.isAgg0,
 z0:=Tryz.sizeOf0,
 v0:=Tryz.zeroValue0,
 t3:=Tryz.underlying3,
 a3:=Tryz.isAgg3,
 z3:=Tryz.sizeOf3,
 v3:=Tryz.zeroValue3,
 t4:=Tryz.underlying4,
 a4:=Tryz.isAgg4,
 z4:=Tryz.sizeOf4,
 v4:=Tryz.zeroValue4,
 t22:=Tryz.underlying123,
 a22:=Tryz.isAgg123,
 z22:=Tryz.sizeOf123,
 v22:=Tryz.zeroValue123,
 i3:=by kernel_rfl}
theorem QvT:Qqo Tryz.prog 387:=fun a b f w e c d=>by
 have h:=calls_of_every_depth fun D=>AnyS.slices_Compact_int_in Qjv D a 0 b f w e c d
 rw[QkZ] at h
 exact h
theorem Qrk:QiV Tryz.prog 387:=fun w=>calls_of_every_depth fun D=>AnyS.slices_Compact_int_empty_in Qjv D none 0 w
theorem Qml (l:List Int)(a:l.length≤1000000000):FC Tryz.prog 387 [(false,[.ref 0])] [(0,some (.arr 3 .int l))] 0 (XB 3 .int (Yi l)):=Qqw QvT Qrk l a
end Go.Proofs.YtndabgcpnmeeoaaGreat
