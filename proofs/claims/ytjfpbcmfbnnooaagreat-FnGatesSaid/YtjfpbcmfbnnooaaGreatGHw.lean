/- Walks over abstract states: the searches for a least cover, both sides. -/
import Derived.Test.YtjfpbcmfbnnooaaGreatGHs
import Derived.Test.YtjfpbcmfbnnooaaGreatGBc
import Derived.Test.YtjfpbcmfbnnooaaGreatGDf
import Derived.Test.YtjfpbcmfbnnooaaGreatGAu
import Derived.Test.YtjfpbcmfbnnooaaGreatGWk
import Derived.Test.YtjfpbcmfbnnooaaGreatGWv
import Derived.Test.YtjfpbcmfbnnooaaGreatGUa
import Derived.Test.YtjfpbcmfbnnooaaGreatGHo
import Derived.Test.YtjfpbcmfbnnooaaGreatGHc
set_option linter.unusedSimpArgs false
set_option linter.unusedVariables false
set_option linter.unusedSectionVars false
namespace Go.Proofs.YtjfpbcmfbnnooaaGreat
open Go.RowKit
set_option maxRecDepth 100000
set_option maxHeartbeats 4000000
def ChP (ps on l:List ByteArray)(more:Int):Prop:=0≤more∧(l.length:Int)+more≤100∧(∀x∈l,x.size≤1000)∧on.length≤1000∧∀p∈ps,p.size≤1000∧∀c∈on,p.size≤c.size
section
variable {ps on l tk best:List ByteArray}{st:List ByteArray×Bool}{k:Nat}{more:Int}{c p x:ByteArray}{b:Bool}{f:ByteArray→Bool}
theorem ChP.next (h:ChP ps on l more)(m:ps[k]? =some p)(s:¬more=0):ChP ps (on.filter f) (l++[p]) (more - 1):=by
 obtain ⟨o,r,g,i,a⟩:=h
 have d:=ae m
 refine ⟨by omega,by rw[ah,dc];omega,QnH g (a p d).1,bh (cq ..) i,fun q e=>⟨(a q e).1,fun c j=>(a q e).2 c (bP.1 j).1⟩⟩
theorem ChP.gd (h:ChP ps on l more):GdL l:=⟨by have:=h.1;have:=h.2.1;omega,h.2.2.1⟩
theorem ChP.gdS (h:ChP ps on l more):GdL (Zd l):=⟨by rw[Z8];exact h.gd.1,fun y a=>h.2.2.1 y ((Xp l).mem_iff.1 a)⟩
theorem ChP.run (h:ChP ps on l more)(a:GdL st.1):GdL (QU (leI ps more.toNat on l) st).1:=
 Qov GdL (Qsk (fun p d=>(h.2.2.2.2 p d).1) more.toNat (by have:=h.1;have:=h.2.1;omega) h.2.2.1) a
theorem QmN (h:(on.length:Int)=0):on=[]:=bi (by omega)
theorem Qv2 (h:(on.length:Int)=0)(d:((Zp (Zd l)).length:Int)=(l.length:Int))(a:more=0):QU (leI ps more.toNat on l) st=upS st (Zd l):=by
 subst a
 rw[QdV (QmN h),lfI,if_pos ⟨by omega,rfl⟩];rfl
theorem Qv7 (h:(on.length:Int)=0)(a:((Zp (Zd l)).length:Int)=(l.length:Int))(d:more=0)(hb:btB (Zd l) st=true):QU (leI ps more.toNat on l) st=(Zd l,true):=by
 rw[Qv2 h a d,upS,if_pos hb]
theorem Qv6 (h:(on.length:Int)=0)(a:((Zp (Zd l)).length:Int)=(l.length:Int))(d:more=0)(hb:btB (Zd l) st=false):QU (leI ps more.toNat on l) st=st:=by
 rw[Qv2 h a d,upS,if_neg (by rw[hb];simp)]
theorem Qv3 (h:(on.length:Int)=0)(a:¬((Zp (Zd l)).length:Int)=(l.length:Int)):QU (leI ps more.toNat on l) st=st:=by
 rw[QdV (QmN h),lfI,if_neg fun g=>a (by rw[g.1])];rfl
theorem Qv4 (h0:0≤more)(h:(on.length:Int)=0)(a:¬more=0):QU (leI ps more.toNat on l) st=st:=by
 rw[QdV (QmN h),lfI,if_neg fun g=>a (by have:=g.2;omega)];rfl
theorem Qv5 (h:¬(on.length:Int)=0)(a:more=0):QU (leI ps more.toNat on l) st=st:=by
 subst a
 rw[show (0:Int).toNat=0 from rfl,Qze fun g=>h (by rw[g];rfl)];rfl
theorem QyC (h0:0≤more)(g:¬more=0)(a:on[0]? =some c)(d:ps.length≤k)(e:st=QU (chK ps on l more c k) (best,b)):QU (leI ps more.toNat on l) (best,b)=st:=by rw[← Quc a (by omega) d,e]
def hd0 (on:List ByteArray):ByteArray:=(on[0]?).getD ByteArray.empty
theorem Qr3 (h:on[0]? =some c):hd0 on=c:=by unfold hd0;rw[h];rfl
theorem QAW (d:ps[k]? =some p)(a:on[0]? =some c)(h:QZ p c=true)(e:st=QU (chK ps on l more (hd0 on) k) (best,b)):((QU (leI ps (more - 1).toNat (on.filter fun x=> !(QZ p x)) (l++[p])) st).1,(QU (leI ps (more - 1).toNat (on.filter fun x=> !(QZ p x)) (l++[p])) st).2)=QU (chK ps on l more (hd0 on) (k+1)) (best,b):=by
 rw[Qr3 a] at e ⊢
 exact QyB d h e
theorem QAV (d:ps[k]? =some p)(a:on[0]? =some c)(h:QZ p c=false)(e:st=QU (chK ps on l more (hd0 on) k) (best,b)):st=QU (chK ps on l more (hd0 on) (k+1)) (best,b):=by
 rw[Qr3 a] at e ⊢
 rw[e,QyA d h]
theorem Qrm (h0:0≤more)(g:¬more=0)(h:¬(on.length:Int)=0)(d:ps.length≤k)(e:st=QU (chK ps on l more (hd0 on) k) (best,b)):QU (leI ps more.toNat on l) (best,b)=st:=by
 obtain ⟨c,a⟩:∃c,on[0]? =some c:=⟨on[0]'(by omega),ao (by omega)⟩
 rw[Qr3 a] at e
 exact QyC h0 g a d e
theorem gd0:GdL []:=⟨by decide,fun x a=>by cases a⟩
end
theorem XL (code:ByteArray)(cube:ByteArray)(h:cube.size≤code.size):FC Tryz.prog 221 [(false,[dS code]),(false,[.ptr 0 0])] [bx 0 9 [dS cube]] 1 (Is (lB (QZ cube code)) [bx 0 9 [dS cube]]):=by
 refine Qj Tryz.func221 rfl rfl Tryz.ntmps221 fun j g i a m e d=> ?_
 refine w6 ?_
 refine lc (dK (Xy cube code h) KO) ?_
 refine w3 ?_
 exact fi_ [] g ⟨rfl,trivial⟩
theorem U2 (l:List ByteArray)(cube:ByteArray)(z:l.length≤1000000)(u:∀c∈l,cube.size≤c.size):FC Tryz.prog 223 [(false,[.ref 1]),(false,[.clo 221 [0]])] [bx 0 9 [dS cube],ar 1 9 .str l] 2 (Is (lI (Zf (fun x=>QZ cube x) l)) [bx 0 9 [dS cube],ar 1 9 .str l]):=by
 refine Qj Tryz.func223 rfl rfl Tryz.ntmps223 fun w i v j y s r=> ?_
 refine w10 ?_
 refine lpK l.length (fun k=>NoneTo (fun x=>QZ cube x) l k) (fun k=>⟨[(0,lR 1),(1,lf (.clo 221 [0])),(7,lI (l.length:Int)),(8,lI (k:Int))],[bx 0 9 [dS cube],ar 1 9 .str l]⟩) (NoneTo.zero) ?_ fun k _ a=> ?_
 exact wo []
 refine w4 ?_
 cases e:(decide ((k:Int)<(l.length:Int)))
 have g:=aa e
 refine w7 ?_
 have m:((-1):Int)=(Zf (fun x=>QZ cube x) l):=by
  first|exact (a.no (by omega)).symm
 exact fi_ [] i ⟨rfl,rfl,trivial⟩ (h0:=by first|(rw[← m]<;>rfl)|rw[m])
 have g:=ab e
 refine w13 ?_
 obtain ⟨h,d⟩:=gx l k
 refine w_ ?_
 refine lc (Q3 (args0:=[(false,[dS h])]) (caps:=[0]) 2 [(0,0)] (XL h cube (u _ (ae d))) Qe2 rfl (Qa rfl) rfl rfl ⟨_,_,rfl,(Qn rfl),rfl⟩ ⟨rfl,trivial⟩ rfl ⟨trivial,trivial⟩ (nlr rfl)) ?_
 refine w_ ?_
 cases t:(QZ cube h)
 refine w6 ?_
 refine Qd ?_
 refine lK_ (a.step d ‹_›) ?_
 exact wo []
 refine w6 ?_
 have o:((k:Int):Int)=(Zf (fun x=>QZ cube x) l):=by
  exact (a.at d ‹_›).symm
 exact fi_ [] i ⟨rfl,rfl,trivial⟩ (h0:=by first|(rw[o]<;>rfl)|rw[←o])
theorem UL (l:List ByteArray)(cube:ByteArray)(F:l.length≤1000000)(u:∀c∈l,cube.size≤c.size):FC Tryz.prog 211 [(false,[.ref 1]),(false,[.clo 221 [0]])] [bx 0 9 [dS cube],ar 1 9 .str l] 1 (Is (lR 2) [bx 0 9 [dS cube],ar 2 9 .str (l.filter (fun x=> !(QZ cube x)))]):=by
 have E:=QfC (fun x=>QZ cube x) l
 refine Qj Tryz.func211 rfl rfl Tryz.ntmps211 fun J t I y K A z=> ?_
 refine w6 ?_
 refine lc (dP 2 [] (U2 l cube F u) WB) ?_
 refine w7 ?_
 refine cd_ (fun _ _=> ?_) fun _ _=> ?_
 refine w8 ?_
 refine Qu (fun v w=>∃(i:Int) (j:Int) (d:List ByteArray),v=((d.length:Int) - j).toNat∧(DelI (fun x=> !(QZ cube x)) l d i j)∧w=⟨[(0,lR 4),(1,lf (.clo 221 [0])),(4,lf (.val (.slice none 0 0))),(5,lI i),(6,lI j)],[bx 0 9 [dS cube],ar 4 9 .str d]⟩) ⟨Zf (fun x=>QZ cube x) l,(Zf (fun x=>QZ cube x) l)+1,l,rfl,(DelI.start ‹_›),rfl⟩ ?_ ?_
 exact wo [(4,1)]
 rintro v w ⟨i,j,d,G,m,rfl⟩
 have B:=m.1
 have C:=m.2.1
 refine w7 ?_
 cases o:(decide (j<(d.length:Int)))
 have r:=aa o
 refine w6 ?_
 refine lc (Zq (e:= .str) (a:=(i).toNat) (b:=d.length - (i).toNat) (l:=(some i)) (h:=none) (Qa rfl) rfl (by exact (Qa rfl)) (by exact trivial) Zz ZX rfl (by first|(simp only[ak,aj];omega)|omega|(simp only[ak,aj,ah,ap,az];omega)) (by first|(simp only[ak,aj];omega)|omega|(simp only[ak,aj,ah,ap,az];omega)) (by first|(simp only[ak,aj];omega)|omega|(simp only[ak,aj,ah,ap,az];omega)) (by first|rfl|simp) (by first|rfl|simp))<|lc (Ur (e:= .str) (Qa rfl) rfl (by omega) Zz Z3 rfl rfl rfl) ?_
 refine w4 ?_
 refine lc (Zq (e:= .str) (a:=0) (b:=(i).toNat) (l:=none) (h:=(some i)) (Qa rfl) rfl (by exact trivial) (by exact (Qa rfl)) Zz ZX rfl (by first|(simp only[ak,aj];omega)|omega|(simp only[ak,aj,ah,ap,az];omega)) (by first|(simp only[ak,aj];omega)|omega|(simp only[ak,aj,ah,ap,az];omega)) (by first|(simp only[ak,aj];omega)|omega|(simp only[ak,aj,ah,ap,az];omega)) (by first|rfl|simp) (by first|rfl|simp)) ?_
 refine w2 ?_
 refine AC.wk (KE 5 4 (e:= .str) (xs:=d.take ((i).toNat)++List.replicate (d.length - (i).toNat) (Ty.zero .str)) rfl rfl (by first|omega|(simp only[ah,ap,az];omega)) rfl (Fresh.of rfl) (nlr rfl))<|Qe ?_
 exact fi_ [(2,5)] t ⟨rfl,(Qm (by exact m.end_ ‹_› _ (by omega))),trivial⟩
 have r:=ab o
 refine w8 ?_
 obtain ⟨g,H⟩:=gx d ((j).toNat)
 refine w6 ?_
 refine lc (Q3 (args0:=[(false,[dS g])]) (caps:=[0]) 6 [(0,0)] (XL g cube (u _ (ae (m.at_ (x:=g) ‹_›)))) Qe2 rfl (Qa rfl) rfl rfl ⟨_,_,rfl,(Qn rfl),rfl⟩ ⟨rfl,trivial⟩ rfl ⟨trivial,trivial⟩ (nlr rfl)) ?_
 refine w2 ?_
 cases D:(QZ cube g)
 refine w6 ?_
 obtain ⟨L,s⟩:=gx d ((i).toNat)
 refine lc (QB (e:= .str) (z':=g) (Qa rfl) rfl s rfl (Qn rfl) rfl ZX rfl rfl) ?_
 refine w5 ?_
 refine Qd ?_
 refine w5 ?_
 refine Qd<|QV ⟨(i+1),(j+1),(d.set ((i).toNat) g),rfl,(by exact m.keep (x:=g) ‹_› (by simp[*])),rfl⟩ (by first|omega|(simp only[aD];omega)) ?_
 exact wp [] ⟨rfl,(Qm (by first|rfl|simp)),trivial⟩
 refine w7 ?_
 refine Qd<|QV ⟨i,(j+1),d,rfl,(by exact m.drop_ (x:=g) ‹_› (by simp[*])),rfl⟩ (by first|omega|(simp only[aD];omega)) ?_
 exact wo []
 refine w5 ?_
 exact fi_ [(2,1)] t ⟨rfl,(Qm (by exact JX ‹_›)),trivial⟩
theorem KS (s:List ByteArray)(t:s.length≤100000000):FC Tryz.prog 216 [(false,[.dat Qb s])] [] 0 (Xv 9 .str s):=by
 refine Qj Tryz.func216 rfl rfl Tryz.ntmps216 fun m d j g o i h=> ?_
 refine w6 ?_
 refine Qi5 (Qa rfl) Evl.val Zz rfl fun r a=> ?_
 refine w_ ?_
 refine cb_ (fun _=> ?_) fun _=> ?_
 refine w2 ?_
 refine lc (dBs 0 (e:= .str) Z3) ?_
 refine w_ ?_
 refine lc (Zi 1 (Qa rfl) rfl (Evl.rep (Qa rfl)) rfl Zz YW (by first|omega|(simp only[ah,aH,ap,av,aC];omega)|(simp only[ah,aX,ap,av,aC];omega)) rfl (Fresh.of rfl) (nlr rfl)) ?_
 refine w2 ?_
 refine Qe<|fo_ d ?_
 rfl
 refine w3 ?_
 refine AC.wk (Wk.nilS 2 2 9 .str rfl (Fresh.of rfl) (nlr rfl))<|Qe<|fo_ d ?_
 exact (a ‹_›).symm
theorem UO {I:Nat}(H:∀(d:List ByteArray) (best:List ByteArray) (a:Bool) (on:List ByteArray) (l:List ByteArray) (more:Int) (m:ChP d on l more) (hb:GdL best) (_:more.toNat<I),FC Tryz.prog 137 [(false,[.ptr 0 0]),(false,[.dat Qb on]),(false,[.dat Qb l]),(false,[dI more])] [bx 0 174 [.dat Qb d,.dat Qb best,dB a]] 1 (Is (PV.tup []) [bx 0 174 [.dat Qb d,.dat Qb ((QU (leI d more.toNat on l) (best,a)).1),dB ((QU (leI d more.toNat on l) (best,a)).2)]]))(d:List ByteArray)(best:List ByteArray)(a:Bool)(on:List ByteArray)(l:List ByteArray)(more:Int)(m:ChP d on l more)(hb:GdL best)(P:more.toNat=I):FC Tryz.prog 137 [(false,[.ptr 0 0]),(false,[.dat Qb on]),(false,[.dat Qb l]),(false,[dI more])] [bx 0 174 [.dat Qb d,.dat Qb best,dB a]] 1 (Is (PV.tup []) [bx 0 174 [.dat Qb d,.dat Qb ((QU (leI d more.toNat on l) (best,a)).1),dB ((QU (leI d more.toNat on l) (best,a)).2)]]):=by
 have Q:=m.1
 have R:=m.2.1
 have S:=m.2.2.2.1
 refine Qj Tryz.func137 rfl rfl Tryz.ntmps137 fun W z V M X O N=> ?_
 refine acI 3 fun _=> ?_
 refine w3 ?_
 refine alL 12 fun _=> ?_
 refine w3 ?_
 refine cd_ (fun _ _=> ?_) fun _ _=> ?_
 refine w6 ?_
 refine cd_ (fun _ _=> ?_) fun _ _=> ?_
 refine w6 ?_
 refine alL 47 fun _=> ?_
 refine w4 ?_
 refine Qu (fun K L=>∃(k:Nat) (h:List ByteArray) (j:Bool),k≤d.length∧K=d.length - k∧((h,j)=QU (chK d on l more (hd0 on) k) (best,a))∧(GdL h)∧L=⟨[(0,lP 0 0),(1,lf (.dat Qb on)),(2,lf (.dat Qb l)),(3,lI more),(47,lf (.dat Qb d)),(48,lI (d.length:Int)),(49,lI (k:Int))],[bx 0 174 [.dat Qb d,.dat Qb h,dB j]]⟩) ⟨0,best,a,aL _,rfl,rfl,hb,rfl⟩ ?_ ?_
 exact wo []
 rintro K L ⟨k,h,j,T,U,E,G,rfl⟩
 refine w4 ?_
 cases A:(decide ((k:Int)<(d.length:Int)))
 have B:=aa A
 refine w2 ?_
 refine (?_:fin _ _ _ _ .normal _)
 exact fi_ [] z ⟨(((congrArg (fun z_=>some (Ent.box 174 [.dat Qb d,.dat Qb z_,dB j])) (show (h:(Qb:Ty).Den)=((QU (leI d more.toNat on l) (best,a)).1) by exact (congrArg Prod.fst (Qrm (st:=(h,j)) m.1 ‹_› ‹_› (by omega) E)).symm))).trans (congrArg (fun z_=>some (Ent.box 174 [.dat Qb d,.dat Qb ((QU (leI d more.toNat on l) (best,a)).1),dB z_])) (show (j:Bool)=((QU (leI d more.toNat on l) (best,a)).2) by exact (congrArg Prod.snd (Qrm (st:=(h,j)) m.1 ‹_› ‹_› (by omega) E)).symm))),trivial⟩
 have B:=ab A
 refine w5 ?_
 obtain ⟨g,C⟩:=gx d k
 have r:=C
 refine w2 ?_
 refine lc (xal 1 .str Z3) ?_
 refine w2 ?_
 obtain ⟨F,D⟩:=gx on 0
 have y:=D
 apply dW (i4 53 _ _ _ _ [io 57 (lB (QZ g F))]) [0,1,1,1,0]
 refine z4 ?_
 refine zz (fun _ o=>ac (dK (Xy g F ((m.2.2.2.2 _ (ae r)).2 _ (ae y))) KO) rfl) ?_
 exact zN
 cases J:(QZ g F)
 refine w6 ?_
 refine Qd<|QV ⟨k+1,h,j,by omega,rfl,(by exact QAV r y ‹_› E),(by exact G),rfl⟩ (by omega) ?_
 exact wo []
 refine w3 ?_
 refine lc (dO 2 (KS on (by first|omega|(rw[Z8];omega))) Qas) ?_
 refine lc (Q1 ⟨_,_,rfl,(Qa rfl),rfl,rfl⟩ rfl) ?_
 refine lc (dP 3 [(0,1),(1,2)] (UL on g (by omega) ((m.2.2.2.2 _ (ae r)).2)) Qe0) ?_
 refine w2 ?_
 refine AC.wk (Wk.freeze (i:=11) (q:=5) rfl rfl) ?_
 apply dV (i7 62 _ _ _ _ _ _ _ [⟨some 69,lR 6,[(6,some (.res (clR 9 .str l)))]⟩,io 70 (lf (dS g)),⟨some 71,lR 7,[ar 7 9 .str ([g])]⟩,⟨some 72,lf (.dat Qb (l++([g]))),[(6,none)]⟩,io 73 (lI more),io 74 (lI (more - 1)),⟨some 75,PV.tup [],[bx 0 174 [.dat Qb d,.dat Qb ((QU (leI d (more - 1).toNat (on.filter (fun x=> !(QZ g x))) (l++([g]))) (h,j)).1),dB ((QU (leI d (more - 1).toNat (on.filter (fun x=> !(QZ g x))) (l++([g]))) (h,j)).2)],(0,none)]⟩]) [0,1,3,7,7,31,31,3,255,255,3,2047,2047,0]
 refine z7 ?_
 refine zz (fun _ o=>ac (Qjl 6 (n:=(l.length:Int)) (o.v rfl) (by exact (o.v rfl)) (by exact (o.v rfl)) Zz ZX (by first|rfl|omega) rfl (o.fr 6 rfl) (nlr rfl)) rfl) ?_
 refine z_ ?_
 refine zz (fun _ o=>ac (dBs 7 (e:= .str) Z3) rfl) ?_
 refine zz (fun _ o=>ac (Qgn 8 (o.v rfl) (o.en 6 rfl) (Qem (o.v rfl) (o.en 7 rfl)) rfl (by simp) Zz YW (by first|omega|(simp only[ah,aH,ap,av,aC];omega)|(simp only[ah,aX,ap,av,aC];omega)) rfl (o.fr 8 rfl) (nlr rfl)) rfl) ?_
 refine z2 ?_
 refine zz (fun _ o=>ac (dP 9 [] (H d h j (on.filter (fun x=> !(QZ g x))) (l++([g])) (more - 1) (m.next r ‹_›) G (by omega)) QeM) rfl) ?_
 exact zN
 refine w4 ?_
 refine Qd<|QV ⟨k+1,((QU (leI d (more - 1).toNat (on.filter (fun x=> !(QZ g x))) (l++([g]))) (h,j)).1),((QU (leI d (more - 1).toNat (on.filter (fun x=> !(QZ g x))) (l++([g]))) (h,j)).2),by omega,rfl,(by exact QAW r y ‹_› E),(by exact (m.next r ‹_›).run (st:=(h,j)) G),rfl⟩ (by omega) ?_
 exact wo []
 refine w_ ?_
 exact fi_ [] z ⟨(((congrArg (fun z_=>some (Ent.box 174 [.dat Qb d,.dat Qb z_,dB a])) (show (best:(Qb:Ty).Den)=((QU (leI d more.toNat on l) (best,a)).1) by exact (congrArg Prod.fst (Qv5 (st:=(best,a)) ‹_› ‹_›)).symm))).trans (congrArg (fun z_=>some (Ent.box 174 [.dat Qb d,.dat Qb ((QU (leI d more.toNat on l) (best,a)).1),dB z_])) (show (a:Bool)=((QU (leI d more.toNat on l) (best,a)).2) by exact (congrArg Prod.snd (Qv5 (st:=(best,a)) ‹_› ‹_›)).symm))),trivial⟩
 refine w2 ?_
 refine lc (dO 10 (KS l (by first|omega|(rw[Z8];omega))) Qas) ?_
 refine w4 ?_
 refine lc (dP 11 [(0,10)] (JQ l (by omega)) VS) ?_
 refine w4 ?_
 refine lc (dOB 12 (KS (Zd l) (by first|omega|(rw[Z8];omega))) Qas) ?_
 refine lc (dP 13 [(0,12)] (Za (Zd l) (by first|omega|(rw[Z8];omega))) VT) ?_
 refine w_ ?_
 refine AL.wk (Wk.freeze (i:=8) (q:=10) rfl rfl) ?_
 refine w_ ?_
 refine alL 23 fun _=> ?_
 refine w3 ?_
 cases s:(decide (((Zp (Zd l)).length:Int)=(l.length:Int)))
 have u:=aa s
 refine w12 ?_
 exact fi_ [] z ⟨(((congrArg (fun z_=>some (Ent.box 174 [.dat Qb d,.dat Qb z_,dB a])) (show (best:(Qb:Ty).Den)=((QU (leI d more.toNat on l) (best,a)).1) by exact (congrArg Prod.fst (Qv3 (st:=(best,a)) ‹_› ‹_›)).symm))).trans (congrArg (fun z_=>some (Ent.box 174 [.dat Qb d,.dat Qb ((QU (leI d more.toNat on l) (best,a)).1),dB z_])) (show (a:Bool)=((QU (leI d more.toNat on l) (best,a)).2) by exact (congrArg Prod.snd (Qv3 (st:=(best,a)) ‹_› ‹_›)).symm))),trivial⟩
 have u:=ab s
 refine w4 ?_
 cases t:(decide (more=0))
 have w:=aa t
 refine w8 ?_
 exact fi_ [] z ⟨(((congrArg (fun z_=>some (Ent.box 174 [.dat Qb d,.dat Qb z_,dB a])) (show (best:(Qb:Ty).Den)=((QU (leI d more.toNat on l) (best,a)).1) by exact (congrArg Prod.fst (Qv4 (st:=(best,a)) m.1 ‹_› ‹_›)).symm))).trans (congrArg (fun z_=>some (Ent.box 174 [.dat Qb d,.dat Qb ((QU (leI d more.toNat on l) (best,a)).1),dB z_])) (show (a:Bool)=((QU (leI d more.toNat on l) (best,a)).2) by exact (congrArg Prod.snd (Qv4 (st:=(best,a)) m.1 ‹_› ‹_›)).symm))),trivial⟩
 have w:=ab t
 refine w2 ?_
 refine lgy rfl rfl (dP 14 [] (UP d best a (Zd l) m.gdS hb) QlF) ?_
 refine w2 ?_
 refine cb_ (fun _=> ?_) fun _=> ?_
 refine w2 ?_
 exact fi_ [] z ⟨(((congrArg (fun z_=>some (Ent.box 174 [.dat Qb d,.dat Qb z_,dB a])) (show (best:(Qb:Ty).Den)=((QU (leI d more.toNat on l) (best,a)).1) by exact (congrArg Prod.fst (Qv6 (st:=(best,a)) ‹_› ‹_› ‹_› ‹_›)).symm))).trans (congrArg (fun z_=>some (Ent.box 174 [.dat Qb d,.dat Qb ((QU (leI d more.toNat on l) (best,a)).1),dB z_])) (show (a:Bool)=((QU (leI d more.toNat on l) (best,a)).2) by exact (congrArg Prod.snd (Qv6 (st:=(best,a)) ‹_› ‹_› ‹_› ‹_›)).symm))),trivial⟩
 refine w12 ?_
 exact fi_ [] z ⟨(((congrArg (fun z_=>some (Ent.box 174 [.dat Qb d,.dat Qb z_,dB true])) (show (Zd l:(Qb:Ty).Den)=((QU (leI d more.toNat on l) (best,a)).1) by exact (congrArg Prod.fst (Qv7 (st:=(best,a)) ‹_› ‹_› ‹_› ‹_›)).symm))).trans (congrArg (fun z_=>some (Ent.box 174 [.dat Qb d,.dat Qb ((QU (leI d more.toNat on l) (best,a)).1),dB z_])) (show (true:Bool)=((QU (leI d more.toNat on l) (best,a)).2) by exact (congrArg Prod.snd (Qv7 (st:=(best,a)) ‹_› ‹_› ‹_› ‹_›)).symm))),trivial⟩
theorem KW (d:List ByteArray)(best:List ByteArray)(a:Bool)(on:List ByteArray)(l:List ByteArray)(more:Int)(e:ChP d on l more)(hb:GdL best):FC Tryz.prog 137 [(false,[.ptr 0 0]),(false,[.dat Qb on]),(false,[.dat Qb l]),(false,[dI more])] [bx 0 174 [.dat Qb d,.dat Qb best,dB a]] 1 (Is (PV.tup []) [bx 0 174 [.dat Qb d,.dat Qb ((QU (leI d more.toNat on l) (best,a)).1),dB ((QU (leI d more.toNat on l) (best,a)).2)]]):=by
 have H:∀(g:Nat) (d:List ByteArray) (best:List ByteArray) (a:Bool) (on:List ByteArray) (l:List ByteArray) (more:Int) (e:ChP d on l more) (hb:GdL best) (_:more.toNat=g),FC Tryz.prog 137 [(false,[.ptr 0 0]),(false,[.dat Qb on]),(false,[.dat Qb l]),(false,[dI more])] [bx 0 174 [.dat Qb d,.dat Qb best,dB a]] 1 (Is (PV.tup []) [bx 0 174 [.dat Qb d,.dat Qb ((QU (leI d more.toNat on l) (best,a)).1),dB ((QU (leI d more.toNat on l) (best,a)).2)]]):=fun g=>Nat.strongRecOn g fun g i=>fun d best a on l more e hb h=>UO (fun d best a on l more e hb j=>i _ j d best a on l more e hb rfl) d best a on l more e hb h
 exact H _ d best a on l more e hb rfl
def mnV (n:Int)(on off:List ByteArray):List ByteArray×Bool:=if ((Q2 n on off).length:Int)≤60 then fmV (Qds (Q2 n on off) on) 7 0 else ([],false)
section
variable {n:Int}{on off ps:List ByteArray}{k:Nat}{q:Int}
theorem Qxz (h:((Q2 n on off).length:Int)≤60):mnV n on off=fmV (Qds (Q2 n on off) on) 7 0:=if_pos h
theorem Qxy (h:¬((Q2 n on off).length:Int)≤60):mnV n on off=([],false):=if_neg h
theorem Qwm (h:0≤n∧n≤8)(a:∀c∈on,(c.size:Int)=n):∀p∈Q2 n on off,p.size≤1000∧∀c∈on,p.size≤c.size:=fun p g=>by
 have e:=(bP.1 g).1
 have i:=Xg e
 exact ⟨by omega,fun c d=>by have:=a c d;omega⟩
theorem ch0 (d:0≤n∧n≤8)(a:∀c∈on,(c.size:Int)=n)(e:on.length≤1000)(h:k<7):ChP (Q2 n on off) on [] (k:Int):=
 ⟨by omega,by rw[aC];omega,fun x g=>by (cases g),e,Qwm d a⟩
theorem mnA (h:((Q2 n on off).length:Int)≤60)(a:∀j,j<k→(Qds (Q2 n on off) on j).2=false)(e:k<7)(g:(Qds (Q2 n on off) on k).2=true):Qds (Q2 n on off) on k=mnV n on off:=by
 rw[Qxz h]
 have:=Qmq (f:=Qds (Q2 n on off) on) 7 0 k e (fun j d=>by rw[bw];exact a j d) (by rw[bw];exact g)
 rw[this,bw]
theorem mnB (h:((Q2 n on off).length:Int)≤60)(a:∀j,j<k→(Qds (Q2 n on off) on j).2=false)(e:7≤k):([],false)=mnV n on off:=by
 rw[Qxz h]
 exact (Qmr 7 0 fun j d=>by rw[bw];exact a j (by omega)).symm
theorem Qva {f:Nat→List ByteArray×Bool}(a:∀j,j<k→(f j).2=false)(h:(f k).2=false):∀j,j<k+1→(f j).2=false:=fun j d=>by
 by_cases e:j=k
 ·subst e;exact h
 ·exact a j (by omega)
end
theorem Va (n:Int)(on:List ByteArray)(off:List ByteArray)(u:0≤n∧n≤8)(t:∀c∈on,(c.size:Int)=n)(D:∀c∈off,(c.size:Int)=n)(G:on.length≤1000):FC Tryz.prog 57 [(false,[dI n]),(false,[.dat Qb on]),(false,[.dat Qb off])] [] 0 (QK (PV.tup [(false,[.dat Qb ((mnV n on off).1)]),(false,[dB ((mnV n on off).2)])])):=by
 refine Qj Tryz.func57 rfl rfl Tryz.ntmps57 fun I s H v J C B=> ?_
 refine acI 0 fun _=> ?_
 refine w8 ?_
 refine lc (dK (Qfr n on off u t D).frozenG Qlg) ?_
 refine w11 ?_
 cases d:(decide (((Q2 n on off).length:Int)≤60))
 have g:=aa d
 refine w5 ?_
 refine AC.wk (Hk (i:=6) 9 .str rfl)<|Qe ?_
 have w:([]:(Qb:Ty).Den)=((mnV n on off).1):=by
  exact congrArg Prod.fst ((Qxy ‹_›).symm)
 have y:(false:Bool)=((mnV n on off).2):=by
  exact congrArg Prod.snd ((Qxy ‹_›).symm)
 exact fr_ s (e:=by first|(rw[w,← y]<;>rfl)|rw[←w,y])
 have g:=ab d
 refine w7 ?_
 refine lpK 7 (fun k=>∀j,j<k→(Qds (Q2 n on off) on j).2=false) (fun k=>⟨[(1,lf (.dat Qb on)),(8,lf (.dat Qb (Q2 n on off))),(21,lI (k:Int))],[]⟩) ((fun j F=>absurd F (aV j))) ?_ fun k _ a=> ?_
 exact wo []
 refine w4 ?_
 cases h:(decide ((k:Int)<7))
 have m:=aa h
 refine w7 ?_
 refine AC.wk (Hk (i:=6) 9 .str rfl)<|Qe ?_
 have z:([]:(Qb:Ty).Den)=((mnV n on off).1):=by
  exact congrArg Prod.fst (mnB (by assumption:((Q2 n on off).length:Int)≤60) a (by omega))
 have A:(false:Bool)=((mnV n on off).2):=by
  exact congrArg Prod.snd (mnB (by assumption:((Q2 n on off).length:Int)≤60) a (by omega))
 exact fr_ s (e:=by first|(rw[z,← A]<;>rfl)|rw[←z,A])
 have m:=ab h
 refine w10 ?_
 refine lc (Qk Qt4 ⟨_,_,rfl,(Qn rfl),rfl⟩ (au.1 rfl) rfl rfl) ?_
 refine xbx 0 ?_
 refine w2 ?_
 refine YC<|AC.wk (WH (p:=0) [.dat Qb (Q2 n on off),.dat Qb ([]),dB false] rfl ⟨_,_,rfl,.inl rfl,⟨_,_,rfl,.inr ⟨_,_,rfl,rfl⟩,⟨_,_,rfl,.inl rfl,rfl⟩⟩⟩) ?_
 refine w4 ?_
 refine lc (Qae 1 [(0,0)] (KW (Q2 n on off) ([]) false on ([]:(Qb:Ty).Den) (k:Int) (ch0 u t G (by omega)) gd0) QeM ⟨_,_,rfl,(Qn rfl),⟨_,_,rfl,(Qn rfl),⟨_,_,rfl,(Evl.ev Evl.nil),⟨_,_,rfl,(Qn rfl),rfl⟩⟩⟩⟩ ⟨rfl,trivial⟩ rfl ⟨trivial,trivial⟩ (nlr rfl)) ?_
 refine w7 ?_
 cases E:(((QU (leI (Q2 n on off) (k:Int).toNat on ([]:(Qb:Ty).Den)) (([]),false)).2))
 refine w6 ?_
 refine Qd ?_
 refine lK_ ((Qva a ‹_›)) ?_
 exact wo []
 refine w10 ?_
 have o:(((QU (leI (Q2 n on off) (k:Int).toNat on ([]:(Qb:Ty).Den)) (([]),false)).1):(Qb:Ty).Den)=((mnV n on off).1):=by
  exact congrArg Prod.fst (mnA (by assumption:((Q2 n on off).length:Int)≤60) a (by omega) ‹_›)
 have r:(true:Bool)=((mnV n on off).2):=by
  ((rw[← mnA (by assumption:((Q2 n on off).length:Int)≤60) a (by omega) ‹_›]);exact (by assumption:(Qds _ _ _).2=true).symm)
 exact fr_ s (e:=by first|(rw[o,← r]<;>rfl)|rw[←o,r])
def SeP (ps on tk:List ByteArray)(more:Int):Prop:=ChP ps on tk more∧∀x∈tk,∀c∈on,x.size≤c.size
section
variable {ps on tk best:List ByteArray}{st:List ByteArray×Bool}{k j:Nat}{more q:Int}{c p x:ByteArray}{b:Bool}
theorem SeP.next (h:SeP ps on tk more)(m:ps[k]? =some p)(s:0<more)(l:WE tk p=false):SeP ps on (Zg ltB p tk) (more - 1):=by
 obtain ⟨⟨n,o,f,g,e⟩,i⟩:=h
 have d:=ae m
 have r:=QbI l
 refine ⟨⟨by omega,by omega,fun x a=> ?_,g,e⟩,fun x a=> ?_⟩
 ·rcases Yg.1 a with rfl|a
  ·exact (e _ d).1
  ·exact f x a
 ·rcases Yg.1 a with rfl|a
  ·exact (e _ d).2
  ·exact i x a
theorem SeP.run (h:SeP ps on tk more)(a:GdL st.1):GdL (QU (leS ps on more.toNat tk) st).1:=
 Qov GdL (Qxn (fun p d=>(h.1.2.2.2.2 p d).1) more.toNat (by have:=h.1.1;have:=h.1.2.1;omega) h.1.2.2.1) a
theorem QBu (d:ps[k]? =some p)(a:0<more)(h:QZ p c=true)(e:st=QU (seK ps on tk more c k) (best,b)):((QU (leS ps on (more - 1).toNat (Zg ltB p tk)) st).1,(QU (leS ps on (more - 1).toNat (Zg ltB p tk)) st).2)=QU (seK ps on tk more c (k+1)) (best,b):=QzX d a h e
theorem Qz0 (a:ps[k]? =some p)(h:¬(0<more∧QZ p c=true))(e:st=QU (seK ps on tk more c k) (best,b)):st=QU (seK ps on tk more c (k+1)) (best,b):=by rw[e,QzW a h]
theorem Qs4 (a:NoneTo (fun c=> !(inC tk c)) on j)(d:on[j]? =some c)(h:inC tk c=false)(f:ps.length≤k)(e:st=QU (seK ps on tk more c k) (best,b)):QU (leS ps on more.toNat tk) (best,b)=st:=by
 rw[e,QvA (QrY a d h) f]
theorem Qz2 (a:NoneTo (fun c=> !(inC tk c)) on j)(d:on.length≤j)(h:btB tk st=true):QU (leS ps on more.toNat tk) st=(tk,true):=by
 rw[Xn (Qms a d)]
 show upS st tk=_
 unfold upS;rw[if_pos h]
theorem Qz1 (a:NoneTo (fun c=> !(inC tk c)) on j)(d:on.length≤j)(h:btB tk st=false):QU (leS ps on more.toNat tk) st=st:=by
 rw[Xn (Qms a d)]
 show upS st tk=_
 unfold upS;rw[if_neg (by rw[h];simp)]
theorem QxQ (e:NoneTo (fun c=> !(inC tk c)) on j)(g:on.length≤j)(a:∀x∈leS ps on more.toNat tk,(x.length:Int)=(tk.length:Int)+more)(d:b=true→(best.length:Int)=(tk.length:Int)+more):b=true→best.length=tk.length:=fun f=>by
 have h:=a tk (by rw[Xn (Qms e g)];exact aF.2 rfl)
 have i:=d f
 omega
theorem QBj (e:WE tk p=false)(a:b=true→(best.length:Int)=(tk.length:Int)+more):b=true→(best.length:Int)=((Zg ltB p tk).length:Int)+(more - 1):=fun d=>by
 have f:=a d
 rw[QbI e];omega
theorem QzJ (e:NoneTo (fun c=> !(inC tk c)) on j)(f:on[j]? =some c)(h:inC tk c=false)(i:ps[k]? =some p)(g:0<more)(a:QZ p c=true)(d:∀x∈leS ps on more.toNat tk,(x.length:Int)=(tk.length:Int)+more):∀x∈leS ps on (more - 1).toNat (Zg ltB p tk),(x.length:Int)=((Zg ltB p tk).length:Int)+(more - 1):=fun x l=>by
 have m:=d x (by
  rw[Qj2 (QrY e f h)]
  exact cp.2 ⟨p,ae i,by unfold se1;rw[if_pos ⟨g,a⟩];exact l⟩)
 rw[QbI (QaO h a)];omega
theorem QBt {st:List ByteArray×Bool}(f:WE tk p=false)(a:∀x∈leS ps on (more - 1).toNat (Zg ltB p tk),(x.length:Int)=((Zg ltB p tk).length:Int)+(more - 1))(d:st.2=true→(st.1.length:Int)=(tk.length:Int)+more):(QU (leS ps on (more - 1).toNat (Zg ltB p tk)) st).2=true→((QU (leS ps on (more - 1).toNat (Zg ltB p tk)) st).1.length:Int)=(tk.length:Int)+more:=
 Qkp (fun l=>(l.length:Int)=(tk.length:Int)+more) (fun l e=>by have:=a l e;rw[QbI f] at this;omega) d
theorem sp0 {n:Int}{off:List ByteArray}(e:0≤n∧n≤8)(d:∀c∈on,(c.size:Int)=n)(f:on.length≤1000)(h0:0≤q)(g:q<7):SeP (Q2 n on off) on [] q:=
 ⟨⟨h0,by rw[aC];omega,fun x a=>by (cases a),f,Qwm e d⟩,fun x a=>by (cases a)⟩
theorem Qu9 (a:∀j:Nat,(j:Int)<q→(XB ps on j).2=false)(h0:0≤q):∀x∈leS ps on q.toNat [],(x.length:Int)=(([]:List ByteArray).length:Int)+q:=fun x d=>by
 have:=Qj1 (k:=q.toNat) (fun j e=>a j (by omega)) x d
 rw[aC];omega
theorem Qsp (a:∀j:Nat,(j:Int)<q→(XB ps on j).2=false)(h0:0≤q)(h:(XB ps on q.toNat).2=false):∀j:Nat,(j:Int)<q+1→(XB ps on j).2=false:=fun j d=>by
 by_cases e:(j:Int)=q
 ·rw[show j=q.toNat by omega];exact h
 ·exact a j (by omega)
theorem lsA (a:∀j:Nat,(j:Int)<q→(XB ps on j).2=false)(h0:0≤q)(g:q<7)(d:(XB ps on q.toNat).2=true):XB ps on q.toNat=fmV (XB ps on) 7 0:=by
 have:=Qmq (f:=XB ps on) 7 0 q.toNat (by omega) (fun j e=>by rw[bw];exact a j (by omega)) (by rw[bw];exact d)
 rw[this,bw]
theorem lsB (a:∀j:Nat,(j:Int)<q→(XB ps on j).2=false)(e:7≤q):([],false)=fmV (XB ps on) 7 0:=
 (Qmr 7 0 fun j d=>by rw[bw];exact a j (by omega)).symm
end
theorem Jq {H:Nat}(G:∀(ps:List ByteArray) (on:List ByteArray) (best:List ByteArray) (d:Bool) (a:List ByteArray) (more:Int) (o:SeP ps on a more) (hb:GdL best) (D:d=true→(best.length:Int)=(a.length:Int)+more) (B:∀x∈leS ps on more.toNat a,(x.length:Int)=(a.length:Int)+more) (_:more.toNat<H),FC Tryz.prog 267 [(false,[.ptr 0 0]),(false,[.dat Qb a]),(false,[dI more])] [bx 0 296 [.dat Qb ps,.dat Qb on,.dat Qb best,dB d]] 1 (Is (PV.tup []) [bx 0 296 [.dat Qb ps,.dat Qb on,.dat Qb ((QU (leS ps on more.toNat a) (best,d)).1),dB ((QU (leS ps on more.toNat a) (best,d)).2)]]))(ps:List ByteArray)(on:List ByteArray)(best:List ByteArray)(d:Bool)(a:List ByteArray)(more:Int)(o:SeP ps on a more)(hb:GdL best)(D:d=true→(best.length:Int)=(a.length:Int)+more)(B:∀x∈leS ps on more.toNat a,(x.length:Int)=(a.length:Int)+more)(Q:more.toNat=H):FC Tryz.prog 267 [(false,[.ptr 0 0]),(false,[.dat Qb a]),(false,[dI more])] [bx 0 296 [.dat Qb ps,.dat Qb on,.dat Qb best,dB d]] 1 (Is (PV.tup []) [bx 0 296 [.dat Qb ps,.dat Qb on,.dat Qb ((QU (leS ps on more.toNat a) (best,d)).1),dB ((QU (leS ps on more.toNat a) (best,d)).2)]]):=by
 have R:=o.1.1
 have S:=o.1.2.1
 have T:=o.1.2.2.2.1
 refine Qj Tryz.func267 rfl rfl Tryz.ntmps267 fun X E W N Y P O=> ?_
 refine acI 2 fun _=> ?_
 refine w6 ?_
 refine alL 13 fun _=> ?_
 refine w4 ?_
 refine lpK on.length (fun k=>NoneTo (fun c=> !(inC a c)) on k) (fun k=>⟨[(0,lP 0 0),(1,lf (.dat Qb a)),(2,lI more),(13,lf (.dat Qb on)),(14,lI (on.length:Int)),(15,lI (k:Int))],[bx 0 296 [.dat Qb ps,.dat Qb on,.dat Qb best,dB d]]⟩) (NoneTo.zero) ?_ fun k _ e=> ?_
 exact wo []
 refine w4 ?_
 cases y:(decide ((k:Int)<(on.length:Int)))
 have z:=aa y
 refine w6 ?_
 refine lc (dP 1 [] (HR ps on best d a o.1.gd hb (QxQ e (by omega) B D)) Qmc) ?_
 refine w_ ?_
 refine cb_ (fun _=> ?_) fun _=> ?_
 refine w_ ?_
 refine (?_:fin _ _ _ _ .normal _)
 exact fi_ [] E ⟨(((congrArg (fun z_=>some (Ent.box 296 [.dat Qb ps,.dat Qb on,.dat Qb z_,dB d])) (show (best:(Qb:Ty).Den)=((QU (leS ps on more.toNat a) (best,d)).1) by exact (congrArg Prod.fst (Qz1 (st:=(best,d)) e (by omega) ‹_›)).symm))).trans (congrArg (fun z_=>some (Ent.box 296 [.dat Qb ps,.dat Qb on,.dat Qb ((QU (leS ps on more.toNat a) (best,d)).1),dB z_])) (show (d:Bool)=((QU (leS ps on more.toNat a) (best,d)).2) by exact (congrArg Prod.snd (Qz1 (st:=(best,d)) e (by omega) ‹_›)).symm))),trivial⟩
 refine w12 ?_
 refine Qd ?_
 refine (?_:fin _ _ _ _ .normal _)
 exact fi_ [] E ⟨(((congrArg (fun z_=>some (Ent.box 296 [.dat Qb ps,.dat Qb on,.dat Qb z_,dB true])) (show (a:(Qb:Ty).Den)=((QU (leS ps on more.toNat a) (best,d)).1) by exact (congrArg Prod.fst (Qz2 (st:=(best,d)) e (by omega) ‹_›)).symm))).trans (congrArg (fun z_=>some (Ent.box 296 [.dat Qb ps,.dat Qb on,.dat Qb ((QU (leS ps on more.toNat a) (best,d)).1),dB z_])) (show (true:Bool)=((QU (leS ps on more.toNat a) (best,d)).2) by exact (congrArg Prod.snd (Qz2 (st:=(best,d)) e (by omega) ‹_›)).symm))),trivial⟩
 have z:=ab y
 refine w5 ?_
 obtain ⟨i,F⟩:=gx on k
 have m:=F
 refine w8 ?_
 refine lc (dK (WJ a i (fun x V=>o.2 x V _ (ae m))) KM) ?_
 refine w_ ?_
 cases U:(a.any (fun c=>QZ c i))
 refine w8 ?_
 refine alL 25 fun _=> ?_
 refine w4 ?_
 refine Qu (fun L M=>∃(j:Nat) (h:List ByteArray) (l:Bool),j≤ps.length∧L=ps.length - j∧((h,l)=QU (seK ps on a more i j) (best,d))∧(GdL h)∧(l=true→(h.length:Int)=(a.length:Int)+more)∧M=⟨[(0,lP 0 0),(1,lf (.dat Qb a)),(2,lI more),(7,lf (dS i)),(13,lf (.dat Qb on)),(14,lI (on.length:Int)),(15,lI (k:Int)),(16,lB true),(17,lf (.elt .str i 0)),(18,lf (dS i)),(19,lf (.dat Qb a)),(20,lf (dS i)),(21,lB false),(22,lP 0 0),(23,lP 0 0),(24,lP 0 0),(25,lf (.dat Qb ps)),(26,lI (ps.length:Int)),(27,lI (j:Int))],[bx 0 296 [.dat Qb ps,.dat Qb on,.dat Qb h,dB l]]⟩) ⟨0,best,d,aL _,rfl,rfl,hb,D,rfl⟩ ?_ ?_
 exact wo []
 rintro L M ⟨j,h,l,J,K,w,C,n,rfl⟩
 refine w4 ?_
 cases r:(decide ((j:Int)<(ps.length:Int)))
 have t:=aa r
 refine w4 ?_
 exact fi_ [] E ⟨(((congrArg (fun z_=>some (Ent.box 296 [.dat Qb ps,.dat Qb on,.dat Qb z_,dB l])) (show (h:(Qb:Ty).Den)=((QU (leS ps on more.toNat a) (best,d)).1) by exact (congrArg Prod.fst (Qs4 (st:=(h,l)) e m ‹_› (by omega) w)).symm))).trans (congrArg (fun z_=>some (Ent.box 296 [.dat Qb ps,.dat Qb on,.dat Qb ((QU (leS ps on more.toNat a) (best,d)).1),dB z_])) (show (l:Bool)=((QU (leS ps on more.toNat a) (best,d)).2) by exact (congrArg Prod.snd (Qs4 (st:=(h,l)) e m ‹_› (by omega) w)).symm))),trivial⟩
 have t:=ab r
 refine w5 ?_
 obtain ⟨v,A⟩:=gx ps j
 have f:=A
 refine w8 ?_
 cases s:(decide (0<more))
 have u:=aa s
 refine w11 ?_
 refine Qd<|QV ⟨j+1,h,l,by omega,rfl,(by exact Qz0 f (fun g=>absurd g.1 ‹_›) w),(by exact C),(by exact n),rfl⟩ (by omega) ?_
 exact wo []
 have u:=ab s
 refine w2 ?_
 refine lgy rfl rfl (dK (V5 v i ((o.1.2.2.2.2 _ (ae f)).2 _ (ae m))) Qau) ?_
 refine w2 ?_
 cases I:(QZ v i)
 refine w6 ?_
 refine Qd<|QV ⟨j+1,h,l,by omega,rfl,(by exact Qz0 f (fun g=>absurd (g.2.symm.trans ‹_›) (by decide)) w),(by exact C),(by exact n),rfl⟩ (by omega) ?_
 exact wo []
 refine w5 ?_
 refine lc (dK (JR a v (by omega) (QaO (c:=i) ‹_› ‹_›)) Qfh) ?_
 refine w2 ?_
 refine lc (dP 2 [] (G ps on h l (Zg ltB v a) (more - 1) (o.next f ‹_› (QaO (c:=i) ‹_› ‹_›)) C (QBj (QaO (c:=i) ‹_› ‹_›) n) (QzJ e m ‹_› f ‹_› ‹_› B) (by omega)) Qe9) ?_
 refine Qd ?_
 refine w4 ?_
 refine Qd<|QV ⟨j+1,((QU (leS ps on (more - 1).toNat (Zg ltB v a)) (h,l)).1),((QU (leS ps on (more - 1).toNat (Zg ltB v a)) (h,l)).2),by omega,rfl,(by exact QBu f ‹_› ‹_› w),(by exact (o.next f ‹_› (QaO (c:=i) ‹_› ‹_›)).run (st:=(h,l)) C),(by exact QBt (st:=(h,l)) (QaO (c:=i) ‹_› ‹_›) (QzJ e m ‹_› f ‹_› ‹_› B) n),rfl⟩ (by omega) ?_
 exact wo []
 refine w6 ?_
 refine Qd ?_
 refine lK_ ((e.step m (congrArg (fun b=> !b) (by assumption:(a.any fun c=>QZ c i)=true)))) ?_
 exact wo []
theorem HS (ps:List ByteArray)(on:List ByteArray)(best:List ByteArray)(d:Bool)(a:List ByteArray)(more:Int)(g:SeP ps on a more)(hb:GdL best)(f:d=true→(best.length:Int)=(a.length:Int)+more)(e:∀x∈leS ps on more.toNat a,(x.length:Int)=(a.length:Int)+more):FC Tryz.prog 267 [(false,[.ptr 0 0]),(false,[.dat Qb a]),(false,[dI more])] [bx 0 296 [.dat Qb ps,.dat Qb on,.dat Qb best,dB d]] 1 (Is (PV.tup []) [bx 0 296 [.dat Qb ps,.dat Qb on,.dat Qb ((QU (leS ps on more.toNat a) (best,d)).1),dB ((QU (leS ps on more.toNat a) (best,d)).2)]]):=by
 have H:∀(h:Nat) (ps:List ByteArray) (on:List ByteArray) (best:List ByteArray) (d:Bool) (a:List ByteArray) (more:Int) (g:SeP ps on a more) (hb:GdL best) (f:d=true→(best.length:Int)=(a.length:Int)+more) (e:∀x∈leS ps on more.toNat a,(x.length:Int)=(a.length:Int)+more) (_:more.toNat=h),FC Tryz.prog 267 [(false,[.ptr 0 0]),(false,[.dat Qb a]),(false,[dI more])] [bx 0 296 [.dat Qb ps,.dat Qb on,.dat Qb best,dB d]] 1 (Is (PV.tup []) [bx 0 296 [.dat Qb ps,.dat Qb on,.dat Qb ((QU (leS ps on more.toNat a) (best,d)).1),dB ((QU (leS ps on more.toNat a) (best,d)).2)]]):=fun h=>Nat.strongRecOn h fun h l=>fun ps on best d a more g hb f e i=>Jq (fun ps on best d a more g hb f e m=>l _ m ps on best d a more g hb f e rfl) ps on best d a more g hb f e i
 exact H _ ps on best d a more g hb f e rfl
theorem Qcj (n:Int)(on:List ByteArray)(off:List ByteArray)(r:0≤n∧n≤8)(m:∀c∈on,(c.size:Int)=n)(C:∀c∈off,(c.size:Int)=n)(F:on.length≤1000):FC Tryz.prog 208 [(false,[dI n]),(false,[.dat Qb on]),(false,[.dat Qb off])] [] 0 (QK (PV.tup [(false,[.dat Qb ((fmV (XB (Q2 n on off) on) 7 0).1)]),(false,[dB ((fmV (XB (Q2 n on off) on) 7 0).2)])])):=by
 refine Qj Tryz.func208 rfl rfl Tryz.ntmps208 fun H o G u I B A=> ?_
 refine acI 0 fun _=> ?_
 refine w9 ?_
 refine Qu (fun s t=>∃(a:Int),s=(7 - a).toNat∧(0≤a∧a≤7)∧(∀j:Nat,(j:Int)<a→(XB (Q2 n on off) on j).2=false)∧t=⟨[(0,lI n),(1,lf (.dat Qb on)),(2,lf (.dat Qb off)),(8,lI a)],[]⟩) ⟨0,rfl,by omega,(fun j J=>by omega),rfl⟩ ?_ ?_
 exact wo []
 rintro s t ⟨a,E,l,d,rfl⟩
 refine w5 ?_
 cases f:(decide (a≤6))
 have g:=aa f
 refine w7 ?_
 refine AC.wk (Hk (i:=6) 9 .str rfl)<|Qe ?_
 have v:([]:(Qb:Ty).Den)=((fmV (XB (Q2 n on off) on) 7 0).1):=by
  exact congrArg Prod.fst (lsB d (by omega))
 have w:(false:Bool)=((fmV (XB (Q2 n on off) on) 7 0).2):=by
  exact congrArg Prod.snd (lsB d (by omega))
 exact fr_ o (e:=by first|(rw[v,← w]<;>rfl)|rw[←v,w])
 have g:=ab f
 refine w8 ?_
 refine lc (dK (Uz n on off r m C).frozen Qe8) ?_
 refine w_ ?_
 refine lc (Qk Qt8 ⟨_,_,rfl,(Qn rfl),⟨_,_,rfl,(Qn rfl),rfl⟩⟩ (au.1 rfl) rfl rfl) ?_
 refine xbx 0 ?_
 refine w2 ?_
 refine YC<|AC.wk (WH (p:=0) [.dat Qb (Q2 n on off),.dat Qb on,.dat Qb ([]),dB false] rfl ⟨_,_,rfl,.inl rfl,⟨_,_,rfl,.inl rfl,⟨_,_,rfl,.inr ⟨_,_,rfl,rfl⟩,⟨_,_,rfl,.inl rfl,rfl⟩⟩⟩⟩) ?_
 refine w3 ?_
 refine lc (Qae 1 [(0,0)] (HS (Q2 n on off) on ([]) false ([]:(Qb:Ty).Den) a (sp0 r m F l.1 (by omega)) gd0 (fun h=>by cases h) (Qu9 d l.1)) Qe9 ⟨_,_,rfl,(Qn rfl),⟨_,_,rfl,(Evl.ev Evl.nil),⟨_,_,rfl,(Qn rfl),rfl⟩⟩⟩ ⟨rfl,trivial⟩ rfl ⟨trivial,trivial⟩ (nlr rfl)) ?_
 refine w7 ?_
 cases D:(((QU (leS (Q2 n on off) on a.toNat ([]:(Qb:Ty).Den)) (([]),false)).2))
 refine w7 ?_
 refine Qd<|QV ⟨(a+1),rfl,by omega,(Qsp d l.1 ‹_›),rfl⟩ (by omega) ?_
 exact wo []
 refine w10 ?_
 have y:(((QU (leS (Q2 n on off) on a.toNat ([]:(Qb:Ty).Den)) (([]),false)).1):(Qb:Ty).Den)=((fmV (XB (Q2 n on off) on) 7 0).1):=by
  exact congrArg Prod.fst (lsA d l.1 (by omega) ‹_›)
 have z:(true:Bool)=((fmV (XB (Q2 n on off) on) 7 0).2):=by
  ((rw[← lsA d l.1 (by omega) ‹_›]);exact (by assumption:(XB _ _ _).2=true).symm)
 exact fr_ o (e:=by first|(rw[y,← z]<;>rfl)|rw[←y,z])
def mcV (n:Int)(on off:List ByteArray):List ByteArray:=if PrP n on off then (fmV (XB (Q2 n on off) on) 7 0).1 else []
def mcB (n:Int)(on off:List ByteArray):Bool:=decide (PrP n on off)&&(fmV (XB (Q2 n on off) on) 7 0).2
def nfV [∀c,Decidable (SgOk c)](c:DSg)(sig:Int):List ByteArray:=if Qv c sig QL then mcV (c.1.length:Int) (Qp c sig QL).1 (Qp c sig QL).2 else []
def nfB [∀c,Decidable (SgOk c)](c:DSg)(sig:Int):Bool:=decide (Qv c sig QL)&&mcB (c.1.length:Int) (Qp c sig QL).1 (Qp c sig QL).2
section
variable {n:Int}{ps on off l tk:List ByteArray}{x c p code:ByteArray}{k m:Nat}{f:Nat→List ByteArray×Bool}{s:DSg}{sig:Int}
theorem Qss (h:PrP n on off):mcV n on off=(fmV (XB (Q2 n on off) on) 7 0).1∧mcB n on off=(fmV (XB (Q2 n on off) on) 7 0).2:=by
 refine ⟨if_pos h,?_⟩
 unfold mcB;rw[aN h];rfl
theorem Qvb (h:¬PrP n on off):mcV n on off=[]∧mcB n on off=false:=by
 refine ⟨if_neg h,?_⟩
 unfold mcB;rw[ay h];rfl
theorem QrX:∀(n k:Nat),(fmV f n k).2=true→∃i,i<n∧fmV f n k=f (k+i)∧(f (k+i)).2=true
 | 0,_,h=>by cases h
 | n+1,k,h=>by
  rw[fmV] at h ⊢
  by_cases e:(f k).2=true
  ·rw[if_pos e];exact ⟨0,by omega,rfl,e⟩
  ·rw[if_neg e] at h ⊢
   obtain ⟨i,d,a,b⟩:=QrX n (k+1) h
   exact ⟨i+1,by omega,by rw[a,show k+1+i=k+(i+1) by omega],by rw[show k+(i+1)=k+1+i by omega];exact b⟩
theorem QnX:∀(m:Nat) {tk x:List ByteArray},x∈leS ps on m tk→US on x=none∧∀p∈x,p∈ps∨p∈tk
 | m,tk,x,h=>by
  cases a:US on tk with
  | none=>
   rw[Xn a,aF] at h
   subst h;exact ⟨a,fun p i=> .inr i⟩
  | some c=>
   cases m with
   | zero=>simp only[leS,a] at h;cases h
   | succ m=>
    simp only[leS,a] at h
    obtain ⟨p,b,hx⟩:=cp.1 h
    split at hx
    ·obtain ⟨d,e⟩:=QnX m hx
     refine ⟨d,fun q j=> ?_⟩
     rcases e q j with g|g
     ·exact .inl g
     ·rcases Yg.1 g with rfl|g
      ·exact .inl b
      ·exact .inr g
    ·cases hx
theorem QuT (h:US on l=none):∀c∈on,inC l c=true:=fun c a=>by
 have:=List.find?_eq_none.1 h c a
 simpa using this
theorem QeD {a:ByteArray}{u:UInt8}(d:∀v∈a.toList,Up v)(e:Up u):∀v∈(a++⟨#[u]⟩:ByteArray).toList,Up v:=fun v b=>by
 rw[bm,ByteArray.data_append,Array.toList_append,aQ] at b
 rcases b with b|b
 ·exact d v (by rw[bm];exact b)
 ·have:v=u:=by simpa using b
  rw[this];exact e
theorem QgW:∀{n:Nat} {x:ByteArray},x∈Zx n→∀u∈x.toList,Up u
 | 0,x,h=>fun u a=>by
  rw[Zx,aF] at h;subst h
  rw[bm] at a;cases a
 | n+1,x,h=>by
  rw[Zx,cp] at h
  obtain ⟨c,b,h⟩:=h
  have:=QgW b
  simp only[cuF,aJ,bN,or_false] at h
  rcases h with rfl|rfl|rfl
  ·exact QeD this (.inr (.inr rfl))
  ·exact QeD this (.inl rfl)
  ·exact QeD this (.inr (.inl rfl))
theorem Hx (h:mcB n on off=true):Z1 n (mcV n on off)∧(∀c∈on,inC (mcV n on off) c=true)∧∀c∈off,inC (mcV n on off) c=false:=by
 have d:PrP n on off:=by
  unfold mcB at h
  rw[aM,aU] at h;exact h.1
 rw[(Qss d).2] at h
 rw[(Qss d).1]
 obtain ⟨i,E,e,a⟩:=QrX 7 0 h
 rw[bw] at e a
 rw[e]
 have v:=d.1.1
 have r:US on (XB (Q2 n on off) on i).1=none∧(∀p∈(XB (Q2 n on off) on i).1,p∈Q2 n on off)∧(XB (Q2 n on off) on i).1.length≤6:=by
  refine Qkp (fun l=>US on l=none∧(∀p∈l,p∈Q2 n on off)∧l.length≤6) (xs:=leS (Q2 n on off) on i []) (st:=([],false)) (fun l t=> ?_) (fun h=>by cases h) a
  obtain ⟨z,a⟩:=QnX i t
  obtain ⟨j,D,A,_⟩:=QdW i t
  rw[aC] at A
  exact ⟨z,fun p q=>(a p q).elim id fun g=>(by cases g),by omega⟩
 obtain ⟨C,w,F⟩:=r
 refine ⟨⟨v,by omega,fun c o=> ?_⟩,QuT C,fun c o=> ?_⟩
 ·have u:=(bP.1 (w c o)).1
  exact ⟨QgW u,by rw[Xg u];omega,v⟩
 ·cases y:inC (XB (Q2 n on off) on i).1 c with
  | false=>rfl
  | true=>
   obtain ⟨p,q,B⟩:=bu.1 y
   have b:=(bP.1 (w p q)).2
   unfold prB at b
   rw[aM,aM] at b
   have:UJ p off=true:=bu.2 ⟨c,o,B⟩
   rw[this] at b
   exact absurd b.2.1 (by decide)
section
variable [∀c,Decidable (SgOk c)](hT:Qv s sig QL)(hx:s.2.1[k]? =some x)
theorem QsO {f:Int→Bool}:x∈pkL s f k↔∃i:Nat,i<k∧f (i:Int)=true∧cdA s i=x:=by
 unfold pkL rg
 rw[List.mem_filterMap]
 constructor
 ·rintro ⟨i,b,h⟩
  unfold pkF at h
  split at h
  ·rename_i a
   exact ⟨i,bH.1 b,a,cN h⟩
  ·cases h
 ·rintro ⟨i,b,a,e⟩
  exact ⟨i,bH.2 b,by unfold pkF;rw[if_pos a,e]⟩
theorem Qga {f g:Int→Bool}:x∈(Ku s f g).1↔∃i:Nat,i<s.2.1.length∧f (i:Int)=true∧cdA s i=x:=by
 rw[← QsO (k:=s.2.1.length)];exact WL Yb _
theorem QbO {f g:Int→Bool}:x∈(Ku s f g).2↔∃i:Nat,i<s.2.1.length∧g (i:Int)=true∧cdA s i=x:=by
 rw[← QsO (k:=s.2.1.length)];exact WL Yb _
include hT
theorem QmM:Qp s sig QL=Ku s (fun q=>nsB s sig q) (fun q=> !(nsB s sig q)):=by rw[Qgh hT,QhQ]
theorem Qn8 (a:x∈(Qp s sig QL).1)(b:x∈(Qp s sig QL).2):False:=by
 have e:OOk (s.1.length:Int) (Qp s sig QL).1 (Qp s sig QL).2:=by rw[Qgh hT];exact hT.2
 have d:=cr.1 e.2.2.2 x a
 exact d (bu.2 ⟨x,b,aN rfl⟩)
include hx
theorem QsF:WE (Qp s sig QL).1 x=nsB s sig (k:Int):=by
 have b:=(ai.1 hx).1
 have a:=Qb2 hx
 cases h:nsB s sig (k:Int) with
 | true=>exact WF.2 (by rw[QmM hT];exact Qga.2 ⟨k,b,h,a⟩)
 | false=>
  cases d:WE (Qp s sig QL).1 x with
  | false=>rfl
  | true=>exact (Qn8 hT (WF.1 d) (by rw[QmM hT];exact QbO.2 ⟨k,b,by show (!(nsB s sig (k:Int)))=true;rw[h];rfl,a⟩)).elim
theorem QxE:WE (Qp s sig QL).1 x=true∨WE (Qp s sig QL).2 x=true:=by
 have b:=(ai.1 hx).1
 have a:=Qb2 hx
 cases h:nsB s sig (k:Int) with
 | true=>exact .inl (by rw[QsF hT hx,h])
 | false=>exact .inr (WF.2 (by rw[QmM hT];exact QbO.2 ⟨k,b,by show (!(nsB s sig (k:Int)))=true;rw[h];rfl,a⟩))
theorem QxD (b:nfB s sig=true):ccP (nfV s sig) x∧ccV (nfV s sig) x=nsB s sig (k:Int):=by
 have r:mcB (s.1.length:Int) (Qp s sig QL).1 (Qp s sig QL).2=true:=by
  unfold nfB at b
  rw[aM] at b;exact b.2
 have e:nfV s sig=mcV (s.1.length:Int) (Qp s sig QL).1 (Qp s sig QL).2:=if_pos hT
 obtain ⟨a,d,g⟩:=Hx r
 rw[← e] at a d g
 have j:=hT.1.1.codes x (ae hx)
 have t:(x.size:Int)=(s.1.length:Int):=j.2
 have i:ccP (nfV s sig) x:=⟨by rw[t];exact a,⟨⟨j.1,rfl⟩,by have:=a.1;omega⟩⟩
 refine ⟨i,?_⟩
 have o:ccV (nfV s sig) x=inC (nfV s sig) x:=by unfold ccV;rw[aN i];rfl
 rw[o,← QsF hT hx]
 rcases QxE hT hx with h|h
 ·rw[h];exact d x (WF.1 h)
 ·rw[g x (WF.1 h)]
  cases q:WE (Qp s sig QL).1 x with
  | false=>rfl
  | true=>exact (Qn8 hT (WF.1 q) (WF.1 h)).elim
end
end
section
variable {n:Int}{on off:List ByteArray}
theorem Qxu (h:OOk n on off):mnV n on off=(mcV n on off,mcB n on off):=by
 by_cases a:((Q2 n on off).length:Int)≤60
 ·obtain ⟨b,d⟩:=Qss (n:=n) (on:=on) (off:=off) ⟨h,a⟩
  rw[Qxz a,b,d,Qxv]
 ·obtain ⟨b,d⟩:=Qvb (n:=n) (on:=on) (off:=off) fun g=>a g.2
  rw[Qxy a,b,d]
theorem Qzp (h:¬OOk n on off):mcV n on off=[]∧mcB n on off=false:=Qvb fun g=>h g.1
theorem Qcy (h:OOk n on off):on.length≤1000:=by have:=h.2.1.2;omega
section
variable [∀c,Decidable (SgOk c)]{c:DSg}{sig:Int}
theorem Qvh (h:Qv c sig QL):nfV c sig=mcV (c.1.length:Int) (Qp c sig QL).1 (Qp c sig QL).2∧nfB c sig=mcB (c.1.length:Int) (Qp c sig QL).1 (Qp c sig QL).2:=by
 refine ⟨if_pos h,?_⟩
 unfold nfB;rw[aN h];rfl
theorem QxC (h:¬Qv c sig QL):nfV c sig=[]∧nfB c sig=false:=by
 refine ⟨if_neg h,?_⟩
 unfold nfB;rw[ay h];rfl
end
end
theorem JM (n:Int)(on:List ByteArray)(off:List ByteArray):FC Tryz.prog 122 [(false,[dI n]),(false,[.dat Qb on]),(false,[.dat Qb off])] [] 0 (QK (PV.tup [(false,[.dat Qb (mcV n on off)]),(false,[dB (mcB n on off)])])):=by
 refine Qj Tryz.func122 rfl rfl Tryz.ntmps122 fun p d o f q m l=> ?_
 refine acI 0 fun _=> ?_
 refine w9 ?_
 refine lc (dK (Xk n on off) Qao) ?_
 refine w2 ?_
 cases a:(decide (OOk n on off))
 have b:=aa a
 refine w5 ?_
 refine AC.wk (Hk (i:=6) 9 .str rfl)<|Qe ?_
 have g:([]:(Qb:Ty).Den)=(mcV n on off):=by
  exact (Qzp ‹_›).1.symm
 have h:(false:Bool)=(mcB n on off):=by
  exact (Qzp ‹_›).2.symm
 exact fr_ d (e:=by first|(rw[g,← h]<;>rfl)|rw[←g,h])
 have b:=ab a
 refine w6 ?_
 refine lc (dK (Va n on off (by have:=(by assumption:OOk n on off).1;omega) (QfS (by assumption:OOk n on off)) (QaL (by assumption:OOk n on off)) (Qcy (by assumption:OOk n on off))) Qb6) ?_
 refine w6 ?_
 have j:((mnV n on off).1:(Qb:Ty).Den)=(mcV n on off):=by
  exact congrArg Prod.fst (Qxu ‹_›)
 have k:((mnV n on off).2:Bool)=(mcB n on off):=by
  exact congrArg Prod.snd (Qxu ‹_›)
 exact fr_ d (e:=by first|(rw[j,k]<;>rfl)|rw[←j,←k])
theorem Xl (n:Int)(on:List ByteArray)(off:List ByteArray):FC Tryz.prog 133 [(false,[dI n]),(false,[.dat Qb on]),(false,[.dat Qb off])] [] 0 (QK (PV.tup [(false,[.dat Qb (mcV n on off)]),(false,[dB (mcB n on off)])])):=by
 refine Qj Tryz.func133 rfl rfl Tryz.ntmps133 fun p d o f q m l=> ?_
 refine acI 0 fun _=> ?_
 refine w9 ?_
 refine lc (dG 0 (Qft n on off) QlA) ?_
 refine w10 ?_
 cases a:(decide (PrP n on off))
 have b:=aa a
 refine w5 ?_
 refine AC.wk (Hk (i:=6) 9 .str rfl)<|Qe ?_
 have g:([]:(Qb:Ty).Den)=(mcV n on off):=by
  exact (Qvb ‹_›).1.symm
 have h:(false:Bool)=(mcB n on off):=by
  exact (Qvb ‹_›).2.symm
 exact fr_ d (e:=by first|(rw[g,← h]<;>rfl)|rw[←g,h])
 have b:=ab a
 refine w6 ?_
 refine lc (dK (Qcj n on off (by have:=(by assumption:PrP n on off).1.1;omega) (QfS (by assumption:PrP n on off).1) (QaL (by assumption:PrP n on off).1) (Qcy (by assumption:PrP n on off).1)) QlB) ?_
 refine w6 ?_
 have j:((fmV (XB (Q2 n on off) on) 7 0).1:(Qb:Ty).Den)=(mcV n on off):=by
  exact (Qss ‹_›).1.symm
 have k:((fmV (XB (Q2 n on off) on) 7 0).2:Bool)=(mcB n on off):=by
  exact (Qss ‹_›).2.symm
 exact fr_ d (e:=by first|(rw[j,k]<;>rfl)|rw[←j,←k])
theorem Ul (c:ZM)(sig:Int)[∀c,Decidable (SgOk c)]:FC Tryz.prog 50 [(true,[.dat Ql c.1,.dat Qb c.2.1,.dat QA c.2.2]),(false,[dI sig])] [] 0 (QK (PV.tup [(false,[.dat Qb (nfV c sig)]),(false,[dB (nfB c sig)])])):=by
 refine Qj Tryz.func50 rfl rfl Tryz.ntmps50 fun p d o f q m l=> ?_
 refine acI 1 fun _=> ?_
 refine w_ ?_
 refine xbx 0 ?_
 refine w6 ?_
 refine lc (dK (Jm c sig).frozenG Qk5) ?_
 refine w3 ?_
 refine lc (xal 1 X9 YE) ?_
 refine w8 ?_
 cases a:(decide (Qv c sig QL))
 have b:=aa a
 refine w5 ?_
 refine AC.wk (Hk (i:=4) 9 .str rfl)<|Qe ?_
 have g:([]:(Qb:Ty).Den)=(nfV c sig):=by
  exact (QxC ‹_›).1.symm
 have h:(false:Bool)=(nfB c sig):=by
  exact (QxC ‹_›).2.symm
 exact fr_ d (e:=by first|(rw[g,← h]<;>rfl)|rw[←g,h])
 have b:=ab a
 refine w5 ?_
 refine alL 17 fun _=> ?_
 refine w5 ?_
 refine lc (dK (JM (c.1.length:Int) ((Qp c sig QL).1) ((Qp c sig QL).2)) Qk6) ?_
 refine w6 ?_
 have j:(mcV (c.1.length:Int) ((Qp c sig QL).1) ((Qp c sig QL).2):(Qb:Ty).Den)=(nfV c sig):=by
  exact (Qvh ‹_›).1.symm
 have k:(mcB (c.1.length:Int) ((Qp c sig QL).1) ((Qp c sig QL).2):Bool)=(nfB c sig):=by
  exact (Qvh ‹_›).2.symm
 exact fr_ d (e:=by first|(rw[j,k]<;>rfl)|rw[←j,←k])
end Go.Proofs.YtjfpbcmfbnnooaaGreat
