/- Walks over abstract states: the primes of a function, both sides. -/
import Derived.Test.YtjfpbcmfbnnooaaGreatGHo
import Derived.Test.YtjfpbcmfbnnooaaGreatGHc
import Derived.Test.YtjfpbcmfbnnooaaGreatGFb
set_option linter.unusedSimpArgs false
set_option linter.unusedVariables false
set_option linter.unusedSectionVars false
namespace Go.Proofs.YtjfpbcmfbnnooaaGreat
open Go.RowKit
set_option maxRecDepth 100000
set_option maxHeartbeats 4000000
def dpB (on off:List ByteArray)(x:ByteArray):Bool:= !(prB on off x)
section
variable {n:Int}{k:Nat}{x:ByteArray}{l on off:List ByteArray}
theorem QBo (a:UJ x on=true)(b:UJ x off=false):prB on off x=Qdq x off:=by unfold prB;rw[a,b];simp
theorem Qwa (f:0≤n)(b:x∈Zx n.toNat)(h:∀c∈l,(c.size:Int)=n):∀c∈l,x.size≤c.size:=fun c a=>by
 have d:=Xg b
 have e:=h c a
 omega
theorem Qv9 (b:0≤n∧n≤8)(d:∀c∈on,(c.size:Int)=n)(e:∀c∈off,(c.size:Int)=n):∀x∈Zx n.toNat,x.size≤1000∧(∀c∈on,x.size≤c.size)∧∀c∈off,x.size≤c.size:=fun x a=>by
 have:=Xg a
 exact ⟨by omega,Qwa b.1 a d,Qwa b.1 a e⟩
theorem QBf {b:Bool}(h:(!b)=false):b=true:=by simpa using h
theorem QBe {b:Bool}(h:(!b)=true):b=false:=by simpa using h
theorem QsP:(l.filter fun x=> !(dpB on off x))=l.filter (prB on off):=by simp only[dpB,Bool.not_not]
end
theorem Ka (cube:ByteArray)(on:List ByteArray)(off:List ByteArray)(a:cube.size≤1000∧(∀c∈on,cube.size≤c.size)∧∀c∈off,cube.size≤c.size):FC Tryz.prog 213 [(false,[dS cube]),(false,[.ptr 0 0]),(false,[.ptr 1 0])] [bx 0 25 [.dat Qb on],bx 1 25 [.dat Qb off]] 2 (Is (lB (dpB on off cube)) [bx 0 25 [.dat Qb on],bx 1 25 [.dat Qb off]]):=by
 refine Qj Tryz.func213 rfl rfl Tryz.ntmps213 fun q d p e r j i=> ?_
 refine w6 ?_
 refine lc (dK (VZ cube on (by first|exact a.2.1|exact a.2.2)) Qar) ?_
 refine w_ ?_
 cases m:(UJ cube on)
 refine w14 ?_
 have f:(true:Bool)=(dpB on off cube):=by
  exact (congrArg (fun b=> !b) (Qkf ‹_›)).symm
 exact fi_ [] d ⟨rfl,rfl,trivial⟩ (h0:=by first|(rw[← f]<;>rfl)|rw[f])
 refine w2 ?_
 refine lgy rfl rfl (dK (VZ cube off (by first|exact a.2.1|exact a.2.2)) Qar) ?_
 refine w3 ?_
 cases o:(!(UJ cube off))
 refine w8 ?_
 have g:(true:Bool)=(dpB on off cube):=by
  exact (congrArg (fun b=> !b) (Qkg (QBf ‹_›))).symm
 exact fi_ [] d ⟨rfl,rfl,trivial⟩ (h0:=by first|(rw[← g]<;>rfl)|rw[g])
 refine w2 ?_
 refine lgy rfl rfl (dK (Qc9 cube off a.2.2 a.1) QlE) ?_
 refine w5 ?_
 have h:(!(Qdq cube off):Bool)=(dpB on off cube):=by
  exact (congrArg (fun b=> !b) (QBo ‹_› (QBe ‹_›))).symm
 exact fi_ [] d ⟨rfl,rfl,trivial⟩ (h0:=by first|(rw[h]<;>rfl)|rw[←h])
theorem U4 (l:List ByteArray)(on:List ByteArray)(off:List ByteArray)(u:l.length≤1000000)(q:∀x∈l,x.size≤1000∧(∀c∈on,x.size≤c.size)∧∀c∈off,x.size≤c.size):FC Tryz.prog 223 [(false,[.ref 2]),(false,[.clo 213 [0,1]])] [bx 0 25 [.dat Qb on],bx 1 25 [.dat Qb off],ar 2 9 .str l] 3 (Is (lI (Zf (fun x=>dpB on off x) l)) [bx 0 25 [.dat Qb on],bx 1 25 [.dat Qb off],ar 2 9 .str l]):=by
 refine Qj Tryz.func223 rfl rfl Tryz.ntmps223 fun s g r h t o m=> ?_
 refine w10 ?_
 refine lpK l.length (fun k=>NoneTo (fun x=>dpB on off x) l k) (fun k=>⟨[(0,lR 2),(1,lf (.clo 213 [0,1])),(7,lI (l.length:Int)),(8,lI (k:Int))],[bx 0 25 [.dat Qb on],bx 1 25 [.dat Qb off],ar 2 9 .str l]⟩) (NoneTo.zero) ?_ fun k _ a=> ?_
 exact wo []
 refine w4 ?_
 cases d:(decide ((k:Int)<(l.length:Int)))
 have e:=aa d
 refine w7 ?_
 have i:((-1):Int)=(Zf (fun x=>dpB on off x) l):=by
  first|exact (a.no (by omega)).symm
 exact fi_ [] g ⟨rfl,rfl,rfl,trivial⟩ (h0:=by first|(rw[← i]<;>rfl)|rw[i])
 have e:=ab d
 refine w13 ?_
 obtain ⟨f,b⟩:=gx l k
 refine w_ ?_
 refine lc (Q3 (args0:=[(false,[dS f])]) (caps:=[0,1]) 3 [(0,0),(1,1)] (Ka f on off (q _ (ae b))) Qe1 rfl (Qa rfl) rfl rfl ⟨_,_,rfl,(Qn rfl),rfl⟩ ⟨rfl,rfl,trivial⟩ rfl ⟨trivial,trivial,trivial⟩ (nlr rfl)) ?_
 refine w_ ?_
 cases p:(dpB on off f)
 refine w6 ?_
 refine Qd ?_
 refine lK_ (a.step b ‹_›) ?_
 exact wo []
 refine w6 ?_
 have j:((k:Int):Int)=(Zf (fun x=>dpB on off x) l):=by
  exact (a.at b ‹_›).symm
 exact fi_ [] g ⟨rfl,rfl,rfl,trivial⟩ (h0:=by first|(rw[j]<;>rfl)|rw[←j])
theorem UM (l:List ByteArray)(on:List ByteArray)(off:List ByteArray)(C:l.length≤1000000)(r:∀x∈l,x.size≤1000∧(∀c∈on,x.size≤c.size)∧∀c∈off,x.size≤c.size):FC Tryz.prog 211 [(false,[.ref 2]),(false,[.clo 213 [0,1]])] [bx 0 25 [.dat Qb on],bx 1 25 [.dat Qb off],ar 2 9 .str l] 2 (Is (lR 3) [bx 0 25 [.dat Qb on],bx 1 25 [.dat Qb off],ar 3 9 .str (l.filter (fun x=> !(dpB on off x)))]):=by
 have B:=QfC (fun x=>dpB on off x) l
 refine Qj Tryz.func211 rfl rfl Tryz.ntmps211 fun G q F u H w v=> ?_
 refine w6 ?_
 refine lc (dP 3 [] (U4 l on off C r) WB) ?_
 refine w7 ?_
 refine cd_ (fun _ _=> ?_) fun _ _=> ?_
 refine w8 ?_
 refine Qu (fun s t=>∃(i:Int) (j:Int) (d:List ByteArray),s=((d.length:Int) - j).toNat∧(DelI (fun x=> !(dpB on off x)) l d i j)∧t=⟨[(0,lR 6),(1,lf (.clo 213 [0,1])),(4,lf (.val (.slice none 0 0))),(5,lI i),(6,lI j)],[bx 0 25 [.dat Qb on],bx 1 25 [.dat Qb off],ar 6 9 .str d]⟩) ⟨Zf (fun x=>dpB on off x) l,(Zf (fun x=>dpB on off x) l)+1,l,rfl,(DelI.start ‹_›),rfl⟩ ?_ ?_
 exact wo [(6,2)]
 rintro s t ⟨i,j,d,D,g,rfl⟩
 have y:=g.1
 have z:=g.2.1
 refine w7 ?_
 cases m:(decide (j<(d.length:Int)))
 have o:=aa m
 refine w6 ?_
 refine lc (Zq (e:= .str) (a:=(i).toNat) (b:=d.length - (i).toNat) (l:=(some i)) (h:=none) (Qa rfl) rfl (by exact (Qa rfl)) (by exact trivial) Zz ZX rfl (by first|(simp only[ak,aj];omega)|omega|(simp only[ak,aj,ah,ap,az];omega)) (by first|(simp only[ak,aj];omega)|omega|(simp only[ak,aj,ah,ap,az];omega)) (by first|(simp only[ak,aj];omega)|omega|(simp only[ak,aj,ah,ap,az];omega)) (by first|rfl|simp) (by first|rfl|simp))<|lc (Ur (e:= .str) (Qa rfl) rfl (by omega) Zz Z3 rfl rfl rfl) ?_
 refine w4 ?_
 refine lc (Zq (e:= .str) (a:=0) (b:=(i).toNat) (l:=none) (h:=(some i)) (Qa rfl) rfl (by exact trivial) (by exact (Qa rfl)) Zz ZX rfl (by first|(simp only[ak,aj];omega)|omega|(simp only[ak,aj,ah,ap,az];omega)) (by first|(simp only[ak,aj];omega)|omega|(simp only[ak,aj,ah,ap,az];omega)) (by first|(simp only[ak,aj];omega)|omega|(simp only[ak,aj,ah,ap,az];omega)) (by first|rfl|simp) (by first|rfl|simp)) ?_
 refine w2 ?_
 refine AC.wk (KE 7 4 (e:= .str) (xs:=d.take ((i).toNat)++List.replicate (d.length - (i).toNat) (Ty.zero .str)) rfl rfl (by first|omega|(simp only[ah,ap,az];omega)) rfl (Fresh.of rfl) (nlr rfl))<|Qe ?_
 exact fi_ [(3,7)] q ⟨rfl,rfl,(Qm (by exact g.end_ ‹_› _ (by omega))),trivial⟩
 have o:=ab m
 refine w8 ?_
 obtain ⟨f,E⟩:=gx d ((j).toNat)
 refine w6 ?_
 refine lc (Q3 (args0:=[(false,[dS f])]) (caps:=[0,1]) 8 [(0,0),(1,1)] (Ka f on off (r _ (ae (g.at_ (x:=f) ‹_›)))) Qe1 rfl (Qa rfl) rfl rfl ⟨_,_,rfl,(Qn rfl),rfl⟩ ⟨rfl,rfl,trivial⟩ rfl ⟨trivial,trivial,trivial⟩ (nlr rfl)) ?_
 refine w2 ?_
 cases A:(dpB on off f)
 refine w6 ?_
 obtain ⟨I,p⟩:=gx d ((i).toNat)
 refine lc (QB (e:= .str) (z':=f) (Qa rfl) rfl p rfl (Qn rfl) rfl ZX rfl rfl) ?_
 refine w5 ?_
 refine Qd ?_
 refine w5 ?_
 refine Qd<|QV ⟨(i+1),(j+1),(d.set ((i).toNat) f),rfl,(by exact g.keep (x:=f) ‹_› (by simp[*])),rfl⟩ (by first|omega|(simp only[aD];omega)) ?_
 exact wp [] ⟨rfl,rfl,(Qm (by first|rfl|simp)),trivial⟩
 refine w7 ?_
 refine Qd<|QV ⟨i,(j+1),d,rfl,(by exact g.drop_ (x:=f) ‹_› (by simp[*])),rfl⟩ (by first|omega|(simp only[aD];omega)) ?_
 exact wo []
 refine w5 ?_
 exact fi_ [(3,2)] q ⟨rfl,rfl,(Qm (by exact JX ‹_›)),trivial⟩
theorem Qfr (n:Int)(on:List ByteArray)(off:List ByteArray)(a:0≤n∧n≤8)(g:∀c∈on,(c.size:Int)=n)(h:∀c∈off,(c.size:Int)=n):FC Tryz.prog 136 [(false,[dI n]),(false,[.dat Qb on]),(false,[.dat Qb off])] [] 0 (Is (PV.tup [(false,[.ref 0]),(false,[dB (decide (((Q2 n on off).length:Int)≤60))])]) [ar 0 9 .str (Q2 n on off)]):=by
 refine Qj Tryz.func136 rfl rfl Tryz.ntmps136 fun m i j b o f e=> ?_
 refine acI 0 fun _=> ?_
 refine w_ ?_
 refine xbx 0 ?_
 refine xbx 1 ?_
 refine w5 ?_
 refine lc (dO 2 (Qcc n a) QlD) ?_
 refine lc (Q1 ⟨_,_,rfl,(Qa rfl),rfl,⟨_,_,rfl,(Qa rfl),rfl,rfl⟩⟩ rfl) ?_
 refine lc (dP 3 [] (UM (Zx n.toNat) on off (by have:=KJ (n:=n.toNat) (by omega);omega) (Qv9 a g h)) Qe0) ?_
 refine w11 ?_
 have d:(decide ((((Zx n.toNat).filter (fun x=> !(dpB on off x))).length:Int)≤60):Bool)=(decide (((Q2 n on off).length:Int)≤60)):=by
  (rw[QsP];rfl)
 exact fi_ [(0,6)] i ⟨(Qm (by exact QsP)),trivial⟩ (h0:=by first|(rw[d]<;>rfl)|rw[←d])
theorem Uz (n:Int)(on:List ByteArray)(off:List ByteArray)(i:0≤n∧n≤8)(q:∀c∈on,(c.size:Int)=n)(r:∀c∈off,(c.size:Int)=n):FC Tryz.prog 266 [(false,[dI n]),(false,[.dat Qb on]),(false,[.dat Qb off])] [] 0 (Xv 9 .str (Q2 n on off)):=by
 refine Qj Tryz.func266 rfl rfl Tryz.ntmps266 fun z s y m A p o=> ?_
 refine acI 0 fun _=> ?_
 refine w9 ?_
 refine lc (dK (Qci n i).frozen Qma) ?_
 refine alL 11 fun _=> ?_
 refine w4 ?_
 refine AC.wk (Wk.nilS 0 7 9 .str rfl (Fresh.of rfl) (nlr rfl)) ?_
 refine lp0 ((Zx n.toNat).length) (fun k=>⟨[(1,lf (.dat Qb on)),(2,lf (.dat Qb off)),(6,lf (.val (.slice none 0 0))),(7,lR 1),(11,lf (.dat Qb (Zx n.toNat))),(12,lI ((Zx n.toNat).length:Int)),(13,lI (k:Int))],[ar 1 9 .str (QcY n on off k)]⟩) ?_ fun k _=> ?_
 exact wp [(1,0)] ⟨(Qm (rfl)),trivial⟩
 have w:=Qvq (n:=n) (on:=on) (off:=off) (k:=k) i.2
 refine w4 ?_
 cases f:(decide ((k:Int)<((Zx n.toNat).length:Int)))
 have g:=aa f
 refine w7 ?_
 refine Qe<|fo_ s ?_
 exact QpX (by omega)
 have g:=ab f
 refine w5 ?_
 obtain ⟨d,j⟩:=gx (Zx n.toNat) k
 have a:=j
 have h:=ae a
 have b:=Qv9 i q r _ h
 refine w7 ?_
 refine lc (dK (V7 d on (by first|exact b.2.1|exact b.2.2)) Qax) ?_
 refine w_ ?_
 cases t:(UJ d on)
 refine w16 ?_
 refine w_ ?_
 refine Qd ?_
 refine l0_ ?_
 exact wp [] ⟨(Qm (by first|exact Qd3 a (Qvp ‹_› ‹_› ‹_›)|exact XU a (Qkf ‹_›)|exact XU a (Qkg ‹_›)|exact XU a (Qoi ‹_›))),trivial⟩
 refine w2 ?_
 refine lgy rfl rfl (dK (V7 d off (by first|exact b.2.1|exact b.2.2)) Qax) ?_
 refine w3 ?_
 cases u:(UJ d off)
 refine w2 ?_
 refine lgy rfl rfl (dK (Qck d off b.2.2 b.1) Qmb) ?_
 refine w2 ?_
 cases v:(Qdq d off)
 refine w6 ?_
 refine Qd ?_
 refine l0_ ?_
 exact wp [] ⟨(Qm (by first|exact Qd3 a (Qvp ‹_› ‹_› ‹_›)|exact XU a (Qkf ‹_›)|exact XU a (Qkg ‹_›)|exact XU a (Qoi ‹_›))),trivial⟩
 refine w4 ?_
 refine lc (dBs 2 (e:= .str) Z3) ?_
 refine lc (dA 3 YW) ?_
 refine w_ ?_
 refine Qd ?_
 refine w4 ?_
 refine Qd ?_
 refine l0_ ?_
 exact wp [(1,3)] ⟨(Qm (by first|exact Qd3 a (Qvp ‹_› ‹_› ‹_›)|exact XU a (Qkf ‹_›)|exact XU a (Qkg ‹_›)|exact XU a (Qoi ‹_›))),trivial⟩
 refine w11 ?_
 refine Qd ?_
 refine l0_ ?_
 exact wp [] ⟨(Qm (by first|exact Qd3 a (Qvp ‹_› ‹_› ‹_›)|exact XU a (Qkf ‹_›)|exact XU a (Qkg ‹_›)|exact XU a (Qoi ‹_›))),trivial⟩
section
variable {n:Int}{on off:List ByteArray}
def PrP (n:Int)(on off:List ByteArray):Prop:=OOk n on off∧((Q2 n on off).length:Int)≤60
instance (n:Int) (on off:List ByteArray):Decidable (PrP n on off):=inferInstanceAs (Decidable (_∧_))
def QsS (n:Int)(on off:List ByteArray):List ByteArray:=if PrP n on off then Q2 n on off else []
theorem QfS (h:OOk n on off):∀c∈on,(c.size:Int)=n:=fun c a=>(h.2.1.1.1 c a).2
theorem QaL (h:OOk n on off):∀c∈off,(c.size:Int)=n:=fun c a=>(h.2.2.1.1.1 c a).2
theorem Qwl (h:OOk n on off)(a:¬(60:Int)<((Q2 n on off).length:Int)):QsS n on off=Q2 n on off∧decide (PrP n on off)=true:=by
 have:PrP n on off:=⟨h,by omega⟩
 exact ⟨if_pos this,aN this⟩
theorem Qoh (h:¬PrP n on off):QsS n on off=[]∧decide (PrP n on off)=false:=⟨if_neg h,ay h⟩
end
theorem Qft (n:Int)(on:List ByteArray)(off:List ByteArray):FC Tryz.prog 207 [(false,[dI n]),(false,[.dat Qb on]),(false,[.dat Qb off])] [] 0 (Is (PV.tup [(false,[.ref 0]),(false,[dB (decide (PrP n on off))])]) [ar 0 9 .str (QsS n on off)]):=by
 refine Qj Tryz.func207 rfl rfl Tryz.ntmps207 fun l c k d m j i=> ?_
 refine acI 0 fun _=> ?_
 refine w9 ?_
 refine lc (dK (Ja n on off) Qe7) ?_
 refine w2 ?_
 cases a:(decide (OOk n on off))
 have b:=aa a
 refine w5 ?_
 refine AC.wk (Wk.nilS 0 6 9 .str rfl (Fresh.of rfl) (nlr rfl))<|Qe ?_
 have e:(false:Bool)=(decide (PrP n on off)):=by
  exact (Qoh (fun g=>absurd g.1 ‹_›)).2.symm
 exact fi_ [] c ⟨(Qm (by exact (Qoh (fun g=>absurd g.1 ‹_›)).1.symm)),trivial⟩ (h0:=by first|(rw[← e]<;>rfl)|rw[e])
 have b:=ab a
 refine w6 ?_
 refine lc (dO 1 (Uz n on off (by have:=(by assumption:OOk n on off).1;omega) (QfS ‹_›) (QaL ‹_›)) Qe8) ?_
 refine w8 ?_
 refine cd_ (fun _ _=> ?_) fun _ _=> ?_
 refine w7 ?_
 have f:(true:Bool)=(decide (PrP n on off)):=by
  exact (Qwl ‹_› ‹_›).2.symm
 exact fi_ [(0,1)] c ⟨(Qm (by exact (Qwl ‹_› ‹_›).1.symm)),trivial⟩ (h0:=by first|(rw[← f]<;>rfl)|rw[f])
 refine w4 ?_
 refine AC.wk (Wk.nilS 2 6 9 .str rfl (Fresh.of rfl) (nlr rfl))<|Qe ?_
 have h:(false:Bool)=(decide (PrP n on off)):=by
  exact (Qoh (fun g=>by have:=g.2;omega)).2.symm
 exact fi_ [(0,2)] c ⟨(Qm (by exact (Qoh (fun g=>by have:=g.2;omega)).1.symm)),trivial⟩ (h0:=by first|(rw[← h]<;>rfl)|rw[h])
def inC (l:List ByteArray)(c:ByteArray):Bool:=l.any fun p=>QZ p c
def QaI (c:ByteArray)(k:Nat):Int:=(((List.range k).filter fun i:Nat=> !decide (bAt c (i:Int)=45)).length:Int)
def QaJ (l:List ByteArray)(k:Nat):Int:=((l.take k).map fun c=>QaI c c.size).sum
def YF (l:List ByteArray):Int:=QaJ l l.length
def UK (x y:ByteArray):Int:=if ltB x y then -1 else if ltB y x then 1 else 0
def Xe:List ByteArray→List ByteArray→Int
 | [],[]=>0
 | [],_::_=> -1
 | _::_,[]=>1
 | x::a,y::b=>if UK x y=0 then Xe a b else UK x y
def btB (l:List ByteArray)(st:List ByteArray×Bool):Bool:= !st.2||(decide (YF l<YF st.1)||(decide (YF l=YF st.1)&&decide (Xe l st.1<0)))
def upS (st:List ByteArray×Bool)(l:List ByteArray):List ByteArray×Bool:=if btB l st=true then (l,true) else st
def QU (xs:List (List ByteArray))(st:List ByteArray×Bool):List ByteArray×Bool:=xs.foldl upS st
def lfI (m:Nat)(l:List ByteArray):List (List ByteArray):=if (Zp (Zd l)).length=l.length∧m=0 then [Zd l] else []
def leI (ps:List ByteArray):Nat→List ByteArray→List ByteArray→List (List ByteArray)
 | 0,on,l=>match on with
  | []=>lfI 0 l
  | _::_=>[]
 | m+1,on,l=>match on with
  | []=>lfI (m+1) l
  | c::_=>ps.flatMap fun p=>if QZ p c=true then leI ps m (on.filter fun x=> !(QZ p x)) (l++[p]) else []
def US (on tk:List ByteArray):Option ByteArray:=on.find? fun c=> !(inC tk c)
def leS (ps on:List ByteArray):Nat→List ByteArray→List (List ByteArray)
 | 0,tk=>match US on tk with
  | none=>[tk]
  | some _=>[]
 | m+1,tk=>match US on tk with
  | none=>[tk]
  | some c=>ps.flatMap fun p=>if QZ p c=true then leS ps on m (Zg ltB p tk) else []
def Qds (ps on:List ByteArray)(k:Nat):List ByteArray×Bool:=QU (leI ps k on []) ([],false)
def XB (ps on:List ByteArray)(k:Nat):List ByteArray×Bool:=QU (leS ps on k []) ([],false)
def fmV (f:Nat→List ByteArray×Bool):Nat→Nat→List ByteArray×Bool
 | 0,_=>([],false)
 | n+1,k=>if (f k).2=true then f k else fmV f n (k+1)
def GdL (l:List ByteArray):Prop:=l.length≤100∧∀x∈l,x.size≤1000
section
variable {ps on l tk best rest:List ByteArray}{xs ys:List (List ByteArray)}{st:List ByteArray×Bool}{k m:Nat}{more:Int}{c p x:ByteArray}{f g:Nat→List ByteArray×Bool}{b:Bool}
theorem Qko:QU (xs++ys) st=QU ys (QU xs st):=cP
theorem QvN (h:st.2=true):(upS st l).2=true:=by
 unfold upS
 split
 ·rfl
 ·exact h
theorem QvO (h:st.2=false):upS st l=(l,true):=by unfold upS btB;rw[h];rfl
theorem Qs2:(QU xs st).2=(st.2|| !xs.isEmpty):=by
 induction xs generalizing st with
 | nil=>simp[QU]
 | cons l xs a=>
  show (QU xs (upS st l)).2=_
  rw[a]
  have:(upS st l).2=true:=by
   cases h:st.2 with
   | true=>exact QvN h
   | false=>rw[QvO h]
  rw[this];simp
theorem Qvv (h:(QU xs ([],false)).2=false):xs=[]:=by rw[Qs2] at h;simpa using h
theorem Qkp (Q:List ByteArray→Prop)(h:∀l∈xs,Q l)(h0:st.2=true→Q st.1):(QU xs st).2=true→Q (QU xs st).1:=by
 induction xs generalizing st with
 | nil=>exact h0
 | cons l xs d=>
  refine d (fun z a=>h z (aA _ a)) (st:=upS st l) ?_
  unfold upS
  split
  ·exact fun _=>h l (aB ..)
  ·exact h0
theorem Qov (Q:List ByteArray→Prop)(h:∀l∈xs,Q l)(h0:Q st.1):Q (QU xs st).1:=by
 induction xs generalizing st with
 | nil=>exact h0
 | cons l xs d=>
  refine d (fun z a=>h z (aA _ a)) (st:=upS st l) ?_
  unfold upS
  split
  ·exact h l (aB ..)
  ·exact h0
theorem QdV (h:on=[]):leI ps m on l=lfI m l:=by subst h;cases m <;> rfl
theorem Qze (h:¬on=[]):leI ps 0 on l=[]:=by cases on with|nil=>exact absurd rfl h|cons c t=>rfl
def ch1 (ps on l:List ByteArray)(more:Int)(c p:ByteArray):List (List ByteArray):=if QZ p c=true then leI ps (more - 1).toNat (on.filter fun x=> !(QZ p x)) (l++[p]) else []
def chK (ps on l:List ByteArray)(more:Int)(c:ByteArray)(k:Nat):List (List ByteArray):=(ps.take k).flatMap (ch1 ps on l more c)
theorem Qzf (h:on[0]? =some c)(a:0<more):leI ps more.toNat on l=ps.flatMap (ch1 ps on l more c):=by
 obtain ⟨m,rfl⟩:∃m:Nat,more=(m:Int)+1:=⟨(more - 1).toNat,by omega⟩
 cases on with
 | nil=>cases h
 | cons d t=>
  obtain rfl:d=c:=by simpa using h
  rw[show ((m:Int)+1).toNat=m+1 by omega]
  unfold ch1
  rw[show ((m:Int)+1 - 1).toNat=m by omega]
  rfl
theorem QyB (a:ps[k]? =some p)(h:QZ p c=true)(e:st=QU (chK ps on l more c k) (best,b)):QU (leI ps (more - 1).toNat (on.filter fun x=> !(QZ p x)) (l++[p])) st=QU (chK ps on l more c (k+1)) (best,b):=by
 have:chK ps on l more c (k+1)=chK ps on l more c k++leI ps (more - 1).toNat (on.filter fun x=> !(QZ p x)) (l++[p]):=by
  unfold chK
  rw[QE a,cB]
  simp[ch1,h]
 rw[this,Qko,← e]
theorem QyA (a:ps[k]? =some p)(h:QZ p c=false):chK ps on l more c k=chK ps on l more c (k+1):=by
 unfold chK
 rw[QE a,cB]
 simp[ch1,h]
theorem Quc (h:on[0]? =some c)(d:0<more)(a:ps.length≤k):chK ps on l more c k=leI ps more.toNat on l:=by rw[Qzf h d,chK,aP a]
theorem Qsm (h:GdL l):∀x∈lfI m l,GdL x:=fun x a=>by
 unfold lfI at a
 split at a
 ·rw[aF] at a
  subst a
  exact ⟨by rw[Z8];exact h.1,fun y d=>h.2 y ((Xp l).mem_iff.1 d)⟩
 ·cases a
theorem QnH (h:∀x∈l,x.size≤1000)(d:p.size≤1000):∀x∈l++[p],x.size≤1000:=fun x a=>by
 rcases aQ.1 a with a|a
 ·exact h x a
 ·rw[aF] at a;subst a;exact d
theorem Qsk (e:∀p∈ps,p.size≤1000):∀(m:Nat) {on l:List ByteArray},l.length+m≤100→(∀x∈l,x.size≤1000)→∀x∈leI ps m on l,GdL x
 | 0,on,l,h1,h2,x,a=>by
  cases on with
  | nil=>exact Qsm (m:=0) ⟨by omega,h2⟩ x a
  | cons c t=>cases a
 | m+1,on,l,h1,h2,x,a=>by
  cases on with
  | nil=>exact Qsm (m:=m+1) ⟨by omega,h2⟩ x a
  | cons c t=>
   obtain ⟨p,d,a⟩:=cp.1 (show x∈ps.flatMap _ from a)
   split at a
   ·exact Qsk e m (by rw[ah,dc];omega) (QnH h2 (e p d)) x a
   ·cases a
def se1 (ps on tk:List ByteArray)(more:Int)(c p:ByteArray):List (List ByteArray):=if 0<more∧QZ p c=true then leS ps on (more - 1).toNat (Zg ltB p tk) else []
def seK (ps on tk:List ByteArray)(more:Int)(c:ByteArray)(k:Nat):List (List ByteArray):=(ps.take k).flatMap (se1 ps on tk more c)
theorem QrY (n:NoneTo (fun c=> !(inC tk c)) on k)(q:on[k]? =some c)(h:inC tk c=false):US on tk=some c:=by
 unfold US
 obtain ⟨o,e⟩:=ai.1 q
 rw[List.find?_eq_some_iff_append]
 refine ⟨by rw[h];rfl,on.take k,on.drop (k+1),?_,fun y r=> ?_⟩
 ·rw[← e,← bI o,bL]
 ·obtain ⟨i,a⟩:=aK.1 r
  rw[bc] at a
  split at a
  ·rename_i d
   have j:(!(inC tk y))=false:=n i d y a
   rw[j];rfl
  ·cases a
theorem Qms (e:NoneTo (fun c=> !(inC tk c)) on k)(j:on.length≤k):US on tk=none:=by
 unfold US
 rw[List.find?_eq_none]
 intro x h
 obtain ⟨i,a⟩:=aK.1 h
 have d:(!(inC tk x))=false:=e i (by have:=(ai.1 a).1;omega) x a
 rw[d];simp
theorem Xn (h:US on tk=none):leS ps on m tk=[tk]:=by cases m <;> rw[leS,h]
theorem Qj2 (h:US on tk=some c):leS ps on more.toNat tk=ps.flatMap (se1 ps on tk more c):=by
 by_cases a:0<more
 ·obtain ⟨m,rfl⟩:∃m:Nat,more=(m:Int)+1:=⟨(more - 1).toNat,by omega⟩
  rw[show ((m:Int)+1).toNat=m+1 by omega,leS,h]
  unfold se1
  rw[show ((m:Int)+1 - 1).toNat=m by omega]
  simp only[a,true_and]
 ·rw[show more.toNat=0 by omega,leS,h]
  unfold se1
  simp[a]
theorem QzX (d:ps[k]? =some p)(a:0<more)(h:QZ p c=true)(e:st=QU (seK ps on tk more c k) (best,b)):QU (leS ps on (more - 1).toNat (Zg ltB p tk)) st=QU (seK ps on tk more c (k+1)) (best,b):=by
 have:seK ps on tk more c (k+1)=seK ps on tk more c k++leS ps on (more - 1).toNat (Zg ltB p tk):=by
  unfold seK
  rw[QE d,cB]
  simp[se1,h,a]
 rw[this,Qko,← e]
theorem QzW (a:ps[k]? =some p)(h:¬(0<more∧QZ p c=true)):seK ps on tk more c k=seK ps on tk more c (k+1):=by
 unfold seK
 rw[QE a,cB]
 simp only[List.flatMap_cons,List.flatMap_nil,se1,if_neg h,br]
theorem QvA (h:US on tk=some c)(a:ps.length≤k):seK ps on tk more c k=leS ps on more.toNat tk:=by rw[Qj2 h,seK,aP a]
theorem QaO (a:inC tk c=false)(h:QZ p c=true):WE tk p=false:=by
 cases e:WE tk p with
 | false=>rfl
 | true=>
  have:inC tk c=true:=bu.2 ⟨p,WF.1 e,h⟩
  rw[this] at a;cases a
theorem QbI (h:WE tk p=false):(Zg ltB p tk).length=tk.length+1:=by
 have d:p∉tk:=fun a=>by rw[WF.2 a] at h;cases h
 clear h
 induction tk with
 | nil=>rfl
 | cons y t i=>
  unfold Zg
  split
  ·rw[av,i fun a=>d (aA _ a),av]
  ·split
   ·rename_i e;exact absurd (by rw[e];exact aB ..) d
   ·rfl
theorem QdW:∀(m:Nat) {tk x:List ByteArray},x∈leS ps on m tk→∃j,j≤m∧x.length=tk.length+j∧x∈leS ps on j tk
 | 0,tk,x,h=>by
  cases a:US on tk with
  | none=>
   rw[Xn a,aF] at h
   exact ⟨0,aO _,by rw[h];rfl,by rw[Xn a,h];exact aF.2 rfl⟩
  | some c=>rw[leS,a] at h;cases h
 | m+1,tk,x,h=>by
  cases a:US on tk with
  | none=>
   rw[Xn a,aF] at h
   exact ⟨0,aL _,by rw[h];rfl,by rw[Xn a,h];exact aF.2 rfl⟩
  | some c=>
   have i:=h
   rw[leS,a] at i
   obtain ⟨p,d,e⟩:=cp.1 (show x∈ps.flatMap _ from i)
   split at e
   ·rename_i n
    have r:inC tk c=false:=by
     have:=List.find?_some a
     simpa using this
    obtain ⟨j,s,o,q⟩:=QdW m e
    rw[QbI (QaO r n)] at o
    refine ⟨j+1,by omega,by omega,?_⟩
    rw[leS,a]
    exact cp.2 ⟨p,d,by rw[if_pos n];exact q⟩
   ·cases e
theorem Qxn (t:∀p∈ps,p.size≤1000):∀(m:Nat) {tk:List ByteArray},tk.length+m≤100→(∀x∈tk,x.size≤1000)→∀x∈leS ps on m tk,GdL x:=fun m tk n e x a=>by
 obtain ⟨j,o,q,r⟩:=QdW m a
 refine ⟨by omega,?_⟩
 clear n o q r
 induction m generalizing tk with
 | zero=>
  cases d:US on tk with
  | none=>rw[Xn d,aF] at a;subst a;exact e
  | some c=>rw[leS,d] at a;cases a
 | succ m u=>
  cases d:US on tk with
  | none=>rw[Xn d,aF] at a;subst a;exact e
  | some c=>
   rw[leS,d] at a
   obtain ⟨p,h,a⟩:=cp.1 (show x∈ps.flatMap _ from a)
   split at a
   ·exact u (tk:=Zg ltB p tk) (fun y i=>by
     rcases Yg.1 i with s|i
     ·rw[s];exact t _ h
     ·exact e y i) a
   ·cases a
theorem QiI (h:l.Nodup):Zd l=ofG ltB l:=by
 have j:Zp (Zd l)=ofG ltB l:=Qib Yb (K3 l) fun z=>(Xp l).mem_iff
 rw[← j]
 symm
 have:∀{s:List ByteArray},s.Nodup→Zp s=s:=by
  intro s
  induction s with
  | nil=>intro _;rfl
  | cons a t n=>
   intro i
   cases t with
   | nil=>rfl
   | cons b u=>
    have d:¬a=b:=fun e=>(bq.1 i).1 (by rw[e];exact aB ..)
    show (if a=b then Zp (b::u) else a::Zp (b::u))=_
    rw[if_neg d,n (bq.1 i).2]
 exact this ((Xp l).nodup_iff.2 h)
theorem Qui (h:l.Nodup):(Zp (Zd l)).length=l.length:=by
 rw[Qib Yb (K3 l) (fun z=>(Xp l).mem_iff) (l:=l),← QiI h,Z8]
theorem Qxg:inC (ofG ltB l) c=inC l c:=by
 unfold inC
 rw[cj,bu,bu]
 exact ⟨fun ⟨p,a,d⟩=>⟨p,(WL Yb l).1 a,d⟩,fun ⟨p,a,d⟩=>⟨p,(WL Yb l).2 a,d⟩⟩
theorem Qsa:inC (l++[p]) c=(inC l c||QZ p c):=by unfold inC;rw[List.any_append];simp
theorem QnW:∀(m:Nat) {l:List ByteArray},l.Nodup→leI ps m (on.filter fun c=> !(inC l c)) l=(leS ps on m (ofG ltB l)).filter fun x=>decide (x.length=l.length+m)
 | m,l,hn=>by
  have d:US on (ofG ltB l)=(on.filter fun c=> !(inC l c))[0]? :=by
   unfold US
   simp only[Qxg]
   rw[← List.head?_eq_getElem?,List.head?_filter]
  cases j:on.filter fun c=> !(inC l c) with
  | nil=>
   rw[j] at d
   rw[QdV rfl,Xn d,lfI]
   by_cases n:m=0
   ·rw[if_pos ⟨Qui hn,n⟩,QiI hn]
    subst n
    have:(ofG ltB l).length=l.length:=by rw[← QiI hn,Z8]
    simp[this]
   ·rw[if_neg fun h=>n h.2]
    have:(ofG ltB l).length=l.length:=by rw[← QiI hn,Z8]
    rw[List.filter_cons_of_neg (by rw[this];simp;omega),List.filter_nil]
  | cons c t=>
   rw[j] at d
   have d:US on (ofG ltB l)=some c:=d
   cases m with
   | zero=>rw[leS,d];rfl
   | succ m=>
    rw[leS,d]
    show (ps.flatMap fun p=>if QZ p c=true then leI ps m ((c::t).filter fun x=> !(QZ p x)) (l++[p]) else [])=(ps.flatMap fun p=>if QZ p c=true then leS ps on m (Zg ltB p (ofG ltB l)) else []).filter _
    rw[List.filter_flatMap]
    congr 1
    funext p
    by_cases i:QZ p c=true
    ·rw[if_pos i,if_pos i]
     have r:inC l c=false:=by
      have:c∈on.filter fun c=> !(inC l c):=by rw[j];exact aB ..
      simpa using (bP.1 this).2
     have o:p∉l:=fun v=>by
      have:inC l c=true:=bu.2 ⟨p,v,i⟩
      rw[this] at r;cases r
     have w:=QnW m (l:=l++[p]) (bj.2 ⟨hn,bq.2 ⟨bN,bG⟩,fun a u b q e=>o (by rw[aF] at q;rw[← q,← e];exact u)⟩)
     rw[Qj8,← j,List.filter_filter]
     have s:(fun a=>(!(QZ p a))&&(!(inC l a)))=fun c=> !(inC (l++[p]) c):=by
      funext a
      rw[Qsa];cases QZ p a <;> cases inC l a <;> rfl
     rw[s,w]
     congr 1
     funext x
     rw[ah,dc]
     congr 1
     simp only[eq_iff_iff]
     omega
    ·rw[if_neg i,if_neg i];rfl
theorem Qxm (k:Nat):leI ps k on []=(leS ps on k []).filter fun x=>decide (x.length=k):=by
 have:=QnW (ps:=ps) (on:=on) k (l:=[]) bG
 have e:(on.filter fun c=> !(inC [] c))=on:=cG.2 fun c _=>rfl
 rw[e] at this
 rw[this]
 simp only[aC,bw]
 rfl
theorem Qj1 (h:∀j,j<k→(XB ps on j).2=false):∀x∈leS ps on k [],x.length=k:=fun x i=>by
 obtain ⟨j,n,d,a⟩:=QdW k i
 rw[aC,bw] at d
 by_cases e:j=k
 ·omega
 ·have:=Qvv (h j (by omega))
  rw[this] at a;cases a
theorem QxO (h:∀j,j<k→(XB ps on j).2=false):Qds ps on k=XB ps on k:=by
 unfold Qds XB
 rw[Qxm,cG.2 fun x a=>aN (Qj1 h x a)]
theorem QrW (h:∀k,(∀j,j<k→(g j).2=false)→f k=g k):∀(n k:Nat),(∀j,j<k→(g j).2=false)→fmV f n k=fmV g n k
 | 0,_,_=>rfl
 | n+1,k,hk=>by
  rw[fmV,fmV,h k hk]
  split
  ·rfl
  ·rename_i a
   exact QrW h n (k+1) fun j d=>by
    by_cases e:j=k
    ·subst e;simpa using a
    ·exact hk j (by omega)
theorem Qmq:∀(n k i:Nat),i<n→(∀j,j<i→(f (k+j)).2=false)→(f (k+i)).2=true→fmV f n k=f (k+i)
 | 0,_,_,h,_,_=>absurd h (aV _)
 | n+1,k,0,_,_,h=>by rw[fmV,if_pos (show (f k).2=true from h)];rfl
 | n+1,k,i+1,h1,h2,h3=>by
  rw[fmV,if_neg (by rw[show k=k+0 from rfl,h2 0 (by omega)];simp)]
  have:=Qmq n (k+1) i (by omega) (fun j a=>by rw[show k+1+j=k+(j+1) by omega];exact h2 _ (by omega)) (by rw[show k+1+i=k+(i+1) by omega];exact h3)
  rw[this,show k+1+i=k+(i+1) by omega]
theorem Qmr:∀(n k:Nat),(∀j,j<n→(f (k+j)).2=false)→fmV f n k=([],false)
 | 0,_,_=>rfl
 | n+1,k,h=>by
  rw[fmV,if_neg (by rw[show k=k+0 from rfl,h 0 (by omega)];simp)]
  exact Qmr n (k+1) fun j a=>by rw[show k+1+j=k+(j+1) by omega];exact h _ (by omega)
theorem Qxv:fmV (Qds ps on) 7 0=fmV (XB ps on) 7 0:=QrW (fun _ h=>QxO h) 7 0 fun j a=>absurd a (aV j)
end
section
variable {l a b:List ByteArray}{c x y:ByteArray}{k j:Nat}{u:UInt8}{st:List ByteArray×Bool}
theorem Qiz (d:c[((k:Int)).toNat]? =some u)(h:¬u=45):QaI c k+1=QaI c (k+1):=by
 unfold QaI
 rw[bO,bE,ah]
 simp[QY d,h]
theorem Qiy (d:c[((k:Int)).toNat]? =some u)(h:u=45):QaI c k=QaI c (k+1):=by
 unfold QaI
 rw[bO,bE,ah]
 simp[QY d,h]
theorem QfM:0≤QaI c k∧QaI c k≤(k:Int):=by
 unfold QaI
 have:((List.range k).filter fun i:Nat=> !decide (bAt c (i:Int)=45)).length≤(List.range k).length:=cq ..
 rw[List.length_range] at this
 omega
theorem Qcv (d:l[k]? =some c):QaJ l k+QaI c c.size=QaJ l (k+1):=by
 unfold QaJ
 rw[QE d,bB,List.sum_append]
 simp
theorem QfN (h:∀x∈l,x.size≤1000):0≤QaJ l k∧QaJ l k≤1000*(k:Int):=by
 induction k with
 | zero=>exact ⟨di _,di _⟩
 | succ k g=>
  cases d:l[k]? with
  | none=>
   have:QaJ l (k+1)=QaJ l k:=by
    have:=List.getElem?_eq_none_iff.1 d
    unfold QaJ;rw[aP (by omega),aP this]
   rw[this];omega
  | some c=>
   rw[← Qcv d]
   have e:=QfM (c:=c) (k:=c.size)
   have f:=h c (ae d)
   omega
theorem Qj3 (h:l.length≤k):QaJ l k=YF l:=by unfold YF QaJ;rw[aP h,aP (aO _)]
theorem Qj4 (h:GdL l):0≤YF l∧YF l≤100000:=by
 have:=QfN (k:=l.length) h.2
 have:=h.1
 unfold YF
 omega
theorem QwO (h:ltB x y=true):UK x y= -1:=if_pos h
theorem QwP (h:ltB x y=false)(d:ltB y x=true):UK x y=1:=by unfold UK;rw[h,d];rfl
theorem QwQ (h:ltB x y=false)(d:ltB y x=false):UK x y=0:=by unfold UK;rw[h,d];rfl
theorem Quj (h:ltB x y=false)(d:gtB x y=true):UK x y=1:=by
 have d:(!(ltB x y)&& !decide (x=y))=true:=d
 rw[h] at d
 have e:¬x=y:=by simpa using d
 rcases Yb.tot x y with g|g|g
 ·rw[g] at h;cases h
 ·exact absurd g e
 ·exact QwP h g
theorem Quk (h:ltB x y=false)(d:gtB x y=false):UK x y=0:=by
 have d:(!(ltB x y)&& !decide (x=y))=false:=d
 rw[h] at d
 have e:x=y:=by simpa using d
 subst e
 exact QwQ h h
theorem Qul:UK x x=0:=by unfold UK;rw[Yb.irr];rfl
theorem QwN (h:UK x y=0):x=y:=by
 unfold UK at h
 split at h
 ·cases h
 ·rename_i d
  split at h
  ·cases h
  ·rename_i e
   rcases Yb.tot x y with g|g|g
   ·exact absurd g d
   ·exact g
   ·exact absurd g e
theorem QgV (m:a[k]? =some x)(n:b[k]? =some y)(h:UK x y=0)(e:Xe a b=Xe (a.drop k) (b.drop k)):Xe a b=Xe (a.drop (k+1)) (b.drop (k+1)):=by
 obtain ⟨g,d⟩:=ai.1 m
 obtain ⟨i,f⟩:=ai.1 n
 rw[e,bI g,bI i,d,f,Xe,if_pos h]
theorem Qo0 (d:a[k]? =some x)(f:b[k]? =some y)(h:x=y)(e:Xe a b=Xe (a.drop k) (b.drop k)):Xe a b=Xe (a.drop (k+1)) (b.drop (k+1)):=QgV d f (by rw[h];exact Qul) e
theorem Qnt (m:a[k]? =some x)(n:b[k]? =some y)(h:¬UK x y=0)(e:Xe a b=Xe (a.drop k) (b.drop k)):UK x y=Xe a b:=by
 obtain ⟨g,d⟩:=ai.1 m
 obtain ⟨i,f⟩:=ai.1 n
 rw[e,bI g,bI i,d,f,Xe,if_neg h]
theorem QoZ (d:k<a.length)(f:b.length≤k)(e:Xe a b=Xe (a.drop k) (b.drop k)):(1:Int)=Xe a b:=by
 rw[e,List.drop_of_length_le f,bI d];rfl
theorem QkX (d:a.length≤k)(f:k<b.length)(e:Xe a b=Xe (a.drop k) (b.drop k)):(-1:Int)=Xe a b:=by
 rw[e,List.drop_of_length_le d,bI f];rfl
theorem QjC (d:a.length≤k)(f:b.length≤k)(e:Xe a b=Xe (a.drop k) (b.drop k)):(0:Int)=Xe a b:=by
 rw[e,List.drop_of_length_le d,List.drop_of_length_le f];rfl
theorem Qri (h:st.2=false):true=btB l st:=by unfold btB;rw[h];rfl
theorem Qyy (h:YF l<YF st.1):true=btB l st:=by unfold btB;rw[aN h];simp
theorem Qyz (h:st.2=true)(d:¬YF l<YF st.1)(e:¬YF l=YF st.1):false=btB l st:=by unfold btB;rw[h,ay d,ay e];rfl
theorem Qrh (h:st.2=true)(d:¬YF l<YF st.1)(e:YF l=YF st.1):decide (Xe l st.1<0)=btB l st:=by unfold btB;rw[h,ay d,aN e];rfl
theorem QAT (h:st.2=true)(d:¬YF l=YF st.1):decide (YF l<YF st.1)=btB l st:=by unfold btB;rw[h,ay d];simp
theorem Qyx (h:st.2=true)(d:YF l=YF st.1)(e:Xe l st.1=Xe (l.drop k) (st.1.drop k))(i:l[k]? =some x)(m:st.1[k]? =some y)(f:¬x=y):ltB x y=btB l st:=by
 rw[← Qrh h (by omega) d,← Qnt i m (fun g=>f (QwN g)) e]
 unfold UK
 cases n:ltB x y with
 | true=>rfl
 | false=>cases ltB y x <;> rfl
theorem QwC (h:st.2=true)(d:YF l=YF st.1)(g:st.1.length=l.length)(e:Xe l st.1=Xe (l.drop k) (st.1.drop k))(f:l.length≤k):false=btB l st:=by
 rw[← Qrh h (by omega) d,← QjC f (by omega) e];rfl
end
theorem Vi (x:ByteArray):FC Tryz.prog 347 [(false,[dS x])] [] 0 (QK (lB false)):=by
 refine Qj Tryz.func347 rfl rfl Tryz.ntmps347 fun i g h d m f e=> ?_
 refine w9 ?_
 refine Qe<|fqB g ?_
 (simp)
theorem Jk (x:ByteArray)(y:ByteArray):FC Tryz.prog 325 [(false,[dS x]),(false,[dS y])] [] 0 (QK (lI (UK x y))):=by
 refine Qj Tryz.func325 rfl rfl Tryz.ntmps325 fun i d h e m g f=> ?_
 refine w5 ?_
 refine lc (dK (Vi x) Qfk) ?_
 refine w4 ?_
 refine lc (dK (Vi y) Qfk) ?_
 refine w16 ?_
 refine w2 ?_
 refine lc (QbU (Qa rfl) (Qa rfl) rfl) ?_
 refine w_ ?_
 refine cb_ (fun _=> ?_) fun _=> ?_
 refine w5 ?_
 refine lc (QoQ (Qa rfl) (Qa rfl) rfl) ?_
 refine w_ ?_
 refine cb_ (fun _=> ?_) fun _=> ?_
 refine w4 ?_
 refine Qe<|fqI d ?_
 exact (Quk ‹_› ‹_›).symm
 refine w3 ?_
 refine Qe<|fqI d ?_
 exact (Quj ‹_› ‹_›).symm
 refine w3 ?_
 refine Qe<|fqI d ?_
 exact (QwO ‹_›).symm
theorem Wo (a:List ByteArray)(b:List ByteArray):FC Tryz.prog 272 [(false,[.dat Qb a]),(false,[.dat Qb b])] [] 0 (QK (lI (Xe a b))):=by
 refine Qj Tryz.func272 rfl rfl Tryz.ntmps272 fun B q A s C v t=> ?_
 refine w6 ?_
 refine alL 9 fun _=> ?_
 refine w4 ?_
 refine lpK a.length (fun k=>(Xe a b=Xe (a.drop k) (b.drop k))∧(k≤b.length)) (fun k=>⟨[(0,lf (.dat Qb a)),(1,lf (.dat Qb b)),(9,lf (.dat Qb a)),(10,lI (a.length:Int)),(11,lI (k:Int))],[]⟩) ⟨rfl,by omega⟩ ?_ fun k _ w=> ?_
 exact wo []
 obtain ⟨m,z⟩:=w
 refine w4 ?_
 cases n:(decide ((k:Int)<(a.length:Int)))
 have o:=aa n
 refine w6 ?_
 refine alL 31 fun _=> ?_
 refine w2 ?_
 refine alL 33 fun _=> ?_
 refine w3 ?_
 refine cd_ (fun _ _=> ?_) fun _ _=> ?_
 refine w4 ?_
 refine Qe<|fqI q ?_
 exact QjC (by omega) (by omega) m
 refine w3 ?_
 refine Qe<|fqI q ?_
 exact QkX (by omega) (by omega) m
 have o:=ab n
 refine w6 ?_
 obtain ⟨r,p⟩:=gx a k
 refine w9 ?_
 refine alL 17 fun _=> ?_
 refine w3 ?_
 cases e:(decide ((b.length:Int)≤(k:Int)))
 have h:=aa e
 refine w5 ?_
 obtain ⟨d,g⟩:=gx b k
 refine w7 ?_
 refine lc (dK (Jk r d) Qmd) ?_
 refine w6 ?_
 cases f:(!decide ((UK r d)=0))
 have i:((UK r d)=0):=Qz f
 refine w6 ?_
 refine Qd ?_
 refine lK_ ⟨(QgV p g ‹_› m),by omega⟩ ?_
 exact wo []
 have i:¬((UK r d)=0):=QG f
 refine w5 ?_
 refine Qe<|fqI q ?_
 exact Qnt p g ‹_› m
 have h:=ab e
 refine w4 ?_
 refine Qe<|fqI q ?_
 exact QoZ (by omega) (by omega) m
theorem U9 (l:List ByteArray)(t:GdL l):FC Tryz.prog 271 [(false,[.dat Qb l])] [] 0 (QK (lI (YF l))):=by
 have G:=t.1
 have H:=Qj4 t
 refine Qj Tryz.func271 rfl rfl Tryz.ntmps271 fun P F O C Q E D=> ?_
 refine w9 ?_
 refine alL 7 fun _=> ?_
 refine w4 ?_
 refine Qu (fun r s=>∃(k:Nat) (v:Int),k≤l.length∧r=l.length - k∧(v=QaJ l k)∧s=⟨[(2,lI 0),(3,lI v),(7,lf (.dat Qb l)),(8,lI (l.length:Int)),(9,lI (k:Int))],[]⟩) ⟨0,0,aL _,rfl,rfl,rfl⟩ ?_ ?_
 exact wo []
 rintro r s ⟨k,v,I,K,A,rfl⟩
 have N:=QfN (k:=k) t.2
 refine w4 ?_
 cases o:(decide ((k:Int)<(l.length:Int)))
 have p:=aa o
 refine w7 ?_
 refine Qe<|fqI F ?_
 exact A.trans (Qj3 (by omega))
 have p:=ab o
 refine w5 ?_
 obtain ⟨e,q⟩:=gx l k
 have w:=q
 have B:=t.2 _ (ae q)
 refine w6 ?_
 refine alS 13 fun _=> ?_
 refine lc (Q5 (Qa rfl) rfl Zo) ?_
 refine w3 ?_
 refine Qu (fun r s=>∃(j:Nat) (d:Int),j≤e.size∧r=e.size - j∧(d=QaJ l k+QaI e j)∧s=⟨[(2,lI 0),(3,lI d),(5,lf (dS e)),(7,lf (.dat Qb l)),(8,lI (l.length:Int)),(9,lI (k:Int)),(10,lB true),(11,lf (.elt .str e 0)),(12,lf (dS e)),(13,lf (dS e)),(14,lI (e.size:Int)),(15,lI (j:Int))],[]⟩) ⟨0,v,aL _,rfl,(by rw[A];simp[QaI]),rfl⟩ ?_ ?_
 exact wo []
 rintro r s ⟨j,d,J,L,n,rfl⟩
 have M:=QfM (c:=e) (k:=j)
 refine w4 ?_
 cases f:(decide ((j:Int)<(e.size:Int)))
 have i:=aa f
 refine w6 ?_
 refine Qd<|QV ⟨k+1,d,by omega,rfl,(by rw[n,show j=e.size by omega,Qcv w]),rfl⟩ (by omega) ?_
 exact wo []
 have i:=ab f
 refine w11 ?_
 obtain ⟨h,z⟩:=gs e (((j:Int)).toNat)
 refine w_ ?_
 refine lc (QP (Qa rfl) (QJ 45 rfl) rfl) ?_
 refine w_ ?_
 cases g:(!decide (h=45))
 have m:(h=45):=Qz g
 refine w6 ?_
 refine Qd<|QV ⟨j+1,d,by omega,rfl,(by rw[n];first|rw[Int.add_assoc,Qiz ‹_› ‹_›]|rw[Qiy ‹_› ‹_›]),rfl⟩ (by omega) ?_
 exact wo []
 have m:¬(h=45):=QG g
 refine w5 ?_
 refine Qd ?_
 refine w4 ?_
 refine Qd<|QV ⟨j+1,(d+1),by omega,rfl,(by rw[n];first|rw[Int.add_assoc,Qiz ‹_› ‹_›]|rw[Qiy ‹_› ‹_›]),rfl⟩ (by omega) ?_
 exact wo []
theorem Vk (l:List ByteArray)(hg:GdL l):FC Tryz.prog 333 [(false,[.dat Qb l])] [] 0 (QK (lI (YF l))):=by
 have hg1:=hg.1
 have hgr:=Qj4 hg
 refine Qj Tryz.func333 rfl rfl Tryz.ntmps333 fun O_ hO w0_ N0_ X_ h0_ f0_=> ?_
 refine w9 ?_
 refine alL 7 fun _=> ?_
 refine w4 ?_
 refine Qu (fun m_ s_=>∃(k:Nat) (n_:Int),k≤l.length∧m_=l.length - k∧(n_=QaJ l k)∧s_=⟨[(2,lI 0),(3,lI n_),(7,lf (.dat Qb l)),(8,lI (l.length:Int)),(9,lI (k:Int))],[]⟩) ⟨0,0,aL _,rfl,rfl,rfl⟩ ?_ ?_
 exact wo []
 rintro m_ s_ ⟨k,n_,hk2,hm3,hn,rfl⟩
 have hnr:=QfN (k:=k) hg.2
 refine w4 ?_
 cases hb4:(decide ((k:Int)<(l.length:Int)))
 have hb4':=aa hb4
 refine w7 ?_
 refine Qe<|fqI hO ?_
 exact hn.trans (Qj3 (by omega))
 have hb4':=ab hb4
 refine w5 ?_
 obtain ⟨cx,hx6⟩:=gx l k
 have hcx:=hx6
 have hscx:=hg.2 _ (ae hx6)
 refine w8 ?_
 refine Qu (fun m_ s_=>∃(j:Nat) (wn_:Int),j≤cx.size∧m_=cx.size - j∧(wn_=QaJ l k+QaI cx j)∧s_=⟨[(2,lI 0),(3,lI wn_),(5,lf (dS cx)),(6,lI (j:Int)),(7,lf (.dat Qb l)),(8,lI (l.length:Int)),(9,lI (k:Int)),(10,lB true),(11,lf (.elt .str cx 0)),(12,lf (dS cx))],[]⟩) ⟨0,n_,aL _,rfl,(by rw[hn];simp[QaI]),rfl⟩ ?_ ?_
 exact wo []
 rintro m_ s_ ⟨j,wn_,hk7,hm8,hw2,rfl⟩
 have hmr:=QfM (c:=cx) (k:=j)
 refine w4 ?_
 refine alS 14 fun _=> ?_
 refine lc (Q5 (Qa rfl) rfl Zo) ?_
 refine w2 ?_
 cases hb10:(decide ((j:Int)<(cx.size:Int)))
 have hb10':=aa hb10
 refine w6 ?_
 refine Qd<|QV ⟨k+1,wn_,by omega,rfl,(by rw[hw2,show j=cx.size by omega,Qcv hcx]),rfl⟩ (by omega) ?_
 exact wo []
 have hb10':=ab hb10
 refine w7 ?_
 obtain ⟨c11,hc12⟩:=gs cx (((j:Int)).toNat)
 refine w_ ?_
 refine lc (QP (Qa rfl) (QJ 45 rfl) rfl) ?_
 refine w_ ?_
 cases hb13:(!decide (c11=45))
 have hb13':(c11=45):=Qz hb13
 refine w7 ?_
 refine Qd<|QV ⟨j+1,wn_,by omega,rfl,(by rw[hw2];first|rw[Int.add_assoc,Qiz ‹_› ‹_›]|rw[Qiy ‹_› ‹_›]),rfl⟩ (by omega) ?_
 exact wo []
 have hb13':¬(c11=45):=QG hb13
 refine w5 ?_
 refine Qd ?_
 refine w5 ?_
 refine Qd<|QV ⟨j+1,(wn_+1),by omega,rfl,(by rw[hw2];first|rw[Int.add_assoc,Qiz ‹_› ‹_›]|rw[Qiy ‹_› ‹_›]),rfl⟩ (by omega) ?_
 exact wo []
theorem UP (f:List ByteArray)(d:List ByteArray)(e:Bool)(l:List ByteArray)(o:GdL l)(hb:GdL d):FC Tryz.prog 219 [(false,[.ptr 0 0]),(false,[.dat Qb l])] [bx 0 174 [.dat Qb f,.dat Qb d,dB e]] 1 (Is (lB (btB l (d,e))) [bx 0 174 [.dat Qb f,.dat Qb d,dB e]]):=by
 refine Qj Tryz.func219 rfl rfl Tryz.ntmps219 fun C n B p D w v=> ?_
 refine w3 ?_
 apply dW (io 7 _::io 8 (lI (YF l))::i4 9 _ _ _ _ (io 13 (lI (YF d))::i2 5 _ _ [])) [0,0,3,3,3,3,0,0,0]
 refine z_ ?_
 refine zz (fun _ z=>ac (dK (U9 l (by first|exact o|exact hb)) Qfa) rfl) ?_
 refine z4 ?_
 refine zz (fun _ z=>ac (dK (U9 d (by first|exact o|exact hb)) Qfa) rfl) ?_
 exact y2
 refine w7 ?_
 cases A:(e)
 refine w9 ?_
 refine Qh rfl rfl rfl ?_ rfl
 refine Qh rfl rfl rfl ?_ rfl
 refine Qh rfl rfl rfl ?_ rfl
 refine Qh rfl rfl rfl ?_ rfl
 refine Qh rfl rfl rfl ?_ rfl
 refine Qh rfl rfl rfl ?_ rfl
 refine Qh rfl rfl rfl ?_ rfl
 refine w5 ?_
 have q:(true:Bool)=(btB l (d,e)):=by
  exact Qri (by first|assumption|rfl)
 exact fi_ [] n ⟨((congrArg (fun z_=>some (Ent.box 174 [.dat Qb f,.dat Qb d,dB z_])) (show (false:Bool)=e by exact Eq.symm ‹_›))),trivial⟩ (h0:=by first|(rw[← q]<;>rfl)|rw[q])
 refine w5 ?_
 cases g:(decide ((YF l)<(YF d)))
 have h:=aa g
 refine w4 ?_
 cases i:(decide ((YF l)=(YF d)))
 have m:=aa i
 refine w12 ?_
 have r:(false:Bool)=(btB l (d,e)):=by
  exact Qyz (st:=(d,e)) (by first|assumption|rfl) ‹_› ‹_›
 exact fi_ [] n ⟨((congrArg (fun z_=>some (Ent.box 174 [.dat Qb f,.dat Qb d,dB z_])) (show (true:Bool)=e by exact Eq.symm ‹_›))),trivial⟩ (h0:=by first|(rw[← r]<;>rfl)|rw[r])
 have m:=ab i
 refine w5 ?_
 refine lgy rfl rfl (dK (Wo l d) QlW) ?_
 refine w6 ?_
 have s:(decide ((Xe l d)<0):Bool)=(btB l (d,e)):=by
  exact Qrh (st:=(d,e)) (by first|assumption|rfl) ‹_› ‹_›
 exact fi_ [] n ⟨((congrArg (fun z_=>some (Ent.box 174 [.dat Qb f,.dat Qb d,dB z_])) (show (true:Bool)=e by exact Eq.symm ‹_›))),trivial⟩ (h0:=by first|(rw[s]<;>rfl)|rw[←s])
 have h:=ab g
 refine w4 ?_
 refine Qh rfl rfl rfl ?_ rfl
 refine Qh rfl rfl rfl ?_ rfl
 refine Qh rfl rfl rfl ?_ rfl
 refine Qh rfl rfl rfl ?_ rfl
 refine Qh rfl rfl rfl ?_ rfl
 refine Qh rfl rfl rfl ?_ rfl
 refine Qh rfl rfl rfl ?_ rfl
 refine w5 ?_
 have t:(true:Bool)=(btB l (d,e)):=by
  exact Qyy (st:=(d,e)) ‹_›
 exact fi_ [] n ⟨((congrArg (fun z_=>some (Ent.box 174 [.dat Qb f,.dat Qb d,dB z_])) (show (true:Bool)=e by exact Eq.symm ‹_›))),trivial⟩ (h0:=by first|(rw[← t]<;>rfl)|rw[t])
theorem HR (ps:List ByteArray)(on:List ByteArray)(d:List ByteArray)(e:Bool)(l:List ByteArray)(C:GdL l)(hb:GdL d)(n:e=true→d.length=l.length):FC Tryz.prog 313 [(false,[.ptr 0 0]),(false,[.dat Qb l])] [bx 0 296 [.dat Qb ps,.dat Qb on,.dat Qb d,dB e]] 1 (Is (lB (btB l (d,e))) [bx 0 296 [.dat Qb ps,.dat Qb on,.dat Qb d,dB e]]):=by
 refine Qj Tryz.func313 rfl rfl Tryz.ntmps313 fun L s K D M H G=> ?_
 refine w3 ?_
 apply dW (io 8 _::io 9 (lI (YF l))::i4 10 _ _ _ _ (io 14 (lI (YF d))::i2 5 _ _ [])) [0,0,3,3,3,3,0,0,0]
 refine z_ ?_
 refine zz (fun _ t=>ac (dK (Vk l (by first|exact C|exact hb)) Qfi) rfl) ?_
 refine z4 ?_
 refine zz (fun _ t=>ac (dK (Vk d (by first|exact C|exact hb)) Qfi) rfl) ?_
 exact y2
 refine w8 ?_
 cases J:(e)
 refine w16 ?_
 refine w4 ?_
 have E:(true:Bool)=(btB l (d,e)):=by
  exact Qri (by first|assumption|rfl)
 exact fi_ [] s ⟨((congrArg (fun z_=>some (Ent.box 296 [.dat Qb ps,.dat Qb on,.dat Qb d,dB z_])) (show (false:Bool)=e by exact Eq.symm ‹_›))),trivial⟩ (h0:=by first|(rw[← E]<;>rfl)|rw[E])
 refine w5 ?_
 refine cn_ (fun _ _=> ?_) fun _ _=> ?_
 refine w4 ?_
 refine alL 35 fun _=> ?_
 refine w4 ?_
 refine lpK l.length (fun k=>(Xe l d=Xe (l.drop k) (d.drop k))∧(d.length=l.length)) (fun k=>⟨[(0,lP 0 0),(1,lf (.dat Qb l)),(36,lI (l.length:Int)),(37,lI (k:Int))],[bx 0 296 [.dat Qb ps,.dat Qb on,.dat Qb d,dB true]]⟩) ⟨rfl,(n (by first|assumption|rfl))⟩ ?_ fun k _ I=> ?_
 exact wo []
 obtain ⟨A,m⟩:=I
 refine w4 ?_
 cases h:(decide ((k:Int)<(l.length:Int)))
 have i:=aa h
 refine w7 ?_
 have F:(false:Bool)=(btB l (d,e)):=by
  exact QwC (st:=(d,e)) (by first|assumption|rfl) ‹_› m A (by omega)
 exact fi_ [] s ⟨((congrArg (fun z_=>some (Ent.box 296 [.dat Qb ps,.dat Qb on,.dat Qb d,dB z_])) (show (true:Bool)=e by exact Eq.symm ‹_›))),trivial⟩ (h0:=by first|(rw[← F]<;>rfl)|rw[F])
 have i:=ab h
 refine w8 ?_
 obtain ⟨r,B⟩:=gx l k
 have o:=B
 obtain ⟨yqq,p⟩:=gx d k
 have q:=p
 apply dW (i9 40 _ _ _ _ _ _ _ _ _ (i3 49 _ _ _ [])) [0,1,0,0,15,15,15,15,255,15,15,0]
 exact y12
 cases f:(!decide (r=yqq))
 have g:(r=yqq):=Qz f
 refine w6 ?_
 refine Qd ?_
 refine lK_ ⟨(Qo0 o q ‹_› A),m⟩ ?_
 exact wo []
 have g:¬(r=yqq):=QG f
 refine w_ ?_
 apply dW (i9 52 _ _ _ _ _ _ _ _ _ (i2 61 _ _ [io 63 (lB (Op.bytesLess r.toList yqq.toList)),io 4 _])) [0,1,0,0,15,15,15,15,255,15,15,0,0]
 refine z11 ?_
 refine zz (fun _ t=>ac (QbU (t.v rfl) (t.v rfl) rfl) rfl) ?_
 exact y1
 refine w_ ?_
 have w:(Op.bytesLess r.toList yqq.toList:Bool)=(btB l (d,e)):=by
  exact Qyx (st:=(d,e)) (by first|assumption|rfl) ‹_› A o q ‹_›
 exact fi_ [] s ⟨((congrArg (fun z_=>some (Ent.box 296 [.dat Qb ps,.dat Qb on,.dat Qb d,dB z_])) (show (true:Bool)=e by exact Eq.symm ‹_›))),trivial⟩ (h0:=by first|(rw[w]<;>rfl)|rw[←w])
 refine w14 ?_
 have z:(decide ((YF l)<(YF d)):Bool)=(btB l (d,e)):=by
  exact QAT (st:=(d,e)) (by first|assumption|rfl) ‹_›
 exact fi_ [] s ⟨((congrArg (fun z_=>some (Ent.box 296 [.dat Qb ps,.dat Qb on,.dat Qb d,dB z_])) (show (true:Bool)=e by exact Eq.symm ‹_›))),trivial⟩ (h0:=by first|(rw[z]<;>rfl)|rw[←z])
end Go.Proofs.YtjfpbcmfbnnooaaGreat
