/- Sorted lists without repetition: put in one by one, or sorted and made compact. Plain lists; no program is named here. -/
import Derived.Test.YtndabgcpnmeeoaaGreatMAv
import Derived.Sort.OwnSorted
import Derived.Shelf.Sort.AssemblysIn
import Derived.Shelf.Lays
import Derived.Shelf.Slices.In.SortNone
import Derived.Test.YtndabgcpnmeeoaaGreatMAf
import Derived.Test.YtndabgcpnmeeoaaGreatMAi
import Derived.Test.YtndabgcpnmeeoaaGreatMApp
import Derived.Test.YtndabgcpnmeeoaaGreatMAl
import Derived.Test.YtndabgcpnmeeoaaGreatMStr
import Derived.Test.YtndabgcpnmeeoaaGreatProg
import Derived.KernelRfl
set_option linter.unusedSimpArgs false
set_option linter.unusedVariables false
set_option linter.unusedSectionVars false
namespace Go.Proofs.YtndabgcpnmeeoaaGreat
structure TO {α:Type _} (lt:α→α→Bool):Prop where
  irr:∀x,lt x x=false
  tr:∀x y z,lt x y=true→lt y z=true→lt x z=true
  tot:∀x y,lt x y=true∨x=y∨lt y x=true
def Z8 {α:Type _}[DecidableEq α](lt:α→α→Bool)(x:α):List α→List α
 | []=>[x]
 | y :: l=>if lt y x=true then y :: Z8 lt x l else if y=x then y :: l else x :: y :: l
def YQ {α:Type _}[DecidableEq α]:List α→List α
 | []=>[]
 | [x]=>[x]
 | x :: y :: l=>if x=y then YQ (y :: l) else x :: YQ (y :: l)
def ofG {α:Type _}[DecidableEq α](lt:α→α→Bool)(l:List α):List α:=l.foldl (fun s x=>Z8 lt x s) []
section
variable {α:Type _}[DecidableEq α]{lt:α→α→Bool}{l a b:List α}{x y z:α}{k:Nat}
omit [DecidableEq α] in
theorem TO.ext (h:TO lt):∀{a b:List α},a.Pairwise (fun x y=>lt x y=true)→b.Pairwise (fun x y=>lt x y=true)→(∀x,x∈a↔x∈b)→a=b
 | [],[],_,_,_=>rfl
 | [],y :: b,_,_,hm=>by have:=(hm y).2 (ax ..); cases this
 | x :: a,[],_,_,hm=>by have:=(hm x).1 (ax ..); cases this
 | x :: a,y :: b,ha,hb,hm=>by
  obtain ⟨g,j⟩:=bk.1 ha
  obtain ⟨i,m⟩:=bk.1 hb
  have f:x=y:=by
   rcases aC.1 ((hm x).1 (ax ..)) with c | c
   ·exact c
   ·rcases aC.1 ((hm y).2 (ax ..)) with e | e
    ·exact e.symm
    ·have:=h.tr _ _ _ (g _ e) (i _ c)
     rw[h.irr] at this; cases this
  subst f
  congr 1
  refine h.ext j m fun z=>⟨fun d=> ?_,fun d=> ?_⟩
  ·rcases aC.1 ((hm z).1 (aw _ d)) with c | c
   ·subst c; have:=g _ d; rw[h.irr] at this; cases this
   ·exact c
  ·rcases aC.1 ((hm z).2 (aw _ d)) with c | c
   ·subst c; have:=i _ d; rw[h.irr] at this; cases this
   ·exact c
theorem Yr:z∈Z8 lt x l↔z=x∨z∈l:=by
 induction l with
 | nil=>simp[Z8]
 | cons y l c=>
  unfold Z8
  split
  ·rw[aC,c,aC]
   constructor
   ·rintro (h | h | h)
    ·exact .inr (.inl h)
    ·exact .inl h
    ·exact .inr (.inr h)
   ·rintro (h | h | h)
    ·exact .inr (.inl h)
    ·exact .inl h
    ·exact .inr (.inr h)
  ·split
   ·rename_i h; subst h
    rw[aC]
    exact ⟨fun h=>h.elim .inl fun h=> .inr (.inr h),fun h=>h.elim .inl id⟩
   ·rw[aC]
theorem Ur (h:TO lt)(f:l.Pairwise (fun x y=>lt x y=true)):(Z8 lt x l).Pairwise (fun x y=>lt x y=true):=by
 induction l with
 | nil=>simp[Z8]
 | cons y l n=>
  obtain ⟨j,m⟩:=bk.1 f
  unfold Z8
  split
  ·rename_i i
   refine bk.2 ⟨fun z c=> ?_,n m⟩
   rcases Yr.1 c with rfl | c
   ·exact i
   ·exact j z c
  ·split
   ·exact f
   ·rename_i i g
    have e:lt x y=true:=by
     rcases h.tot x y with d | d | d
     ·exact d
     ·exact absurd d.symm g
     ·exact absurd d i
    refine bk.2 ⟨fun z c=> ?_,f⟩
    rcases aC.1 c with rfl | c
    ·exact e
    ·exact h.tr _ _ _ e (j z c)
theorem QdB (h:TO lt):∀(l s:List α),s.Pairwise (fun x y=>lt x y=true)→(l.foldl (fun s x=>Z8 lt x s) s).Pairwise (fun x y=>lt x y=true)∧∀z,z∈l.foldl (fun s x=>Z8 lt x s) s↔z∈s∨z∈l
 | [],s,hs=>⟨hs,fun z=>by simp⟩
 | x :: l,s,hs=>by
  obtain ⟨c,d⟩:=QdB h l _ (Ur (x:=x) h hs)
  refine ⟨c,fun z=> ?_⟩
  rw[aN,d,Yr,aC]
  constructor
  ·rintro ((h | h) | h)
   ·exact .inr (.inl h)
   ·exact .inl h
   ·exact .inr (.inr h)
  ·rintro (h | h | h)
   ·exact .inl (.inr h)
   ·exact .inl (.inl h)
   ·exact .inr h
theorem UH (h:TO lt)(l:List α):(ofG lt l).Pairwise (fun x y=>lt x y=true):=(QdB h l [] ce).1
theorem X1 (h:TO lt)(l:List α):z∈ofG lt l↔z∈l:=by
 have:=(QdB h l [] ce).2 z
 simpa [ofG] using this
theorem KO:∀{l:List α},z∈YQ l↔z∈l
 | []=>Iff.rfl
 | [x]=>Iff.rfl
 | x :: y :: l=>by
  unfold YQ
  split
  ·rename_i h; subst h
   rw[KO]
   exact ⟨aw _,fun h=>(aC.1 h).elim (fun h=>by rw[h]; exact ax ..) id⟩
  ·rw[aC,KO,aC (l:=y :: l)]
theorem Qc4 (h:TO lt):∀{l:List α},l.Pairwise (fun x y=>lt y x=false)→(YQ l).Pairwise (fun x y=>lt x y=true)
 | [],_=>ce
 | [x],_=>by simp[YQ]
 | x :: y :: l,hl=>by
  obtain ⟨j,f⟩:=bk.1 hl
  unfold YQ
  split
  ·exact Qc4 h f
  ·rename_i e
   refine bk.2 ⟨fun z i=> ?_,Qc4 h f⟩
   rw[KO] at i
   rcases h.tot x z with d | d | d
   ·exact d
   ·subst d
    rcases aC.1 i with g | g
    ·exact absurd g e
    ·have m:=j y (ax ..)
     have n:=(bk.1 f).1 x g
     rcases h.tot x y with c | c | c
     ·rw[n] at c; cases c
     ·exact absurd c e
     ·rw[m] at c; cases c
   ·have:=j z i; rw[this] at d; cases d
theorem Qsi (h:TO lt){s l:List α}(d:s.Pairwise (fun x y=>lt y x=false))(c:∀z,z∈s↔z∈l):YQ s=ofG lt l:=
 h.ext (Qc4 h d) (UH h l) fun z=>by rw[KO,c,X1 h]
theorem Qlt:∀{k:Nat} {l:List α},(∀j,j < k→∀y,l[j]? =some y→lt y x=true)→k≤l.length→(∀y,l[k]? =some y→lt y x=false∧y≠x)→Z8 lt x l=l.take k++x :: l.drop k
 | 0,[],_,_,_=>rfl
 | 0,y :: l,_,_,h2=>by
  obtain ⟨d,e⟩:=h2 y rfl
  unfold Z8
  rw[if_neg (by rw[d]; decide),if_neg e]; rfl
 | k+1,[],_,hk,_=>by simp at hk
 | k+1,y :: l,h1,hk,h2=>by
  unfold Z8
  rw[if_pos (h1 0 (by omega) y rfl),Qlt (k:=k) (fun j f z c=>h1 (j+1) (by omega) z (by simpa using c)) (by simpa using hk) (fun z c=>h2 z (by simpa using c))]
  rfl
theorem QfM:∀{k:Nat} {l:List α},(∀j,j < k→∀y,l[j]? =some y→lt y x=true)→l[k]? =some x→lt x x=false→Z8 lt x l=l
 | 0,[],_,h,_=>by simp at h
 | 0,y :: l,_,h,h3=>by
  simp only[bN,bn] at h
  subst h
  unfold Z8
  rw[if_neg (by rw[h3]; decide),if_pos rfl]
 | k+1,[],_,h,_=>by simp at h
 | k+1,y :: l,h1,h,h3=>by
  unfold Z8
  rw[if_pos (h1 0 (by omega) y rfl),QfM (k:=k) (fun j d z c=>h1 (j+1) (by omega) z (by simpa using c)) (by simpa using h) h3]
end
def ltI (x y:Int):Bool:=decide (x < y)
theorem ZS:TO ltI:=⟨fun x=>by simp[ltI],fun x y z c d=>by simp only[ltI,aT] at*; omega,fun x y=>by simp only[ltI,aT]; omega⟩
theorem QrS (l:List Int):YQ (XW l)=ofG ltI l:=Qsi ZS ((UK l).imp fun h=>by simp only[ltI,cZ]; omega) fun _=>Jr
end Go.Proofs.YtndabgcpnmeeoaaGreat
namespace Go.Proofs.YtndabgcpnmeeoaaGreat
open Go.RowKit
def ltB (x y:ByteArray):Bool:=Op.bytesLess x.toList y.toList
def fB (x:ByteArray):List UInt8:=x.data.toList
theorem QjP {x y:ByteArray}(h:fB x=fB y):x=y:=by
 cases x; cases y
 exact congrArg _ (Array.toList_inj.1 h)
def Qia (xs:List ByteArray):List ByteArray:=xs.mergeSort fun x y=> !ltB y x
theorem Qc8 (xs:List ByteArray):(Qia xs).Perm xs:=List.mergeSort_perm ..
theorem QnL (xs:List ByteArray):(Qia xs).length=xs.length:=(Qc8 xs).length_eq
def QxG (P:Program)(f:FuncId):Prop:=∀(blk cap:Nat) (zs:List ByteArray) (w:World),Sort.Holds encStr w blk 0 (zs.map fB).toArray→blk < w.heap.size→zs.length < 4611686018427387904→
 Calls P f #[.slice (some ⟨blk,0,none⟩) zs.length cap] w fun e w'=>e= .returned (.tuple #[])∧∃n os,w'=Sort.grow (Sort.putRow encStr (Sort.ahead w n) blk 0 ((Qia zs).map fB).toArray) os
end Go.Proofs.YtndabgcpnmeeoaaGreat
namespace Go.Proofs.YtndabgcpnmeeoaaGreat
open Go.RowKit
def Qvn:Go.Shelf.Ren:=⟨fun | 190=>269 | 125=>249 | 258=>388 | 128=>372 | 129=>373 | 302=>480 | 303=>481 | 304=>482 | 305=>483 | 306=>484 | 307=>485 | 308=>486 | 309=>487 | 310=>488 | 333=>542 | 329=>468 | 330=>469 | 334=>543 | 335=>544 | 336=>545 | 344=>572 | n=>n,fun | 31=>25 | 9=>9 | 3=>3 | 46=>279 | 0=>0 | 51=>406 | 53=>132 | 4=>4 | 183=>400 | 182=>399 | 131=>40 | 5=>5 | 218=>465 | 222=>469 | 228=>513 | 229=>514 | n=>n,fun | n=>n⟩
end Go.Proofs.YtndabgcpnmeeoaaGreat
namespace Go.Proofs.YtndabgcpnmeeoaaGreat
open Go.RowKit
set_option maxRecDepth 100000
set_option maxHeartbeats 4000000
theorem Q9 (n:Int)(b:Int)(a:Int):FC Tryz.prog 107 [(false,[dI n]),(false,[dI b]),(false,[dI a])] [] 0 (QX (lB (decide (b≤n∧n≤a)))):=by
 refine Qp Tryz.func107 rfl rfl Tryz.ntmps107 fun j e i f k h g=> ?_
 refine acI 0 fun _=> ?_
 refine acI 1 fun _=> ?_
 refine acI 2 fun _=> ?_
 refine w8 ?_
 cases c:(decide (b≤n))
 have d:=aa c
 refine w6 ?_
 refine Qd<|fqB e ?_
 (rw[co]; simp; omega)
 have d:=ab c
 refine w6 ?_
 refine Qd<|fqB e ?_
 ·(simp_all; done)
theorem Yw (n:Int)(lo:Int)(hi:Int):FC Tryz.prog 215 [(false,[dI n]),(false,[dI lo]),(false,[dI hi])] [] 0 (QX (lB (decide (lo≤n∧n≤hi)))):=by
 refine Qp Tryz.func215 rfl rfl Tryz.ntmps215 fun h c g d i f e=> ?_
 refine acI 0 fun _=> ?_
 refine acI 1 fun _=> ?_
 refine acI 2 fun _=> ?_
 refine w8 ?_
 cases a:(decide (lo≤n))
 have b:=aa a
 refine w6 ?_
 refine Qd<|fqB c ?_
 (rw[co]; simp; omega)
 have b:=ab a
 refine w6 ?_
 refine Qd<|fqB c ?_
 ·(simp_all; done)
theorem JY (l:List Int)(i:l.length≤2000000):FC Tryz.prog 478 [(false,[.dat Qi l])] [] 0 (YV 3 .int l):=by
 refine Qp Tryz.func478 rfl rfl Tryz.ntmps478 fun g d f a h c b=> ?_
 refine w4 ?_
 refine lc (dBs 0 (e:= .int) Yt) ?_
 refine w_ ?_
 refine lc (Z4 1 (Qa rfl) rfl (Evl.rep (Qa rfl)) rfl Zf XC (by first | omega | (simp only[ai,aJ,ap,au,aO]; omega) | (simp only[ai,bG,ap,au,aO]; omega)) rfl (Fresh.of rfl) (nlr rfl)) ?_
 refine w2 ?_
 refine Qd<|fo_ d ?_
 rfl
theorem Qsf {α:Type _}(f:α→Nat){xs:List α}{x:α}(h:x∈xs):f x≤(xs.map f).sum:=by
 induction xs with
 | nil=>cases h
 | cons y b a=>
  simp only[be,List.sum_cons]
  rcases aC.1 h with rfl | h
  ·omega
  ·have:=a h; omega
theorem Qr8 {n:Xy}(a:Ty.tot Qbr n≤2000000):n.2.length≤2000000:=by
 have:Ty.tot Qbr n=0+(n.2.length+(n.2.map (Ty.tot Zs)).sum):=rfl
 omega
theorem QfI {s:ZK}(a:Ty.tot QbO s≤2000000):Ty.tot Qbr s.1≤2000000∧s.2.1.length≤2000000∧s.2.2.1.length≤2000000:=by
 have:Ty.tot QbO s=Ty.tot Qbr s.1+((s.2.1.length+(s.2.1.map (Ty.tot Xb)).sum)+((s.2.2.1.length+(s.2.2.1.map (Ty.tot Qbk)).sum)+s.2.2.2.size)):=rfl
 omega
theorem QmU {n:Xy}(e:Ty.tot Qbr n≤2000000):∀t∈n.2,t.1.length≤2000000∧t.2.length≤2000000:=fun t a=>by
 have b:Ty.tot Qbr n=0+(n.2.length+(n.2.map (Ty.tot Zs)).sum):=rfl
 have c:=Qsf (Ty.tot Zs) a
 have d:Ty.tot Zs t=(t.1.length+(t.1.map (Ty.tot .int)).sum)+(t.2.length+(t.2.map (Ty.tot .int)).sum):=rfl
 omega
theorem QcR (n:Qnw)(h:Ty.tot Qbr n≤2000000):FC Tryz.prog 385 [(true,[dI n.1, .dat XM n.2])] [] 0 (Is (ag [dI n.1, .ref 0]) [ar 0 275 Zr n.2]):=by
 have s:=Qr8 h
 have g:=QmU h
 refine Qp Tryz.func385 rfl rfl Tryz.ntmps385 fun q m o i r l j=> ?_
 refine acG 0 0 fun _=> ?_
 refine w_ ?_
 refine xbx 0 ?_
 refine lc (xal 1 Qp1 Qa3) ?_
 refine w4 ?_
 refine lc (Qq Qgh ⟨_,_,rfl,(Qo rfl),rfl⟩ (av.1 rfl) rfl rfl)<|lc (xal 2 Qp1 Qa3) ?_
 refine w6 ?_
 refine alL 10 fun _=> ?_
 refine w4 ?_
 refine AC.wk (QZ 3 (p:=2) (off:=1) 275 Zr rfl rfl (Fresh.of rfl) (nlr rfl)) ?_
 refine lp0 n.2.length (fun k=>⟨[(2,lP 1 0),(3,lP 2 0),(10,lf (.dat XM n.2)),(11,lI (n.2.length:Int)),(12,lI (k:Int))],[bx 1 48 [dI 0, .val (.slice none 0 0)],bx 2 48 [dI n.1, .ref 4],ar 4 275 Zr (n.2.take k)]⟩) ?_ fun k _=> ?_
 exact wp [(4,3)] ⟨rfl,rfl,(Qk (by first | rfl | simp)),trivial⟩
 refine w4 ?_
 cases c:(decide ((k:Int) < (n.2.length:Int)))
 have d:=aa c
 refine w8 ?_
 exact fi_ [(0,4)] m ⟨(Qk (by rw[Za (by omega)])),trivial⟩
 have d:=ab c
 refine w5 ?_
 obtain ⟨b,f⟩:=gx n.2 k
 refine w2 ?_
 refine lc (xal 5 Zr UP) ?_
 refine w2 ?_
 apply dV (i4 16 _ _ _ _ [⟨some 20,lR 6,[ar 6 3 .int b.1]⟩,io 21 (lP 5 1),io 22 (lf (.dat Qi b.2)),⟨some 23,lR 7,[ar 7 3 .int b.2]⟩,io 24 (ag [.ref 6, .ref 7]),⟨some 25,lR 8,[ar 8 275 Zr ([(b.1,b.2)]),(6,none),(7,none)]⟩,⟨some 26,lR 9,[ar 9 275 Zr ((n.2.take k)++([(b.1,b.2)])),(4,none),(8,none)]⟩,io 27 _,⟨none,lf (.val undef),[bx 2 48 [dI n.1, .ref 9]]⟩]) [0,0,3,3,3,31,31,3,3,3,0,0,0]
 refine z4 ?_
 refine zz (fun _ a=>ac (dO 6 (JY b.1 (by have:=g _ (ae ‹_›); omega)) QcU) rfl) ?_
 refine z2 ?_
 refine zz (fun _ a=>ac (dO 7 (JY b.2 (by have:=g _ (ae ‹_›); omega)) QcU) rfl) ?_
 refine zz (fun _ a=>ac (Qq Qb5 ⟨_,_,rfl,(a.w rfl),⟨_,_,rfl,(a.w rfl),rfl⟩⟩ (av.1 (by simp only[ZC,JH,bF,cB]; rw[(a.en 6 rfl),(a.en 7 rfl)]; rfl)) rfl rfl) rfl)<|zz (fun _ a=>ac (WN 8 (e:=Zr) QaZ K6 UP rfl ⟨_,_,rfl,(a.w rfl),rfl⟩ (av.1 (by simp only[ZC,JH,bF,cB]; rw[(a.en 6 rfl),(a.en 7 rfl)]; rfl)) ⟨_,_,_,_,rfl,⟨[.ref 6],[.ref 7],_,_,_,_,rfl,rfl,(.inl ⟨_,rfl,(a.en 6 rfl),rfl⟩),(.inl ⟨_,rfl,(a.en 7 rfl),rfl⟩),rfl⟩,⟨rfl,rfl⟩,rfl⟩ (by decide) rfl rfl (a.fr 8 rfl) (nlr rfl)) rfl) ?_
 refine zz (fun _ a=>ac (dA 9 Qcf) rfl) ?_
 refine z_ ?_
 refine zz (fun _ a=>ac (Yn (a.v rfl) (a.en 2 rfl) (a.w rfl) (by simp only[ZC,JH,bF,cB]; rw[(a.en 9 rfl)]; rfl) Qpu rfl) rfl) ?_
 exact zN
 refine w4 ?_
 refine Qb ?_
 refine l0_ ?_
 exact wp [(4,9)] ⟨rfl,rfl,(Qk (by rw[Qw f])),trivial⟩
def QiQ (b:Int)(t:Q7):Q7:=(t.1.map fun x=>x+b,t.2.map fun x=>x+b)
end Go.Proofs.YtndabgcpnmeeoaaGreat
namespace Go.Proofs.YtndabgcpnmeeoaaGreat
open Go.RowKit
set_option maxRecDepth 100000
set_option maxHeartbeats 4000000
theorem Qyd {us:List Value}(h:us.length=5):∃a b c d e,us=[a,b,c,d,e]:=by
 match us,h with
 | [a,b,c,d,e],_=>exact ⟨_,_,_,_,_,rfl⟩
theorem Qal {p:Prop}[Decidable p]{w:World}{e:Ending}{w':World}(h:RetB p w e w'):RetB (decide p=true) w e w':=by
 obtain ⟨b,a,c,d⟩:=h
 exact ⟨b,a,by rw[c,aT],d⟩
theorem XZ (s:ZK)[Decidable (StgOk s)]:FC Tryz.prog 253 [(true,leaves QbO s)] [] 0 (QX (lf (dB (decide (StgOk s))))):=Qgk fun g w j h=>by
 obtain ⟨i,rfl,a⟩:=h.agg1
 obtain ⟨b,c,d,e,f,rfl⟩:=Qyd a.len
 exact (QkF b c d e f s w a).mono fun _ _ h=>Qal h
def Qyj (ts:List Q7)(a b:Nat)(p:Int):List Q7:=(ts.modify a fun t=>(t.1,t.2++[p])).modify b fun t=>(t.1++[p],t.2)
def YO (b:Bool):ByteArray:=⟨#[if b then 49 else 48]⟩
def QaT (s:ZK)(o:YX):ZK:=((s.1.1+1,Qyj s.1.2 o.1.toNat o.2.1.toNat s.1.1),s.2.1,s.2.2.1,s.2.2.2++YO o.2.2)
theorem Qim {ts:List Q7}{i:Nat}{x:Q7}(h:ts[i]? =some x):(Q5 Zs ts)[i*2+1]? =some (.dat Qi x.2)∧(Q5 Zs ts)[i*2+0]? =some (.dat Qi x.1):=
 ⟨J1 (e:=Zs) (j:=1) h rfl,J1 (e:=Zs) (j:=0) h rfl⟩
theorem Qkz {ts:List Q7}{i:Nat}{x:Q7}{ys:List Int}(h:ts[i]? =some x):(Q5 Zs ts).set (i*2+1) (.dat Qi ys)=Q5 Zs (ts.set i (x.1,ys)):=
 (Hb (e:=Zs) (j:=1) (x':=(x.1,ys)) h rfl (by decide)).symm
theorem QjH {ts:List Q7}{i:Nat}{x:Q7}{ys:List Int}(h:ts[i]? =some x):(Q5 Zs ts).set (i*2+0) (.dat Qi ys)=Q5 Zs (ts.set i (ys,x.2)):=
 (Hb (e:=Zs) (j:=0) (x':=(ys,x.2)) h rfl (by decide)).symm
theorem Qfl {s:ZK}(a:Ty.tot QbO s≤2000000):s.2.2.2.size≤2000000:=by
 have:Ty.tot QbO s=Ty.tot Qbr s.1+((s.2.1.length+(s.2.1.map (Ty.tot Xb)).sum)+((s.2.2.1.length+(s.2.2.1.map (Ty.tot Qbk)).sum)+s.2.2.2.size)):=rfl
 omega
theorem Zh (b:UInt8):(⟨#[b]⟩:ByteArray).size=1:=rfl
theorem QxJ {a n:Nat}(h:a < n):a*2+1 < n*2:=by omega
theorem QxO {a n:Nat}(h:a < n):a*2+0 < n*2:=by omega
def Qaw:ZK:=((0,[]),[],[],ByteArray.empty)
def QuR (s:ZK)[Decidable (StgOk s)]:ZK×Bool:=if StgOk s then (s,true) else (Qaw,false)
end Go.Proofs.YtndabgcpnmeeoaaGreat
namespace Go.Proofs.YtndabgcpnmeeoaaGreat
open Go.RowKit
set_option maxRecDepth 100000
set_option maxHeartbeats 4000000
def Qpg (s:ZK)(o:YX):Prop:=StgOk s∧(0≤o.1∧o.1 < s.1.2.length)∧(0≤o.2.1∧o.2.1 < s.1.2.length)∧o.1≠o.2.1
instance (s:ZK) (o:YX) [Decidable (StgOk s)]:Decidable (Qpg s o):=inferInstanceAs (Decidable (_∧_))
def Qwc (s:ZK)(o:YX)[Decidable (StgOk s)][Decidable (StgOk (QaT s o))]:ZK×Bool:=if Qpg s o then QuR (QaT s o) else (Qaw,false)
def QyN (s:ZK)(o:YX)[Decidable (StgOk s)][Decidable (StgOk (QaT s o))]:ZK×Bool:=if Qpg s o then (QaT s o,decide (StgOk (QaT s o))) else (Qaw,false)
section
variable {s:ZK}{o:YX}[Decidable (StgOk s)][Decidable (StgOk (QaT s o))]
end
end Go.Proofs.YtndabgcpnmeeoaaGreat
namespace Go.Proofs.YtndabgcpnmeeoaaGreat
open Go.RowKit
set_option maxRecDepth 100000
set_option maxHeartbeats 4000000
section
variable {α:Type _}(f:α→Int→α×Int)
def QI:List α→Int→List α×Int
 | [],k=>([],k)
 | x :: xs,k=>((f x k).1 :: (QI xs (f x k).2).1,(QI xs (f x k).2).2)
def mkA (a:List α)(k:Int)(i:Nat):List α:=(QI f (a.take i) k).1++a.drop i
def mkC (a:List α)(k:Int)(i:Nat):Int:=(QI f (a.take i) k).2
variable {f}
end
@[reducible] def fI:Int→Int→Int×Int:=fun _ k=>(k,k+1)
@[reducible] def fL:Int×Bool→Int→(Int×Bool)×Int:=fun _ k=>((k,decide ((k+1) % 3=0)),k+2)
end Go.Proofs.YtndabgcpnmeeoaaGreat
namespace Go.Proofs.YtndabgcpnmeeoaaGreat
open Go.RowKit
set_option maxRecDepth 100000
set_option maxHeartbeats 4000000
@[reducible] def fT:List Int×List Int→Int→(List Int×List Int)×Int:=fun t k=>(((QI fI t.1 k).1,(QI fI t.2 (QI fI t.1 k).2).1),(QI fI t.2 (QI fI t.1 k).2).2)
def cT (t:List Int×List Int):Nat:=t.1.length+t.2.length
def QyU (a:List (List Int×List Int)):Nat:=(a.map cT).sum
end Go.Proofs.YtndabgcpnmeeoaaGreat
namespace Go.Proofs.YtndabgcpnmeeoaaGreat
open Go.RowKit
set_option maxRecDepth 100000
set_option maxHeartbeats 4000000
def dg (k:Int):Nat→ByteArray
 | 0=>(⟨#[]⟩:ByteArray)
 | j+1=>(⟨#[UInt8.ofNat ((48+(k / 10 ^ j) % 10):Int).toNat]⟩:ByteArray)++dg k j
def mt (k:Int):Nat→Nat→ByteArray
 | 0,j=>dg k j
 | n+1,j=>if k / 10 ^ j≤0 then dg k j else mt k n (j+1)
def Qv7 (k:Int):ByteArray:=if k≤0 then (⟨#[109,48]⟩:ByteArray) else (⟨#[109]⟩:ByteArray)++mt k 20 0
end Go.Proofs.YtndabgcpnmeeoaaGreat
namespace Go.Proofs.YtndabgcpnmeeoaaGreat
open Go.RowKit
set_option maxRecDepth 100000
set_option maxHeartbeats 4000000
@[reducible] def fS:ByteArray×Int→Int→(ByteArray×Int)×Int:=fun _ k=>((Qv7 k,k+1),k+2)
def QyY (s:ZK)(k:Int):ZK×Int:=(((s.1.1,(QI fT s.1.2 k).1),(QI fS s.2.1 (QI fT s.1.2 k).2).1,(QI fL s.2.2.1 (QI fS s.2.1 (QI fT s.1.2 k).2).2).1,s.2.2.2),(QI fL s.2.2.1 (QI fS s.2.1 (QI fT s.1.2 k).2).2).2)
end Go.Proofs.YtndabgcpnmeeoaaGreat
namespace Go.Proofs.YtndabgcpnmeeoaaGreat
open Go.RowKit
set_option maxRecDepth 100000
set_option maxHeartbeats 4000000
section
variable [∀s,Decidable (StgOk s)]
def QwC:ZK→List YX→ZK×Bool
 | s,[]=>(s,true)
 | s,o :: os=>if (Qwc s o).2=true then QwC (Qwc s o).1 os else (Qaw,false)
def QxU (s:ZK)(l:List YX):ZK×Bool:=if StgOk s∧l.length≤6 then QwC s l else (Qaw,false)
end
@[reducible] def Qve:(YX)→Int→(YX)×Int:=fun _ k=>((k,k+1,decide ((k+1+1) % 3=0)),k+1+1+1)
end Go.Proofs.YtndabgcpnmeeoaaGreat
namespace Go.Proofs.YtndabgcpnmeeoaaGreat
open Go.RowKit
set_option maxRecDepth 100000
set_option maxHeartbeats 4000000
def bAt (m:ByteArray)(p:Int):UInt8:=(m[p.toNat]?).getD 0
theorem Zo {m:ByteArray}{p:Int}{c:UInt8}(h:m[p.toNat]? =some c):bAt m p=c:=by unfold bAt; rw[h]; rfl
theorem We (m:ByteArray):m.toList.length=m.size:=by simp[bp]
def ZO {α:Type _}(f:α→Bool)(l:List α):Int:=match l.findIdx? f with | some i=>i | none=> -1
def NoneTo {α:Type _}(f:α→Bool)(l:List α)(k:Nat):Prop:=∀j,j < k→∀x,l[j]? =some x→f x=false
section
variable {α:Type _}{f:α→Bool}{l:List α}{k:Nat}{x:α}
theorem NoneTo.zero:NoneTo f l 0:=fun j a=>absurd a (aW j)
theorem NoneTo.step (h:NoneTo f l k)(c:l[k]? =some x)(b:f x=false):NoneTo f l (k+1):=fun j d y a=>by
 by_cases e:j=k
 ·subst e; rw[c] at a; cases a; exact b
 ·exact h j (by omega) y a
theorem NoneTo.at (h:NoneTo f l k)(e:l[k]? =some x)(c:f x=true):ZO f l=k:=by
 obtain ⟨a,b⟩:=ah.1 e
 have:l.findIdx? f=some k:=cC.2 ⟨a,by rw[b]; exact c,fun j d=>by
  have:=h j d _ (aj (by omega))
  simp[this]⟩
 unfold ZO
 rw[this]
theorem NoneTo.no (h:NoneTo f l k)(c:l.length≤k):ZO f l= -1:=by
 have:l.findIdx? f=none:=List.findIdx?_eq_none_iff.2 fun x b=>by
  obtain ⟨j,a⟩:=aL.1 b
  have:=(ah.1 a).1
  exact h j (by omega) x a
 unfold ZO
 rw[this]
theorem NoneTo.any_no (h:NoneTo f l k)(c:l.length≤k):l.any f=false:=cr.2 fun x b=>by
 obtain ⟨j,a⟩:=aL.1 b
 have:=(ah.1 a).1
 simp[h j (by omega) x a]
theorem QqC (b:l[k]? =some x)(a:f x=true):l.any f=true:=bC.2 ⟨x,ae b,a⟩
theorem Uw (f:α→Bool)(l:List α):decide (0≤ZO f l)=l.any f:=by
 unfold ZO
 cases h:l.findIdx? f with
 | none=>
  have:=List.findIdx?_eq_none_iff.1 h
  rw[co]
  simp only[bC,aT]
  constructor
  ·intro h; omega
  ·rintro ⟨x,d,a⟩; rw[this x d] at a; cases a
 | some i=>
  obtain ⟨b,c,_⟩:=cC.1 h
  have:l.any f=true:=bC.2 ⟨_,cM b,c⟩
  rw[this]
  simp
def X4 (f:α→Bool)(l:List α):Nat→List Int
 | 0=>[]
 | k+1=>X4 f l k++(match l[k]? with | some x=>if f x then [(k:Int)] else [] | none=>[])
theorem Qm1 (b:l[k]? =some x)(a:f x=true):X4 f l k++[(k:Int)]=X4 f l (k+1):=by simp[X4,b,a]
theorem Qri (b:l[k]? =some x)(a:f x=false):X4 f l k=X4 f l (k+1):=by simp[X4,b,a]
theorem Qfj (f:α→Bool)(l:List α)(k:Nat):(X4 f l k).length≤k:=by
 induction k with
 | zero=>simp[X4]
 | succ k a=>
  simp only[X4,ai]
  split
  ·split <;> simp <;> omega
  ·simp; omega
theorem QmW {f:α→Bool}{l:List α}{k:Nat}{t:Int}(h:t∈X4 f l k):∃x,0≤t∧t < l.length∧t < k∧l[t.toNat]? =some x∧f x=true:=by
 induction k with
 | zero=>simp[X4] at h
 | succ k g=>
  simp only[X4,aM] at h
  rcases h with h | h
  ·obtain ⟨x,c,d,i,e⟩:=g h; exact ⟨x,c,d,by omega,e⟩
  ·cases a:l[k]? with
   | none=>rw[a] at h; simp at h
   | some x=>
    rw[a] at h
    cases b:f x with
    | false=>simp[b] at h
    | true=>
     simp only[b,if_true,aD] at h
     subst h
     have:=(ah.1 a).1
     exact ⟨x,by omega,by omega,by omega,by simpa using a,b⟩
theorem Yo {l:List α}{k:Nat}{x:α}(c:l[k]? =some x):l.drop k=x :: l.drop (k+1):=by
 obtain ⟨a,b⟩:=ah.1 c
 rw[List.drop_eq_getElem_cons a,b]
end
def QbY (m:ByteArray)(ps:List Int):Prop:=∀p∈ps,(0≤p∧p < m.size)∧(bAt m p=48∨bAt m p=49)
def enb (m:ByteArray)(t:Q7):Bool:= !t.1.any fun p=>decide (bAt m p=48)
def Kg (n:Xy)(m:ByteArray):List Int:=X4 (enb m) n.2 n.2.length
def clr (l:List UInt8):List Int→List UInt8
 | []=>l
 | p :: ps=>clr (l.set p.toNat 48) ps
def KI (l:List UInt8):List Int→Option (List UInt8)
 | []=>some l
 | p :: ps=>if l[p.toNat]? =some 49 then none else KI (l.set p.toNat 49) ps
def Kt (m:ByteArray)(t:Q7):ByteArray×Bool:=match KI (clr m.toList t.1) t.2 with
 | none=>(⟨#[]⟩,false)
 | some l=>(⟨l.toArray⟩,true)
def Yy (n:Xy)(m:ByteArray)(t:Int):ByteArray×Bool:=match n.2[t.toNat]? with
 | none=>(⟨#[]⟩,false)
 | some x=>Kt m x
def Qyw (n:Xy)(m:ByteArray)(t:Int):ByteArray×Bool:=if 0≤t then (match n.2[t.toNat]? with
 | none=>(⟨#[]⟩,false)
 | some x=>if enb m x then Kt m x else (⟨#[]⟩,false)) else (⟨#[]⟩,false)
section
variable {n:Xy}{m:ByteArray}{t:Int}{x:Q7}{l:List UInt8}{ps:List Int}{k:Nat}{p:Int}
theorem QqM (a:ps[k]? =some p):clr l (ps.drop k)=clr (l.set p.toNat 48) (ps.drop (k+1)):=by rw[Yo a,clr]
theorem Qsc (h:ps.length≤k):clr l (ps.drop k)=l:=by rw[bR h,clr]
theorem QnI (d:ps[k]? =some p){c:UInt8}(a:l[p.toNat]? =some c)(b:decide (c=49)=false):KI l (ps.drop k)=KI (l.set p.toNat 49) (ps.drop (k+1)):=by
 rw[Yo d,KI,if_neg]
 rw[a]
 intro h
 cases h
 simp at b
theorem Qmv (d:ps[k]? =some p){c:UInt8}(a:l[p.toNat]? =some c)(b:decide (c=49)=true):KI l (ps.drop k)=none:=by
 rw[Yo d,KI,if_pos]
 rw[a,ab b]
theorem Qho (h:ps.length≤k):KI l (ps.drop k)=some l:=by rw[bR h,KI]
theorem Qr9 (l:List UInt8)(ps:List Int):(clr l ps).length=l.length:=by
 induction ps generalizing l with
 | nil=>rfl
 | cons p ps a=>rw[clr,a,ay]
theorem Qfd (h:KI (clr m.toList x.1) x.2=none):Kt m x=(⟨#[]⟩,false):=by unfold Kt; rw[h]
theorem Qef (h:KI (clr m.toList x.1) x.2=some l):Kt m x=(⟨l.toArray⟩,true):=by unfold Kt; rw[h]
theorem Qcv (a:n.2[t.toNat]? =some x):Yy n m t=Kt m x:=by unfold Yy; rw[a]
def QbC (n:Xy)(m:ByteArray)(t:Int):Bool:=match n.2[t.toNat]? with
 | some x=>enb m x
 | none=>false
theorem Qcs (a:n.2[t.toNat]? =some x):QbC n m t=enb m x:=by unfold QbC; rw[a]
theorem QqZ (h:QbY m x.1):enb m x=true↔∀p∈x.1,bAt m p=49:=by
 unfold enb
 simp only[bS,cr,aT]
 constructor
 ·intro k p b
  rcases (h p b).2 with a | a
  ·exact absurd a (k p b)
  ·exact a
 ·intro k p b a
  rw[k p b] at a
  exact absurd a (by decide)
theorem Qi5 {c:UInt8}(b:∀j,j < k→∀y,ps[j]? =some y→bAt m y=49)(g:ps[k]? =some p)(d:m[p.toNat]? =some c)(hb:(!decide (c=49))=false):∀j,j < k+1→∀y,ps[j]? =some y→bAt m y=49:=fun j h y a=>by
 by_cases e:j=k
 ·subst e; rw[g] at a; cases a
  rw[Zo d]
  simpa using hb
 ·exact b j (by omega) y a
theorem Qrg {c:UInt8}(b:n.2[t.toNat]? =some x)(d:QbY m x.1)(e:x.1[k]? =some p)(a:m[p.toNat]? =some c)(hb:(!decide (c=49))=true):QbC n m t=false:=by
 rw[Qcs b,cX]
 intro h
 have:=(QqZ d).1 h p (ae e)
 rw[Zo a] at this
 simp[this] at hb
theorem Qnb (c:n.2[t.toNat]? =some x)(d:QbY m x.1)(b:∀j,j < k→∀y,x.1[j]? =some y→bAt m y=49)(e:x.1.length≤k):QbC n m t=true:=by
 rw[Qcs c]
 refine (QqZ d).2 fun p h=> ?_
 obtain ⟨j,a⟩:=aL.1 h
 have:=(ah.1 a).1
 exact b j (by omega) p a
theorem Qex (b:k < n.2.length)(h:QbC n m (k:Int)=true):X4 (enb m) n.2 k++[(k:Int)]=X4 (enb m) n.2 (k+1):=by
 have a:=aj b
 rw[Qcs (t:=(k:Int)) (show n.2[((k:Int)).toNat]? =some _ from a)] at h
 exact Qm1 a h
theorem Qe0 (b:k < n.2.length)(h:QbC n m (k:Int)=false):X4 (enb m) n.2 k=X4 (enb m) n.2 (k+1):=by
 have a:=aj b
 rw[Qcs (t:=(k:Int)) (show n.2[((k:Int)).toNat]? =some _ from a)] at h
 exact Qri a h
end
theorem Qc9 (n:Qnw)(a:ByteArray)(t:Int)(v:∀t∈n.2,QbY a t.1∧QbY a t.2)(ht:0≤t∧t < (n.2.length:Int)):FC Tryz.prog 377 [(true,[dI n.1, .dat XM n.2]),(false,[dS a]),(false,[dI t])] [] 0 (QX (PV.tup [(false,[dS ((Yy n a t).1)]),(false,[dB ((Yy n a t).2)])])):=by
 have W:=We a
 refine Qp Tryz.func377 rfl rfl Tryz.ntmps377 fun Y O X R Z T S=> ?_
 refine acG 0 0 fun _=> ?_
 refine acI 2 fun _=> ?_
 refine w_ ?_
 refine xbx 0 ?_
 refine w5 ?_
 refine lc (Qgz 1 (Qa rfl) Zz KU Qhw rfl (Fresh.of rfl) (nlr rfl)) ?_
 refine w7 ?_
 obtain ⟨x,w⟩:=gx n.2 ((t).toNat)
 have I:=(v _ (ae w)).1
 have J:=(v _ (ae w)).2
 refine w3 ?_
 refine alL 20 fun _=> ?_
 refine w4 ?_
 refine QD (fun y z=>∃(k:Nat) (l:List UInt8),k≤x.1.length∧y=x.1.length - k∧(clr a.toList x.1=clr l (x.1.drop k))∧(l.length=a.toList.length)∧z=⟨[(2,lI t),(3,lP 0 0),(6,lf (dS (⟨#[]⟩:ByteArray))),(7,lB false),(8,lR 2),(20,lf (.dat Qi x.1)),(21,lI (x.1.length:Int)),(22,lI (k:Int))],[bx 0 48 [dI n.1, .dat XM n.2],(2,some (.bys 5 l))]⟩) ⟨0,a.toList,aP _,rfl,rfl,rfl,rfl⟩ ?_ ?_
 exact wo [(2,1)]
 rintro y z ⟨k,l,U,V,M,N,rfl⟩
 refine w4 ?_
 cases s:(decide ((k:Int) < (x.1.length:Int)))
 have u:=aa s
 refine w11 ?_
 refine alL 35 fun _=> ?_
 refine w4 ?_
 refine QD (fun y z=>∃(i:Nat) (o:List UInt8),i≤x.2.length∧y=x.2.length - i∧(KI (clr a.toList x.1) x.2=KI o (x.2.drop i))∧(o.length=a.toList.length)∧z=⟨[(8,lR 3),(35,lf (.dat Qi x.2)),(36,lI (x.2.length:Int)),(37,lI (i:Int))],[(3,some (.bys 5 o))]⟩) ⟨0,l,aP _,rfl,by rw[M,Qsc (by omega)]; rfl,N,rfl⟩ ?_ ?_
 exact wo [(3,2)]
 rintro y z ⟨i,o,P,Q,d,F,rfl⟩
 refine w4 ?_
 cases g:(decide ((i:Int) < (x.2.length:Int)))
 have q:=aa g
 refine w5 ?_
 refine lc (UD (ys:=o) (Qqr (Qa rfl) rfl) KU Qhw Zz rfl) ?_
 refine w4 ?_
 have B:((⟨(o).toArray⟩:ByteArray):ByteArray)=((Yy n a t).1):=by
  first | (rw[Qcv (x:=x) ‹_›,Qef (d.trans (Qho (by omega)))]; done)
 have C:(true:Bool)=((Yy n a t).2):=by
  first | (rw[Qcv (x:=x) ‹_›,Qef (d.trans (Qho (by omega)))]; done)
 exact fr_ O (e:=by rw[B,← C] <;> rfl)
 have q:=ab g
 refine w5 ?_
 obtain ⟨A,b⟩:=gx x.2 i
 have G:=(J _ (ae b)).1
 refine w2 ?_
 refine alI 40 fun _=> ?_
 refine w6 ?_
 refine lc (KK (Qa rfl) rfl (Qa rfl) KU Xh rfl (by omega) (by first | omega | (simp only[ay]; omega))) ?_
 obtain ⟨K,c⟩:=gx o ((A).toNat)
 refine lc (Qkh (Qa rfl) rfl c Xh rfl)<|lc (ZJ (Qa rfl) (Q0 49 rfl) rfl) ?_
 refine w_ ?_
 cases h:(decide (K=49))
 have r:=aa h
 refine w5 ?_
 refine lc (KK (Qa rfl) rfl (Qa rfl) KU Xh rfl (by omega) (by first | omega | (simp only[ay]; omega)))<|lc (Qbv (Qa rfl) rfl (by first | omega | (simp only[ay]; omega)) (Q0 49 rfl) Xh)<|Qb ?_
 refine w4 ?_
 refine Qb<|Zb ⟨i+1,(o.set ((A).toNat) 49),by omega,rfl,d.trans (QnI b c ‹_›),by rw[ay]; exact F,rfl⟩ (by omega) ?_
 exact wp [] ⟨(QvJ (by first | rfl | simp)),trivial⟩
 have r:=ab h
 refine w6 ?_
 have D:((⟨#[]⟩:ByteArray):ByteArray)=((Yy n a t).1):=by
  (rw[Qcv (x:=x) ‹_›,Qfd (d.trans (Qmv b c ‹_›))]; done)
 have E:(false:Bool)=((Yy n a t).2):=by
  (rw[Qcv (x:=x) ‹_›,Qfd (d.trans (Qmv b c ‹_›))]; done)
 exact fr_ O (e:=by rw[D,← E] <;> rfl)
 have u:=ab s
 refine w5 ?_
 obtain ⟨L,j⟩:=gx x.1 k
 have H:=(I _ (ae j)).1
 refine w2 ?_
 refine alI 25 fun _=> ?_
 refine w5 ?_
 refine lc (KK (Qa rfl) rfl (Qa rfl) KU Xh rfl (by omega) (by first | omega | (simp only[ay]; omega)))<|lc (Qbv (Qa rfl) rfl (by first | omega | (simp only[ay]; omega)) (Q0 48 rfl) Xh)<|Qb ?_
 refine w4 ?_
 refine Qb<|Zb ⟨k+1,(l.set ((L).toNat) 48),by omega,rfl,M.trans (QqM j),by rw[ay]; exact N,rfl⟩ (by omega) ?_
 exact wp [] ⟨rfl,(QvJ (by first | rfl | simp)),trivial⟩
theorem QbU (n:Qnw)(a:ByteArray)(t:Int)(o:∀t∈n.2,QbY a t.1∧QbY a t.2)(G:0≤t∧t < (n.2.length:Int)):FC Tryz.prog 379 [(true,[dI n.1, .dat XM n.2]),(false,[dS a]),(false,[dI t])] [] 0 (QX (lB (QbC n a t))):=by
 refine Qp Tryz.func379 rfl rfl Tryz.ntmps379 fun E s C w F A z=> ?_
 refine acG 0 0 fun _=> ?_
 refine acI 2 fun _=> ?_
 refine w_ ?_
 refine xbx 0 ?_
 refine w7 ?_
 obtain ⟨x,q⟩:=gx n.2 ((t).toNat)
 have e:=(o _ (ae q)).1
 refine w3 ?_
 refine alL 14 fun _=> ?_
 refine w4 ?_
 refine lpK x.1.length (fun k=>∀j,j < k→∀y,x.1[j]? =some y→bAt a y=49) (fun k=>⟨[(1,lf (dS a)),(14,lf (.dat Qi x.1)),(15,lI (x.1.length:Int)),(16,lI (k:Int))],[]⟩) (fun j B=>absurd B (aW j)) ?_ fun k _ r=> ?_
 exact wo []
 refine w4 ?_
 cases h:(decide ((k:Int) < (x.1.length:Int)))
 have i:=aa h
 refine w6 ?_
 refine Qd<|fqB s ?_
 first | exact (Qnb ‹_› e r (by omega)).symm
 have i:=ab h
 refine w5 ?_
 obtain ⟨D,g⟩:=gx x.1 k
 have v:=(e _ (ae g)).1
 refine w2 ?_
 refine alI 19 fun _=> ?_
 refine w5 ?_
 obtain ⟨c,u⟩:=gs a ((D).toNat)
 refine w_ ?_
 refine lc (QT (Qa rfl) (Q0 49 rfl) rfl) ?_
 refine w_ ?_
 cases b:(!decide (c=49))
 have d:(c=49):=Qu b
 refine w6 ?_
 refine Qb ?_
 refine lK_ (Qi5 r g ‹_› ‹_›) ?_
 exact wo []
 have d:¬(c=49):=QE b
 refine w4 ?_
 refine Qd<|fqB s ?_
 exact (Qrg ‹_› e g ‹_› ‹_›).symm
theorem Qap (n:Qnw)(a:ByteArray)(d:∀t∈n.2,QbY a t.1∧QbY a t.2)(q:n.2.length≤2000000):FC Tryz.prog 255 [(true,[dI n.1, .dat XM n.2]),(false,[dS a])] [] 0 (YV 3 .int (Kg n a)):=by
 refine Qp Tryz.func255 rfl rfl Tryz.ntmps255 fun u j s g v i h=> ?_
 refine acG 0 0 fun _=> ?_
 refine w_ ?_
 refine xbx 0 ?_
 refine w9 ?_
 refine alL 8 fun _=> ?_
 refine w4 ?_
 refine AC.wk (Wk.nilS 1 5 3 .int rfl (Fresh.of rfl) (nlr rfl)) ?_
 refine lp0 n.2.length (fun k=>⟨[(1,lf (dS a)),(2,lP 0 0),(4,lf (.val (.slice none 0 0))),(5,lR 2),(9,lI (n.2.length:Int)),(10,lI (k:Int))],[bx 0 48 [dI n.1, .dat XM n.2],ar 2 3 .int (X4 (enb a) n.2 k)]⟩) ?_ fun k _=> ?_
 exact wp [(2,1)] ⟨rfl,(Qk (by first | rfl | simp)),trivial⟩
 have r:=Qfj (enb a) n.2 k
 refine w4 ?_
 cases b:(decide ((k:Int) < (n.2.length:Int)))
 have c:=aa b
 refine w7 ?_
 refine Qd<|fo_ j ?_
 rw[show k=n.2.length by omega]; rfl
 have c:=ab b
 refine w12 ?_
 refine lc (dK (QbU n a (k:Int) d (by omega)) Qj9) ?_
 refine w_ ?_
 cases o:(QbC n a (k:Int))
 refine w6 ?_
 refine Qb ?_
 refine l0_ ?_
 exact wp [] ⟨rfl,(Qk (by first | exact Qex (by omega) ‹_› | exact Qe0 (by omega) ‹_›)),trivial⟩
 refine w4 ?_
 refine lc (dBs 3 (e:= .int) Yt) ?_
 refine lc (dA 4 XC) ?_
 refine w_ ?_
 refine Qb ?_
 refine w4 ?_
 refine Qb ?_
 refine l0_ ?_
 exact wp [(2,4)] ⟨rfl,(Qk (by first | exact Qex (by omega) ‹_› | exact Qe0 (by omega) ‹_›)),trivial⟩
end Go.Proofs.YtndabgcpnmeeoaaGreat
