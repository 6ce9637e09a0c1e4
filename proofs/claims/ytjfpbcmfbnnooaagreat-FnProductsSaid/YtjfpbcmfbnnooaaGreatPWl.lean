import Derived.Test.YtjfpbcmfbnnooaaGreatPSs
import Derived.Sort.OwnSorted
import Derived.Shelf.Sort.AssemblysIn
import Derived.Shelf.Lays
import Derived.Shelf.Slices.In.SortNone
import Derived.KernelRfl
set_option linter.all false
namespace Go.Proofs.YtjfpbcmfbnnooaaGreat
open Go.RowKit Tryz
def ltB (x y:BA):Bool:=Op.bytesLess x.toList y.toList
def fB (x:BA):List UInt8:=x.data.toList
def QAq {x y:BA}(h:fB x=fB y):x=y:=by
 cases x;cases y
 exact congrArg _ (dp.1 h)
def Qze:∀(x y:List UInt8),Op.bytesLess x y=decide (x<y)
 | [],[]=>by simp[Op.bytesLess]
 | _::_,[]=>by simp[Op.bytesLess]
 | [],_::_=>by simp[Op.bytesLess]
 | a::x,b::y=>by
  rw[Op.bytesLess,Qze x y]
  simp only[List.cons_lt_cons_iff]
  by_cases c:a<b <;> by_cases d:a=b <;> by_cases e:x<y <;> simp[c,d,e]
def Qjg (x y:BA):ltB x y=decide (fB x<fB y):=by unfold ltB;rw[bc,bc,Qze];rfl
theorem W9:TO ltB:=⟨fun x=>by rw[Qjg];simp[List.lt_irrefl],fun x y z a b=>by rw[Qjg,aY] at*;exact List.lt_trans a b,fun x y=>by
 rw[Qjg,Qjg,aY,aY]
 by_cases a:fB x<fB y
 ·exact .inl a
 ·by_cases b:fB y<fB x
  ·exact .inr (.inr b)
  ·exact .inr (.inl (QAq (List.le_antisymm (List.not_lt.1 b) (List.not_lt.1 a))))⟩
def Qlr (xs:List BA):List BA:=xs.mergeSort fun x y=> !ltB y x
def QgV (xs:List BA):(Qlr xs).Perm xs:=List.mergeSort_perm ..
def Qr9 (xs:List BA):(Qlr xs).length=xs.length:=(QgV xs).length_eq
def QFn (P:Program)(f:FuncId):Prop:=∀(blk cap:Nat) (zs:List BA) (w:World),Sort.Holds encStr w blk 0 (zs.map fB).toArray→blk<w.heap.size→zs.length<4611686018427387904→
 Calls P f #[.slice (some ⟨blk,0,none⟩) zs.length cap] w fun e w'=>e= .returned (.tuple #[])∧∃n os,w'=Sort.grow (Sort.putRow encStr (Sort.ahead w n) blk 0 ((Qlr zs).map fB).toArray) os
def QB9:Go.Shelf.Ren:=⟨fun|190=>217|125=>270|258=>269|128=>323|129=>324|302=>314|303=>315|304=>316|305=>317|306=>318|307=>319|308=>320|309=>321|310=>322|333=>342|329=>343|330=>344|334=>345|335=>346|336=>347|344=>352|n=>n,fun|31=>25|9=>9|3=>3|46=>263|0=>0|51=>305|53=>84|4=>4|183=>333|182=>332|131=>195|5=>5|218=>355|222=>359|228=>364|229=>365|n=>n,fun|n=>n⟩
set_option maxRecDepth 100000
set_option maxHeartbeats 4000000
theorem QE (n:Int)(b:Int)(a:Int):FC prog 65 [(false,[dI n]),(false,[dI b]),(false,[dI a])] [] 0 (QJ (lB (decide (b≤n∧n≤a)))):=by
 refine Ql func65 rfl rfl ntmps65 fun j e i f k h g=>w8 ?_
 cases c:(decide (b≤n))
 have d:=ab c
 refine w7 ?_
 refine fqB e ?_
 (rw[cC];simp;omega)
 have d:=aa c
 refine w7 ?_
 refine fqB e ?_
 ·(simp_all;done)
theorem ZD (n:Int)(lo:Int)(hi:Int):FC prog 104 [(false,[dI n]),(false,[dI lo]),(false,[dI hi])] [] 0 (QJ (lB (decide (lo≤n∧n≤hi)))):=by
 refine Ql func104 rfl rfl ntmps104 fun h c g d i f e=>w8 ?_
 cases a:(decide (lo≤n))
 have b:=ab a
 refine w7 ?_
 refine fqB c ?_
 (rw[cC];simp;omega)
 have b:=aa a
 refine w7 ?_
 refine fqB c ?_
 ·(simp_all;done)
def QaQ (l:List Int)(i:l.length≤2000000):FC prog 349 [(false,[.dat Qv l])] [] 0 (WB 3 .int l):=by
 refine Ql func349 rfl rfl ntmps349 fun g d f a h c b=>w4 ?_
 refine lc (dBs 0 (e:= .int) Ye)<|w_ ?_
 refine lc (Zg 1 (Qa rfl) rfl (Evl.rep (Qa rfl)) rfl ZX Xg (by first|omega|(simp only[ai,aC,au,av,aB];omega)|(simp only[ai,aX,au,av,aB];omega)) rfl (Fresh.of rfl) (nlr rfl))<|w3 ?_
 refine fo_ d ?_
 rfl
def QyL {α:Type _}(f:α→Nat){xs:List α}{x:α}(h:x∈xs):f x≤(xs.map f).sum:=by
 induction xs with
 | nil=>cases h
 | cons y b a=>
  simp only[bU,List.sum_cons]
  rcases aK.1 h with rfl|h
  ·omega
  ·have:=a h;omega
def Qx5 {n:XZ}(a:Ty.tot QdC n≤2000000):n.2.length≤2000000:=by
 have:Ty.tot QdC n=0+(n.2.length+(n.2.map (Ty.tot Zt)).sum):=rfl
 omega
def Qiu {s:ZF}(a:Ty.tot Qeq s≤2000000):Ty.tot QdC s.1≤2000000∧s.2.1.length≤2000000∧s.2.2.1.length≤2000000:=by
 have:Ty.tot Qeq s=Ty.tot QdC s.1+((s.2.1.length+(s.2.1.map (Ty.tot Xy)).sum)+((s.2.2.1.length+(s.2.2.1.map (Ty.tot QjO)).sum)+s.2.2.2.size)):=rfl
 omega
def QrL {n:XZ}(e:Ty.tot QdC n≤2000000):∀t∈n.2,t.1.length≤2000000∧t.2.length≤2000000:=fun t a=>by
 have b:Ty.tot QdC n=0+(n.2.length+(n.2.map (Ty.tot Zt)).sum):=rfl
 have c:=QyL (Ty.tot Zt) a
 have d:Ty.tot Zt t=(t.1.length+(t.1.map (Ty.tot .int)).sum)+(t.2.length+(t.2.map (Ty.tot .int)).sum):=rfl
 omega
def Qge (n:QqR)(h:Ty.tot QdC n≤2000000):FC prog 337 [(true,[dI n.1,.dat Yv n.2])] [] 0 (Is (ag [dI n.1,.ref 0]) [ar 0 290 Zu n.2]):=by
 have s:=Qx5 h
 have g:=QrL h
 refine Ql func337 rfl rfl ntmps337 fun q m o i r l j=>w_ ?_
 refine xbx 0 ?_
 refine lc (xal 1 Qlz Qax)<|w4 ?_
 refine lc (Qh QeA ⟨_,_,rfl,(Qm rfl),rfl⟩ (ao.1 rfl) rfl rfl)<|lc (xal 2 Qlz Qax)<|w10 ?_
 refine AC.wk (Qo 3 (p:=2) (off:=1) 290 Zu rfl rfl (Fresh.of rfl) (nlr rfl))<|lp0 n.2.length (fun k=>⟨[(2,lP 1 0),(3,lP 2 0),(10,lf (.dat Yv n.2)),(11,lI (n.2.length:Int)),(12,lI (k:Int))],[bx 1 161 [dI 0,.val (.slice none 0 0)],bx 2 161 [dI n.1,.ref 4],ar 4 290 Zu (n.2.take k)]⟩) ?_ fun k _=> ?_
 exact wp [(4,3)] ⟨rfl,rfl,(Qg rfl),trivial⟩
 refine w4 ?_
 cases c:(decide ((k:Int)<(n.2.length:Int)))
 have d:=ab c
 refine w8 ?_
 exact fi_ [(0,4)] m ⟨(Qg (by rw[Zy (by omega)])),trivial⟩
 have d:=aa c
 refine w5 ?_
 obtain ⟨b,f⟩:=gx n.2 k
 refine w2 ?_
 refine lc (xal 5 Zu JE)<|w2 ?_
 apply dV (i4 16 _ _ _ _ [⟨some 20,lR 6,[ar 6 3 .int b.1]⟩,io 21 (lP 5 1),io 22 (lf (.dat Qv b.2)),⟨some 23,lR 7,[ar 7 3 .int b.2]⟩,io 24 (ag [.ref 6,.ref 7]),⟨some 25,lR 8,[ar 8 290 Zu ([(b.1,b.2)]),(6,none),(7,none)]⟩,⟨some 26,lR 9,[ar 9 290 Zu ((n.2.take k)++([(b.1,b.2)])),(4,none),(8,none)]⟩,io 27 _,⟨none,lf (.val undef),[bx 2 161 [dI n.1,.ref 9]]⟩]) [0,0,3,3,3,31,31,3,3,3,0,0,0]
 refine z4 ?_
 refine zz (fun _ a=>ac (dO 6 (QaQ b.1 (by have:=g _ (ah ‹_›);omega)) Qf4) rfl)<|z2 ?_
 refine zz (fun _ a=>ac (dO 7 (QaQ b.2 (by have:=g _ (ah ‹_›);omega)) Qf4) rfl)<|zz (fun _ a=>ac (Qh QeD ⟨_,_,rfl,(a.w rfl),⟨_,_,rfl,(a.w rfl),rfl⟩⟩ (ao.1 (by simp only[QH,Xh,aV,bo];rw[(a.en 6 rfl),(a.en 7 rfl)];rfl)) rfl rfl) rfl)<|zz (fun _ a=>ac (YK 8 (e:=Zu) Qat Qas JE rfl ⟨_,_,rfl,(a.w rfl),rfl⟩ (ao.1 (by simp only[QH,Xh,aV,bo];rw[(a.en 6 rfl),(a.en 7 rfl)];rfl)) ⟨_,_,_,_,rfl,⟨[.ref 6],[.ref 7],_,_,_,_,rfl,rfl,(.inl ⟨_,rfl,(a.en 6 rfl),rfl⟩),(.inl ⟨_,rfl,(a.en 7 rfl),rfl⟩),rfl⟩,⟨rfl,rfl⟩,rfl⟩ (by decide) rfl rfl (a.fr 8 rfl) (nlr rfl)) rfl)<|zz (fun _ a=>ac (dA 9 QeG) rfl)<|z_ ?_
 exact zz (fun _ a=>ac (QR (a.v rfl) (a.en 2 rfl) (a.w rfl) (by simp only[QH,Xh,aV,bo];rw[(a.en 9 rfl)];rfl) Qqi rfl) rfl)<|zN
 refine w4 ?_
 exact Qc<|l0_<|wp [(4,9)] ⟨rfl,rfl,(Qg (by rw[Qr f])),trivial⟩
def Qok (b:Int)(t:Q1):Q1:=(t.1.map fun x=>x+b,t.2.map fun x=>x+b)
def QGg {us:List Value}(h:us.length=5):∃a b c d e,us=[a,b,c,d,e]:=by
 match us,h with
 | [a,b,c,d,e],_=>exact ⟨_,_,_,_,_,rfl⟩
def KS {p:Prop}[Decidable p]{w:World}{e:Ending}{w':World}(h:RetB p w e w'):RetB (decide p=true) w e w':=by
 obtain ⟨b,a,c,d⟩:=h
 exact ⟨b,a,by rw[c,aY],d⟩
def WF (s:ZF)[Decidable (StgOk s)]:FC prog 254 [(true,leaves Qeq s)] [] 0 (QJ (lf (dB (decide (StgOk s))))):=QcN fun g w j h=>by
 obtain ⟨i,rfl,a⟩:=h.agg1
 obtain ⟨b,c,d,e,f,rfl⟩:=QGg a.len
 exact (QnN b c d e f s w a).mono fun _ _ h=>KS h
def QFp (ts:List Q1)(a b:Nat)(p:Int):List Q1:=(ts.modify a fun t=>(t.1,t.2++[p])).modify b fun t=>(t.1++[p],t.2)
def Z0 (b:Bool):BA:=⟨#[if b then 49 else 48]⟩
def QcR (s:ZF)(o:Xj):ZF:=((s.1.1+1,QFp s.1.2 o.1.toNat o.2.1.toNat s.1.1),s.2.1,s.2.2.1,s.2.2.2++Z0 o.2.2)
def Qkw {ts:List Q1}{i:Nat}{x:Q1}(h:ts[i]? =some x):(Zh Zt ts)[i*2+1]? =some (.dat Qv x.2)∧(Zh Zt ts)[i*2+0]? =some (.dat Qv x.1):=
 ⟨K3 (e:=Zt) (j:=1) h rfl,K3 (e:=Zt) (j:=0) h rfl⟩
def Ql5 {ts:List Q1}{i:Nat}{x:Q1}{ys:List Int}(h:ts[i]? =some x):(Zh Zt ts).set (i*2+1) (.dat Qv ys)=Zh Zt (ts.set i (x.1,ys)):=
 (K4 (e:=Zt) (j:=1) (x':=(x.1,ys)) h rfl (by decide)).symm
def Ql4 {ts:List Q1}{i:Nat}{x:Q1}{ys:List Int}(h:ts[i]? =some x):(Zh Zt ts).set (i*2+0) (.dat Qv ys)=Zh Zt (ts.set i (ys,x.2)):=
 (K4 (e:=Zt) (j:=0) (x':=(ys,x.2)) h rfl (by decide)).symm
def Qiv {s:ZF}(a:Ty.tot Qeq s≤2000000):s.2.2.2.size≤2000000:=by
 have:Ty.tot Qeq s=Ty.tot QdC s.1+((s.2.1.length+(s.2.1.map (Ty.tot Xy)).sum)+((s.2.2.1.length+(s.2.2.1.map (Ty.tot QjO)).sum)+s.2.2.2.size)):=rfl
 omega
def ZJ (b:UInt8):(⟨#[b]⟩:BA).size=1:=rfl
def QGt {a n:Nat}(h:a<n):a*2+1<n*2:=by omega
def QGs {a n:Nat}(h:a<n):a*2+0<n*2:=by omega
theorem QdR (b:Bool):FC prog 69 [(false,[dB b])] [] 0 (QJ (lf (.dat .u8 (if b then 49 else 48)))):=by
 refine Ql func69 rfl rfl ntmps69 fun g a f c h e d=>w_ ?_
 refine lc (WA (QS 0 rfl) rfl)<|w5 ?_
 refine cb_ (fun _=> ?_) fun _=> ?_
 refine w2 ?_
 refine lc (WA (QS 48 rfl) rfl)<|w2 ?_
 refine fq_ a ?_
 simp_all
 refine w_ ?_
 refine lc (WA (QS 49 rfl) rfl)<|w2 ?_
 refine fq_ a ?_
 simp_all
def QcK:ZF:=((0,[]),[],[],ByteArray.empty)
def QBS (s:ZF)[Decidable (StgOk s)]:ZF×Bool:=if StgOk s then (s,true) else (QcK,false)
def QsN (s:ZF)(o:Xj):Prop:=StgOk s∧(0≤o.1∧o.1<s.1.2.length)∧(0≤o.2.1∧o.2.1<s.1.2.length)∧o.1≠o.2.1
instance (s:ZF) (o:Xj) [Decidable (StgOk s)]:Decidable (QsN s o):=inferInstanceAs (Decidable (_∧_))
def QCs (s:ZF)(o:Xj)[Decidable (StgOk s)][Decidable (StgOk (QcR s o))]:ZF×Bool:=if QsN s o then QBS (QcR s o) else (QcK,false)
def QHp (s:ZF)(o:Xj)[Decidable (StgOk s)][Decidable (StgOk (QcR s o))]:ZF×Bool:=if QsN s o then (QcR s o,decide (StgOk (QcR s o))) else (QcK,false)
section
variable {s:ZF}{o:Xj}[Decidable (StgOk s)][Decidable (StgOk (QcR s o))]
end
section
variable {α:Type _}(f:α→Int→α×Int)
def QN:List α→Int→List α×Int
 | [],k=>([],k)
 | x::xs,k=>((f x k).1::(QN xs (f x k).2).1,(QN xs (f x k).2).2)
def mkA (a:List α)(k:Int)(i:Nat):List α:=(QN f (a.take i) k).1++a.drop i
def mkC (a:List α)(k:Int)(i:Nat):Int:=(QN f (a.take i) k).2
variable {f}
end
@[reducible] def fI:Int→Int→Int×Int:=fun _ k=>(k,k+1)
@[reducible] def fL:Int×Bool→Int→(Int×Bool)×Int:=fun _ k=>((k,decide ((k+1) % 3=0)),k+2)
@[reducible] def fT:List Int×List Int→Int→(List Int×List Int)×Int:=fun t k=>(((QN fI t.1 k).1,(QN fI t.2 (QN fI t.1 k).2).1),(QN fI t.2 (QN fI t.1 k).2).2)
def cT (t:List Int×List Int):Nat:=t.1.length+t.2.length
def QHx (a:List (List Int×List Int)):Nat:=(a.map cT).sum
def dg (k:Int):Nat→BA
 | 0=>(⟨#[]⟩:BA)
 | j+1=>(⟨#[UInt8.ofNat ((48+(k / 10 ^ j) % 10):Int).toNat]⟩:BA)++dg k j
def mt (k:Int):Nat→Nat→BA
 | 0,j=>dg k j
 | n+1,j=>if k / 10 ^ j≤0 then dg k j else mt k n (j+1)
def QDC (k:Int):BA:=if k≤0 then (⟨#[109,48]⟩:BA) else (⟨#[109]⟩:BA)++mt k 20 0
@[reducible] def fS:BA×Int→Int→(BA×Int)×Int:=fun _ k=>((QDC k,k+1),k+2)
def QHq (s:ZF)(k:Int):ZF×Int:=(((s.1.1,(QN fT s.1.2 k).1),(QN fS s.2.1 (QN fT s.1.2 k).2).1,(QN fL s.2.2.1 (QN fS s.2.1 (QN fT s.1.2 k).2).2).1,s.2.2.2),(QN fL s.2.2.1 (QN fS s.2.1 (QN fT s.1.2 k).2).2).2)
section
variable [∀s,Decidable (StgOk s)]
def QCz:ZF→List Xj→ZF×Bool
 | s,[]=>(s,true)
 | s,o::os=>if (QCs s o).2=true then QCz (QCs s o).1 os else (QcK,false)
def QFt (s:ZF)(l:List Xj):ZF×Bool:=if StgOk s∧l.length≤6 then QCz s l else (QcK,false)
end
@[reducible] def QAr:(Xj)→Int→(Xj)×Int:=fun _ k=>((k,k+1,decide ((k+1+1) % 3=0)),k+1+1+1)
def bAt (m:BA)(p:Int):UInt8:=(m[p.toNat]?).getD 0
def QU {m:BA}{p:Int}{c:UInt8}(h:m[p.toNat]? =some c):bAt m p=c:=by unfold bAt;rw[h];rfl
def Xp (m:BA):m.toList.length=m.size:=by simp[bc]
def Zj {α:Type _}(f:α→Bool)(l:List α):Int:=match l.findIdx? f with|some i=>i|none=> -1
def NoneTo {α:Type _}(f:α→Bool)(l:List α)(k:Nat):Prop:=∀j,j<k→∀x,l[j]? =some x→f x=false
section
variable {α:Type _}{f:α→Bool}{l:List α}{k:Nat}{x:α}
def NoneTo.zero:NoneTo f l 0:=fun j a=>absurd a (aS j)
def NoneTo.step (h:NoneTo f l k)(c:l[k]? =some x)(b:f x=false):NoneTo f l (k+1):=fun j d y a=>by
 by_cases e:j=k
 ·subst e;rw[c] at a;cases a;exact b
 ·exact h j (by omega) y a
def NoneTo.at (h:NoneTo f l k)(e:l[k]? =some x)(c:f x=true):Zj f l=k:=by
 obtain ⟨a,b⟩:=ae.1 e
 have:l.findIdx? f=some k:=bY.2 ⟨a,by rw[b];exact c,fun j d=>by
  have:=h j d _ (ak (by omega))
  simp[this]⟩
 unfold Zj
 rw[this]
def NoneTo.no (h:NoneTo f l k)(c:l.length≤k):Zj f l= -1:=by
 have:l.findIdx? f=none:=List.findIdx?_eq_none_iff.2 fun x b=>by
  obtain ⟨j,a⟩:=aG.1 b
  have:=(ae.1 a).1
  exact h j (by omega) x a
 unfold Zj
 rw[this]
def NoneTo.any_no (h:NoneTo f l k)(c:l.length≤k):l.any f=false:=bV.2 fun x b=>by
 obtain ⟨j,a⟩:=aG.1 b
 have:=(ae.1 a).1
 simp[h j (by omega) x a]
def Qs5 (b:l[k]? =some x)(a:f x=true):l.any f=true:=bG.2 ⟨x,ah b,a⟩
def WI (f:α→Bool)(l:List α):decide (0≤Zj f l)=l.any f:=by
 unfold Zj
 cases h:l.findIdx? f with
 | none=>
  have:=List.findIdx?_eq_none_iff.1 h
  rw[cC]
  simp only[bG,aY]
  constructor
  ·intro h;omega
  ·rintro ⟨x,d,a⟩;rw[this x d] at a;cases a
 | some i=>
  obtain ⟨b,c,_⟩:=bY.1 h
  have:l.any f=true:=bG.2 ⟨_,cZ b,c⟩
  rw[this]
  simp
def WJ (f:α→Bool)(l:List α):Nat→List Int
 | 0=>[]
 | k+1=>WJ f l k++(match l[k]? with|some x=>if f x then [(k:Int)] else []|none=>[])
def QrW (b:l[k]? =some x)(a:f x=true):WJ f l k++[(k:Int)]=WJ f l (k+1):=by simp[WJ,b,a]
def Qvk (b:l[k]? =some x)(a:f x=false):WJ f l k=WJ f l (k+1):=by simp[WJ,b,a]
def Qij (f:α→Bool)(l:List α)(k:Nat):(WJ f l k).length≤k:=by
 induction k with
 | zero=>simp[WJ]
 | succ k a=>
  simp only[WJ,ai]
  split
  ·split <;> simp <;> omega
  ·simp;omega
def QrV {f:α→Bool}{l:List α}{k:Nat}{t:Int}(h:t∈WJ f l k):∃x,0≤t∧t<l.length∧t<k∧l[t.toNat]? =some x∧f x=true:=by
 induction k with
 | zero=>simp[WJ] at h
 | succ k g=>
  simp only[WJ,aO] at h
  rcases h with h|h
  ·obtain ⟨x,c,d,i,e⟩:=g h;exact ⟨x,c,d,by omega,e⟩
  ·cases a:l[k]? with
   | none=>rw[a] at h;simp at h
   | some x=>
    rw[a] at h
    cases b:f x with
    | false=>simp[b] at h
    | true=>
     simp only[b,if_true,aI] at h
     subst h
     have:=(ae.1 a).1
     exact ⟨x,by omega,by omega,by omega,by simpa using a,b⟩
def Yx {l:List α}{k:Nat}{x:α}(c:l[k]? =some x):l.drop k=x::l.drop (k+1):=by
 obtain ⟨a,b⟩:=ae.1 c
 rw[bS a,b]
end
def Qd1 (m:BA)(ps:List Int):Prop:=∀p∈ps,(0≤p∧p<m.size)∧(bAt m p=48∨bAt m p=49)
def enb (m:BA)(t:Q1):Bool:= !t.1.any fun p=>decide (bAt m p=48)
def JT (n:XZ)(m:BA):List Int:=WJ (enb m) n.2 n.2.length
def clr (l:List UInt8):List Int→List UInt8
 | []=>l
 | p::ps=>clr (l.set p.toNat 48) ps
def HU (l:List UInt8):List Int→Option (List UInt8)
 | []=>some l
 | p::ps=>if l[p.toNat]? =some 49 then none else HU (l.set p.toNat 49) ps
def HJ (m:BA)(t:Q1):BA×Bool:=match HU (clr m.toList t.1) t.2 with
 | none=>(⟨#[]⟩,false)
 | some l=>(⟨l.toArray⟩,true)
def YL (n:XZ)(m:BA)(t:Int):BA×Bool:=match n.2[t.toNat]? with
 | none=>(⟨#[]⟩,false)
 | some x=>HJ m x
def QG3 (n:XZ)(m:BA)(t:Int):BA×Bool:=if 0≤t then (match n.2[t.toNat]? with
 | none=>(⟨#[]⟩,false)
 | some x=>if enb m x then HJ m x else (⟨#[]⟩,false)) else (⟨#[]⟩,false)
section
variable {n:XZ}{m:BA}{t:Int}{x:Q1}{l:List UInt8}{ps:List Int}{k:Nat}{p:Int}
def QtB (a:ps[k]? =some p):clr l (ps.drop k)=clr (l.set p.toNat 48) (ps.drop (k+1)):=by rw[Yx a,clr]
def Qw3 (h:ps.length≤k):clr l (ps.drop k)=l:=by rw[cr h,clr]
def QrY (d:ps[k]? =some p){c:UInt8}(a:l[p.toNat]? =some c)(b:decide (c=49)=false):HU l (ps.drop k)=HU (l.set p.toNat 49) (ps.drop (k+1)):=by
 rw[Yx d,HU,if_neg]
 rw[a]
 intro h
 cases h
 simp at b
def QpV (d:ps[k]? =some p){c:UInt8}(a:l[p.toNat]? =some c)(b:decide (c=49)=true):HU l (ps.drop k)=none:=by
 rw[Yx d,HU,if_pos]
 rw[a,aa b]
def Qlf (h:ps.length≤k):HU l (ps.drop k)=some l:=by rw[cr h,HU]
def Qw4 (l:List UInt8)(ps:List Int):(clr l ps).length=l.length:=by
 induction ps generalizing l with
 | nil=>rfl
 | cons p ps a=>rw[clr,a,ax]
def QhZ (h:HU (clr m.toList x.1) x.2=none):HJ m x=(⟨#[]⟩,false):=by unfold HJ;rw[h]
def Qgi (h:HU (clr m.toList x.1) x.2=some l):HJ m x=(⟨l.toArray⟩,true):=by unfold HJ;rw[h]
def QeM (a:n.2[t.toNat]? =some x):YL n m t=HJ m x:=by unfold YL;rw[a]
def QdQ (n:XZ)(m:BA)(t:Int):Bool:=match n.2[t.toNat]? with
 | some x=>enb m x
 | none=>false
def QeI (a:n.2[t.toNat]? =some x):QdQ n m t=enb m x:=by unfold QdQ;rw[a]
def QtW (h:Qd1 m x.1):enb m x=true↔∀p∈x.1,bAt m p=49:=by
 unfold enb
 simp only[cA,bV,aY]
 constructor
 ·intro k p b
  rcases (h p b).2 with a|a
  ·exact absurd a (k p b)
  ·exact a
 ·intro k p b a
  rw[k p b] at a
  exact absurd a (by decide)
def Qod {c:UInt8}(b:∀j,j<k→∀y,ps[j]? =some y→bAt m y=49)(g:ps[k]? =some p)(d:m[p.toNat]? =some c)(hb:(!decide (c=49))=false):∀j,j<k+1→∀y,ps[j]? =some y→bAt m y=49:=fun j h y a=>by
 by_cases e:j=k
 ·subst e;rw[g] at a;cases a
  rw[QU d]
  simpa using hb
 ·exact b j (by omega) y a
def Qvu {c:UInt8}(b:n.2[t.toNat]? =some x)(d:Qd1 m x.1)(e:x.1[k]? =some p)(a:m[p.toNat]? =some c)(hb:(!decide (c=49))=true):QdQ n m t=false:=by
 rw[QeI b,bT]
 intro h
 have:=(QtW d).1 h p (ah e)
 rw[QU a] at this
 simp[this] at hb
def Qr1 (c:n.2[t.toNat]? =some x)(d:Qd1 m x.1)(b:∀j,j<k→∀y,x.1[j]? =some y→bAt m y=49)(e:x.1.length≤k):QdQ n m t=true:=by
 rw[QeI c]
 refine (QtW d).2 fun p h=> ?_
 obtain ⟨j,a⟩:=aG.1 h
 have:=(ae.1 a).1
 exact b j (by omega) p a
def Qn8 (b:k<n.2.length)(h:QdQ n m (k:Int)=true):WJ (enb m) n.2 k++[(k:Int)]=WJ (enb m) n.2 (k+1):=by
 have a:=ak b
 rw[QeI (t:=(k:Int)) (show n.2[((k:Int)).toNat]? =some _ from a)] at h
 exact QrW a h
def QrU (b:k<n.2.length)(h:QdQ n m (k:Int)=false):WJ (enb m) n.2 k=WJ (enb m) n.2 (k+1):=by
 have a:=ak b
 rw[QeI (t:=(k:Int)) (show n.2[((k:Int)).toNat]? =some _ from a)] at h
 exact Qvk a h
end
def Qgd (n:QqR)(a:BA)(t:Int)(s:∀t∈n.2,Qd1 a t.1∧Qd1 a t.2)(Z:0≤t∧t<(n.2.length:Int)):FC prog 301 [(true,[dI n.1,.dat Yv n.2]),(false,[dS a]),(false,[dI t])] [] 0 (QJ (PV.tup [(false,[dS ((YL n a t).1)]),(false,[dB ((YL n a t).2)])])):=by
 have V:=Xp a
 refine Ql func301 rfl rfl ntmps301 fun X M W Q Y S R=>acI 2 fun _=>w_ ?_
 refine xbx 0 ?_
 refine w5 ?_
 refine lc (QbV 1 (Qa rfl) Yd Wq JR rfl (Fresh.of rfl) (nlr rfl))<|w7 ?_
 obtain ⟨x,u⟩:=gx n.2 ((t).toNat)
 have G:=(s _ (ah u)).1
 have H:=(s _ (ah u)).2
 refine w3 ?_
 refine alL 20 fun _=> ?_
 refine w4 ?_
 refine Qy (fun v w=>∃(k:Nat) (l:List UInt8),k≤x.1.length∧v=x.1.length - k∧(clr a.toList x.1=clr l (x.1.drop k))∧(l.length=a.toList.length)∧w=⟨[(2,lI t),(3,lP 0 0),(6,lf (dS (⟨#[]⟩:BA))),(7,lB false),(8,lR 2),(20,lf (.dat Qv x.1)),(21,lI (x.1.length:Int)),(22,lI (k:Int))],[bx 0 161 [dI n.1,.dat Yv n.2],(2,some (.bys 5 l))]⟩) ⟨0,a.toList,aL _,rfl,rfl,rfl,rfl⟩ ?_ ?_
 exact wo [(2,1)]
 rintro v w ⟨k,l,T,U,K,L,rfl⟩
 refine w4 ?_
 cases q:(decide ((k:Int)<(x.1.length:Int)))
 have r:=ab q
 refine w11 ?_
 refine alL 35 fun _=> ?_
 refine w4 ?_
 refine Qy (fun v w=>∃(i:Nat) (j:List UInt8),i≤x.2.length∧v=x.2.length - i∧(HU (clr a.toList x.1) x.2=HU j (x.2.drop i))∧(j.length=a.toList.length)∧w=⟨[(8,lR 3),(35,lf (.dat Qv x.2)),(36,lI (x.2.length:Int)),(37,lI (i:Int))],[(3,some (.bys 5 j))]⟩) ⟨0,l,aL _,rfl,by rw[K,Qw3 (by omega)];rfl,L,rfl⟩ ?_ ?_
 exact wo [(3,2)]
 rintro v w ⟨i,j,O,P,d,D,rfl⟩
 refine w4 ?_
 cases g:(decide ((i:Int)<(x.2.length:Int)))
 have o:=ab g
 refine w5 ?_
 refine lc (Y5 (ys:=j) (Qki (Qa rfl) rfl) Wq JR Yd rfl)<|w4 ?_
 have z:((⟨(j).toArray⟩:BA):BA)=((YL n a t).1):=by
  first|(rw[QeM (x:=x) ‹_›,Qgi (d.trans (Qlf (by omega)))];done)
 have A:(true:Bool)=((YL n a t).2):=by
  first|(rw[QeM (x:=x) ‹_›,Qgi (d.trans (Qlf (by omega)))];done)
 exact fr_ M (e:=by rw[z,← A] <;> rfl)
 have o:=aa g
 refine w5 ?_
 obtain ⟨y,b⟩:=gx x.2 i
 have E:=(H _ (ah b)).1
 refine w2 ?_
 refine alI 40 fun _=> ?_
 refine w6 ?_
 refine lc (Vj (Qa rfl) rfl (Qa rfl) Wq UA rfl (by omega) (by first|omega|(simp only[ax];omega))) ?_
 obtain ⟨I,c⟩:=gx j ((y).toNat)
 refine lc (Qfb (Qa rfl) rfl c UA rfl)<|lc (Zf (Qa rfl) (QS 49 rfl) rfl)<|w_ ?_
 cases N:(decide (I=49))
 refine w5 ?_
 refine lc (Vj (Qa rfl) rfl (Qa rfl) Wq UA rfl (by omega) (by first|omega|(simp only[ax];omega)))<|lc (Ha (Qa rfl) rfl (by first|omega|(simp only[ax];omega)) (QS 49 rfl) UA)<|Qc<|w4 ?_
 exact Qc<|Zb ⟨i+1,(j.set ((y).toNat) 49),by omega,rfl,d.trans (QrY b c ‹_›),by rw[ax];exact D,rfl⟩ (by omega)<|wp [] ⟨(QC3 rfl),trivial⟩
 refine w6 ?_
 have B:((⟨#[]⟩:BA):BA)=((YL n a t).1):=by
  (rw[QeM (x:=x) ‹_›,QhZ (d.trans (QpV b c ‹_›))];done)
 have C:(false:Bool)=((YL n a t).2):=by
  (rw[QeM (x:=x) ‹_›,QhZ (d.trans (QpV b c ‹_›))];done)
 exact fr_ M (e:=by rw[B,← C] <;> rfl)
 have r:=aa q
 refine w5 ?_
 obtain ⟨J,h⟩:=gx x.1 k
 have F:=(G _ (ah h)).1
 refine w2 ?_
 refine alI 25 fun _=> ?_
 refine w5 ?_
 refine lc (Vj (Qa rfl) rfl (Qa rfl) Wq UA rfl (by omega) (by first|omega|(simp only[ax];omega)))<|lc (Ha (Qa rfl) rfl (by first|omega|(simp only[ax];omega)) (QS 48 rfl) UA)<|Qc<|w4 ?_
 exact Qc<|Zb ⟨k+1,(l.set ((J).toNat) 48),by omega,rfl,K.trans (QtB h),by rw[ax];exact L,rfl⟩ (by omega)<|wp [] ⟨rfl,(QC3 rfl),trivial⟩
def Qei (n:QqR)(a:BA)(t:Int)(h:∀t∈n.2,Qd1 a t.1∧Qd1 a t.2)(F:0≤t∧t<(n.2.length:Int)):FC prog 340 [(true,[dI n.1,.dat Yv n.2]),(false,[dS a]),(false,[dI t])] [] 0 (QJ (lB (QdQ n a t))):=by
 refine Ql func340 rfl rfl ntmps340 fun D q B v E z w=>acI 2 fun _=>w_ ?_
 refine xbx 0 ?_
 refine w7 ?_
 obtain ⟨x,i⟩:=gx n.2 ((t).toNat)
 have b:=(h _ (ah i)).1
 refine w3 ?_
 refine alL 14 fun _=> ?_
 refine w4 ?_
 refine lpK x.1.length (fun k=>∀j,j<k→∀y,x.1[j]? =some y→bAt a y=49) (fun k=>⟨[(1,lf (dS a)),(14,lf (.dat Qv x.1)),(15,lI (x.1.length:Int)),(16,lI (k:Int))],[]⟩) (fun j A=>absurd A (aS j)) ?_ fun k _ o=> ?_
 exact wo []
 refine w4 ?_
 cases d:(decide ((k:Int)<(x.1.length:Int)))
 have e:=ab d
 refine w7 ?_
 refine fqB q ?_
 first|exact (Qr1 ‹_› b o (by omega)).symm
 have e:=aa d
 refine w5 ?_
 obtain ⟨C,c⟩:=gx x.1 k
 have u:=(b _ (ah c)).1
 refine w2 ?_
 refine alI 19 fun _=> ?_
 refine w5 ?_
 obtain ⟨g,s⟩:=gs a ((C).toNat)
 refine w_ ?_
 refine lc (QW (Qa rfl) (QS 49 rfl) rfl)<|w_ ?_
 cases r:(!decide (g=49))
 refine w6 ?_
 exact Qc<|lK_ (Qod o c ‹_› ‹_›)<|wo []
 refine w5 ?_
 exact fqB q<|(Qvu ‹_› b c ‹_› ‹_›).symm
def Qck (n:QqR)(a:BA)(d:∀t∈n.2,Qd1 a t.1∧Qd1 a t.2)(q:n.2.length≤2000000):FC prog 300 [(true,[dI n.1,.dat Yv n.2]),(false,[dS a])] [] 0 (WB 3 .int (JT n a)):=by
 refine Ql func300 rfl rfl ntmps300 fun u j s g v i h=>w_ ?_
 refine xbx 0 ?_
 refine w13 ?_
 refine AC.wk (Wk.nilS 1 5 3 .int rfl (Fresh.of rfl) (nlr rfl))<|lp0 n.2.length (fun k=>⟨[(1,lf (dS a)),(2,lP 0 0),(4,lf (.val (.slice none 0 0))),(5,lR 2),(9,lI (n.2.length:Int)),(10,lI (k:Int))],[bx 0 161 [dI n.1,.dat Yv n.2],ar 2 3 .int (WJ (enb a) n.2 k)]⟩) ?_ fun k _=> ?_
 exact wp [(2,1)] ⟨rfl,(Qg rfl),trivial⟩
 have r:=Qij (enb a) n.2 k
 refine w4 ?_
 cases b:(decide ((k:Int)<(n.2.length:Int)))
 have c:=ab b
 refine w8 ?_
 refine fo_ j ?_
 rw[show k=n.2.length by omega];rfl
 have c:=aa b
 refine w12 ?_
 refine lc (dK (Qei n a (k:Int) d (by omega)) Qnw)<|w_ ?_
 cases o:(QdQ n a (k:Int))
 refine w6 ?_
 exact Qc<|l0_<|wp [] ⟨rfl,(Qg (by exact QrU (by omega) ‹_›)),trivial⟩
 refine w4 ?_
 refine lc (dBs 3 (e:= .int) Ye)<|lc (dA 4 Xg)<|w_ ?_
 refine Qc<|w4 ?_
 exact Qc<|l0_<|wp [(2,4)] ⟨rfl,(Qg (by exact Qn8 (by omega) ‹_›)),trivial⟩
abbrev RS:=List BA×List (Int×Int×Int)×List (Int×Int×Int)
abbrev Qkl:=Int×Int×Bool
def YW (l:List BA)(x:BA):Int:=Zj (fun y=>decide (y=x)) l
def goT (n:XZ)(k:Nat)(mk:BA):List Int→RS→RS×Qkl
 | [],st=>(st,(-1,-1,true))
 | t::ts,st=>
  if (YL n mk t).2=false then (st,(k,t,false))
  else if 0≤YW st.1 (YL n mk t).1 then goT n k mk ts (st.1,st.2.1++[((k:Int),t,YW st.1 (YL n mk t).1)],st.2.2)
  else if st.1.length=300 then (st,(-1,-1,false))
  else goT n k mk ts (st.1++[(YL n mk t).1],st.2.1++[((k:Int),t,(st.1.length:Int))],st.2.2++[((k:Int),t,(st.1.length:Int))])
def goK (n:XZ):Nat→Nat→RS→RS×Qkl
 | 0,_,st=>(st,(-1,-1,true))
 | f+1,k,st=>match st.1[k]? with
  | none=>(st,(-1,-1,true))
  | some mk=>if (goT n k mk (JT n mk) st).2.2.2=true then goK n f (k+1) (goT n k mk (JT n mk) st).1 else goT n k mk (JT n mk) st
def Qb7 (n:XZ)(f k:Nat)(r:RS×Qkl):RS×Qkl:=if r.2.2.2=true then goK n f (k+1) r.1 else r
def Zr (s:ZF):RS×Qkl:=goK s.1 301 0 ([s.2.2.2],[],[((0:Int),(0:Int),(0:Int))])
def exV (s:ZF):(List BA×List (Int×Int×Int))×Int×Int×Bool:=(((Zr s).1.1,(Zr s).1.2.1),(Zr s).2)
def l4V (s:ZF):(List BA×List (Int×Int×Int))×List (Int×Int×Int)×Int×Int×Bool:=
 (((Zr s).1.1,(Zr s).1.2.1),(Zr s).1.2.2,(if 0≤(Zr s).2.2.1 then (Zr s).2.1 else 0),(Zr s).2.2.1,(!(Zr s).2.2.2&&decide ((Zr s).2.2.1<0)))
def Qot:List BA×List (Int×Int×Int):=([],[])
section
variable [∀s,Decidable (StgOk s)]
def Qp (s:ZF):(List BA×List (Int×Int×Int))×Bool:=if StgOk s∧(Zr s).2.2.2=true then (((Zr s).1.1,(Zr s).1.2.1),true) else (Qot,false)
end
def Qro (l:List BA)(x y:BA):YW (l++[y]) x=if 0≤YW l x then YW l x else if y=x then (l.length:Int) else -1:=by
 unfold YW Zj
 rw[List.findIdx?_append]
 cases h:l.findIdx? (fun z=>decide (z=x)) with
 | some i=>simp
 | none=>
  by_cases e:y=x
  ·simp[e]
  ·simp[e]
def IdxOf (QN:List BA)(idx:List (BA×Int)):Prop:=∀x,YN .str idx x=if 0≤YW QN x then some (YW QN x) else none
section
variable {QN:List BA}{idx:List (BA×Int)}{x:BA}{v b:List (Int×Int×Int)}{n:XZ}{k f i:Nat}{mk:BA}{t:Int}{ts:List Int}{r:BA×Bool}{j:Int}{s:ZF}{e:Qkl}
def IdxOf.new (h:IdxOf QN idx)(a:(YN .str idx x).isSome=false):¬0≤YW QN x:=by
 rw[h x] at a
 intro c
 rw[if_pos c] at a;cases a
def IdxOf.set (h:IdxOf QN idx)(d:(YN .str idx x).isSome=false):IdxOf (QN++[x]) (Wb .str idx x (QN.length:Int)):=fun y=>by
 have c:=h.new d
 rw[KN,Qro,h y]
 by_cases e:x=y
 ·subst e
  rw[if_pos ((Ty.beq_iff .str x x).2 rfl),if_neg c,if_pos rfl,if_pos (dD _)]
 ·have:Ty.beq .str x y=false:=bT.2 fun h=>e ((Ty.beq_iff .str x y).1 h)
  rw[if_neg (show¬Ty.beq .str x y=true by rw[this];decide),if_neg e]
  by_cases a:0≤YW QN y
  ·rw[if_pos a,if_pos a,if_pos a]
  ·rw[if_neg a,if_neg a,if_neg (by decide)]
def IdxOf.one (x:BA):IdxOf [x] (Wb .str ([]:List (BA×Int)) x 0):=fun y=>by
 rw[KN]
 by_cases e:x=y
 ·subst e
  rw[if_pos ((Ty.beq_iff .str x x).2 rfl)]
  simp[YW,Zj]
 ·have:Ty.beq .str x y=false:=bT.2 fun h=>e ((Ty.beq_iff .str x y).1 h)
  rw[if_neg (show¬Ty.beq .str x y=true by rw[this];decide)]
  simp[YW,Zj,e,YN]
def Qak (c:ts[i]? =some t)(a:r=YL n mk t)(hb:r.2=false):Qb7 n f k (goT n k mk (ts.drop i) (QN,v,b))=((QN,v,b),((k:Int),t,false)):=by
 subst a
 rw[Yx c,goT,if_pos hb]
 rfl
def Qph (d:ts[i]? =some t)(c:r=YL n mk t)(hb:r.2=true)(a:0≤YW QN r.1∧j=YW QN r.1):Qb7 n f k (goT n k mk (ts.drop i) (QN,v,b))=Qb7 n f k (goT n k mk (ts.drop (i+1)) (QN,v++[((k:Int),t,j)],b)):=by
 subst c
 rw[Yx d,goT,if_neg (by rw[hb];decide),if_pos a.1,a.2]
def KK (d:ts[i]? =some t)(c:r=YL n mk t)(hb:r.2=true)(a:¬0≤YW QN r.1)(g:(QN.length:Int)=300):Qb7 n f k (goT n k mk (ts.drop i) (QN,v,b))=((QN,v,b),(-1,-1,false)):=by
 subst c
 rw[Yx d,goT,if_neg (by rw[hb];decide),if_neg a,if_pos (show QN.length=300 by omega)]
 rfl
def Qpg (d:ts[i]? =some t)(c:r=YL n mk t)(hb:r.2=true)(a:¬0≤YW QN r.1)(g:¬(QN.length:Int)=300):Qb7 n f k (goT n k mk (ts.drop i) (QN,v,b))=Qb7 n f k (goT n k mk (ts.drop (i+1)) (QN++[r.1],v++[((k:Int),t,(QN.length:Int))],b++[((k:Int),t,(QN.length:Int))])):=by
 subst c
 rw[Yx d,goT,if_neg (by rw[hb];decide),if_neg a,if_neg (show¬QN.length=300 by omega)]
def QxE (hi:ts.length≤i)(a:k<300):Qb7 n (300 - k) k (goT n k mk (ts.drop i) (QN,v,b))=goK n (301 - (k+1)) (k+1) (QN,v,b):=by
 rw[cr hi,goT,show 301 - (k+1)=300 - k by omega]
 rfl
def QAE (a:QN[k]? =some mk)(c:k<300):goK n (301 - k) k (QN,v,b)=Qb7 n (300 - k) k (goT n k mk (JT n mk) (QN,v,b)):=by
 rw[show 301 - k=(300 - k)+1 by omega,goK]
 simp only[a]
 rfl
def Qaj (a:QN.length≤k):goK n f k (QN,v,b)=((QN,v,b),(-1,-1,true)):=by
 cases f with
 | zero=>rfl
 | succ f=>
  rw[goK]
  simp only[bt a]
def QnO (h:Zr s=((QN,v,b),e)):l4V s=((QN,v),b,(if 0≤e.2.1 then e.1 else 0),e.2.1,(!e.2.2&&decide (e.2.1<0))):=by
 unfold l4V;rw[h]
def Qal (h:Zr s=((QN,v,b),((k:Int),t,false)))(h0:0≤t):l4V s=((QN,v),b,(k:Int),t,false):=by
 rw[QnO h]
 simp[h0]
def KM (h:Zr s=((QN,v,b),(-1,-1,false))):l4V s=((QN,v),b,0,-1,true):=by
 rw[QnO h];rfl
def Qds (h:Zr s=((QN,v,b),(-1,-1,true))):l4V s=((QN,v),b,0,-1,false):=by
 rw[QnO h];rfl
def Qtf {m:BA}{n:Int}(h:QbR m n){p:Int}(h0:0≤p)(d:p<n):(0≤p∧p<m.size)∧(bAt m p=48∨bAt m p=49):=by
 obtain ⟨c,g⟩:=h
 have a:p.toNat<m.size:=by omega
 refine ⟨⟨h0,by omega⟩,?_⟩
 have e:bAt m p=m[p.toNat]:=by unfold bAt;rw[cJ m p.toNat a];rfl
 rw[e]
 rcases c p.toNat a a with h|h
 ·exact .inl (UInt8.toNat_inj.1 h)
 ·exact .inr (UInt8.toNat_inj.1 h)
def Qim {m:BA}{n:Int}(h:QbR m n){ps:List Int}(d:Hh ps (n - 1)):Qd1 m ps:=fun p c=>by
 obtain ⟨j,a⟩:=aG.1 c
 have:=(d j (ae.1 a).1 p a).1
 exact Qtf h (by omega) (by omega)
def QBa (hv:Xn n)(h:QbR mk n.1):∀t∈n.2,Qd1 mk t.1∧Qd1 mk t.2:=fun t a=>⟨Qim h (hv.2.2 t a).2.1,Qim h (hv.2.2 t a).2.2⟩
def Vr (d:(JT n mk)[i]? =some t):0≤t∧t<n.2.length:=by
 obtain ⟨x,a,c,_⟩:=QrV (ah d)
 exact ⟨a,c⟩
def QkF (n:XZ)(mk:BA):(JT n mk).length≤n.2.length:=Qij _ _ _
def LBits (l:List UInt8):Prop:=∀c∈l,c=48∨c=49
def LBits.set {l:List UInt8}(h:LBits l){c:UInt8}(g:c=48∨c=49)(i:Nat):LBits (l.set i c):=fun d m=>by
 rcases cE m with a|a
 ·exact h d a
 ·rw[a];exact g
def LBits.clr {l:List UInt8}(h:LBits l)(ps:List Int):LBits (clr l ps):=by
 induction ps generalizing l with
 | nil=>exact h
 | cons p ps a=>exact a (h.set (.inl rfl) _)
def LBits.put {l l':List UInt8}(h:LBits l){ps:List Int}(a:HU l ps=some l'):LBits l'∧l'.length=l.length:=by
 induction ps generalizing l with
 | nil=>rw[HU] at a;cases a;exact ⟨h,rfl⟩
 | cons p ps g=>
  rw[HU] at a
  split at a
  ·cases a
  ·obtain ⟨c,d⟩:=g (h.set (.inr rfl) _) a
   exact ⟨c,by rw[d,ax]⟩
def QqF {m:BA}{n:Int}(h:QbR m n):LBits m.toList:=fun c g=>by
 rw[bc] at g
 obtain ⟨i,o,e⟩:=List.getElem_of_mem g
 have a:i<m.size:=by simpa using o
 have d:=h.1 i a a
 have l:m[i]=c:=by rw[← e];rfl
 rw[l] at d
 rcases d with h|h
 ·exact .inl (UInt8.toNat_inj.1 h)
 ·exact .inr (UInt8.toNat_inj.1 h)
def QrG {l:List UInt8}{n:Int}(h:LBits l)(d:(l.length:Int)=n):QbR ⟨l.toArray⟩ n:=by
 refine ⟨fun k g c=> ?_,by rw[← d];rfl⟩
 have a:(⟨l.toArray⟩:BA)[k]∈l:=by
  show l.toArray[k]∈l
  simp
 rcases h _ a with h|h
 ·exact .inl (by rw[h];rfl)
 ·exact .inr (by rw[h];rfl)
def Qgh (a:QbR mk n.1)(o:r=YL n mk t)(h:r.2=true):QbR r.1 n.1:=by
 subst o
 unfold YL at h ⊢
 cases d:n.2[t.toNat]? with
 | none=>rw[d] at h;cases h
 | some x=>
  rw[d] at h
  simp only at h ⊢
  unfold HJ at h ⊢
  cases c:HU (clr mk.toList x.1) x.2 with
  | none=>rw[c] at h;cases h
  | some l=>
   obtain ⟨g,m⟩:=((QqF a).clr x.1).put c
   refine QrG g ?_
   rw[m,Qw4,Xp]
   exact a.2
def Qox {p:BA→Prop}(h:∀m∈QN,p m)(d:p x):∀m∈QN++[x],p m:=fun m c=>by
 rcases aO.1 c with a|a
 ·exact h m a
 ·rw[aI.1 a];exact d
def Qte (h:QN[k]? =some mk):(QN++[x])[k]? =some mk:=by
 rw[bm (ae.1 h).1];exact h
end
def Qgf (QN:List BA)(m:BA):FC prog 302 [(false,[.dat Qd QN]),(false,[dS m])] [] 0 (QJ (lI (YW QN m))):=by
 refine Ql func302 rfl rfl ntmps302 fun z h u l A p o=>w6 ?_
 refine alL 7 fun _=> ?_
 refine w4 ?_
 refine lpK QN.length (fun k=>NoneTo (fun y=>decide (y=m)) QN k) (fun k=>⟨[(1,lf (dS m)),(7,lf (.dat Qd QN)),(8,lI (QN.length:Int)),(9,lI (k:Int))],[]⟩) (NoneTo.zero) ?_ fun k _ a=> ?_
 exact wo []
 refine w4 ?_
 cases c:(decide ((k:Int)<(QN.length:Int)))
 have d:=ab c
 refine w7 ?_
 refine fqI h ?_
 first|exact (a.no (by omega)).symm
 have d:=aa c
 refine w6 ?_
 obtain ⟨w,g⟩:=gx QN k
 refine w10 ?_
 cases q:(decide (w=m))
 refine w6 ?_
 exact Qc<|lK_ (a.step g ‹_›)<|wo []
 refine w6 ?_
 exact fqI h<|(a.at g ‹_›).symm
def Qen (s:Qma)(W:StgOk s):FC prog 255 [(true,[dI s.1.1,.dat Yv s.1.2,.dat Qj s.2.1,.dat XK s.2.2.1,dS s.2.2.2])] [] 0 (Is (ag [.ref 0,.ref 1,.ref 2,dI ((l4V s).2.2.1),dI ((l4V s).2.2.2.1),dB ((l4V s).2.2.2.2)]) [ar 0 9 .str (((l4V s).1).1),ar 1 229 QI (((l4V s).1).2),ar 2 229 QI ((l4V s).2.1)]):=by
 have a6:=W.net.2.1
 refine Ql func255 rfl rfl ntmps255 fun O_ S a9 a1 X_ a3 a2=>w_ ?_
 refine xbx 0 ?_
 refine lc (xal 1 QB3 Qe5)<|w4 ?_
 refine lc (dBs 2 (e:= .str) Wd)<|lc (Qh QeB ⟨_,_,rfl,(Qm rfl),rfl⟩ (ao.1 rfl) rfl rfl)<|lc (Qh QeC rfl (ao.1 rfl) rfl rfl)<|lc (dBs 3 (e:=QI) JD (hab:=by exact ⟨_,_,_,_,rfl,⟨[dI 0],[dI 0,dI 0],_,_,_,_,rfl,rfl,⟨rfl,rfl⟩,⟨[dI 0],[dI 0],_,_,_,_,rfl,rfl,⟨rfl,rfl⟩,⟨rfl,rfl⟩,rfl⟩,rfl⟩,⟨rfl,rfl⟩,rfl⟩))<|lc (Qh QwO ⟨_,_,rfl,(Qm rfl),⟨_,_,rfl,(Qm rfl),⟨_,_,rfl,(Evl.ev (Qn rfl)),rfl⟩⟩⟩ (ao.1 rfl) rfl rfl)<|lc (xal 4 QB3 Qe5)<|w7 ?_
 refine AC.wk (Qo 6 (p:=4) (off:=1) 229 QI rfl rfl (Fresh.of rfl) (nlr rfl))<|Qy (fun K L=>∃(k:Nat) (QN:List BA) (l:List (Int×Int×Int)) (y:List (Int×Int×Int)),k≤300∧K=300 - k∧(Zr s=goK s.1 (301 - k) k (QN,l,y))∧(∀m∈QN,QbR m s.1.1)∧(QN.length≤300)∧(l.length≤24*k)∧(y.length≤24*k+1)∧L=⟨[(1,lP 0 0),(2,lP 1 0),(3,lP 4 0),(4,lI (k:Int))],[bx 0 164 [dI s.1.1,.dat Yv s.1.2,.dat Qj s.2.1,.dat XK s.2.2.1,dS s.2.2.2],bx 1 286 [.val (.slice none 0 0),.val (.slice none 0 0),.val (.slice none 0 0),dI 0,dI 0,dB false],bx 4 286 [.ref 5,.ref 7,.ref 8,dI 0,dI (-1),dB false],ar 5 9 .str QN,ar 7 229 QI l,ar 8 229 QI y]⟩) ⟨0,[s.2.2.2],([]:(U2:Ty).Den),[(0,0,0)],aL _,rfl,rfl,(by intro m hm;rw[aI.1 hm];exact W.bits),(aD rfl),(aD rfl),(aD rfl),rfl⟩ ?_ ?_
 exact wp [(5,2),(7,6),(8,3)] ⟨rfl,rfl,rfl,(Qg rfl),(Qg rfl),(Qg rfl),trivial⟩
 rintro K L ⟨k,QN,l,y,U,a5,D,X,hl,hv,hy,rfl⟩
 refine w9 ?_
 cases H:(decide ((k:Int)<(QN.length:Int)))
 have I:=ab H
 refine w8 ?_
 have e5:(0:Int)=((l4V s).2.2.1):=by
  (rw[Qds (D.trans (Qaj (by omega)))];done)
 have e6:((-1):Int)=((l4V s).2.2.2.1):=by
  (rw[Qds (D.trans (Qaj (by omega)))];done)
 have e7:(false:Bool)=((l4V s).2.2.2.2):=by
  (rw[Qds (D.trans (Qaj (by omega)))];done)
 exact fi_ [(0,5),(1,7),(2,8)] S ⟨(Qg (by (rw[Qds (D.trans (Qaj (by omega)))];done))),(Qg (by (rw[Qds (D.trans (Qaj (by omega)))];done))),(Qg (by (rw[Qds (D.trans (Qaj (by omega)))];done))),trivial⟩ (h0:=by rw[← e5,← e6,← e7] <;> rfl)
 have I:=aa H
 refine w4 ?_
 obtain ⟨mk,z⟩:=gx QN k
 have T:=X _ (ah z)
 have J:=QBa W.net T
 have a4:=QkF s.1 mk
 apply dW (i6 25 _ _ _ _ _ _ (io 31 (lf (.ept 5 1 k 0))::io 32 (lf (dS mk))::io 33 (lf (.dat Qv (JT s.1 mk)))::i2 34 _ _ [])) [0,0,3,3,3,31,3,3,0,0,1023]
 refine z6 ?_
 exact zz (fun _ w=>ac (Qw (e:= .str) (w.v rfl) (w.en 5 rfl) (w.v rfl) Vd Wv rfl (by omega) (by first|omega|(simp only[ax];omega))) rfl)<|zz (fun _ w=>ac (ZE (e:= .str) (w.v rfl) (w.n 5 rfl) z rfl Wv rfl rfl) rfl)<|zz (fun _ w=>ac (dK (Qck s.1 mk J (by omega)).frozen Qnl) rfl)<|y2
 refine w_ ?_
 refine Qy (fun K L=>∃(i:Nat) (a:List BA) (g:List (Int×Int×Int)) (q:List (Int×Int×Int)),i≤(JT s.1 mk).length∧K=(JT s.1 mk).length - i∧(Zr s=Qb7 s.1 (300 - k) k (goT s.1 k mk ((JT s.1 mk).drop i) (a,g,q)))∧(∀m∈a,QbR m s.1.1)∧(a.length≤300)∧(a[k]? =some mk)∧(g.length≤24*k+i)∧(q.length≤24*k+1+i)∧L=⟨[(1,lP 0 0),(2,lP 1 0),(3,lP 4 0),(4,lI (k:Int)),(33,lf (.dat Qv (JT s.1 mk))),(34,lI ((JT s.1 mk).length:Int)),(35,lI (i:Int))],[bx 0 164 [dI s.1.1,.dat Yv s.1.2,.dat Qj s.2.1,.dat XK s.2.2.1,dS s.2.2.2],bx 1 286 [.val (.slice none 0 0),.val (.slice none 0 0),.val (.slice none 0 0),dI 0,dI 0,dB false],bx 4 286 [.ref 9,.ref 10,.ref 11,dI 0,dI (-1),dB false],ar 9 9 .str a,ar 10 229 QI g,ar 11 229 QI q]⟩) ⟨0,QN,l,y,aL _,rfl,D.trans (QAE z (by omega)),X,hl,z,(by omega),(by omega),rfl⟩ ?_ ?_
 exact wo [(9,5),(10,7),(11,8)]
 rintro K L ⟨i,a,g,q,Z,a0,h,u,V,o,a7,a8,rfl⟩
 have U:=(ae.1 o).1
 refine w4 ?_
 cases A:(decide ((i:Int)<((JT s.1 mk).length:Int)))
 have E:=ab A
 refine w7 ?_
 exact Qc<|Zb ⟨k+1,a,g,q,by omega,rfl,h.trans (QxE (by omega) (by omega)),u,V,(by omega),(by omega),rfl⟩ (by omega)<|wo [(5,9),(7,10),(8,11)]
 have E:=aa A
 refine w5 ?_
 obtain ⟨d,c⟩:=gx (JT s.1 mk) i
 refine w4 ?_
 apply dW (i6 40 _ _ _ _ _ _ (io 46 (lf (.ept 9 1 k 0))::io 47 (lf (dS mk))::io 48 _::io 49 (PV.tup [(false,[dS ((YL s.1 mk d).1)]),(false,[dB ((YL s.1 mk d).2)])])::io 39 _::i2 50 _ _ (i2 7 _ _ []))) [0,0,3,3,3,31,3,3,255,0,0,0,2048,4096,0]
 refine z6 ?_
 refine zz (fun _ w=>ac (Qw (e:= .str) (w.v rfl) (w.en 9 rfl) (w.v rfl) Vd Wv rfl (by omega) (by first|omega|(simp only[ax];omega))) rfl)<|zz (fun _ w=>ac (ZE (e:= .str) (w.v rfl) (w.n 9 rfl) o rfl Wv rfl rfl) rfl)<|z_ ?_
 exact zz (fun _ w=>ac (dK (Qgd s.1 mk d J (Vr c)) Qnm) rfl)<|y5
 refine w5 ?_
 cases Y:((YL s.1 mk d).2)
 refine w16 ?_
 have M:((k:Int):Int)=((l4V s).2.2.1):=by
  (rw[Qal (h.trans (Qak c rfl ‹_›)) (Vr c).1];done)
 have N:(d:Int)=((l4V s).2.2.2.1):=by
  (rw[Qal (h.trans (Qak c rfl ‹_›)) (Vr c).1];done)
 have O:(false:Bool)=((l4V s).2.2.2.2):=by
  (rw[Qal (h.trans (Qak c rfl ‹_›)) (Vr c).1];done)
 exact fi_ [(0,9),(1,10),(2,11)] S ⟨(Qg (by (rw[Qal (h.trans (Qak c rfl ‹_›)) (Vr c).1];done))),(Qg (by (rw[Qal (h.trans (Qak c rfl ‹_›)) (Vr c).1];done))),(Qg (by (rw[Qal (h.trans (Qak c rfl ‹_›)) (Vr c).1];done))),trivial⟩ (h0:=by rw[M,← N,← O] <;> rfl)
 refine w7 ?_
 refine lc (dB_ (Qgf a ((YL s.1 mk d).1)) Qnn)<|w7 ?_
 cases B:(decide ((YW a ((YL s.1 mk d).1))<0))
 have F:=ab B
 refine w9 ?_
 refine lc (Qh QeC ⟨_,_,rfl,(Qm rfl),⟨_,_,rfl,(Qm rfl),⟨_,_,rfl,(Qm rfl),rfl⟩⟩⟩ (ao.1 rfl) rfl rfl)<|lc (dBs 12 (e:=QI) JD (hab:=by exact ⟨_,_,_,_,rfl,⟨[dI (k:Int)],[dI d,dI (YW a ((YL s.1 mk d).1))],_,_,_,_,rfl,rfl,⟨rfl,rfl⟩,⟨[dI d],[dI (YW a ((YL s.1 mk d).1))],_,_,_,_,rfl,rfl,⟨rfl,rfl⟩,⟨rfl,rfl⟩,rfl⟩,rfl⟩,⟨rfl,rfl⟩,rfl⟩))<|lc (dA 13 QiW)<|w3 ?_
 refine Qc<|w4 ?_
 exact Qc<|Zb ⟨i+1,a,(g++([((k:Int),d,YW a ((YL s.1 mk d).1))])),q,by omega,rfl,by first|exact h.trans (Qph c rfl ‹_› ⟨by omega,rfl⟩)|exact h.trans (Qpg c rfl ‹_› (by omega) ‹_›),by first|exact u|exact Qox u (Qgh (u _ (ah o)) rfl ‹_›),(by omega),by first|exact o|exact Qte o,(by simp only[ai,av,aB];omega),(by omega),rfl⟩ (by omega)<|wp [(10,13)] ⟨rfl,rfl,rfl,rfl,(Qg rfl),rfl,trivial⟩
 have F:=aa B
 refine w9 ?_
 cases C:(decide ((a.length:Int)=300))
 have G:=ab C
 refine w14 ?_
 refine lc (dBs 14 (e:= .str) Wd)<|lc (dA 15 Ub)<|w10 ?_
 refine lc (Qh QeC ⟨_,_,rfl,(Qm rfl),⟨_,_,rfl,(Qm rfl),⟨_,_,rfl,(Qm rfl),rfl⟩⟩⟩ (ao.1 rfl) rfl rfl)<|lc (dBs 16 (e:=QI) JD (hab:=by exact ⟨_,_,_,_,rfl,⟨[dI (k:Int)],[dI d,dI (a.length:Int)],_,_,_,_,rfl,rfl,⟨rfl,rfl⟩,⟨[dI d],[dI (a.length:Int)],_,_,_,_,rfl,rfl,⟨rfl,rfl⟩,⟨rfl,rfl⟩,rfl⟩,rfl⟩,⟨rfl,rfl⟩,rfl⟩))<|lc (dA 17 QiW)<|w10 ?_
 refine lc (Qh QeC ⟨_,_,rfl,(Qm rfl),⟨_,_,rfl,(Qm rfl),⟨_,_,rfl,(Qm rfl),rfl⟩⟩⟩ (ao.1 rfl) rfl rfl)<|lc (dBs 18 (e:=QI) JD (hab:=by exact ⟨_,_,_,_,rfl,⟨[dI (k:Int)],[dI d,dI (a.length:Int)],_,_,_,_,rfl,rfl,⟨rfl,rfl⟩,⟨[dI d],[dI (a.length:Int)],_,_,_,_,rfl,rfl,⟨rfl,rfl⟩,⟨rfl,rfl⟩,rfl⟩,rfl⟩,⟨rfl,rfl⟩,rfl⟩))<|lc (dA 19 QiW)<|w3 ?_
 refine Qc<|w4 ?_
 exact Qc<|Zb ⟨i+1,(a++([(YL s.1 mk d).1])),(g++([((k:Int),d,(a.length:Int))])),(q++([((k:Int),d,(a.length:Int))])),by omega,rfl,by first|exact h.trans (Qph c rfl ‹_› ⟨by omega,rfl⟩)|exact h.trans (Qpg c rfl ‹_› (by omega) ‹_›),by first|exact u|exact Qox u (Qgh (u _ (ah o)) rfl ‹_›),(by (simp only[ai,av,aB];omega)),by first|exact o|exact Qte o,(by simp only[ai,av,aB];omega),(by (simp only[ai,av,aB];omega)),rfl⟩ (by omega)<|wp [(9,15),(10,19),(11,17)] ⟨rfl,rfl,rfl,(Qg rfl),(Qg rfl),(Qg rfl),trivial⟩
 have G:=aa C
 refine w10 ?_
 have P:(0:Int)=((l4V s).2.2.1):=by
  (rw[KM (h.trans (KK c rfl ‹_› (by omega) ‹_›))];done)
 have Q:((-1):Int)=((l4V s).2.2.2.1):=by
  (rw[KM (h.trans (KK c rfl ‹_› (by omega) ‹_›))];done)
 have R:(true:Bool)=((l4V s).2.2.2.2):=by
  (rw[KM (h.trans (KK c rfl ‹_› (by omega) ‹_›))];done)
 exact fi_ [(0,9),(1,10),(2,11)] S ⟨(Qg (by (rw[KM (h.trans (KK c rfl ‹_› (by omega) ‹_›))];done))),(Qg (by (rw[KM (h.trans (KK c rfl ‹_› (by omega) ‹_›))];done))),(Qg (by (rw[KM (h.trans (KK c rfl ‹_› (by omega) ‹_›))];done))),trivial⟩ (h0:=by rw[← P,← Q,← R] <;> rfl)
end Go.Proofs.YtjfpbcmfbnnooaaGreat
