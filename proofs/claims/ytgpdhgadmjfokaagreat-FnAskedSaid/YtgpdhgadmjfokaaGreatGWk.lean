/- Walks over abstract states: small words, copies. -/
import Derived.Test.YtgpdhgadmjfokaaGreatGAf
import Derived.Test.YtgpdhgadmjfokaaGreatGAi
import Derived.Test.YtgpdhgadmjfokaaGreatGSs
import Derived.Test.YtgpdhgadmjfokaaGreatGApp
import Derived.Test.YtgpdhgadmjfokaaGreatGAl
import Derived.Test.YtgpdhgadmjfokaaGreatGStr
import Derived.Test.YtgpdhgadmjfokaaGreatProg
import Derived.KernelRfl
set_option linter.unusedSimpArgs false
set_option linter.unusedVariables false
set_option linter.unusedSectionVars false
namespace Go.Proofs.YtgpdhgadmjfokaaGreat
open Go.RowKit
set_option maxRecDepth 100000
set_option maxHeartbeats 4000000
theorem QU (n:Int)(low:Int)(high:Int):FC Tryz.prog 107 [(false,[dI n]),(false,[dI low]),(false,[dI high])] [] 0 (QY (lB (decide (low≤n∧n≤high)))):=by
 refine Qn Tryz.func107 rfl rfl Tryz.ntmps107 fun O_ hO w0_ N0_ X_ h0_ f0_=> ?_
 refine acI 0 fun hi1=> ?_
 refine acI 1 fun hi2=> ?_
 refine acI 2 fun hi3=> ?_
 iterate 8 refine w_ ?_
 cases hb4:(decide (low≤n))
 ·have hb4':=ae hb4
  iterate 6 refine w_ ?_
  refine Qb<|fqB hO ?_
  (rw[cj]; simp; omega)
 ·have hb4':=ab hb4
  iterate 6 refine w_ ?_
  refine Qb<|fqB hO ?_
  (simp_all; done)
theorem YC (n:Int)(lo:Int)(hi:Int):FC Tryz.prog 163 [(false,[dI n]),(false,[dI lo]),(false,[dI hi])] [] 0 (QY (lB (decide (lo≤n∧n≤hi)))):=by
 refine Qn Tryz.func163 rfl rfl Tryz.ntmps163 fun O_ hO w0_ N0_ X_ h0_ f0_=> ?_
 refine acI 0 fun hi1=> ?_
 refine acI 1 fun hi2=> ?_
 refine acI 2 fun hi3=> ?_
 iterate 8 refine w_ ?_
 cases hb4:(decide (lo≤n))
 ·have hb4':=ae hb4
  iterate 6 refine w_ ?_
  refine Qb<|fqB hO ?_
  (rw[cj]; simp; omega)
 ·have hb4':=ab hb4
  iterate 6 refine w_ ?_
  refine Qb<|fqB hO ?_
  (simp_all; done)
theorem U4 (l:List Int)(hl:l.length≤2000000):FC Tryz.prog 435 [(false,[.dat (.sl 3 .int) l])] [] 0 (Yo 3 .int l):=by
 refine Qn Tryz.func435 rfl rfl Tryz.ntmps435 fun O_ hO w0_ N0_ X_ h0_ f0_=> ?_
 iterate 4 refine w_ ?_
 refine lc (dBs 0 (e:= .int) ZL) ?_
 refine w_ ?_
 refine lc (Zs 1 (Qa rfl) rfl (Evl.rep (Qa rfl)) rfl Q9 YO (by first | omega | (simp only[ao,aN,aw,ax,aK]; omega) | (simp only[ao,bu,aw,ax,aK]; omega)) rfl (Fresh.of rfl) (nlr rfl)) ?_
 iterate 2 refine w_ ?_
 refine Qb<|fo_ hO ?_
 rfl
theorem Qnz {α:Type _}(f:α→Nat){xs:List α}{x:α}(h:x∈xs):f x≤(xs.map f).sum:=by
  induction xs with
  | nil=>cases h
  | cons y ys ih=>
    simp only[bc,List.sum_cons]
    rcases aJ.1 h with rfl | h
    · omega
    · have:=ih h; omega
theorem Qnk {n:Yu}(hz:Ty.tot JC n≤2000000):n.2.length≤2000000:=by
  have:Ty.tot JC n=0+(n.2.length+(n.2.map (Ty.tot Q5)).sum):=rfl
  omega
theorem Qcw {s:QP}(hz:Ty.tot HK s≤2000000):Ty.tot JC s.1≤2000000∧s.2.1.length≤2000000∧s.2.2.1.length≤2000000:=by
  have:Ty.tot HK s=Ty.tot JC s.1+((s.2.1.length+(s.2.1.map (Ty.tot YE)).sum)+((s.2.2.1.length+(s.2.2.1.map (Ty.tot Ha)).sum)+s.2.2.2.size)):=rfl
  omega
theorem Qjz {n:Yu}(hz:Ty.tot JC n≤2000000):∀t∈n.2,t.1.length≤2000000∧t.2.length≤2000000:=fun t ht=>by
  have h1:Ty.tot JC n=0+(n.2.length+(n.2.map (Ty.tot Q5)).sum):=rfl
  have h2:=Qnz (Ty.tot Q5) ht
  have h3:Ty.tot Q5 t=(t.1.length+(t.1.map (Ty.tot .int)).sum)+(t.2.length+(t.2.map (Ty.tot .int)).sum):=rfl
  omega
theorem QbV (n:Int×(List (List Int×List Int)))(hz:Ty.tot JC n≤2000000):FC Tryz.prog 366 [(true,[dI n.1, .dat (.sl 245 (.pr (.sl 3 .int) (.sl 3 .int))) n.2])] [] 0 (Is (ag [dI n.1, .ref 0]) [ar 0 245 (.pr (.sl 3 .int) (.sl 3 .int)) n.2]):=by
 have hm:=Qnk hz
 have hp:=Qjz hz
 refine Qn Tryz.func366 rfl rfl Tryz.ntmps366 fun O_ hO w0_ N0_ X_ h0_ f0_=> ?_
 refine acG 0 0 fun hi1=> ?_
 refine w_ ?_
 refine xbx 0 ?_
 refine lc (xal 1 (.pr .int (.sl 245 (.pr (.sl 3 .int) (.sl 3 .int)))) J2) ?_
 iterate 4 refine w_ ?_
 refine lc (Qm Qdu ⟨_,_,rfl,(Ql rfl),rfl⟩ (aA.1 rfl) rfl rfl)<|lc (xal 2 (.pr .int (.sl 245 (.pr (.sl 3 .int) (.sl 3 .int)))) J2) ?_
 iterate 6 refine w_ ?_
 refine alL 10 fun hl2=> ?_
 iterate 4 refine w_ ?_
 refine AC.wk (QL 3 (p:=2) (off:=1) 245 (.pr (.sl 3 .int) (.sl 3 .int)) rfl rfl (Fresh.of rfl) (nlr rfl)) ?_
 refine lp0 n.2.length (fun k=>⟨[(2,lP 1 0),(3,lP 2 0),(10,lf (.dat (.sl 245 (.pr (.sl 3 .int) (.sl 3 .int))) n.2)),(11,lI (n.2.length:Int)),(12,lI (k:Int))],[bx 1 59 [dI 0, .val (.slice none 0 0)],bx 2 59 [dI n.1, .ref 4],ar 4 245 (.pr (.sl 3 .int) (.sl 3 .int)) (n.2.take k)]⟩) ?_ fun k hk3=> ?_
 · exact Wk.of [(4,3)] rfl ⟨rfl,rfl,rfl,rfl,rfl,trivial⟩ ⟨rfl,rfl,(Qj (by first | rfl | simp)),trivial⟩ rfl rfl
 iterate 4 refine w_ ?_
 cases hb4:(decide ((k:Int) < (n.2.length:Int)))
 ·have hb4':=ae hb4
  refine w_ ?_
  refine Qh ?_
  refine (?_:AC _ _ _ _ _)
  iterate 4 refine w_ ?_
  refine Qb ?_
  exact fi_ [(0,4)] hO ⟨(Qj (by rw[QO (by omega)])),trivial⟩
 ·have hb4':=ab hb4
  iterate 5 refine w_ ?_
  obtain ⟨x5,hx6⟩:∃z,n.2[k]? =some z:=⟨_,aa (by omega)⟩
  iterate 2 refine w_ ?_
  refine lc (xal 5 (.pr (.sl 3 .int) (.sl 3 .int)) VB) ?_
  iterate 2 refine w_ ?_
  apply dV (i4 16 _ _ _ _ [⟨some 20,lR 6,[ar 6 3 .int x5.1]⟩,io 21 (lP 5 1),io 22 (lf (.dat (.sl 3 .int) x5.2)),⟨some 23,lR 7,[ar 7 3 .int x5.2]⟩,io 24 (ag [.ref 6, .ref 7]),⟨some 25,lR 8,[ar 8 245 (.pr (.sl 3 .int) (.sl 3 .int)) ([(x5.1,x5.2)]),(6,none),(7,none)]⟩,⟨some 26,lR 9,[ar 9 245 (.pr (.sl 3 .int) (.sl 3 .int)) ((n.2.take k)++([(x5.1,x5.2)])),(4,none),(8,none)]⟩,io 27 _,⟨none,lf (.val undef),[bx 2 59 [dI n.1, .ref 9]]⟩]) [0,0,3,3,3,31,31,3,3,3,0,0,0]
  iterate 4 refine z_ ?_
  refine zz (fun _ h_=>ac (dO 6 (U4 x5.1 (by have:=hp _ (aj ‹_›); omega)) QbI) rfl) ?_
  iterate 2 refine z_ ?_
  refine zz (fun _ h_=>ac (dO 7 (U4 x5.2 (by have:=hp _ (aj ‹_›); omega)) QbI) rfl) ?_
  refine zz (fun _ h_=>ac (Qm Qac ⟨_,_,rfl,(h_.w rfl),⟨_,_,rfl,(h_.w rfl),rfl⟩⟩ (aA.1 (by simp only[Zb,UT,bt,co]; rw[(h_.en 6 rfl),(h_.en 7 rfl)]; rfl)) rfl rfl) rfl)<|zz (fun _ h_=>ac (XH 8 (e:=(.pr (.sl 3 .int) (.sl 3 .int))) JJ Ux VB rfl ⟨_,_,rfl,(h_.w rfl),rfl⟩ (aA.1 (by simp only[Zb,UT,bt,co]; rw[(h_.en 6 rfl),(h_.en 7 rfl)]; rfl)) ⟨_,_,_,_,rfl,⟨[.ref 6],[.ref 7],_,_,_,_,rfl,rfl,(.inl ⟨_,rfl,(h_.en 6 rfl),rfl⟩),(.inl ⟨_,rfl,(h_.en 7 rfl),rfl⟩),rfl⟩,⟨rfl,rfl⟩,rfl⟩ (by decide) rfl rfl (h_.fr 8 rfl) (nlr rfl)) rfl) ?_
  refine zz (fun _ h_=>ac (dA 9 Qad) rfl) ?_
  refine z_ ?_
  refine zz (fun _ h_=>ac (ZE (h_.v rfl) (h_.en 2 rfl) (h_.w rfl) (by simp only[Zb,UT,bt,co]; rw[(h_.en 9 rfl)]; rfl) Qlh rfl) rfl) ?_
  exact zN
  refine (?_:AC _ _ _ _ _)
  iterate 3 refine w_ ?_
  refine Qc ?_
  refine l0_ ?_
  exact Wk.of [(4,9)] rfl ⟨rfl,rfl,rfl,rfl,rfl,trivial⟩ ⟨rfl,rfl,(Qj (by rw[Qs hx6])),trivial⟩ rfl rfl
def Qf9 (b:Int)(t:QI):QI:=(t.1.map fun x=>x+b,t.2.map fun x=>x+b)
end Go.Proofs.YtgpdhgadmjfokaaGreat
namespace Go.Proofs.YtgpdhgadmjfokaaGreat
open Go.RowKit
set_option maxRecDepth 100000
set_option maxHeartbeats 4000000
theorem Qsg {us:List Value}(h:us.length=5):∃a0 a1 a2 a3 a4,us=[a0,a1,a2,a3,a4]:=by
  match us,h with
  | [a0,a1,a2,a3,a4],_=>exact ⟨_,_,_,_,_,rfl⟩
theorem K7 {p:Prop}[Decidable p]{w:World}{e:Ending}{w':World}(h:RetB p w e w'):RetB (decide p=true) w e w':=by
  obtain ⟨b,h1,h2,h3⟩:=h
  exact ⟨b,h1,by rw[h2,aS],h3⟩
theorem Y8 (s:QP)[Decidable (StgOk s)]:FC Tryz.prog 249 [(true,leaves HK s)] [] 0 (QY (lf (dB (decide (StgOk s))))):=Qee fun gh w vs h=>by
  obtain ⟨us,rfl,hr⟩:=h.agg1
  obtain ⟨a0,a1,a2,a3,a4,rfl⟩:=Qsg hr.len
  exact (Qg8 a0 a1 a2 a3 a4 s w hr).mono fun _ _ h=>K7 h
def Qst (ts:List QI)(a b:Nat)(p:Int):List QI:=(ts.modify a fun t=>(t.1,t.2++[p])).modify b fun t=>(t.1++[p],t.2)
def Z6 (b:Bool):ByteArray:=⟨#[if b then 49 else 48]⟩
def Ku (s:QP)(o:Qr):QP:=((s.1.1+1,Qst s.1.2 o.1.toNat o.2.1.toNat s.1.1),s.2.1,s.2.2.1,s.2.2.2++Z6 o.2.2)
theorem Qey {ts:List QI}{i:Nat}{x:QI}(h:ts[i]? =some x):(QZ Q5 ts)[i*2+1]? =some (.dat (.sl 3 .int) x.2)∧(QZ Q5 ts)[i*2+0]? =some (.dat (.sl 3 .int) x.1):=
  ⟨U6 (e:=Q5) (j:=1) h rfl,U6 (e:=Q5) (j:=0) h rfl⟩
theorem Qhs {ts:List QI}{i:Nat}{x:QI}{ys:List Int}(h:ts[i]? =some x):(QZ Q5 ts).set (i*2+1) (.dat (.sl 3 .int) ys)=QZ Q5 (ts.set i (x.1,ys)):=
  (Kc (e:=Q5) (j:=1) (x':=(x.1,ys)) h rfl (by decide)).symm
theorem QfX {ts:List QI}{i:Nat}{x:QI}{ys:List Int}(h:ts[i]? =some x):(QZ Q5 ts).set (i*2+0) (.dat (.sl 3 .int) ys)=QZ Q5 (ts.set i (ys,x.2)):=
  (Kc (e:=Q5) (j:=0) (x':=(ys,x.2)) h rfl (by decide)).symm
theorem Qdm {s:QP}(hz:Ty.tot HK s≤2000000):s.2.2.2.size≤2000000:=by
  have:Ty.tot HK s=Ty.tot JC s.1+((s.2.1.length+(s.2.1.map (Ty.tot YE)).sum)+((s.2.2.1.length+(s.2.2.1.map (Ty.tot Ha)).sum)+s.2.2.2.size)):=rfl
  omega
theorem Xo (b:UInt8):(⟨#[b]⟩:ByteArray).size=1:=rfl
theorem Qsv {a n:Nat}(h:a < n):a*2+1 < n*2:=by omega
theorem QsT {a n:Nat}(h:a < n):a*2+0 < n*2:=by omega
def KO:QP:=((0,[]),[],[],ByteArray.empty)
def Qpb (s:QP)[Decidable (StgOk s)]:QP×Bool:=if StgOk s then (s,true) else (KO,false)
end Go.Proofs.YtgpdhgadmjfokaaGreat
namespace Go.Proofs.YtgpdhgadmjfokaaGreat
open Go.RowKit
set_option maxRecDepth 100000
set_option maxHeartbeats 4000000
def QkN (s:QP)(o:Qr):Prop:=StgOk s∧(0≤o.1∧o.1 < s.1.2.length)∧(0≤o.2.1∧o.2.1 < s.1.2.length)∧o.1≠o.2.1
instance (s:QP) (o:Qr) [Decidable (StgOk s)]:Decidable (QkN s o):=inferInstanceAs (Decidable (_∧_))
def Qlf (s:QP)(o:Qr)[Decidable (StgOk s)][Decidable (StgOk (Ku s o))]:QP×Bool:=if QkN s o then Qpb (Ku s o) else (KO,false)
def Qtt (s:QP)(o:Qr)[Decidable (StgOk s)][Decidable (StgOk (Ku s o))]:QP×Bool:=if QkN s o then (Ku s o,decide (StgOk (Ku s o))) else (KO,false)
section
variable {s:QP}{o:Qr}[Decidable (StgOk s)][Decidable (StgOk (Ku s o))]
end
end Go.Proofs.YtgpdhgadmjfokaaGreat
namespace Go.Proofs.YtgpdhgadmjfokaaGreat
open Go.RowKit
set_option maxRecDepth 100000
set_option maxHeartbeats 4000000
section
variable {α:Type _}(f:α→Int→α×Int)
def Qq:List α→Int→List α×Int
  | [],k=>([],k)
  | x :: xs,k=>((f x k).1 :: (Qq xs (f x k).2).1,(Qq xs (f x k).2).2)
def mkA (a:List α)(k:Int)(i:Nat):List α:=(Qq f (a.take i) k).1++a.drop i
def mkC (a:List α)(k:Int)(i:Nat):Int:=(Qq f (a.take i) k).2
variable {f}
end
@[reducible] def fI:Int→Int→Int×Int:=fun _ k=>(k,k+1)
@[reducible] def fL:Int×Bool→Int→(Int×Bool)×Int:=fun _ k=>((k,decide ((k+1) % 3=0)),k+2)
end Go.Proofs.YtgpdhgadmjfokaaGreat
namespace Go.Proofs.YtgpdhgadmjfokaaGreat
open Go.RowKit
set_option maxRecDepth 100000
set_option maxHeartbeats 4000000
@[reducible] def fT:List Int×List Int→Int→(List Int×List Int)×Int:=fun t k=>(((Qq fI t.1 k).1,(Qq fI t.2 (Qq fI t.1 k).2).1),(Qq fI t.2 (Qq fI t.1 k).2).2)
def cT (t:List Int×List Int):Nat:=t.1.length+t.2.length
def Qtw (a:List (List Int×List Int)):Nat:=(a.map cT).sum
end Go.Proofs.YtgpdhgadmjfokaaGreat
namespace Go.Proofs.YtgpdhgadmjfokaaGreat
open Go.RowKit
set_option maxRecDepth 100000
set_option maxHeartbeats 4000000
def dg (k:Int):Nat→ByteArray
  | 0=>(⟨#[]⟩:ByteArray)
  | j+1=>(⟨#[UInt8.ofNat ((48+(k / 10 ^ j) % 10):Int).toNat]⟩:ByteArray)++dg k j
def mt (k:Int):Nat→Nat→ByteArray
  | 0,j=>dg k j
  | n+1,j=>if k / 10 ^ j≤0 then dg k j else mt k n (j+1)
def Qow (k:Int):ByteArray:=if k≤0 then (⟨#[109,48]⟩:ByteArray) else (⟨#[109]⟩:ByteArray)++mt k 20 0
end Go.Proofs.YtgpdhgadmjfokaaGreat
namespace Go.Proofs.YtgpdhgadmjfokaaGreat
open Go.RowKit
set_option maxRecDepth 100000
set_option maxHeartbeats 4000000
@[reducible] def fS:ByteArray×Int→Int→(ByteArray×Int)×Int:=fun _ k=>((Qow k,k+1),k+2)
def Qtf (s:QP)(k:Int):QP×Int:=(((s.1.1,(Qq fT s.1.2 k).1),(Qq fS s.2.1 (Qq fT s.1.2 k).2).1,(Qq fL s.2.2.1 (Qq fS s.2.1 (Qq fT s.1.2 k).2).2).1,s.2.2.2),(Qq fL s.2.2.1 (Qq fS s.2.1 (Qq fT s.1.2 k).2).2).2)
end Go.Proofs.YtgpdhgadmjfokaaGreat
namespace Go.Proofs.YtgpdhgadmjfokaaGreat
open Go.RowKit
set_option maxRecDepth 100000
set_option maxHeartbeats 4000000
section
variable [∀s,Decidable (StgOk s)]
def Qrc:QP→List Qr→QP×Bool
  | s,[]=>(s,true)
  | s,o :: os=>if (Qlf s o).2=true then Qrc (Qlf s o).1 os else (KO,false)
def QsF (s:QP)(l:List Qr):QP×Bool:=if StgOk s∧l.length≤6 then Qrc s l else (KO,false)
end
@[reducible] def Qp2:(Qr)→Int→(Qr)×Int:=fun _ k=>((k,k+1,decide ((k+1+1) % 3=0)),k+1+1+1)
end Go.Proofs.YtgpdhgadmjfokaaGreat
namespace Go.Proofs.YtgpdhgadmjfokaaGreat
open Go.RowKit
set_option maxRecDepth 100000
set_option maxHeartbeats 4000000
def bAt (m:ByteArray)(p:Int):UInt8:=(m[p.toNat]?).getD 0
theorem YS {m:ByteArray}{p:Int}{c:UInt8}(h:m[p.toNat]? =some c):bAt m p=c:=by unfold bAt; rw[h]; rfl
theorem XK (m:ByteArray):m.toList.length=m.size:=by simp[bD]
def Zp {α:Type _}(f:α→Bool)(l:List α):Int:=match l.findIdx? f with | some i=>i | none=> -1
def NoneTo {α:Type _}(f:α→Bool)(l:List α)(k:Nat):Prop:=∀j,j < k→∀x,l[j]? =some x→f x=false
section
variable {α:Type _}{f:α→Bool}{l:List α}{k:Nat}{x:α}
theorem NoneTo.zero:NoneTo f l 0:=fun j hj=>absurd hj (br j)
theorem NoneTo.step (h:NoneTo f l k)(hx:l[k]? =some x)(hf:f x=false):NoneTo f l (k+1):=fun j hj y hy=>by
  by_cases e:j=k
  · subst e; rw[hx] at hy; cases hy; exact hf
  · exact h j (by omega) y hy
theorem NoneTo.at (h:NoneTo f l k)(hx:l[k]? =some x)(hf:f x=true):Zp f l=k:=by
  obtain ⟨h1,h2⟩:=ah.1 hx
  have:l.findIdx? f=some k:=cq.2 ⟨h1,by rw[h2]; exact hf,fun j hj=>by
    have:=h j hj _ (aa (by omega))
    simp[this]⟩
  unfold Zp
  rw[this]
theorem NoneTo.no (h:NoneTo f l k)(hk:l.length≤k):Zp f l= -1:=by
  have:l.findIdx? f=none:=List.findIdx?_eq_none_iff.2 fun x hx=>by
    obtain ⟨j,hj⟩:=aT.1 hx
    have:=(ah.1 hj).1
    exact h j (by omega) x hj
  unfold Zp
  rw[this]
theorem NoneTo.any_no (h:NoneTo f l k)(hk:l.length≤k):l.any f=false:=cn.2 fun x hx=>by
  obtain ⟨j,hj⟩:=aT.1 hx
  have:=(ah.1 hj).1
  simp[h j (by omega) x hj]
theorem Qmv (hx:l[k]? =some x)(hf:f x=true):l.any f=true:=bC.2 ⟨x,aj hx,hf⟩
theorem Um (f:α→Bool)(l:List α):decide (0≤Zp f l)=l.any f:=by
  unfold Zp
  cases h:l.findIdx? f with
  | none=>
    have:=List.findIdx?_eq_none_iff.1 h
    rw[cj]
    simp only[bC,aS]
    constructor
    · intro h; omega
    · rintro ⟨x,hx,hf⟩; rw[this x hx] at hf; cases hf
  | some i=>
    obtain ⟨h1,h2,_⟩:=cq.1 h
    have:l.any f=true:=bC.2 ⟨_,cW h1,h2⟩
    rw[this]
    simp
def Xa (f:α→Bool)(l:List α):Nat→List Int
  | 0=>[]
  | k+1=>Xa f l k++(match l[k]? with | some x=>if f x then [(k:Int)] else [] | none=>[])
theorem QjU (hx:l[k]? =some x)(hf:f x=true):Xa f l k++[(k:Int)]=Xa f l (k+1):=by simp[Xa,hx,hf]
theorem Qlu (hx:l[k]? =some x)(hf:f x=false):Xa f l k=Xa f l (k+1):=by simp[Xa,hx,hf]
theorem Qcp (f:α→Bool)(l:List α)(k:Nat):(Xa f l k).length≤k:=by
  induction k with
  | zero=>simp[Xa]
  | succ k ih=>
    simp only[Xa,ao]
    split
    · split <;> simp <;> omega
    · simp; omega
theorem Qjr {f:α→Bool}{l:List α}{k:Nat}{t:Int}(h:t∈Xa f l k):∃x,0≤t∧t < l.length∧t < k∧l[t.toNat]? =some x∧f x=true:=by
  induction k with
  | zero=>simp[Xa] at h
  | succ k ih=>
    simp only[Xa,aO] at h
    rcases h with h | h
    · obtain ⟨x,h1,h2,h3,h4⟩:=ih h; exact ⟨x,h1,h2,by omega,h4⟩
    · cases hx : l[k]? with
      | none=>rw[hx] at h; simp at h
      | some x=>
        rw[hx] at h
        cases hf:f x with
        | false=>simp[hf] at h
        | true=>
          simp only[hf,if_true,aR] at h
          subst h
          have:=(ah.1 hx).1
          exact ⟨x,by omega,by omega,by omega,by simpa using hx,hf⟩
theorem ZG {l:List α}{k:Nat}{x:α}(hx:l[k]? =some x):l.drop k=x :: l.drop (k+1):=by
  obtain ⟨h1,h2⟩:=ah.1 hx
  rw[cK h1,h2]
end
def HU (m:ByteArray)(ps:List Int):Prop:=∀p∈ps,(0≤p∧p < m.size)∧(bAt m p=48∨bAt m p=49)
def enb (m:ByteArray)(t:QI):Bool:= !t.1.any fun p=>decide (bAt m p=48)
def VN (n:Yu)(m:ByteArray):List Int:=Xa (enb m) n.2 n.2.length
def clr (l:List UInt8):List Int→List UInt8
  | []=>l
  | p :: ps=>clr (l.set p.toNat 48) ps
def VQ (l:List UInt8):List Int→Option (List UInt8)
  | []=>some l
  | p :: ps=>if l[p.toNat]? =some 49 then none else VQ (l.set p.toNat 49) ps
def V9 (m:ByteArray)(t:QI):ByteArray×Bool:=match VQ (clr m.toList t.1) t.2 with
  | none=>(⟨#[]⟩,false)
  | some l=>(⟨l.toArray⟩,true)
def ZK (n:Yu)(m:ByteArray)(t:Int):ByteArray×Bool:=match n.2[t.toNat]? with
  | none=>(⟨#[]⟩,false)
  | some x=>V9 m x
def QsV (n:Yu)(m:ByteArray)(t:Int):ByteArray×Bool:=if 0≤t then (match n.2[t.toNat]? with
  | none=>(⟨#[]⟩,false)
  | some x=>if enb m x then V9 m x else (⟨#[]⟩,false)) else (⟨#[]⟩,false)
section
variable {n:Yu}{m:ByteArray}{t:Int}{x:QI}{l:List UInt8}{ps:List Int}{k:Nat}{p:Int}
theorem Qk2 (hx:ps[k]? =some p):clr l (ps.drop k)=clr (l.set p.toNat 48) (ps.drop (k+1)):=by rw[ZG hx,clr]
theorem QnK (h:ps.length≤k):clr l (ps.drop k)=l:=by rw[bJ h,clr]
theorem Qj4 (hx:ps[k]? =some p){c:UInt8}(hc:l[p.toNat]? =some c)(hn:decide (c=49)=false):VQ l (ps.drop k)=VQ (l.set p.toNat 49) (ps.drop (k+1)):=by
  rw[ZG hx,VQ,if_neg]
  rw[hc]
  intro h
  cases h
  simp at hn
theorem Qip (hx:ps[k]? =some p){c:UInt8}(hc:l[p.toNat]? =some c)(hn:decide (c=49)=true):VQ l (ps.drop k)=none:=by
  rw[ZG hx,VQ,if_pos]
  rw[hc,ab hn]
theorem QeS (h:ps.length≤k):VQ l (ps.drop k)=some l:=by rw[bJ h,VQ]
theorem Qod (l:List UInt8)(ps:List Int):(clr l ps).length=l.length:=by
  induction ps generalizing l with
  | nil=>rfl
  | cons p ps ih=>rw[clr,ih,ay]
theorem Qc9 (h:VQ (clr m.toList x.1) x.2=none):V9 m x=(⟨#[]⟩,false):=by unfold V9; rw[h]
theorem QaW (h:VQ (clr m.toList x.1) x.2=some l):V9 m x=(⟨l.toArray⟩,true):=by unfold V9; rw[h]
theorem Qai (hx:n.2[t.toNat]? =some x):ZK n m t=V9 m x:=by unfold ZK; rw[hx]
def He (n:Yu)(m:ByteArray)(t:Int):Bool:=match n.2[t.toNat]? with
  | some x=>enb m x
  | none=>false
theorem H3 (hx:n.2[t.toNat]? =some x):He n m t=enb m x:=by unfold He; rw[hx]
theorem Ql7 (h:HU m x.1):enb m x=true↔∀p∈x.1,bAt m p=49:=by
  unfold enb
  simp only[c9,cn,aS]
  constructor
  · intro k p hp
    rcases (h p hp).2 with h1 | h1
    · exact absurd h1 (k p hp)
    · exact h1
  · intro k p hp h1
    rw[k p hp] at h1
    exact absurd h1 (by decide)
theorem Qgy {c:UInt8}(hA:∀j,j < k→∀y,ps[j]? =some y→bAt m y=49)(hx:ps[k]? =some p)(hc:m[p.toNat]? =some c)(hb:(!decide (c=49))=false):∀j,j < k+1→∀y,ps[j]? =some y→bAt m y=49:=fun j hj y hy=>by
  by_cases e:j=k
  · subst e; rw [hx] at hy; cases hy
    rw[YS hc]
    simpa using hb
  · exact hA j (by omega) y hy
theorem Qmo {c:UInt8}(hn:n.2[t.toNat]? =some x)(hp:HU m x.1)(hx:x.1[k]? =some p)(hc:m[p.toNat]? =some c)(hb:(!decide (c=49))=true):He n m t=false:=by
  rw[H3 hn,Bool.eq_false_iff]
  intro h
  have:=(Ql7 hp).1 h p (aj hx)
  rw[YS hc] at this
  simp[this] at hb
theorem QjS (hn:n.2[t.toNat]? =some x)(hp:HU m x.1)(hA:∀j,j < k→∀y,x.1[j]? =some y→bAt m y=49)(hk:x.1.length≤k):He n m t=true:=by
  rw[H3 hn]
  refine (Ql7 hp).2 fun p h=> ?_
  obtain ⟨j,hj⟩:=aT.1 h
  have:=(ah.1 hj).1
  exact hA j (by omega) p hj
theorem QaR (hk:k < n.2.length)(h:He n m (k:Int)=true):Xa (enb m) n.2 k++[(k:Int)]=Xa (enb m) n.2 (k+1):=by
  have hx:=aa hk
  rw[H3 (t:=(k:Int)) (show n.2[((k:Int)).toNat]? =some _ from hx)] at h
  exact QjU hx h
theorem QcU (hk:k < n.2.length)(h:He n m (k:Int)=false):Xa (enb m) n.2 k=Xa (enb m) n.2 (k+1):=by
  have hx:=aa hk
  rw[H3 (t:=(k:Int)) (show n.2[((k:Int)).toNat]? =some _ from hx)] at h
  exact Qlu hx h
end
theorem QaG (n:Int×(List (List Int×List Int)))(mark:ByteArray)(t:Int)(hnb:∀t∈n.2,HU mark t.1∧HU mark t.2)(ht:0≤t∧t < (n.2.length:Int)):FC Tryz.prog 358 [(true,[dI n.1, .dat (.sl 245 (.pr (.sl 3 .int) (.sl 3 .int))) n.2]),(false,[dS mark]),(false,[dI t])] [] 0 (QY (PV.tup [(false,[dS ((ZK n mark t).1)]),(false,[dB ((ZK n mark t).2)])])):=by
 have hml:=XK mark
 refine Qn Tryz.func358 rfl rfl Tryz.ntmps358 fun O_ hO w0_ N0_ X_ h0_ f0_=> ?_
 refine acG 0 0 fun hi1=> ?_
 refine acI 2 fun hi2=> ?_
 refine w_ ?_
 refine xbx 0 ?_
 iterate 5 refine w_ ?_
 refine lc (Qef 1 (Qa rfl) Zx V3 Qfi rfl (Fresh.of rfl) (nlr rfl)) ?_
 iterate 7 refine w_ ?_
 obtain ⟨x,hx4⟩:∃z,n.2[(t).toNat]? =some z:=⟨_,aa (by omega)⟩
 have hx1:=(hnb _ (aj hx4)).1
 have hx2:=(hnb _ (aj hx4)).2
 iterate 3 refine w_ ?_
 refine alL 20 fun hl5=> ?_
 iterate 4 refine w_ ?_
 refine QK (fun m_ s_=>∃(k:Nat) (l:List UInt8),k≤x.1.length∧m_=x.1.length - k∧(clr mark.toList x.1=clr l (x.1.drop k))∧(l.length=mark.toList.length)∧s_=⟨[(2,lI t),(3,lP 0 0),(6,lf (dS (⟨#[]⟩:ByteArray))),(7,lB false),(8,lR 2),(20,lf (.dat (.sl 3 .int) x.1)),(21,lI (x.1.length:Int)),(22,lI (k:Int))],[bx 0 59 [dI n.1, .dat (.sl 245 (.pr (.sl 3 .int) (.sl 3 .int))) n.2],(2,some (.bys 5 l))]⟩) ⟨0,mark.toList,aU _,rfl,rfl,rfl,rfl⟩ ?_ ?_
 · exact Wk.of [(2,1)] rfl ⟨rfl,rfl,rfl,rfl,rfl,rfl,rfl,rfl,trivial⟩ ⟨rfl,rfl,trivial⟩ rfl rfl
 rintro m_ s_ ⟨k,l,hk6,hm7,hA,hL,rfl⟩
 iterate 4 refine w_ ?_
 cases hb8:(decide ((k:Int) < (x.1.length:Int)))
 ·have hb8':=ae hb8
  refine w_ ?_
  refine Qh ?_
  refine (?_:AC _ _ _ _ _)
  iterate 8 refine w_ ?_
  refine alL 35 fun hl9=> ?_
  iterate 4 refine w_ ?_
  refine QK (fun m_ s_=>∃(i:Nat) (l2:List UInt8),i≤x.2.length∧m_=x.2.length - i∧(VQ (clr mark.toList x.1) x.2=VQ l2 (x.2.drop i))∧(l2.length=mark.toList.length)∧s_=⟨[(8,lR 3),(35,lf (.dat (.sl 3 .int) x.2)),(36,lI (x.2.length:Int)),(37,lI (i:Int))],[(3,some (.bys 5 l2))]⟩) ⟨0,l,aU _,rfl,by rw[hA,QnK (by omega)]; rfl,hL,rfl⟩ ?_ ?_
  · exact Wk.of [(3,2)] rfl ⟨rfl,rfl,rfl,rfl,trivial⟩ ⟨rfl,trivial⟩ rfl rfl
  rintro m_ s_ ⟨i,l2,hk10,hm11,hA2,hL2,rfl⟩
  iterate 4 refine w_ ?_
  cases hb12:(decide ((i:Int) < (x.2.length:Int)))
  ·have hb12':=ae hb12
   refine w_ ?_
   refine Qh ?_
   refine (?_:AC _ _ _ _ _)
   iterate 2 refine w_ ?_
   refine lc (VC (ys:=l2) (QmS (Qa rfl) rfl) V3 Qfi Zx rfl) ?_
   iterate 3 refine w_ ?_
   refine Qb ?_
   have e13:((⟨(l2).toArray⟩:ByteArray):ByteArray)=((ZK n mark t).1):=by
    first | (rw[Qai (x:=x) (by assumption),QaW (hA2.trans (QeS (by omega)))]; done)
   have e14:(true:Bool)=((ZK n mark t).2):=by
    first | (rw[Qai (x:=x) (by assumption),QaW (hA2.trans (QeS (by omega)))]; done)
   exact fr_ hO (e:=((congrArg (fun z_=>PV.tup [(false,[dS z_]),(false,[dB true])]) e13)).trans (congrArg (fun z_=>PV.tup [(false,[dS ((ZK n mark t).1)]),(false,[dB z_])]) e14))
  ·have hb12':=ab hb12
   iterate 5 refine w_ ?_
   obtain ⟨x15,hx16⟩:∃z,x.2[i]? =some z:=⟨_,aa (by omega)⟩
   have hrx15:=(hx2 _ (aj hx16)).1
   iterate 2 refine w_ ?_
   refine alI 40 fun hi17=> ?_
   iterate 6 refine w_ ?_
   refine lc (Ub (Qa rfl) rfl (Qa rfl) V3 Ys rfl (by omega) (by first | omega | (simp only[ay]; omega))) ?_
   obtain ⟨x18,hx19⟩:∃z,l2[(x15).toNat]? =some z:=⟨_,aa (by omega)⟩
   refine lc (Qgq (Qa rfl) rfl hx19 Ys rfl)<|lc (Zw (Qa rfl) (Q6 49 rfl) rfl) ?_
   refine w_ ?_
   cases hb20:(decide (x18=49))
   ·have hb20':=ae hb20
    iterate 5 refine w_ ?_
    refine lc (Ub (Qa rfl) rfl (Qa rfl) V3 Ys rfl (by omega) (by first | omega | (simp only[ay]; omega)))<|lc (Hr (Qa rfl) rfl (by first | omega | (simp only[ay]; omega)) (Q6 49 rfl) Ys)<|Qc ?_
    refine (?_:AC _ _ _ _ _)
    iterate 3 refine w_ ?_
    refine Qc<|Zq ⟨i+1,(l2.set ((x15).toNat) 49),by omega,rfl,hA2.trans (Qj4 hx16 hx19 (by assumption)),by rw[ay]; exact hL2,rfl⟩ (by omega) ?_
    exact Wk.of [] rfl ⟨rfl,rfl,rfl,rfl,trivial⟩ ⟨(Qqz (by first | rfl | simp)),trivial⟩ rfl rfl
   ·have hb20':=ab hb20
    iterate 5 refine w_ ?_
    refine Qb ?_
    have e21:((⟨#[]⟩:ByteArray):ByteArray)=((ZK n mark t).1):=by
     (rw[Qai (x:=x) (by assumption),Qc9 (hA2.trans (Qip hx16 hx19 (by assumption)))]; done)
    have e22:(false:Bool)=((ZK n mark t).2):=by
     (rw[Qai (x:=x) (by assumption),Qc9 (hA2.trans (Qip hx16 hx19 (by assumption)))]; done)
    exact fr_ hO (e:=((congrArg (fun z_=>PV.tup [(false,[dS z_]),(false,[dB false])]) e21)).trans (congrArg (fun z_=>PV.tup [(false,[dS ((ZK n mark t).1)]),(false,[dB z_])]) e22))
 ·have hb8':=ab hb8
  iterate 5 refine w_ ?_
  obtain ⟨x23,hx24⟩:∃z,x.1[k]? =some z:=⟨_,aa (by omega)⟩
  have hrx23:=(hx1 _ (aj hx24)).1
  iterate 2 refine w_ ?_
  refine alI 25 fun hi25=> ?_
  iterate 5 refine w_ ?_
  refine lc (Ub (Qa rfl) rfl (Qa rfl) V3 Ys rfl (by omega) (by first | omega | (simp only[ay]; omega)))<|lc (Hr (Qa rfl) rfl (by first | omega | (simp only[ay]; omega)) (Q6 48 rfl) Ys)<|Qc ?_
  refine (?_:AC _ _ _ _ _)
  iterate 3 refine w_ ?_
  refine Qc<|Zq ⟨k+1,(l.set ((x23).toNat) 48),by omega,rfl,hA.trans (Qk2 hx24),by rw[ay]; exact hL,rfl⟩ (by omega) ?_
  exact Wk.of [] rfl ⟨rfl,rfl,rfl,rfl,rfl,rfl,rfl,rfl,trivial⟩ ⟨rfl,(Qqz (by first | rfl | simp)),trivial⟩ rfl rfl
theorem HR (n:Int×(List (List Int×List Int)))(mark:ByteArray)(t:Int)(hnb:∀t∈n.2,HU mark t.1∧HU mark t.2)(ht:0≤t∧t < (n.2.length:Int)):FC Tryz.prog 360 [(true,[dI n.1, .dat (.sl 245 (.pr (.sl 3 .int) (.sl 3 .int))) n.2]),(false,[dS mark]),(false,[dI t])] [] 0 (QY (lB (He n mark t))):=by
 refine Qn Tryz.func360 rfl rfl Tryz.ntmps360 fun O_ hO w0_ N0_ X_ h0_ f0_=> ?_
 refine acG 0 0 fun hi1=> ?_
 refine acI 2 fun hi2=> ?_
 refine w_ ?_
 refine xbx 0 ?_
 iterate 7 refine w_ ?_
 obtain ⟨x,hx4⟩:∃z,n.2[(t).toNat]? =some z:=⟨_,aa (by omega)⟩
 have hx1:=(hnb _ (aj hx4)).1
 iterate 3 refine w_ ?_
 refine alL 14 fun hl5=> ?_
 iterate 4 refine w_ ?_
 refine lpK x.1.length (fun k=>∀j,j < k→∀y,x.1[j]? =some y→bAt mark y=49) (fun k=>⟨[(1,lf (dS mark)),(14,lf (.dat (.sl 3 .int) x.1)),(15,lI (x.1.length:Int)),(16,lI (k:Int))],[]⟩) (fun j hj=>absurd hj (br j)) ?_ fun k hk6 hA=> ?_
 · exact Wk.of [] rfl ⟨rfl,rfl,rfl,rfl,trivial⟩ trivial rfl rfl
 iterate 4 refine w_ ?_
 cases hb7:(decide ((k:Int) < (x.1.length:Int)))
 ·have hb7':=ae hb7
  refine w_ ?_
  refine Qh ?_
  refine (?_:AC _ _ _ _ _)
  iterate 3 refine w_ ?_
  refine Qb<|fqB hO ?_
  first | exact (QjS (by assumption) hx1 hA (by omega)).symm
 ·have hb7':=ab hb7
  iterate 5 refine w_ ?_
  obtain ⟨x8,hx9⟩:∃z,x.1[k]? =some z:=⟨_,aa (by omega)⟩
  have hrx8:=(hx1 _ (aj hx9)).1
  iterate 2 refine w_ ?_
  refine alI 19 fun hi10=> ?_
  iterate 5 refine w_ ?_
  obtain ⟨c11,hc12⟩:∃z,mark[(x8).toNat]? =some z:=⟨_,bo _ _ (by omega)⟩
  refine w_ ?_
  refine lc (Zh (Qa rfl) (Q6 49 rfl) rfl) ?_
  refine w_ ?_
  cases hb13:(!decide (c11=49))
  ·have hb13':(c11=49):=QV hb13
   refine w_ ?_
   refine AC.skip ?_
   refine (?_:AC _ _ _ _ _)
   iterate 3 refine w_ ?_
   refine Qc ?_
   refine lK_ (Qgy hA hx9 (by assumption) (by assumption)) ?_
   exact Wk.of [] rfl ⟨rfl,rfl,rfl,rfl,trivial⟩ trivial rfl rfl
  ·have hb13':¬(c11=49):=Za hb13
   iterate 4 refine w_ ?_
   refine Qb<|fqB hO ?_
   exact (Qmo (by assumption) hx1 hx9 (by assumption) (by assumption)).symm
theorem KS (n:Int×(List (List Int×List Int)))(mark:ByteArray)(hnb:∀t∈n.2,HU mark t.1∧HU mark t.2)(hnl:n.2.length≤2000000):FC Tryz.prog 251 [(true,[dI n.1, .dat (.sl 245 (.pr (.sl 3 .int) (.sl 3 .int))) n.2]),(false,[dS mark])] [] 0 (Yo 3 .int (VN n mark)):=by
 refine Qn Tryz.func251 rfl rfl Tryz.ntmps251 fun O_ hO w0_ N0_ X_ h0_ f0_=> ?_
 refine acG 0 0 fun hi1=> ?_
 refine w_ ?_
 refine xbx 0 ?_
 iterate 9 refine w_ ?_
 refine alL 8 fun hl2=> ?_
 iterate 4 refine w_ ?_
 refine AC.wk (Wk.nilS 1 5 3 .int rfl (Fresh.of rfl) (nlr rfl)) ?_
 refine lp0 n.2.length (fun k=>⟨[(1,lf (dS mark)),(2,lP 0 0),(4,lf (.val (.slice none 0 0))),(5,lR 2),(9,lI (n.2.length:Int)),(10,lI (k:Int))],[bx 0 59 [dI n.1, .dat (.sl 245 (.pr (.sl 3 .int) (.sl 3 .int))) n.2],ar 2 3 .int (Xa (enb mark) n.2 k)]⟩) ?_ fun k hk3=> ?_
 · exact Wk.of [(2,1)] rfl ⟨rfl,rfl,rfl,rfl,rfl,rfl,trivial⟩ ⟨rfl,(Qj (by first | rfl | simp)),trivial⟩ rfl rfl
 have hpk:=Qcp (enb mark) n.2 k
 iterate 4 refine w_ ?_
 cases hb4:(decide ((k:Int) < (n.2.length:Int)))
 ·have hb4':=ae hb4
  refine w_ ?_
  refine Qh ?_
  refine (?_:AC _ _ _ _ _)
  iterate 4 refine w_ ?_
  refine Qb<|fo_ hO ?_
  rw[show k=n.2.length by omega]; rfl
 ·have hb4':=ab hb4
  iterate 12 refine w_ ?_
  refine lc (dK (HR n mark (k:Int) hnb (by omega)) QgG) ?_
  refine w_ ?_
  cases hb5:(He n mark (k:Int))
  ·refine w_ ?_
   refine AC.skip ?_
   refine (?_:AC _ _ _ _ _)
   iterate 3 refine w_ ?_
   refine Qc ?_
   refine l0_ ?_
   exact Wk.of [] rfl ⟨rfl,rfl,rfl,rfl,rfl,rfl,trivial⟩ ⟨rfl,(Qj (by first | exact QaR (by omega) (by assumption) | exact QcU (by omega) (by assumption))),trivial⟩ rfl rfl
  ·iterate 4 refine w_ ?_
   refine lc (dBs 3 (e:= .int) ZL) ?_
   refine lc (dA 4 YO) ?_
   refine w_ ?_
   refine Qc ?_
   refine (?_:AC _ _ _ _ _)
   iterate 3 refine w_ ?_
   refine Qc ?_
   refine l0_ ?_
   exact Wk.of [(2,4)] rfl ⟨rfl,rfl,rfl,rfl,rfl,rfl,trivial⟩ ⟨rfl,(Qj (by first | exact QaR (by omega) (by assumption) | exact QcU (by omega) (by assumption))),trivial⟩ rfl rfl
end Go.Proofs.YtgpdhgadmjfokaaGreat
