/- laws.FnExactOriginalStates and laws.FnExactInsertSignal walked. -/
import Derived.Test.YtndabgcpnmeeoaaGreatPVh
import Derived.Test.YtndabgcpnmeeoaaGreatPWi
import Derived.Shelf.Lays
import Derived.Shelf.Lays2
import Derived.Shelf.Slices.In.SortNone
import Derived.Shelf.Slices.In.CompactI
set_option linter.unusedSimpArgs false
set_option linter.unusedVariables false
set_option linter.unusedSectionVars false
namespace Go.Proofs.YtndabgcpnmeeoaaGreat
open Go.RowKit
set_option maxRecDepth 100000
set_option maxHeartbeats 4000000
theorem VD (x y:QdI)(h:x=y):FC Tryz.prog 45 [(true,leaves U0 x),(true,leaves U0 y)] [] 0 (QY (lf (dB true))):=
 Qj8 h fun j k w a b=>by
  obtain ⟨c,d,e,rfl⟩:=Qh4 a.len
  obtain ⟨f,g,i,rfl⟩:=Qh4 b.len
  exact QbV c d e f g i x w a b
@[reducible] def Zv:(ByteArray)→Int→(ByteArray)×Int:=fun _ k=>(WN (k),k+1)
theorem Qo1:∀(x:(ByteArray)) (k:Int),(Zv x k).2=k+((fun _=>1:(ByteArray)→Nat) x:Nat):=fun _ k=>by show k+1=k+((1:Nat):Int); omega
theorem Qix (a:List (ByteArray)):(a.map fun _=>1).sum=1*a.length:=by
 induction a with
 | nil=>rfl
 | cons x c b=>simp[b]; omega
theorem QdU (a:List (ByteArray))(k:Int)(i:Nat):k≤mkC Zv a k i∧mkC Zv a k i≤k+1*a.length:=by
 have:=Qdt _ Qo1 a k i
 rw[Qix] at this
 omega
theorem QaH {l:List (ByteArray)}{k:Int}{i:Nat}(h:i < l.length):mkC Zv l k i+1=mkC Zv l k (i+1):=by rw[Ur (ae h)]
theorem JB (l:List (ByteArray))(k:Int):(Qs Zv l k).2=k+1*l.length:=by rw[JA _ Qo1,Qix]; omega
theorem Qat (a:List ByteArray)(k:Int)(s:0≤k∧k+1*a.length≤1000000000):FC Tryz.prog 162 [(false,[.ref 0]),(false,[dI k])] [ar 0 9 .str a] 1 (Is (lI ((Qs Zv a k).2)) [ar 0 9 .str ((Qs Zv a k).1)]):=by
 refine Qv Tryz.func162 rfl rfl Tryz.ntmps162 fun q m p g r l j=> ?_
 refine acI 1 fun _=> ?_
 refine w8 ?_
 refine lp0 a.length (fun i=>⟨[(0,lR 0),(1,lI (mkC Zv a k i)),(4,lI 0),(5,lI (i:Int))],[ar 0 9 .str (mkA Zv a k i)]⟩) ?_ fun i _=> ?_
 exact Wk.of [] rfl ⟨rfl,(show some (lI k)=some (lI (mkC Zv a k 0)) from congrArg (fun z_=>some (lI z_)) (by rw[Qcx])),rfl,rfl,trivial⟩ ⟨(Qe (Qh8 Zv a k)),trivial⟩ rfl rfl
 have o:=Jy Zv a k i
 have n:=QdU a k i
 refine w7 ?_
 cases b:(decide ((i:Int) < ((mkA Zv a k i).length:Int)))
 have c:=aa b
 refine w8 ?_
 have h:(mkC Zv a k i:Int)=((Qs Zv a k).2):=by
  (rw[VX _ (by omega)]; done)
 exact fi_ [] m ⟨(Qe (by (rw[Qac _ (by omega)]; done))),trivial⟩ (h0:=by rw[h] <;> rfl)
 have c:=ab b
 refine w8 ?_
 refine lc (dK (XF (mkC Zv a k i)) Jh) ?_
 refine w_ ?_
 obtain ⟨t,d⟩:=gx (mkA Zv a k i) i
 refine lc (QA (e:= .str) (z':=WN (mkC Zv a k i)) (Qa rfl) rfl d rfl (Qk rfl) rfl VS rfl rfl) ?_
 refine w5 ?_
 refine Qb ?_
 refine w5 ?_
 refine Qb ?_
 refine l0_ ?_
 exact Wk.of [] rfl ⟨rfl,(show some (lI ((mkC Zv a k i)+1))=some (lI (mkC Zv a k (i+1))) from congrArg (fun z_=>some (lI z_)) (QaH (by omega))),rfl,rfl,trivial⟩ ⟨(Qe (Jz (f:=Zv) (KS d))),trivial⟩ rfl rfl
theorem Qas (a:List ByteArray)(k:Int)(l:List (ByteArray))(n:a=(Qs Zv l k).1)(x:0≤k∧k+1*a.length≤1000000000):FC Tryz.prog 165 [(false,[.dat Qo a]),(false,[dI k])] [] 0 (QY (lI ((Qs Zv l k).2))):=by
 have r:a.length=l.length:=by rw[n,YS]
 refine Qv Tryz.func165 rfl rfl Tryz.ntmps165 fun u m t o v q p=> ?_
 refine acI 1 fun _=> ?_
 refine w8 ?_
 refine lp0 a.length (fun i=>⟨[(0,lf (.dat Qo a)),(1,lI (mkC Zv l k i)),(5,lI (i:Int))],[]⟩) ?_ fun i _=> ?_
 exact Wk.of [] rfl ⟨rfl,(show some (lI k)=some (lI (mkC Zv l k 0)) from congrArg (fun z_=>some (lI z_)) (by rw[Qcx])),rfl,trivial⟩ trivial rfl rfl
 have s:=QdU l k i
 refine w4 ?_
 refine alL 7 fun _=> ?_
 refine w3 ?_
 cases b:(decide ((i:Int) < (a.length:Int)))
 have c:=aa b
 refine w7 ?_
 refine Qd<|fqI m ?_
 ·(rw[VX _ (by omega)]; done)
 have c:=ab b
 refine w5 ?_
 obtain ⟨f,j⟩:=gx a i
 have g:f=WN (mkC Zv l k i):=by obtain ⟨_,_,h⟩:=Jv n j; rw[h]
 apply dW (i5 12 _ _ _ _ _ [io 17 (lf (dS (WN (mkC Zv l k i)))),io 18 _]) [0,1,0,0,15,15,0]
 refine z5 ?_
 refine zz (fun _ w=>ac (dK (XF (mkC Zv l k i)) Jh) rfl) ?_
 exact y1
 cases d:(!decide (f=(WN (mkC Zv l k i))))
 have e:(f=(WN (mkC Zv l k i))):=QK d
 refine w6 ?_
 refine Qb ?_
 refine w5 ?_
 refine Qb ?_
 refine l0_ ?_
 exact Wk.of [] rfl ⟨rfl,(show some (lI ((mkC Zv l k i)+1))=some (lI (mkC Zv l k (i+1))) from congrArg (fun z_=>some (lI z_)) (QaH (by omega))),rfl,trivial⟩ trivial rfl rfl
 have e:¬(f=(WN (mkC Zv l k i))):=QR d
 refine w4 ?_
 refine Qd<|fqI m ?_
 ·(exfalso; simp_all; done)
@[reducible] def QJ:(QdY)→Int→(QdY)×Int:=fun _ k=>((k,k+1,decide ((k+1+1) % 3=0),k+1+1+1),k+1+1+1+1)
theorem Qo0:∀(x:(QdY)) (k:Int),(QJ x k).2=k+((fun _=>4:(QdY)→Nat) x:Nat):=fun _ k=>by show k+1+1+1+1=k+((4:Nat):Int); omega
theorem Qiw (a:List (QdY)):(a.map fun _=>4).sum=4*a.length:=by
 induction a with
 | nil=>rfl
 | cons x c b=>simp[b]; omega
theorem QdT (a:List (QdY))(k:Int)(i:Nat):k≤mkC QJ a k i∧mkC QJ a k i≤k+4*a.length:=by
 have:=Qdt _ Qo0 a k i
 rw[Qiw] at this
 omega
theorem QaG {l:List (QdY)}{k:Int}{i:Nat}(h:i < l.length):mkC QJ l k i+1+1+1+1=mkC QJ l k (i+1):=by rw[Ur (ae h)]
theorem Qcy (l:List (QdY))(k:Int):(Qs QJ l k).2=k+4*l.length:=by rw[JA _ Qo0,Qiw]; omega
theorem Qdb (a:QcX)(k:Int)(t:0≤k∧k+4*a.length≤1000000000):FC Tryz.prog 163 [(false,[.ref 0]),(false,[dI k])] [ar 0 154 QD a] 1 (Is (lI ((Qs QJ a k).2)) [ar 0 154 QD ((Qs QJ a k).1)]):=by
 refine Qv Tryz.func163 rfl rfl Tryz.ntmps163 fun r n q h s m l=> ?_
 refine acI 1 fun _=> ?_
 refine w8 ?_
 refine lp0 a.length (fun i=>⟨[(0,lR 0),(1,lI (mkC QJ a k i)),(4,lI 0),(5,lI (i:Int))],[ar 0 154 QD (mkA QJ a k i)]⟩) ?_ fun i _=> ?_
 exact Wk.of [] rfl ⟨rfl,(show some (lI k)=some (lI (mkC QJ a k 0)) from congrArg (fun z_=>some (lI z_)) (by rw[Qcx])),rfl,rfl,trivial⟩ ⟨(Qe (Qh8 QJ a k)),trivial⟩ rfl rfl
 have p:=Jy QJ a k i
 have o:=QdT a k i
 refine w7 ?_
 cases c:(decide ((i:Int) < ((mkA QJ a k i).length:Int)))
 have d:=aa c
 refine w8 ?_
 have j:(mkC QJ a k i:Int)=((Qs QJ a k).2):=by
  (rw[VX _ (by omega)]; done)
 exact fi_ [] n ⟨(Qe (by (rw[Qac _ (by omega)]; done))),trivial⟩ (h0:=by rw[j] <;> rfl)
 have d:=ab c
 refine w8 ?_
 refine lc (QI (e:=QD) (Qa rfl) rfl (Qa rfl) WF X3 rfl (by omega) (by first | omega | (simp only[ap]; omega))) ?_
 refine w_ ?_
 obtain ⟨b,g⟩:=gx (mkA QJ a k i) i
 refine lc (QA (e:=QD) (z':=(mkC QJ a k i,b.2.1,b.2.2.1,b.2.2.2)) (Qa rfl) rfl g rfl (Qk rfl) rfl Y6 rfl rfl) ?_
 refine w10 ?_
 refine lc (QI (e:=QD) (Qa rfl) rfl (Qa rfl) WF X3 rfl (by omega) (by first | omega | (simp only[ap]; omega))) ?_
 refine w_ ?_
 refine lc (QA (e:=QD) (z':=((mkC QJ a k i,b.2.1,b.2.2.1,b.2.2.2).1,(mkC QJ a k i)+1,(mkC QJ a k i,b.2.1,b.2.2.1,b.2.2.2).2.2.1,(mkC QJ a k i,b.2.1,b.2.2.1,b.2.2.2).2.2.2)) (Qa rfl) rfl (aM (by first | omega | (simp only[ap]; omega))) rfl (Qk rfl) rfl Y6 rfl rfl) ?_
 refine w10 ?_
 refine lc (J9 (Qa rfl) (Qy rfl) rfl (by omega) (by omega)) ?_
 refine w_ ?_
 refine lc (QI (e:=QD) (Qa rfl) rfl (Qa rfl) WF X3 rfl (by omega) (by first | omega | (simp only[ap]; omega))) ?_
 refine w_ ?_
 refine lc (QA (e:=QD) (z':=(((mkC QJ a k i,b.2.1,b.2.2.1,b.2.2.2).1,(mkC QJ a k i)+1,(mkC QJ a k i,b.2.1,b.2.2.1,b.2.2.2).2.2.1,(mkC QJ a k i,b.2.1,b.2.2.1,b.2.2.2).2.2.2).1,((mkC QJ a k i,b.2.1,b.2.2.1,b.2.2.2).1,(mkC QJ a k i)+1,(mkC QJ a k i,b.2.1,b.2.2.1,b.2.2.2).2.2.1,(mkC QJ a k i,b.2.1,b.2.2.1,b.2.2.2).2.2.2).2.1,decide (((((mkC QJ a k i)+1)+1) % 3)=0),((mkC QJ a k i,b.2.1,b.2.2.1,b.2.2.2).1,(mkC QJ a k i)+1,(mkC QJ a k i,b.2.1,b.2.2.1,b.2.2.2).2.2.1,(mkC QJ a k i,b.2.1,b.2.2.1,b.2.2.2).2.2.2).2.2.2)) (Qa rfl) rfl (aM (by first | omega | (simp only[ap]; omega))) rfl (Qk rfl) rfl QcK rfl rfl) ?_
 refine w10 ?_
 refine lc (QI (e:=QD) (Qa rfl) rfl (Qa rfl) WF X3 rfl (by omega) (by first | omega | (simp only[ap]; omega))) ?_
 refine w_ ?_
 refine lc (QA (e:=QD) (z':=((((mkC QJ a k i,b.2.1,b.2.2.1,b.2.2.2).1,(mkC QJ a k i)+1,(mkC QJ a k i,b.2.1,b.2.2.1,b.2.2.2).2.2.1,(mkC QJ a k i,b.2.1,b.2.2.1,b.2.2.2).2.2.2).1,((mkC QJ a k i,b.2.1,b.2.2.1,b.2.2.2).1,(mkC QJ a k i)+1,(mkC QJ a k i,b.2.1,b.2.2.1,b.2.2.2).2.2.1,(mkC QJ a k i,b.2.1,b.2.2.1,b.2.2.2).2.2.2).2.1,decide (((((mkC QJ a k i)+1)+1) % 3)=0),((mkC QJ a k i,b.2.1,b.2.2.1,b.2.2.2).1,(mkC QJ a k i)+1,(mkC QJ a k i,b.2.1,b.2.2.1,b.2.2.2).2.2.1,(mkC QJ a k i,b.2.1,b.2.2.1,b.2.2.2).2.2.2).2.2.2).1,(((mkC QJ a k i,b.2.1,b.2.2.1,b.2.2.2).1,(mkC QJ a k i)+1,(mkC QJ a k i,b.2.1,b.2.2.1,b.2.2.2).2.2.1,(mkC QJ a k i,b.2.1,b.2.2.1,b.2.2.2).2.2.2).1,((mkC QJ a k i,b.2.1,b.2.2.1,b.2.2.2).1,(mkC QJ a k i)+1,(mkC QJ a k i,b.2.1,b.2.2.1,b.2.2.2).2.2.1,(mkC QJ a k i,b.2.1,b.2.2.1,b.2.2.2).2.2.2).2.1,decide (((((mkC QJ a k i)+1)+1) % 3)=0),((mkC QJ a k i,b.2.1,b.2.2.1,b.2.2.2).1,(mkC QJ a k i)+1,(mkC QJ a k i,b.2.1,b.2.2.1,b.2.2.2).2.2.1,(mkC QJ a k i,b.2.1,b.2.2.1,b.2.2.2).2.2.2).2.2.2).2.1,(((mkC QJ a k i,b.2.1,b.2.2.1,b.2.2.2).1,(mkC QJ a k i)+1,(mkC QJ a k i,b.2.1,b.2.2.1,b.2.2.2).2.2.1,(mkC QJ a k i,b.2.1,b.2.2.1,b.2.2.2).2.2.2).1,((mkC QJ a k i,b.2.1,b.2.2.1,b.2.2.2).1,(mkC QJ a k i)+1,(mkC QJ a k i,b.2.1,b.2.2.1,b.2.2.2).2.2.1,(mkC QJ a k i,b.2.1,b.2.2.1,b.2.2.2).2.2.2).2.1,decide (((((mkC QJ a k i)+1)+1) % 3)=0),((mkC QJ a k i,b.2.1,b.2.2.1,b.2.2.2).1,(mkC QJ a k i)+1,(mkC QJ a k i,b.2.1,b.2.2.1,b.2.2.2).2.2.1,(mkC QJ a k i,b.2.1,b.2.2.1,b.2.2.2).2.2.2).2.2.2).2.2.1,(((mkC QJ a k i)+1)+1)+1)) (Qa rfl) rfl (aM (by first | omega | (simp only[ap]; omega))) rfl (Qk rfl) rfl Y6 rfl rfl) ?_
 refine w5 ?_
 refine Qb ?_
 refine w5 ?_
 refine Qb ?_
 refine l0_ ?_
 exact Wk.of [] rfl ⟨rfl,(show some (lI (((((mkC QJ a k i)+1)+1)+1)+1))=some (lI (mkC QJ a k (i+1))) from congrArg (fun z_=>some (lI z_)) (QaG (by omega))),rfl,rfl,trivial⟩ ⟨(Qe (by rw[cA,cA,cA]; exact Jz (f:=QJ) (KS g))),trivial⟩ rfl rfl
theorem Qda (a:QcX)(k:Int)(l:List (QdY))(q:a=(Qs QJ l k).1)(E:0≤k∧k+4*a.length≤1000000000):FC Tryz.prog 166 [(false,[.dat Qw a]),(false,[dI k])] [] 0 (QY (lI ((Qs QJ l k).2))):=by
 have z:a.length=l.length:=by rw[q,YS]
 refine Qv Tryz.func166 rfl rfl Tryz.ntmps166 fun C j B w D y x=> ?_
 refine acI 1 fun _=> ?_
 refine w8 ?_
 refine lp0 a.length (fun i=>⟨[(0,lf (.dat Qw a)),(1,lI (mkC QJ l k i)),(5,lI (i:Int))],[]⟩) ?_ fun i _=> ?_
 exact Wk.of [] rfl ⟨rfl,(show some (lI k)=some (lI (mkC QJ l k 0)) from congrArg (fun z_=>some (lI z_)) (by rw[Qcx])),rfl,trivial⟩ trivial rfl rfl
 have A:=QdT l k i
 refine w4 ?_
 refine alL 7 fun _=> ?_
 refine w3 ?_
 cases m:(decide ((i:Int) < (a.length:Int)))
 have n:=aa m
 refine w7 ?_
 refine Qd<|fqI j ?_
 ·(rw[VX _ (by omega)]; done)
 have n:=ab m
 refine w8 ?_
 obtain ⟨b,c⟩:=gx a i
 have r:b.1=mkC QJ l k i:=by obtain ⟨_,_,h⟩:=Jv q c; rw[h]
 have s:b.2.1=mkC QJ l k i+1:=by obtain ⟨_,_,h⟩:=Jv q c; rw[h]
 have t:b.2.2.1=decide ((mkC QJ l k i+1+1) % 3=0):=by obtain ⟨_,_,h⟩:=Jv q c; rw[h]
 have u:b.2.2.2=mkC QJ l k i+1+1+1:=by obtain ⟨_,_,h⟩:=Jv q c; rw[h]
 refine w3 ?_
 refine alI 16 fun _=> ?_
 refine w3 ?_
 cases o:(!decide (b.1=(mkC QJ l k i)))
 have p:(b.1=(mkC QJ l k i)):=QK o
 refine w14 ?_
 refine alI 25 fun _=> ?_
 refine w3 ?_
 cases d:(!decide (b.2.1=((mkC QJ l k i)+1)))
 have f:(b.2.1=((mkC QJ l k i)+1)):=QK d
 refine w15 ?_
 refine lc (J9 (Qa rfl) (Qy rfl) rfl (by omega) (by omega)) ?_
 refine w_ ?_
 refine lc (WQ (Qa rfl) (Qa rfl) rfl JU) ?_
 refine w_ ?_
 cases v:(b.2.2.1==(decide (((((mkC QJ l k i)+1)+1) % 3)=0)))
 refine w4 ?_
 refine Qd<|fqI j ?_
 ·(exfalso; simp_all; done)
 refine w14 ?_
 refine alI 45 fun _=> ?_
 refine w3 ?_
 cases e:(!decide (b.2.2.2=((((mkC QJ l k i)+1)+1)+1)))
 have g:(b.2.2.2=((((mkC QJ l k i)+1)+1)+1)):=QK e
 refine w6 ?_
 refine Qb ?_
 refine w5 ?_
 refine Qb ?_
 refine l0_ ?_
 exact Wk.of [] rfl ⟨rfl,(show some (lI (((((mkC QJ l k i)+1)+1)+1)+1))=some (lI (mkC QJ l k (i+1))) from congrArg (fun z_=>some (lI z_)) (QaG (by omega))),rfl,trivial⟩ trivial rfl rfl
 have g:¬(b.2.2.2=((((mkC QJ l k i)+1)+1)+1)):=QR e
 refine w4 ?_
 refine Qd<|fqI j ?_
 (exfalso; omega)
 have f:¬(b.2.1=((mkC QJ l k i)+1)):=QR d
 refine w4 ?_
 refine Qd<|fqI j ?_
 (exfalso; omega)
 have p:¬(b.1=(mkC QJ l k i)):=QR o
 refine w4 ?_
 refine Qd<|fqI j ?_
 (exfalso; omega)
def mSG (c:DSg)(k:Int):DSg×Int:=(((Qs fS c.1 k).1,(Qs Zv c.2.1 (Qs fS c.1 k).2).1,(Qs QJ c.2.2 (Qs Zv c.2.1 (Qs fS c.1 k).2).2).1),(Qs QJ c.2.2 (Qs Zv c.2.1 (Qs fS c.1 k).2).2).2)
theorem QuJ (c:DSg)(k:Int):(mSG c k).2=k+2*c.1.length+c.2.1.length+4*c.2.2.length:=by
 simp only[mSG,Qcy,JB,QgA]
 omega
section
variable [∀c,Decidable (SgOk c)][∀s,Decidable (Zo s)]
end
theorem Jr (a:Zi)(k:Int)(m:0≤k∧k+2*a.1.length+a.2.1.length+4*a.2.2.length≤1000000000):FC Tryz.prog 48 [(true,[.ref 0, .ref 1, .ref 2]),(false,[dI k])] [ar 0 77 QE a.1,ar 1 9 .str a.2.1,ar 2 154 QD a.2.2] 3 (Is (lI ((mSG a k).2)) [ar 0 77 QE ((mSG a k).1.1),ar 1 9 .str ((mSG a k).1.2.1),ar 2 154 QD ((mSG a k).1.2.2)]):=by
 have g:=QgA a.1 k
 have h:=JB a.2.1 (Qs fS a.1 k).2
 refine Qv Tryz.func48 rfl rfl Tryz.ntmps48 fun j f i b l e d=> ?_
 refine acI 1 fun _=> ?_
 refine w_ ?_
 refine xbx 3 ?_
 refine w6 ?_
 refine lc (dP 4 [] (VQ a.1 k (by omega)) QfB) ?_
 refine w6 ?_
 refine lc (dP 5 [(0,1)] (Qat a.2.1 ((Qs fS a.1 k).2) (by omega)) Qmc) ?_
 refine w6 ?_
 refine lc (dP 6 [(0,2)] (Qdb a.2.2 ((Qs Zv a.2.1 ((Qs fS a.1 k).2)).2) (by omega)) Qmd) ?_
 refine w7 ?_
 have c:((Qs QJ a.2.2 ((Qs Zv a.2.1 ((Qs fS a.1 k).2)).2)).2:Int)=((mSG a k).2):=by
  rfl
 exact fi_ [] f ⟨(Qe (by rfl)),(Qe (by rfl)),(Qe (by rfl)),trivial⟩ (h0:=by rw[c] <;> rfl)
theorem Wz (a:Zi)(k:Int)(l:DSg)(f:a=(mSG l k).1)(u:0≤k∧k+2*l.1.length+l.2.1.length+4*l.2.2.length≤1000000000):FC Tryz.prog 49 [(true,[.dat Ql a.1, .dat Qo a.2.1, .dat Qw a.2.2]),(false,[dI k])] [] 0 (QY (lI ((mSG l k).2))):=by
 have o:=QgA l.1 k
 have p:=JB l.2.1 (Qs fS l.1 k).2
 have q:=Qcy l.2.2 (Qs Zv l.2.1 (Qs fS l.1 k).2).2
 have b:a.1=(Qs fS l.1 k).1:=by rw[f]; rfl
 have c:a.2.1=(Qs Zv l.2.1 (Qs fS l.1 k).2).1:=by rw[f]; rfl
 have d:a.2.2=(Qs QJ l.2.2 (Qs Zv l.2.1 (Qs fS l.1 k).2).2).1:=by rw[f]; rfl
 have j:a.1.length=l.1.length:=by rw[b,YS]
 have m:a.2.1.length=l.2.1.length:=by rw[c,YS]
 have n:a.2.2.length=l.2.2.length:=by rw[d,YS]
 refine Qv Tryz.func49 rfl rfl Tryz.ntmps49 fun s e r g t i h=> ?_
 refine acI 1 fun _=> ?_
 refine w_ ?_
 refine xbx 0 ?_
 refine w6 ?_
 refine lc (dK (Qar a.1 k l.1 b (by omega)) Qme) ?_
 refine w7 ?_
 refine cd_ (fun _ _=> ?_) fun _ _=> ?_
 refine w5 ?_
 refine lc (dK (Qas a.2.1 ((Qs fS l.1 k).2) l.2.1 c (by omega)) Qmf) ?_
 refine w7 ?_
 refine cd_ (fun _ _=> ?_) fun _ _=> ?_
 refine w5 ?_
 refine lc (dK (Qda a.2.2 ((Qs Zv l.2.1 ((Qs fS l.1 k).2)).2) l.2.2 d (by omega)) Qmg) ?_
 refine w7 ?_
 refine cd_ (fun _ _=> ?_) fun _ _=> ?_
 refine w5 ?_
 refine Qd<|fqI e ?_
 rfl
 refine w3 ?_
 refine Qd<|fqI e ?_
 (exfalso; omega)
 refine w3 ?_
 refine Qd<|fqI e ?_
 (exfalso; omega)
 refine w3 ?_
 refine Qd<|fqI e ?_
 (exfalso; omega)
end Go.Proofs.YtndabgcpnmeeoaaGreat
namespace Go.Proofs.YtndabgcpnmeeoaaGreat
open Go.RowKit
theorem Qer:∀{t:Ty} {w:World} {cs:List Value} {x y:t.Den},Rep t w cs x→Rep t w cs y→x=y
 | .int,_,_,x,y,h,k=>by have f:=h.1; have d:=k.1; rw[f] at d; simpa using d
 | .bool,_,_,x,y,h,k=>by have f:_=_:=h; have d:_=_:=k; rw[f] at d; simpa using d
 | .str,_,_,x,y,h,k=>by have f:=h.1; have d:=k.1; rw[f] at d; simpa using d
 | .u8,_,_,x,y,h,k=>by
  have f:_=_:=h; have d:_=_:=k; rw[f] at d
  simp only[aC,Value.int.injEq,and_true,true_and] at d
  exact UInt8.toNat_inj.1 (by omega)
 | .vl,_,_,x,y,h,k=>by
  have f:_=_:=h; have d:_=_:=k; rw[f] at d
  exact Qo9 (by simpa using d)
 | .sl E e,w,cs,xs,ys,⟨A,c,f,d,h3,h4⟩,⟨A',c',k1,k2,k3,k4⟩=>by
  rw[f] at k1
  simp only[aC,Value.slice.injEq,and_true] at k1
  obtain ⟨rfl,K,rfl⟩:=k1
  apply bV
  intro i
  rcases cR i xs.length with m | m
  ·obtain ⟨b,o,B,C⟩:=h4 (by omega)
   obtain ⟨J,N,q,D⟩:=k4 (by omega)
   rw[B] at q
   cases q
   obtain ⟨p,u,H⟩:=C i xs[i] (ae m)
   obtain ⟨g,v,I⟩:=D i ys[i] (ae (by omega))
   have F:p=g:=by
    apply bV
    intro j
    have L:=u.len
    have M:=v.len
    rcases cR j e.wd with G | G
    ·have z:=H j p[j] (ae (by omega))
     have n:=I j g[j] (ae (by omega))
     rw[z] at n
     rw[ae (by omega),ae (by omega)]
     exact n
    ·rw[bG (by omega),bG (by omega)]
   subst F
   rw[ae m,ae (by omega),Qer u v]
  ·rw[bG m,bG (by omega)]
 | .pr a b,w,cs,x,y,⟨l,r,f,d,h3⟩,⟨l',r',k1,k2,k3⟩=>by
  rw[f] at k1
  obtain ⟨rfl,rfl⟩:=List.append_inj k1 (by rw[d.len,k2.len])
  exact Prod.ext (Qer d k2) (Qer h3 k3)
theorem Qgm {E:TypeId}{e:Ty}{w:World}{fp:List Nat}{cs:List Value}{x:List e.Den}(h:Own (.sl E e) w fp cs x):∃v:Hdr,cs=[hdV v]:=by
 rcases h with ⟨_,h,_⟩ | ⟨g,a,b,fps,_,h,_⟩
 ·exact ⟨none,h⟩
 ·exact ⟨some (g,0,x.length,a),h⟩
open Classical in
noncomputable def rdF (E:TypeId) (e:Ty) (w:World) (v:Hdr):List e.Den:=if h:∃x,Rep (.sl E e) w [hdV v] x then h.choose else []
theorem QgM {E:TypeId}{e:Ty}{w:World}{v:Hdr}{x:List e.Den}(h:Rep (.sl E e) w [hdV v] x):rdF E e w v=x:=by
 have a:∃x,Rep (.sl E e) w [hdV v] x:=⟨x,h⟩
 unfold rdF
 rw[dif_pos a]
 exact Qer a.choose_spec h
theorem Qie {E:TypeId}{e:Ty}{w:World}:∀{xs:List (List e.Den)} {fp:List Nat} {cs:List Value},OwnL (Own (.sl E e) w) fp cs xs→∃vs:List Hdr,cs=vs.map hdV∧vs.map (rdF E e w)=xs
 | [],_,_,h=>⟨[],h.2,rfl⟩
 | x :: xs,_,_,⟨f1,f2,c1,c2,h1,h2,h3,h4⟩=>by
  obtain ⟨v,rfl⟩:=Qgm h3
  obtain ⟨vs,rfl,a⟩:=Qie h4
  exact ⟨v :: vs,by rw[h2]; rfl,by rw[br,a,QgM h3.rep]⟩
theorem Qaf {E:TypeId}{e:Ty}{w:World}{f:Hdr→List e.Den}:∀{vs:List Hdr} {fp:List Nat},OwnL (Own (.sl E e) w) fp (vs.map hdV) (vs.map f)→∀v∈vs,∃a,Own (.sl E e) w a [hdV v] (f v)∧∀g∈a,g∈fp
 | [],_,_,v,hv=>by cases hv
 | u :: vs,fp,h,v,hv=>by
  obtain ⟨j,o,c1,c2,rfl,d,i,k⟩:=h
  obtain ⟨z,rfl⟩:=Qgm i
  simp only[br,ci,cE,aC] at d
  obtain ⟨l,rfl⟩:=d
  rcases aK.1 hv with rfl | hv
  ·exact ⟨j,by rw[l]; exact i,fun g b=>aT _ b⟩
  ·obtain ⟨a,m,n⟩:=Qaf k v hv
   exact ⟨a,m,fun g b=>aR _ (n g b)⟩
theorem Qpw {w:World}:∀(vs:List Hdr),OwnL (Own .vl w) [] (vs.map hdV) vs
 | []=>⟨rfl,rfl⟩
 | v :: vs=>⟨[],[],[hdV v],vs.map hdV,rfl,rfl,⟨rfl,rfl⟩,Qpw vs⟩
theorem Qla {E E':TypeId}{e:Ty}{w:World}{fp:List Nat}{v:Value}{xs:List (List e.Den)}(h:Own (.sl E (.sl E' e)) w fp [v] xs):
 ∃j k vs f,fp=j++k∧Own (.sl E .vl) w j [v] vs∧OwnL (Own (.sl E' e) w) k (vs.map hdV) (vs.map f)∧vs.map f=xs:=by
 rcases h with ⟨rfl,h,rfl⟩ | ⟨g,b,a,fps,rfl,n,o,r,p,q,d⟩
 ·exact ⟨[],[],[],fun _=>[],rfl, .inl ⟨rfl,h,rfl⟩,⟨rfl,rfl⟩,rfl⟩
 ·obtain ⟨vs,m,i⟩:=Qie d
  have l:vs.length=xs.length:=by rw[← i,aF]
  rw[m] at d
  refine ⟨[g],fps,vs,rdF E' e w,rfl, .inr ⟨g,b,a,[],rfl,by rw[l]; exact n,o,by omega,p,q, ?_⟩,by rw[i]; exact d,i⟩
  have:(a.toList.take (vs.length*Ty.wd .vl))=vs.map hdV:=by rw[l]; exact m
  rw[this]
  exact Qpw vs
section
variable {A:Amb}{P:Program}{s:St}{Q:Exit→St→Prop}{c:Code}
theorem R.pool {q:Nat}(p:Nat){E E':TypeId}{e:Ty}{xs:List (List e.Den)}{a:Act}{w:World}(Y:s.tab.ent q=some (.arr E (.sl E' e) xs))(z:Fresh s p)(hk:A.k0≤p)(r:R A s a w):
 ∃(vs:List Hdr) (f:Hdr→List e.Den),vs.map f=xs∧R A ⟨s.tm,(p,some (.pl false (.sl E' e) vs f)) :: (q,some (.arr E .vl vs)) :: s.tab⟩ a w:=by
 obtain ⟨m,r⟩:=r
 have C:s.tab.al q:=⟨_,Y⟩
 have H:q≠p:=fun h=>z.al (h▸C)
 have hO:Own (.sl E (.sl E' e)) w (m.f q) [m.h q] xs:=r.cx.en q _ Y
 obtain ⟨D,W,vs,f,M,h2,h3,h4⟩:=Qla hO
 have G:=r.cx.nd q C
 rw[M] at G
 obtain ⟨n1,n2,n3⟩:=bu.1 G
 have mg:∀g∈D,g∈m.f q:=fun g i=>by rw[M]; exact aT _ i
 have K:∀g∈W,g∈m.f q:=fun g i=>by rw[M]; exact aR _ i
 have l:∀t,Tab.al ((p,some (.pl false (.sl E' e) vs f)) :: (q,some (.arr E .vl vs)) :: s.tab) t→t=p∨(t≠p∧s.tab.al t):=fun t ⟨x,n⟩=>by
  by_cases d:t=p
  ·exact .inl d
  ·refine .inr ⟨d, ?_⟩
   rw[Qj,if_neg d,Qj] at n
   by_cases j:t=q
   ·rw[j]; exact C
   ·rw[if_neg j] at n; exact ⟨_,n⟩
 let k:Gh:=⟨fun t=>if t=p then .slice none 0 0 else m.h t,fun t=>if t=p then [] else if t=q then D else m.f t,fun g=>m.N g∨g∈W⟩
 have I:k.f q=D:=by show (if q=p then [] else if q=q then D else m.f q)=D; rw[if_neg H,if_pos rfl]
 have F:k.f p=[]:=if_pos rfl
 have L:∀t,t≠p→t≠q→k.f t=m.f t:=fun t d j=>by show (if t=p then [] else if t=q then D else m.f t)=_; rw[if_neg d,if_neg j]
 have J:∀t,t≠p→k.h t=m.h t:=fun t d=>if_neg d
 have o:∀t,t≠p→∀g∈k.f t,g∈m.f t:=fun t d g i=>by
  by_cases j:t=q
  ·rw[j,I] at i; rw[j]; exact mg g i
  ·rwa [L t d j] at i
 have X:∀g,m.N g→k.N g∧w.heap[g]? =w.heap[g]? :=fun g h=>⟨.inl h,rfl⟩
 refine ⟨vs,f,h4,k,r.step ⟨fun t x n=> ?_,fun t U y S hn g i B=> ?_,fun t y=> ?_,fun t y g i b=> ?_,fun g b=> ?_⟩ (fun t y=> ?_) X (Zk w) (fun _ _ _=>rfl) (fun g b=> ?_) fun t y g i=> ?_⟩
 ·rw[Qj] at n
  by_cases d:t=p
  ·rw[if_pos d] at n
   cases n
   rw[d]
   refine ⟨if_pos rfl,F,fun v hv=> ?_⟩
   obtain ⟨fv,k1,k2⟩:=Qaf h3 v hv
   exact k1.rd fun g i=> .inr (k2 g i)
  ·rw[if_neg d,Qj] at n
   by_cases j:t=q
   ·rw[if_pos j] at n
    cases n
    show Own (.sl E .vl) w (k.f t) [k.h t] vs
    rw[j,I,J q H]
    exact h2
   ·rw[if_neg j] at n
    refine (r.cx.en t x n).mono (fun T O ha=> ?_) X (J t d) (L t d j) fun _ _=>rfl
    have V:T≠p:=fun h=>z.en t x n (h▸O)
    rcases l T ha with h | ⟨_,h⟩
    ·exact absurd h V
    ·exact ⟨h,J T V⟩
 ·rcases l t y with d | ⟨d,u⟩
  ·rw[d,F] at i; cases i
  ·rcases l U S with j | ⟨j,a2⟩
   ·rw[j,F] at B; cases B
   ·exact r.cx.dj t U u a2 hn g (o t d g i) (o U j g B)
 ·rcases l t y with d | ⟨d,u⟩
  ·rw[d,F]; exact bL
  ·by_cases j:t=q
   ·rw[j,I]; exact n1
   ·rw[L t d j]; exact r.cx.nd t u
 ·rcases l t y with d | ⟨d,u⟩
  ·rw[d,F] at i; cases i
  ·rcases b with b | b
   ·exact r.cx.no t u g (o t d g i) b
   ·by_cases j:t=q
    ·rw[j,I] at i; exact n3 g i g b rfl
    ·exact r.cx.dj t q u C j g (o t d g i) (K g b)
 ·rcases b with b | b
  ·exact r.cx.nl g b
  ·exact r.cx.lt C g (K g b)
 ·rcases l t y with d | ⟨d,u⟩
  ·rw[d]; exact .inr ⟨z,hk⟩
  ·exact .inl ⟨u,J t d,fun _=>rfl⟩
 ·rcases b with b | b
  ·exact .inl b
  ·exact .inr (.inr ⟨q,C,K g b,fun Z=>r.xn g Z (r.ox q C g (K g b) Z)⟩)
 ·rcases l t y with d | ⟨d,u⟩
  ·rw[d,F] at i; cases i
  ·exact .inr ⟨t,u,o t d g i⟩
theorem AC.pool {q:Nat}(p:Nat){E E':TypeId}{e:Ty}{xs:List (List e.Den)}(d:s.tab.ent q=some (.arr E (.sl E' e) xs))(b:Fresh s p)(g:A.k0≤p)
 (k:∀(vs:List Hdr) (f:Hdr→List e.Den),vs.map f=xs→AC A P c Q ⟨s.tm,(p,some (.pl false (.sl E' e) vs f)) :: (q,some (.arr E .vl vs)) :: s.tab⟩):AC A P c Q s:=fun a w r=>by
 obtain ⟨vs,f,h,i⟩:=R.pool p d b g r
 exact k vs f h a w i
theorem AL.pool {ops:Array Oper}{l:List Oper}{q:Nat}(p:Nat){E E':TypeId}{e:Ty}{xs:List (List e.Den)}(d:s.tab.ent q=some (.arr E (.sl E' e) xs))(b:Fresh s p)(g:A.k0≤p)
 (k:∀(vs:List Hdr) (f:Hdr→List e.Den),vs.map f=xs→AL A P ops l Q ⟨s.tm,(p,some (.pl false (.sl E' e) vs f)) :: (q,some (.arr E .vl vs)) :: s.tab⟩):AL A P ops l Q s:=fun a w r=>by
 obtain ⟨vs,f,h,i⟩:=R.pool p d b g r
 exact k vs f h a w i
theorem Qrq {x:Operand}{p:Nat}{e:Ty}{vs:List Hdr}{f:Hdr→e.Den}{v:Hdr}(j:Evl A s x (.dat .vl v))(i:s.tab.ent p=some (.pl false e vs f))(hv:v∈vs):Evl A s x (.dat e (f v)):=fun b a w r=>by
 obtain ⟨_,_,h⟩:=r.cx.en p _ i
 have d:Rd b.N .vl w [a.eval x] v:=j b a w r
 have g:[a.eval x]=[hdV v]:=d.rep
 show Rd b.N e w [a.eval x] (f v)
 rw[g]
 exact h v hv
theorem QrI {i q p:Nat}{E E':TypeId}{e:Ty}{zs vs:List Hdr}{f:Hdr→List e.Den}(hi:lk s.tm i=some (lf (.ref q)))(x:s.tab.ent q=some (.arr E .vl zs))(T:s.tab.ent p=some (.pl false (.sl E' e) vs f))(W:∀z∈zs,z∈vs):
 Wk A s ⟨(i,lf (.dat (.sl E (.sl E' e)) (zs.map f))) :: s.tm,(q,none) :: s.tab⟩:=fun a w r=>by
 obtain ⟨d,r⟩:=r
 obtain ⟨v,O,l,C,R⟩:=r.tm i _ hi
 simp only[aC,and_true] at C
 subst C
 have V:v=d.h q:=R ⟨_,x⟩
 have S:Own (.sl E .vl) w (d.f q) [d.h q] zs:=r.cx.en q _ x
 obtain ⟨_,_,X⟩:=r.cx.en p _ T
 refine ⟨_,(r.freeze x).know O (pv:=lf (.dat (.sl E (.sl E' e)) (zs.map f))) ⟨_,rfl, ?_⟩⟩
 rw[V]
 show Rd (fun g=>d.N g∨g∈d.f q) (.sl E (.sl E' e)) w [d.h q] (zs.map f)
 obtain ⟨wM,Y,F⟩:=Jm (fun g=>d.N g∨g∈d.f q) w
 refine ⟨wM,Y, ?_⟩
 rcases S with ⟨_,o,t⟩ | ⟨g,n,G,fps,J,o,t,K,L,g6,M⟩
 ·subst t
  exact ⟨none,0,o,aJ _,aG _,fun h=>absurd h (by simp)⟩
 ·refine ⟨_,n,by rw[aF]; exact o,by rw[aF]; exact K,L,fun _=>⟨g,0,rfl,fun j y D=> ?_⟩⟩
  rw[bf] at D
  obtain ⟨z,k,rfl⟩:=cc.1 D
  obtain ⟨wN,w1,w2⟩:=X z (W z (ah k))
  refine ⟨[hdV z],w2.kp (w1.kp fun I B=>F I (.inl B)),fun b u U=> ?_⟩
  obtain ⟨fv,H,Z,o2,o3⟩:=M.get j z k
  have o4:H=[hdV z]:=Z.2
  subst o4
  have m:=o3 b u U
  rw[bc] at m
  split at m
  ·rw[cX (F g (.inr (by rw[J]; simp)))]
   simp only[World.cell?,t]
   simpa using m
  ·cases m
end
end Go.Proofs.YtndabgcpnmeeoaaGreat
namespace Go.Proofs.YtndabgcpnmeeoaaGreat
open Go.RowKit
section
variable {A:Amb}{P:Program}{s:St}{x y:Operand}{d:Nat}{T T' ty:TypeId}{pos:String}{af:Array Edge}{g:Option (Nat×Bool)}
theorem QnO (m n:Nat)(e:m < 9223372036854775808)(f:n < 9223372036854775808):bits .andNot .i64 (m:Int) (n:Int)=((m ^^^ (m &&& n):Nat):Int):=by
 have a:(BitVec.ofInt 64 (m:Int)).toNat=m:=by rw[BitVec.ofInt_natCast,BitVec.toNat_ofNat]; exact cy (by omega)
 have b:(BitVec.ofInt 64 (n:Int)).toNat=n:=by rw[BitVec.ofInt_natCast,BitVec.toNat_ofNat]; exact cy (by omega)
 have h:m ^^^ (m &&& n) < 2 ^ 63:=Nat.xor_lt_two_pow (by omega) (Nat.and_lt_two_pow _ (by omega))
 have c:BitVec.ofInt 64 (m:Int) &&& ~~~(BitVec.ofInt 64 (n:Int))=BitVec.ofInt 64 (m:Int) ^^^ (BitVec.ofInt 64 (m:Int) &&& BitVec.ofInt 64 (n:Int)):=by
  ext i hi
  simp only[BitVec.getElem_and,BitVec.getElem_not,BitVec.getElem_xor]
  cases (BitVec.ofInt 64 (m:Int))[i] <;> cases (BitVec.ofInt 64 (n:Int))[i] <;> rfl
 show IntKind.i64.wrap ((BitVec.ofInt 64 (m:Int) &&& ~~~(BitVec.ofInt 64 (n:Int))).toNat:Int)=_
 rw[c,BitVec.toNat_xor,BitVec.toNat_and,a,b,IntWalk.i64_in _ (by omega)]
theorem QjW {m n:Int}(f:Evl A s x (dI m))(h:Evl A s y (dI n))(o:Nat.blt d A.n=true)(h0:0≤m)(b:0≤n):Does A P ⟨some d, .binOp .andNot T x y T',ty,pos,af,g⟩ s (s.put d (lf (dI ((m.toNat ^^^ (m.toNat &&& n.toNat):Nat):Int)))):=
 Qq rfl o fun c a w r=>by
  have j:=f.i r
  have k:=h.i r
  have q:=(LVR.int (f c a w r)).2
  have t:=(LVR.int (h c a w r)).2
  have e:=QnO m.toNat n.toNat (by omega) (by omega)
  rw[cF h0,cF b] at e
  have l:Op.intBits .andNot .i64 m n=pure (.int .i64 ((m.toNat ^^^ (m.toNat &&& n.toNat):Nat):Int)):=by rw[← e]; rfl
  have p:m.toNat ^^^ (m.toNat &&& n.toNat) < 2 ^ 63:=Nat.xor_lt_two_pow (by omega) (Nat.and_lt_two_pow _ (by omega))
  refine ⟨.int .i64 ((m.toNat ^^^ (m.toNat &&& n.toNat):Nat):Int), ?_,_,rfl,Yb (by omega)⟩
  simp only[execOp,j,k,eqGuard_at_int,binOp,l]
  simp
end
end Go.Proofs.YtndabgcpnmeeoaaGreat
namespace Go.Proofs.YtndabgcpnmeeoaaGreat
open Go.RowKit
section
variable {α:Type}[DecidableEq α][Inhabited α]
omit [Inhabited α] in
theorem QhK (y:α):∀l:List α,Y5 (l++[y])=Y5 l++(if l.getLast? =some y then [] else [y])
 | []=>by simp[Y5]
 | [x]=>by
  by_cases h:x=y
  ·simp[Y5,h]
  ·simp[Y5,h]
 | x :: z :: l=>by
  have b:=QhK y (z :: l)
  have a:(x :: z :: l).getLast? =(z :: l).getLast? :=by simp
  rw[a]
  show (if x=z then Y5 ((z :: l)++[y]) else x :: Y5 ((z :: l)++[y]))=(if x=z then Y5 (z :: l) else x :: Y5 (z :: l))++_
  rw[b]
  split <;> simp
theorem QbN (zs:List α):∀m,m≤zs.length→Lib.compactUpTo zs.toArray m=Y5 (zs.take m)
 | 0,_=>by simp[Lib.compactUpTo,Y5]
 | m+1,hm=>by
  have d:zs[m]? =some zs[m]:=ae (by omega)
  have c:(zs.toArray)[m]! =zs[m]:=by rw[getElem!_pos _ m (by simp; omega)]; simp
  rw[Lib.compactUpTo_succ,QbN zs m (by omega),QO d,QhK,c]
  refine congrArg _ ?_
  cases m with
  | zero=>simp[Lib.keeps]
  | succ k=>
   have a:(zs.toArray)[k]! =zs[k]:=by rw[getElem!_pos _ k (by simp; omega)]; simp
   have f:(zs.take (k+1)).getLast? =some zs[k]:=by
    rw[List.getLast?_eq_getElem?,ao,show min (k+1) zs.length - 1=k by omega,List.getElem?_take_of_lt (by omega)]
    exact ae (by omega)
   rw[f]
   have b:Lib.keeps zs.toArray (k+1)= !decide (zs[k]=zs[k+1]):=by
    unfold Lib.keeps
    rw[c,show k+1 - 1=k from rfl,a]
    by_cases e:zs[k]=zs[k+1]
    ·simp[e]
    ·simp[e,Ne.symm e]
   rw[b]
   by_cases e:zs[k]=zs[k+1]
   ·simp[e]
   ·simp[e]
theorem QlY (zs:List α):Lib.compact zs=Y5 zs:=by
 have:=QbN zs zs.length (aJ _)
 rw[cZ] at this
 exact this
omit [Inhabited α] in
theorem Qku:∀l:List α,(Y5 l).length≤l.length
 | []=>aJ _
 | [_]=>aJ _
 | x :: y :: l=>by
  have:=Qku (y :: l)
  unfold Y5
  split
  ·simp only[au] at*; omega
  ·simp only[au] at*; omega
end
def Qrm (P:Program)(f:FuncId):Prop:=∀(blk cap:Nat) (zs:List Int) (w:World),Sort.Holds (Value.int .i64) w blk 0 zs.toArray→zs.length≤9223372036854775807→zs.length≤cap→
 Calls P f #[.slice (some ⟨blk,0,none⟩) zs.length cap] w fun e w'=>e= .returned (.slice (some ⟨blk,0,none⟩) (Y5 zs).length cap)∧∃q,w'=Sort.putRow (Value.int .i64) (Sort.ahead w q) blk 0 (Y5 zs++List.replicate (zs.length - (Y5 zs).length) 0).toArray
def QjV (P:Program)(f:FuncId):Prop:=∀w:World,Calls P f #[.slice none 0 0] w fun e w'=>e= .returned (.slice none 0 0)∧w'=w
theorem Qrv {P:Program}{f:FuncId}{E:TypeId}(U:Qrm P f)(R:QjV P f)(xs:List Int)(hl:xs.length≤1000000000):FC P f [(false,[.ref 0])] [(0,some (.arr E .int xs))] 0 (YB E .int (Y5 xs)):=fun u w vs A V=>by
 obtain ⟨v,a0,rfl,⟨l,D,C⟩,rfl⟩:=V
 simp only[aC,and_true] at D
 subst D
 have hv:v=u.h 0:=C ⟨_,rfl⟩
 subst hv
 have S:Own (.sl E .int) w (u.f 0) [u.h 0] xs:=A.en 0 _ rfl
 have a:∀(y:List Int) q,Tab.al [(0,some (Ent.arr E .int y))] q→q=0:=fun y q ⟨e,b⟩=>by
  rw[Qj] at b
  split at b
  ·assumption
  ·cases b
 rcases S with ⟨p,o,G⟩ | ⟨g,j,z,fps,p,o,H,Y,k,F,K⟩
 ·simp only[aC,and_true] at o
  subst G
  rw[o]
  refine Calls.mono (R w) fun e w' b=> ?_
  obtain ⟨rfl,rfl⟩:=b
  refine ⟨_,_,_,u,rfl,⟨rfl,rfl⟩,⟨fun q e b=> ?_,fun q J d t s=>absurd ((a _ q d).trans (a _ J t).symm) s,fun q d=> ?_,fun q d g i=> ?_,fun g i=>A.nl g i⟩,⟨_,rfl,fun _=>o.symm⟩,
   ⟨Zk _,fun _ _ _=>rfl,fun g i=> .inl i,fun q d g i=> ?_⟩,fun q h _=>absurd h (bg _)⟩
  ·rw[Qj] at b
   split at b
   ·rename_i B; subst B; cases b
    exact .inl ⟨p,by rw[o],rfl⟩
   ·cases b
  ·rw[a _ q d,p]; exact bL
  ·rw[a _ q d,p] at i; cases i
  ·rw[a _ q d,p] at i; cases i
 ·simp only[aC,and_true] at o
  rw[cD] at K
  obtain ⟨rfl,ht,Z⟩:=Qdv K
  have i:g < w.heap.size:=(bR.1 H).1
  rw[o]
  have X:xs.length≤9223372036854775807:=by unfold maxLen at k; omega
  refine Calls.mono (U g j xs w (holds_of_blockI H ht) X Y) fun e w' b=> ?_
  obtain ⟨rfl,n,rfl⟩:=b
  have W:=Qku xs
  have L:(Y5 xs++List.replicate (xs.length - (Y5 xs).length) (0:Int)).length=xs.length:=by simp; omega
  generalize T:Y5 xs++List.replicate (xs.length - (Y5 xs).length) (0:Int)=row at*
  have r:Sort.putRow (Value.int .i64) (Sort.ahead w n) g 0 row.toArray=Sort.grow (Sort.putRow (Value.int .i64) (Sort.ahead w n) g 0 row.toArray) #[]:=(Sort.grow_empty _).symm
  rw[r]
  obtain ⟨k1,k2,k3,M,k5⟩:=grownBy_sortedI (w:=w) (g:=g) (n:=n) (os:= #[]) row.toArray
  have O:∀x:Int,x∈Y5 xs→x∈xs:=fun x G=>Hm.1 G
  refine ⟨_,_,_,⟨fun _=> .slice (some ⟨g,0,none⟩) (Y5 xs).length j,u.f,u.N⟩,rfl,⟨rfl,rfl⟩,⟨fun q e b=> ?_,fun q J d t s=>absurd ((a _ q d).trans (a _ J t).symm) s,fun q d=> ?_,fun q d m c=> ?_,fun m c=>bp (A.nl m c) M⟩,⟨_,rfl,fun _=>rfl⟩,
   ⟨⟨k1,k2,k3,M⟩,fun m C Q=> ?_,fun m C=> .inl C,fun q d m c=> ?_⟩,fun q h _=>absurd h (bg _)⟩
  ·rw[Qj] at b
   split at b
   ·rename_i B; subst B; cases b
    refine .inr ⟨g,j,_,[],p,rfl,heap_sortedI _ H,by omega,k,by simpa [Sort.putCells] using F, ?_⟩
    show OwnL (Own .int _) [] (List.take ((Y5 xs).length*1) _) (Y5 xs)
    have I:=take_putCellsI z row (by have:z.size=j*1:=F; omega)
    rw[cD,show (Y5 xs).length=min (Y5 xs).length row.length by omega,← List.take_take,I,← List.map_take,← T,List.take_left' rfl]
    exact Qjs fun x G=>Z x (O x G)
   ·cases b
  ·rw[a _ q d]; exact A.nd 0 ⟨_,rfl⟩
  ·rw[a _ q d] at c; exact A.no 0 ⟨_,rfl⟩ m c
  ·exact k5 m C fun B=>Q 0 ⟨_,rfl⟩ (by rw[p]; cases B; exact az ..)
  ·rw[a _ q d] at c; exact .inr ⟨0,⟨_,rfl⟩,c⟩
def Qq4:Go.Shelf.Ren:=⟨fun | 189=>386 | 125=>249 | 257=>479 | 128=>372 | 129=>373 | 294=>533 | 295=>534 | 296=>535 | 297=>536 | 298=>537 | 299=>538 | 216=>539 | 300=>540 | 301=>541 | 328=>569 | 329=>468 | 330=>469 | 331=>570 | 332=>571 | 215=>374 | 343=>582 | n=>n,fun | 28=>123 | 3=>3 | 46=>279 | 0=>0 | 51=>406 | 53=>132 | 4=>4 | 183=>400 | 182=>399 | 131=>40 | 5=>5 | 9=>9 | 218=>465 | 222=>469 | 228=>513 | 229=>514 | n=>n,fun | n=>n⟩
theorem Qvu:Go.Proofs.Lays.n189 Tryz.prog Qq4:={
 mixed:=by kernel_rfl,
 f125:=Tryz.func249.trans (congrArg some (by kernel_rfl)),
 f128:=Tryz.func372.trans (congrArg some (by kernel_rfl)),
 f129:=Tryz.func373.trans (congrArg some (by kernel_rfl)),
 f189:=Tryz.func386.trans (congrArg some (by kernel_rfl)),
 f215:=Tryz.func374.trans (congrArg some (by kernel_rfl)),
 f216:=Tryz.func539.trans (congrArg some (by kernel_rfl)),
 f257:=Tryz.func479.trans (congrArg some (by kernel_rfl)),
 f294:=Tryz.func533.trans (congrArg some (by kernel_rfl)),
 f295:=Tryz.func534.trans (congrArg some (by kernel_rfl)),
 f296:=Tryz.func535.trans (congrArg some (by kernel_rfl)),
 f297:=Tryz.func536.trans (congrArg some (by kernel_rfl)),
 f298:=Tryz.func537.trans (congrArg some (by kernel_rfl)),
 f299:=Tryz.func538.trans (congrArg some (by kernel_rfl)),
 f300:=Tryz.func540.trans (congrArg some (by kernel_rfl)),
 f301:=Tryz.func541.trans (congrArg some (by kernel_rfl)),
 f328:=Tryz.func569.trans (congrArg some (by kernel_rfl)),
 f329:=Tryz.func468.trans (congrArg some (by kernel_rfl)),
 f330:=Tryz.func469.trans (congrArg some (by kernel_rfl)),
 f331:=Tryz.func570.trans (congrArg some (by kernel_rfl)),
 f332:=Tryz.func571.trans (congrArg some (by kernel_rfl)),
 f343:=Tryz.func582.trans (congrArg some (by kernel_rfl)),
 t0:=Tryz.underlying0,
 a0:=Tryz.isAgg0,
 z0:=Tryz.sizeOf0,
 v0:=Tryz.zeroValue0,
 t3:=Tryz.underlying3,
 a3:=Tryz.isAgg3,
 z3:=Tryz.sizeOf3,
 v3:=Tryz.zeroValue3,
 t4:=Tryz.underlying4,
 a4:=Tryz.isAgg4,
 z4:=Tryz.sizeOf4,
 v4:=Tryz.zeroValue4,
 t5:=Tryz.underlying5,
 a5:=Tryz.isAgg5,
 z5:=Tryz.sizeOf5,
 v5:=Tryz.zeroValue5,
 t9:=Tryz.underlying9,
 a9:=Tryz.isAgg9,
 z9:=Tryz.sizeOf9,
 v9:=Tryz.zeroValue9,
 t28:=Tryz.underlying123,
 a28:=Tryz.isAgg123,
 z28:=Tryz.sizeOf123,
 v28:=Tryz.zeroValue123,
 t46:=Tryz.underlying279,
 a46:=Tryz.isAgg279,
 z46:=Tryz.sizeOf279,
 v46:=Tryz.zeroValue279,
 t51:=Tryz.underlying406,
 a51:=Tryz.isAgg406,
 z51:=Tryz.sizeOf406,
 v51:=Tryz.zeroValue406,
 t53:=Tryz.underlying132,
 a53:=Tryz.isAgg132,
 z53:=Tryz.sizeOf132,
 v53:=Tryz.zeroValue132,
 t131:=Tryz.underlying40,
 a131:=Tryz.isAgg40,
 z131:=Tryz.sizeOf40,
 v131:=Tryz.zeroValue40,
 t182:=Tryz.underlying399,
 a182:=Tryz.isAgg399,
 z182:=Tryz.sizeOf399,
 v182:=Tryz.zeroValue399,
 t183:=Tryz.underlying400,
 a183:=Tryz.isAgg400,
 z183:=Tryz.sizeOf400,
 v183:=Tryz.zeroValue400,
 t218:=Tryz.underlying465,
 a218:=Tryz.isAgg465,
 z218:=Tryz.sizeOf465,
 v218:=Tryz.zeroValue465,
 t222:=Tryz.underlying469,
 a222:=Tryz.isAgg469,
 z222:=Tryz.sizeOf469,
 v222:=Tryz.zeroValue469,
 t228:=Tryz.underlying513,
 a228:=Tryz.isAgg513,
 z228:=Tryz.sizeOf513,
 v228:=Tryz.zeroValue513,
 t229:=Tryz.underlying514,
 a229:=Tryz.isAgg514,
 z229:=Tryz.sizeOf514,
 v229:=Tryz.zeroValue514}
theorem Qwv:QrF Tryz.prog 386:=fun a b f w c d e=>calls_of_every_depth fun D=>AnyS.slices_Sort_int_in Qvu D a 0 b f w c d e
theorem Qtq:Qkc Tryz.prog 386:=fun w=>Calls.mono (Any.slices_Sort_int_none Qvu none 0 w) fun _ _ ⟨a,b⟩=>⟨a,b▸Qr _⟩
theorem Quv (l:List Int)(a:l.length≤1000000000):FC Tryz.prog 386 [(false,[.ref 0])] [(0,some (.arr 3 .int l))] 1 (Is (.tup []) [(0,some (.arr 3 .int (VR l)))]):=Qrx Qwv Qtq l a
def QiU:Go.Shelf.Ren:=⟨fun | 20=>387 | n=>n,fun | 22=>123 | 3=>3 | 4=>4 | 0=>0 | n=>n,fun | n=>n⟩
theorem Qkz:Go.Proofs.Lays2.n20 Tryz.prog QiU:={
 mixed:=by kernel_rfl,
 f20:=Tryz.func387.trans (congrArg some (by kernel_rfl)),
 t0:=Tryz.underlying0,
 a0:=Tryz.isAgg0,
 z0:=Tryz.sizeOf0,
 v0:=Tryz.zeroValue0,
 t3:=Tryz.underlying3,
 a3:=Tryz.isAgg3,
 z3:=Tryz.sizeOf3,
 v3:=Tryz.zeroValue3,
 t4:=Tryz.underlying4,
 a4:=Tryz.isAgg4,
 z4:=Tryz.sizeOf4,
 v4:=Tryz.zeroValue4,
 t22:=Tryz.underlying123,
 a22:=Tryz.isAgg123,
 z22:=Tryz.sizeOf123,
 v22:=Tryz.zeroValue123,
 i3:=by kernel_rfl}
theorem QvJ:Qrm Tryz.prog 387:=fun a b f w e c d=>by
 have h:=calls_of_every_depth fun D=>AnyS.slices_Compact_int_in Qkz D a 0 b f w e c d
 rw[QlY] at h
 exact h
theorem Qr4:QjV Tryz.prog 387:=fun w=>calls_of_every_depth fun D=>AnyS.slices_Compact_int_empty_in Qkz D none 0 w
theorem QnL (l:List Int)(a:l.length≤1000000000):FC Tryz.prog 387 [(false,[.ref 0])] [(0,some (.arr 3 .int l))] 0 (YB 3 .int (Y5 l)):=Qrv QvJ Qr4 l a
end Go.Proofs.YtndabgcpnmeeoaaGreat
namespace Go.Proofs.YtndabgcpnmeeoaaGreat
open Go.RowKit
section
variable {E:TypeId}{e:Ty}{w:World}{f:Hdr→List e.Den}
theorem QgF:∀{l vs:List Hdr},l.Sublist vs→∀{fp:List Nat},OwnL (Own (.sl E e) w) fp (vs.map hdV) (vs.map f)→∃b,b.Sublist fp∧OwnL (Own (.sl E e) w) b (l.map hdV) (l.map f)
 | _,_, .slnil,fp,h=>⟨[],List.nil_sublist _,⟨rfl,rfl⟩⟩
 | _,_, .cons a s,fp,h=>by
  obtain ⟨k,p,c1,c2,rfl,i,j,m⟩:=h
  obtain ⟨z,rfl⟩:=Qgm j
  simp only[br,ci,cE,aC] at i
  obtain ⟨_,rfl⟩:=i
  obtain ⟨b,n,o⟩:=QgF s m
  exact ⟨b,n.trans (List.sublist_append_right ..),o⟩
 | _,_, .cons_cons a s,fp,h=>by
  obtain ⟨k,p,c1,c2,rfl,i,j,m⟩:=h
  obtain ⟨z,rfl⟩:=Qgm j
  simp only[br,ci,cE,aC] at i
  obtain ⟨q,rfl⟩:=i
  obtain ⟨b,n,o⟩:=QgF s m
  exact ⟨k++b,(List.Sublist.refl _).append n,⟨k,b,[hdV z],_,rfl,by rw[br,q]; rfl,j,o⟩⟩
end
section
variable {A:Amb}{P:Program}{s:St}{Q:Exit→St→Prop}{c:Code}
theorem QxA {x:Operand}{p:Nat}{E:TypeId}{e:Ty}{vs:List Hdr}{f:Hdr→List e.Den}{v:Hdr}(o:Evl A s x (.dat .vl v))(h:s.tab.ent p=some (.pl true (.sl E e) vs f))(hv:v∈vs):EvB A s x (false,[.dat (.sl E e) (f v)]):=fun b a w r=>by
 obtain ⟨_,l⟩:=r.cx.en p _ h
 have j:Rd b.N .vl w [a.eval x] v:=o b a w r
 have k:[a.eval x]=[hdV v]:=j.rep
 obtain ⟨i,q,t⟩:=Qaf l v hv
 refine ⟨_,rfl, ?_⟩
 have m:Own (.sl E e) w i [a.eval x] (f v):=by rw[k]; exact q
 exact m.rd fun g n=>r.cx.lt ⟨_,h⟩ g (t g n)
end
section
variable {A:Amb}{P:Program}{s:St}{f:FuncId}{xs:List Operand}{tys:Array TypeId}{args:List (Bool×List LV)}{d:Nat}{ty:TypeId}{pos:String}{af:Array Edge}{g:Option (Nat×Bool)}{pv:PV}
end
end Go.Proofs.YtndabgcpnmeeoaaGreat
