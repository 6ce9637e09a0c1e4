/- laws.FnExactOriginalStates and laws.FnExactInsertSignal walked. -/
import Derived.Test.YtnakmhfjafecpaaGreatVh
import Derived.Test.YtnakmhfjafecpaaGreatWg
import Derived.Test.YtnakmhfjafecpaaGreatAk
import Derived.Test.YtnakmhfjafecpaaGreatNet
import Derived.Shelf.Lays
import Derived.Shelf.Lays2
import Derived.Shelf.Slices.In.SortNone
import Derived.Shelf.Slices.In.CompactI
set_option linter.unusedSimpArgs false
set_option linter.unusedVariables false
set_option linter.unusedSectionVars false
namespace Go.Proofs.YtnakmhfjafecpaaGreat
open Go.RowKit
set_option maxRecDepth 100000
set_option maxHeartbeats 4000000
theorem Qbn (x:Wc)(left:Int)(h0:0≤left)(h1:left≤1048576):FC Tryz.prog 20 [(true,leaves ZF x),(false,[dI left])] [] 0 (Zy (lf (dI (szv left (Ty.tot ZF x))))):=
  QmP (fun us w hr=>by
    obtain ⟨a0,a1,a2,rfl⟩:=Uo hr.len
    exact Qa2 a0 a1 a2 x left w hr h0 h1) h0 h1
theorem XQ (x:Wc)(hz:Ty.tot ZF x≤1048576):FC Tryz.prog 22 [(true,leaves ZF x)] [] 0 (Is (ag (oL YE x 0)) (oT YE x 0)):=
  QkM fun gh w vs ha=>by
    obtain ⟨us,vs,rfl,hr,ha⟩:=ha.agg_cons
    obtain rfl:=ha.nil_
    obtain ⟨a0,a1,a2,rfl⟩:=Uo hr.len
    refine Calls.mono (QaR a0 a1 a2 x w hr hz) fun e w' he=> ?_
    obtain ⟨u0,u1,u2,rfl,h1,h2⟩:=he
    exact ⟨_,rfl,h1,h2⟩
theorem XV (x y:Wc)(h:x=y):FC Tryz.prog 25 [(true,leaves YE x),(true,leaves YE y)] [] 0 (Zy (lf (dB true))):=
  QmG h fun us vs w h1 h2=>by
    obtain ⟨a0,a1,a2,rfl⟩:=Uo h1.len
    obtain ⟨b0,b1,b2,rfl⟩:=Uo h2.len
    exact H5 a0 a1 a2 b0 b1 b2 x w h1 h2
@[reducible] def Zz:(ByteArray)→Int→(ByteArray)×Int:=fun _ k=>(XI (k),k+1)
theorem QjN:∀(x:(ByteArray)) (k:Int),(Zz x k).2=k+((fun _=>1:(ByteArray)→Nat) x:Nat):=fun _ k=>by show k+1=k+((1:Nat):Int); omega
theorem Qey (a:List (ByteArray)):(a.map fun _=>1).sum=1*a.length:=by
  induction a with
  | nil=>rfl
  | cons x xs ih=>simp[ih]; omega
theorem Qbf (a:List (ByteArray))(k:Int)(i:Nat):k≤mkC Zz a k i∧mkC Zz a k i≤k+1*a.length:=by
  have:=QeI _ QjN a k i
  rw[Qey] at this
  omega
theorem Js {l:List (ByteArray)}{k:Int}{i:Nat}(h:i < l.length):mkC Zz l k i+1=mkC Zz l k (i+1):=by rw[H8 (List.getElem?_eq_getElem h)]
theorem UJ (l:List (ByteArray))(k:Int):(QN Zz l k).2=k+1*l.length:=by rw[Hp _ QjN,Qey]; omega
theorem Jo (a:List ByteArray)(k:Int)(hk:0≤k∧k+1*a.length≤1000000000):FC Tryz.prog 87 [(false,[.ref 0]),(false,[dI k])] [(0,some (.arr 9 .str a))] 1 (Is (lI ((QN Zz a k).2)) [(0,some (.arr 9 .str ((QN Zz a k).1)))]):=by
 refine QQ Tryz.func87 rfl rfl Tryz.ntmps87 fun O_ hO w0_ N0_ X_ h0_ f0_=> ?_
 refine AC.fact (Qs (x:= .tmp 1) (Qa rfl)) fun hi1=> ?_
 iterate 8 refine w_ ?_
 refine Qy (fun m_ s_=>∃(i:Nat),i≤a.length∧m_=a.length - i∧s_=⟨[(0,lR 0),(1,lI (mkC Zz a k i)),(4,lI 0),(5,lI (i:Int))],[(0,some (.arr 9 .str (mkA Zz a k i)))]⟩) ⟨0,Nat.zero_le _,rfl,rfl⟩ ?_ ?_
 · exact Wk.of [(0,0)] rfl ⟨rfl,(show some (lI k)=some (lI (mkC Zz a k 0)) from congrArg (fun z_=>some (lI z_)) (by rw[Qa8])),rfl,rfl,trivial⟩ ⟨(Qv (Qjj Zz a k)),trivial⟩ rfl rfl
 rintro m_ s_ ⟨i,hk3,hm4,rfl⟩
 have hml:=J8 Zz a k i
 have hmc:=Qbf a k i
 iterate 7 refine w_ ?_
 cases hb5:(decide ((i:Int) < ((mkA Zz a k i).length:Int)))
 ·have hb5':=of_decide_eq_false hb5
  refine w_ ?_
  refine QA ?_
  refine (?_:AC _ _ _ _ _)
  iterate 4 refine w_ ?_
  refine Qe ?_
  subst hO
  have e6:(mkC Zz a k i:Int)=((QN Zz a k).2):=by
   (rw[VU _ (by omega)]; done)
  exact Q2 _ _ [(0,0)] (Qd rfl (Qc rfl)) ((congrArg (fun z_=>lI z_) e6)) ⟨(Qv (by (rw[QbG _ (by omega)]; done))),trivial⟩ rfl rfl
 ·have hb5':=of_decide_eq_true hb5
  iterate 8 refine w_ ?_
  refine lc (Qh (XF (mkC Zz a k i)) U4 ⟨_,_,rfl,(Qb rfl),rfl⟩ rfl rfl)<|lc (Qq (e:= .str) (Qa rfl) rfl (Qa rfl) ZL Zx rfl (by omega) (by first | omega | (simp only[List.length_set]; omega))) ?_
  obtain ⟨x7,hx8⟩:∃z,(mkA Zz a k i)[i]? =some z:=⟨_,List.getElem?_eq_getElem (by omega)⟩
  refine lc (Q5 (e:= .str) (z':=XI (mkC Zz a k i)) (Qa rfl) rfl hx8 rfl (Qb rfl) rfl Zx rfl rfl) ?_
  iterate 5 refine w_ ?_
  refine Qj ?_
  refine (?_:AC _ _ _ _ _)
  iterate 4 refine w_ ?_
  refine Qj<|QS ⟨i+1,by omega,rfl,rfl⟩ (by omega) ?_
  exact Wk.of [(0,0)] rfl ⟨rfl,(show some (lI ((mkC Zz a k i)+1))=some (lI (mkC Zz a k (i+1))) from congrArg (fun z_=>some (lI z_)) (Js (by omega))),rfl,rfl,trivial⟩ ⟨(Qv (H2 (f:=Zz) (Ha hx8))),trivial⟩ rfl rfl
theorem Jg (a:List ByteArray)(k:Int)(l:List (ByteArray))(hm:a=(QN Zz l k).1)(hk:0≤k∧k+1*a.length≤1000000000):FC Tryz.prog 102 [(false,[.dat (.sl 9 .str) a]),(false,[dI k])] [] 0 (Zy (lI ((QN Zz l k).2))):=by
 have hla:a.length=l.length:=by rw[hm,Ys]
 refine QQ Tryz.func102 rfl rfl Tryz.ntmps102 fun O_ hO w0_ N0_ X_ h0_ f0_=> ?_
 refine AC.fact (Qs (x:= .tmp 1) (Qa rfl)) fun hi1=> ?_
 iterate 8 refine w_ ?_
 refine Qy (fun m_ s_=>∃(i:Nat),i≤a.length∧m_=a.length - i∧s_=⟨[(0,lf (.dat (.sl 9 .str) a)),(1,lI (mkC Zz l k i)),(5,lI (i:Int))],[]⟩) ⟨0,Nat.zero_le _,rfl,rfl⟩ ?_ ?_
 · exact Wk.of [] rfl ⟨rfl,(show some (lI k)=some (lI (mkC Zz l k 0)) from congrArg (fun z_=>some (lI z_)) (by rw[Qa8])),rfl,trivial⟩ trivial rfl rfl
 rintro m_ s_ ⟨i,hk3,hm4,rfl⟩
 have hmc:=Qbf l k i
 iterate 4 refine w_ ?_
 refine AL.fact (QB (x:= .tmp 7) (Qa rfl)) fun hl5=> ?_
 iterate 3 refine w_ ?_
 cases hb6:(decide ((i:Int) < (a.length:Int)))
 ·have hb6':=of_decide_eq_false hb6
  refine w_ ?_
  refine QA ?_
  refine (?_:AC _ _ _ _ _)
  iterate 4 refine w_ ?_
  refine Qe ?_
  subst hO
  have e7:(mkC Zz l k i:Int)=((QN Zz l k).2):=by
   (rw[VU _ (by omega)]; done)
  exact Qg (Qd rfl (Qc rfl)) ((congrArg (fun z_=>lI z_) e7)) rfl
 ·have hb6':=of_decide_eq_true hb6
  iterate 5 refine w_ ?_
  obtain ⟨x8,hx9⟩:∃z,a[i]? =some z:=⟨_,List.getElem?_eq_getElem (by omega)⟩
  have hv0x8:x8=XI (mkC Zz l k i):=by obtain ⟨_,_,h⟩:=Wo hm hx9; rw[h]
  refine dw [io 12 (lf (.dat (.sl 9 .str) a)),io 13 (lI (i:Int)),io 14 (lf (.elt .str x8 0)),io 15 (lf (dS x8)),io 16 (lI (mkC Zz l k i)),io 17 (lf (dS (XI (mkC Zz l k i)))),io 18 (lB (!decide (x8=(XI (mkC Zz l k i)))))] [0,0,3,7,0,16,63] mixed rfl (by kernel_rfl) ⟨dxm rfl rfl,dxm rfl rfl,fun _ h_=>ac (Qm (h_.v rfl) (h_.v rfl) ZL Zx rfl (by omega) hx9) rfl,fun _ h_=>ac (Zv (h_.v rfl) Zx rfl rfl) rfl,dxm rfl rfl,fun _ h_=>ac (Qh (XF (mkC Zz l k i)) U4 ⟨_,_,rfl,(h_.w rfl),rfl⟩ rfl rfl) rfl,fun _ h_=>ac (Jc (h_.v rfl) (h_.v rfl) rfl) rfl,⟨⟩⟩ ?_
  cases hb10:(!decide (x8=(XI (mkC Zz l k i))))
  ·have hb10':(x8=(XI (mkC Zz l k i))):=Ze hb10
   iterate 6 refine w_ ?_
   refine Qj ?_
   refine (?_:AC _ _ _ _ _)
   iterate 4 refine w_ ?_
   refine Qj<|QS ⟨i+1,by omega,rfl,rfl⟩ (by omega) ?_
   exact Wk.of [] rfl ⟨rfl,(show some (lI ((mkC Zz l k i)+1))=some (lI (mkC Zz l k (i+1))) from congrArg (fun z_=>some (lI z_)) (Js (by omega))),rfl,trivial⟩ trivial rfl rfl
  ·have hb10':¬(x8=(XI (mkC Zz l k i))):=Zp hb10
   iterate 4 refine w_ ?_
   refine Qe ?_
   subst hO
   have e12:((-1):Int)=((QN Zz l k).2):=by
    (exfalso; simp_all; done)
   exact Qg (Qd rfl (Qc rfl)) ((congrArg (fun z_=>lI z_) e12)) rfl
@[reducible] def QX:(Jv)→Int→(Jv)×Int:=fun _ k=>((k,k+1,decide ((k+1+1) % 3=0),k+1+1+1),k+1+1+1+1)
theorem Qj7:∀(x:(Jv)) (k:Int),(QX x k).2=k+((fun _=>4:(Jv)→Nat) x:Nat):=fun _ k=>by show k+1+1+1+1=k+((4:Nat):Int); omega
theorem QdV (a:List (Jv)):(a.map fun _=>4).sum=4*a.length:=by
  induction a with
  | nil=>rfl
  | cons x xs ih=>simp[ih]; omega
theorem Qa5 (a:List (Jv))(k:Int)(i:Nat):k≤mkC QX a k i∧mkC QX a k i≤k+4*a.length:=by
  have:=QeI _ Qj7 a k i
  rw[QdV] at this
  omega
theorem Jq {l:List (Jv)}{k:Int}{i:Nat}(h:i < l.length):mkC QX l k i+1+1+1+1=mkC QX l k (i+1):=by rw[H8 (List.getElem?_eq_getElem h)]
theorem H4 (l:List (Jv))(k:Int):(QN QX l k).2=k+4*l.length:=by rw[Hp _ Qj7,QdV]; omega
theorem QaQ (a:List (Int×Int×Bool×Int))(k:Int)(hk:0≤k∧k+4*a.length≤1000000000):FC Tryz.prog 88 [(false,[.ref 0]),(false,[dI k])] [(0,some (.arr 179 (.pr .int (.pr .int (.pr .bool .int))) a))] 1 (Is (lI ((QN QX a k).2)) [(0,some (.arr 179 (.pr .int (.pr .int (.pr .bool .int))) ((QN QX a k).1)))]):=by
 refine QQ Tryz.func88 rfl rfl Tryz.ntmps88 fun O_ hO w0_ N0_ X_ h0_ f0_=> ?_
 refine AC.fact (Qs (x:= .tmp 1) (Qa rfl)) fun hi1=> ?_
 iterate 8 refine w_ ?_
 refine Qy (fun m_ s_=>∃(i:Nat),i≤a.length∧m_=a.length - i∧s_=⟨[(0,lR 0),(1,lI (mkC QX a k i)),(4,lI 0),(5,lI (i:Int))],[(0,some (.arr 179 (.pr .int (.pr .int (.pr .bool .int))) (mkA QX a k i)))]⟩) ⟨0,Nat.zero_le _,rfl,rfl⟩ ?_ ?_
 · exact Wk.of [(0,0)] rfl ⟨rfl,(show some (lI k)=some (lI (mkC QX a k 0)) from congrArg (fun z_=>some (lI z_)) (by rw[Qa8])),rfl,rfl,trivial⟩ ⟨(Qv (Qjj QX a k)),trivial⟩ rfl rfl
 rintro m_ s_ ⟨i,hk3,hm4,rfl⟩
 have hml:=J8 QX a k i
 have hmc:=Qa5 a k i
 iterate 7 refine w_ ?_
 cases hb5:(decide ((i:Int) < ((mkA QX a k i).length:Int)))
 ·have hb5':=of_decide_eq_false hb5
  refine w_ ?_
  refine QA ?_
  refine (?_:AC _ _ _ _ _)
  iterate 4 refine w_ ?_
  refine Qe ?_
  subst hO
  have e6:(mkC QX a k i:Int)=((QN QX a k).2):=by
   (rw[VU _ (by omega)]; done)
  exact Q2 _ _ [(0,0)] (Qd rfl (Qc rfl)) ((congrArg (fun z_=>lI z_) e6)) ⟨(Qv (by (rw[QbG _ (by omega)]; done))),trivial⟩ rfl rfl
 ·have hb5':=of_decide_eq_true hb5
  iterate 8 refine w_ ?_
  refine lc (Qq (e:=(.pr .int (.pr .int (.pr .bool .int)))) (Qa rfl) rfl (Qa rfl) Q9 QJ rfl (by omega) (by first | omega | (simp only[List.length_set]; omega))) ?_
  refine w_ ?_
  obtain ⟨x7,hx8⟩:∃z,(mkA QX a k i)[i]? =some z:=⟨_,List.getElem?_eq_getElem (by omega)⟩
  refine lc (Q5 (e:=(.pr .int (.pr .int (.pr .bool .int)))) (z':=(mkC QX a k i,x7.2.1,x7.2.2.1,x7.2.2.2)) (Qa rfl) rfl hx8 rfl (Qb rfl) rfl QD rfl rfl) ?_
  iterate 10 refine w_ ?_
  refine lc (Qq (e:=(.pr .int (.pr .int (.pr .bool .int)))) (Qa rfl) rfl (Qa rfl) Q9 QJ rfl (by omega) (by first | omega | (simp only[List.length_set]; omega))) ?_
  refine w_ ?_
  refine lc (Q5 (e:=(.pr .int (.pr .int (.pr .bool .int)))) (z':=((mkC QX a k i,x7.2.1,x7.2.2.1,x7.2.2.2).1,(mkC QX a k i)+1,(mkC QX a k i,x7.2.1,x7.2.2.1,x7.2.2.2).2.2.1,(mkC QX a k i,x7.2.1,x7.2.2.1,x7.2.2.2).2.2.2)) (Qa rfl) rfl (List.getElem?_set_self (by first | omega | (simp only[List.length_set]; omega))) rfl (Qb rfl) rfl QD rfl rfl) ?_
  iterate 10 refine w_ ?_
  refine lc (WV (Qa rfl) (QE rfl) rfl (by omega) (by omega)) ?_
  refine w_ ?_
  refine lc (Qq (e:=(.pr .int (.pr .int (.pr .bool .int)))) (Qa rfl) rfl (Qa rfl) Q9 QJ rfl (by omega) (by first | omega | (simp only[List.length_set]; omega))) ?_
  refine w_ ?_
  refine lc (Q5 (e:=(.pr .int (.pr .int (.pr .bool .int)))) (z':=(((mkC QX a k i,x7.2.1,x7.2.2.1,x7.2.2.2).1,(mkC QX a k i)+1,(mkC QX a k i,x7.2.1,x7.2.2.1,x7.2.2.2).2.2.1,(mkC QX a k i,x7.2.1,x7.2.2.1,x7.2.2.2).2.2.2).1,((mkC QX a k i,x7.2.1,x7.2.2.1,x7.2.2.2).1,(mkC QX a k i)+1,(mkC QX a k i,x7.2.1,x7.2.2.1,x7.2.2.2).2.2.1,(mkC QX a k i,x7.2.1,x7.2.2.1,x7.2.2.2).2.2.2).2.1,decide (((((mkC QX a k i)+1)+1) % 3)=0),((mkC QX a k i,x7.2.1,x7.2.2.1,x7.2.2.2).1,(mkC QX a k i)+1,(mkC QX a k i,x7.2.1,x7.2.2.1,x7.2.2.2).2.2.1,(mkC QX a k i,x7.2.1,x7.2.2.1,x7.2.2.2).2.2.2).2.2.2)) (Qa rfl) rfl (List.getElem?_set_self (by first | omega | (simp only[List.length_set]; omega))) rfl (Qb rfl) rfl ZH rfl rfl) ?_
  iterate 10 refine w_ ?_
  refine lc (Qq (e:=(.pr .int (.pr .int (.pr .bool .int)))) (Qa rfl) rfl (Qa rfl) Q9 QJ rfl (by omega) (by first | omega | (simp only[List.length_set]; omega))) ?_
  refine w_ ?_
  refine lc (Q5 (e:=(.pr .int (.pr .int (.pr .bool .int)))) (z':=((((mkC QX a k i,x7.2.1,x7.2.2.1,x7.2.2.2).1,(mkC QX a k i)+1,(mkC QX a k i,x7.2.1,x7.2.2.1,x7.2.2.2).2.2.1,(mkC QX a k i,x7.2.1,x7.2.2.1,x7.2.2.2).2.2.2).1,((mkC QX a k i,x7.2.1,x7.2.2.1,x7.2.2.2).1,(mkC QX a k i)+1,(mkC QX a k i,x7.2.1,x7.2.2.1,x7.2.2.2).2.2.1,(mkC QX a k i,x7.2.1,x7.2.2.1,x7.2.2.2).2.2.2).2.1,decide (((((mkC QX a k i)+1)+1) % 3)=0),((mkC QX a k i,x7.2.1,x7.2.2.1,x7.2.2.2).1,(mkC QX a k i)+1,(mkC QX a k i,x7.2.1,x7.2.2.1,x7.2.2.2).2.2.1,(mkC QX a k i,x7.2.1,x7.2.2.1,x7.2.2.2).2.2.2).2.2.2).1,(((mkC QX a k i,x7.2.1,x7.2.2.1,x7.2.2.2).1,(mkC QX a k i)+1,(mkC QX a k i,x7.2.1,x7.2.2.1,x7.2.2.2).2.2.1,(mkC QX a k i,x7.2.1,x7.2.2.1,x7.2.2.2).2.2.2).1,((mkC QX a k i,x7.2.1,x7.2.2.1,x7.2.2.2).1,(mkC QX a k i)+1,(mkC QX a k i,x7.2.1,x7.2.2.1,x7.2.2.2).2.2.1,(mkC QX a k i,x7.2.1,x7.2.2.1,x7.2.2.2).2.2.2).2.1,decide (((((mkC QX a k i)+1)+1) % 3)=0),((mkC QX a k i,x7.2.1,x7.2.2.1,x7.2.2.2).1,(mkC QX a k i)+1,(mkC QX a k i,x7.2.1,x7.2.2.1,x7.2.2.2).2.2.1,(mkC QX a k i,x7.2.1,x7.2.2.1,x7.2.2.2).2.2.2).2.2.2).2.1,(((mkC QX a k i,x7.2.1,x7.2.2.1,x7.2.2.2).1,(mkC QX a k i)+1,(mkC QX a k i,x7.2.1,x7.2.2.1,x7.2.2.2).2.2.1,(mkC QX a k i,x7.2.1,x7.2.2.1,x7.2.2.2).2.2.2).1,((mkC QX a k i,x7.2.1,x7.2.2.1,x7.2.2.2).1,(mkC QX a k i)+1,(mkC QX a k i,x7.2.1,x7.2.2.1,x7.2.2.2).2.2.1,(mkC QX a k i,x7.2.1,x7.2.2.1,x7.2.2.2).2.2.2).2.1,decide (((((mkC QX a k i)+1)+1) % 3)=0),((mkC QX a k i,x7.2.1,x7.2.2.1,x7.2.2.2).1,(mkC QX a k i)+1,(mkC QX a k i,x7.2.1,x7.2.2.1,x7.2.2.2).2.2.1,(mkC QX a k i,x7.2.1,x7.2.2.1,x7.2.2.2).2.2.2).2.2.2).2.2.1,(((mkC QX a k i)+1)+1)+1)) (Qa rfl) rfl (List.getElem?_set_self (by first | omega | (simp only[List.length_set]; omega))) rfl (Qb rfl) rfl QD rfl rfl) ?_
  iterate 5 refine w_ ?_
  refine Qj ?_
  refine (?_:AC _ _ _ _ _)
  iterate 4 refine w_ ?_
  refine Qj<|QS ⟨i+1,by omega,rfl,rfl⟩ (by omega) ?_
  exact Wk.of [(0,0)] rfl ⟨rfl,(show some (lI (((((mkC QX a k i)+1)+1)+1)+1))=some (lI (mkC QX a k (i+1))) from congrArg (fun z_=>some (lI z_)) (Jq (by omega))),rfl,rfl,trivial⟩ ⟨(Qv (by rw[List.set_set,List.set_set,List.set_set]; exact H2 (f:=QX) (Ha hx8))),trivial⟩ rfl rfl
theorem QaC (a:List (Int×Int×Bool×Int))(k:Int)(l:List (Jv))(hm:a=(QN QX l k).1)(hk:0≤k∧k+4*a.length≤1000000000):FC Tryz.prog 103 [(false,[.dat (.sl 179 (.pr .int (.pr .int (.pr .bool .int)))) a]),(false,[dI k])] [] 0 (Zy (lI ((QN QX l k).2))):=by
 have hla:a.length=l.length:=by rw[hm,Ys]
 refine QQ Tryz.func103 rfl rfl Tryz.ntmps103 fun O_ hO w0_ N0_ X_ h0_ f0_=> ?_
 refine AC.fact (Qs (x:= .tmp 1) (Qa rfl)) fun hi1=> ?_
 iterate 8 refine w_ ?_
 refine Qy (fun m_ s_=>∃(i:Nat),i≤a.length∧m_=a.length - i∧s_=⟨[(0,lf (.dat (.sl 179 (.pr .int (.pr .int (.pr .bool .int)))) a)),(1,lI (mkC QX l k i)),(5,lI (i:Int))],[]⟩) ⟨0,Nat.zero_le _,rfl,rfl⟩ ?_ ?_
 · exact Wk.of [] rfl ⟨rfl,(show some (lI k)=some (lI (mkC QX l k 0)) from congrArg (fun z_=>some (lI z_)) (by rw[Qa8])),rfl,trivial⟩ trivial rfl rfl
 rintro m_ s_ ⟨i,hk3,hm4,rfl⟩
 have hmc:=Qa5 l k i
 iterate 4 refine w_ ?_
 refine AL.fact (QB (x:= .tmp 7) (Qa rfl)) fun hl5=> ?_
 iterate 3 refine w_ ?_
 cases hb6:(decide ((i:Int) < (a.length:Int)))
 ·have hb6':=of_decide_eq_false hb6
  refine w_ ?_
  refine QA ?_
  refine (?_:AC _ _ _ _ _)
  iterate 4 refine w_ ?_
  refine Qe ?_
  subst hO
  have e7:(mkC QX l k i:Int)=((QN QX l k).2):=by
   (rw[VU _ (by omega)]; done)
  exact Qg (Qd rfl (Qc rfl)) ((congrArg (fun z_=>lI z_) e7)) rfl
 ·have hb6':=of_decide_eq_true hb6
  iterate 8 refine w_ ?_
  obtain ⟨x8,hx9⟩:∃z,a[i]? =some z:=⟨_,List.getElem?_eq_getElem (by omega)⟩
  have hv0x8:x8.1=mkC QX l k i:=by obtain ⟨_,_,h⟩:=Wo hm hx9; rw[h]
  have hv1x8:x8.2.1=mkC QX l k i+1:=by obtain ⟨_,_,h⟩:=Wo hm hx9; rw[h]
  have hv2x8:x8.2.2.1=decide ((mkC QX l k i+1+1) % 3=0):=by obtain ⟨_,_,h⟩:=Wo hm hx9; rw[h]
  have hv3x8:x8.2.2.2=mkC QX l k i+1+1+1:=by obtain ⟨_,_,h⟩:=Wo hm hx9; rw[h]
  refine lc (Qm (Qa rfl) (Qa rfl) Q9 QJ rfl (by omega) hx9) ?_
  iterate 2 refine w_ ?_
  refine AL.fact (Qs (x:= .tmp 16) (Qa rfl)) fun hi10=> ?_
  iterate 3 refine w_ ?_
  cases hb11:(!decide (x8.1=(mkC QX l k i)))
  ·have hb11':(x8.1=(mkC QX l k i)):=Ze hb11
   iterate 11 refine w_ ?_
   refine lc (Qm (Qa rfl) (Qa rfl) Q9 QJ rfl (by omega) hx9) ?_
   iterate 2 refine w_ ?_
   refine AL.fact (Qs (x:= .tmp 25) (Qa rfl)) fun hi12=> ?_
   iterate 3 refine w_ ?_
   cases hb13:(!decide (x8.2.1=((mkC QX l k i)+1)))
   ·have hb13':(x8.2.1=((mkC QX l k i)+1)):=Ze hb13
    iterate 11 refine w_ ?_
    refine lc (Qm (Qa rfl) (Qa rfl) Q9 QJ rfl (by omega) hx9) ?_
    iterate 3 refine w_ ?_
    refine lc (WV (Qa rfl) (QE rfl) rfl (by omega) (by omega)) ?_
    refine w_ ?_
    refine lc (XC (Qa rfl) (Qa rfl) rfl VV) ?_
    refine w_ ?_
    cases hb14:(x8.2.2.1==(decide (((((mkC QX l k i)+1)+1) % 3)=0)))
    ·iterate 4 refine w_ ?_
     refine Qe ?_
     subst hO
     have e15:((-1):Int)=((QN QX l k).2):=by
      (exfalso; simp_all; done)
     exact Qg (Qd rfl (Qc rfl)) ((congrArg (fun z_=>lI z_) e15)) rfl
    ·iterate 11 refine w_ ?_
     refine lc (Qm (Qa rfl) (Qa rfl) Q9 QJ rfl (by omega) hx9) ?_
     iterate 2 refine w_ ?_
     refine AL.fact (Qs (x:= .tmp 45) (Qa rfl)) fun hi16=> ?_
     iterate 3 refine w_ ?_
     cases hb17:(!decide (x8.2.2.2=((((mkC QX l k i)+1)+1)+1)))
     ·have hb17':(x8.2.2.2=((((mkC QX l k i)+1)+1)+1)):=Ze hb17
      iterate 6 refine w_ ?_
      refine Qj ?_
      refine (?_:AC _ _ _ _ _)
      iterate 4 refine w_ ?_
      refine Qj<|QS ⟨i+1,by omega,rfl,rfl⟩ (by omega) ?_
      exact Wk.of [] rfl ⟨rfl,(show some (lI (((((mkC QX l k i)+1)+1)+1)+1))=some (lI (mkC QX l k (i+1))) from congrArg (fun z_=>some (lI z_)) (Jq (by omega))),rfl,trivial⟩ trivial rfl rfl
     ·have hb17':¬(x8.2.2.2=((((mkC QX l k i)+1)+1)+1)):=Zp hb17
      iterate 4 refine w_ ?_
      refine Qe ?_
      subst hO
      have e19:((-1):Int)=((QN QX l k).2):=by
       (exfalso; omega)
      exact Qg (Qd rfl (Qc rfl)) ((congrArg (fun z_=>lI z_) e19)) rfl
   ·have hb13':¬(x8.2.1=((mkC QX l k i)+1)):=Zp hb13
    iterate 4 refine w_ ?_
    refine Qe ?_
    subst hO
    have e20:((-1):Int)=((QN QX l k).2):=by
     (exfalso; omega)
    exact Qg (Qd rfl (Qc rfl)) ((congrArg (fun z_=>lI z_) e20)) rfl
  ·have hb11':¬(x8.1=(mkC QX l k i)):=Zp hb11
   iterate 4 refine w_ ?_
   refine Qe ?_
   subst hO
   have e21:((-1):Int)=((QN QX l k).2):=by
    (exfalso; omega)
   exact Qg (Qd rfl (Qc rfl)) ((congrArg (fun z_=>lI z_) e21)) rfl
def mSG (c:DSg)(k:Int):DSg×Int:=(((QN fS c.1 k).1,(QN Zz c.2.1 (QN fS c.1 k).2).1,(QN QX c.2.2 (QN Zz c.2.1 (QN fS c.1 k).2).2).1),(QN QX c.2.2 (QN Zz c.2.1 (QN fS c.1 k).2).2).2)
theorem Qjp (c:DSg)(k:Int):(mSG c k).2=k+2*c.1.length+c.2.1.length+4*c.2.2.length:=by
  simp only[mSG,H4,UJ,Qio]
  omega
theorem QoL (c:DSg):c.1.length+c.2.1.length+c.2.2.length≤Ty.tot YE c:=by
  have:Ty.tot YE c=(c.1.length+(c.1.map (Ty.tot Yi)).sum)+((c.2.1.length+(c.2.1.map (Ty.tot .str)).sum)+(c.2.2.length+(c.2.2.map (Ty.tot QaP)).sum)):=rfl
  omega
section
variable [∀c,Decidable (SgOk c)][∀s,Decidable (ZZ s)]
end
theorem Wj (a:(List (ByteArray×Int))×List ByteArray×(List (Int×Int×Bool×Int)))(k:Int)(hk:0≤k∧k+2*a.1.length+a.2.1.length+4*a.2.2.length≤1000000000):FC Tryz.prog 32 [(true,[.ref 0, .ref 1, .ref 2]),(false,[dI k])] [(0,some (.arr 145 (.pr .str .int) a.1)),(1,some (.arr 9 .str a.2.1)),(2,some (.arr 179 (.pr .int (.pr .int (.pr .bool .int))) a.2.2))] 3 (Is (lI ((mSG a k).2)) [(0,some (.arr 145 (.pr .str .int) ((mSG a k).1.1))),(1,some (.arr 9 .str ((mSG a k).1.2.1))),(2,some (.arr 179 (.pr .int (.pr .int (.pr .bool .int))) ((mSG a k).1.2.2)))]):=by
 have hs1:=Qio a.1 k
 have hs2:=UJ a.2.1 (QN fS a.1 k).2
 refine QQ Tryz.func32 rfl rfl Tryz.ntmps32 fun O_ hO w0_ N0_ X_ h0_ f0_=> ?_
 refine AC.fact (Qs (x:= .tmp 1) (Qa rfl)) fun hi1=> ?_
 refine w_ ?_
 refine lc (Qr 3 (Qb rfl) rfl rfl (Fresh.of rfl) (nlr rfl)) ?_
 iterate 6 refine w_ ?_
 refine lc (QP 4 [(0,0)] (Jj a.1 k (by omega)) Qla ⟨_,_,rfl,(Qb rfl),⟨_,_,rfl,(Qb rfl),rfl⟩⟩ ⟨rfl,trivial⟩ rfl ⟨trivial,trivial⟩ (nlr rfl)) ?_
 iterate 6 refine w_ ?_
 refine lc (QP 5 [(0,1)] (Jo a.2.1 ((QN fS a.1 k).2) (by omega)) QkV ⟨_,_,rfl,(Qb rfl),⟨_,_,rfl,(Qb rfl),rfl⟩⟩ ⟨rfl,trivial⟩ rfl ⟨trivial,trivial⟩ (nlr rfl)) ?_
 iterate 6 refine w_ ?_
 refine lc (QP 6 [(0,2)] (QaQ a.2.2 ((QN Zz a.2.1 ((QN fS a.1 k).2)).2) (by omega)) QkY ⟨_,_,rfl,(Qb rfl),⟨_,_,rfl,(Qb rfl),rfl⟩⟩ ⟨rfl,trivial⟩ rfl ⟨trivial,trivial⟩ (nlr rfl)) ?_
 iterate 6 refine w_ ?_
 refine Qe ?_
 subst hO
 have e2:((QN QX a.2.2 ((QN Zz a.2.1 ((QN fS a.1 k).2)).2)).2:Int)=((mSG a k).2):=by
  rfl
 exact Q2 _ _ [(0,0),(1,1),(2,2)] (Qd rfl (Qc rfl)) ((congrArg (fun z_=>lI z_) e2)) ⟨(Qv (by rfl)),(Qv (by rfl)),(Qv (by rfl)),trivial⟩ rfl rfl
theorem Wi (a:(List (ByteArray×Int))×List ByteArray×(List (Int×Int×Bool×Int)))(k:Int)(l:DSg)(hm:a=(mSG l k).1)(hk:0≤k∧k+2*l.1.length+l.2.1.length+4*l.2.2.length≤1000000000):FC Tryz.prog 48 [(true,[.dat (.sl 145 (.pr .str .int)) a.1, .dat (.sl 9 .str) a.2.1, .dat (.sl 179 (.pr .int (.pr .int (.pr .bool .int)))) a.2.2]),(false,[dI k])] [] 0 (Zy (lI ((mSG l k).2))):=by
 have hs1:=Qio l.1 k
 have hs2:=UJ l.2.1 (QN fS l.1 k).2
 have hs3:=H4 l.2.2 (QN Zz l.2.1 (QN fS l.1 k).2).2
 have hm1:a.1=(QN fS l.1 k).1:=by rw[hm]; rfl
 have hm2:a.2.1=(QN Zz l.2.1 (QN fS l.1 k).2).1:=by rw[hm]; rfl
 have hm3:a.2.2=(QN QX l.2.2 (QN Zz l.2.1 (QN fS l.1 k).2).2).1:=by rw[hm]; rfl
 have hl1:a.1.length=l.1.length:=by rw[hm1,Ys]
 have hl2:a.2.1.length=l.2.1.length:=by rw[hm2,Ys]
 have hl3:a.2.2.length=l.2.2.length:=by rw[hm3,Ys]
 refine QQ Tryz.func48 rfl rfl Tryz.ntmps48 fun O_ hO w0_ N0_ X_ h0_ f0_=> ?_
 refine AC.fact (Qs (x:= .tmp 1) (Qa rfl)) fun hi1=> ?_
 refine w_ ?_
 refine lc (Qr 0 (Qb rfl) rfl rfl (Fresh.of rfl) (nlr rfl)) ?_
 iterate 6 refine w_ ?_
 refine lc (Qh (Jn a.1 k l.1 hm1 (by omega)) Qg7 ⟨_,_,rfl,(Qb rfl),⟨_,_,rfl,(Qb rfl),rfl⟩⟩ rfl rfl) ?_
 iterate 7 refine w_ ?_
 cases hb2:(decide (((QN fS l.1 k).2) < 0))
 ·have hb2':=of_decide_eq_false hb2
  iterate 6 refine w_ ?_
  refine lc (Qh (Jg a.2.1 ((QN fS l.1 k).2) l.2.1 hm2 (by omega)) QiE ⟨_,_,rfl,(Qb rfl),⟨_,_,rfl,(Qb rfl),rfl⟩⟩ rfl rfl) ?_
  iterate 7 refine w_ ?_
  cases hb3:(decide (((QN Zz l.2.1 ((QN fS l.1 k).2)).2) < 0))
  ·have hb3':=of_decide_eq_false hb3
   iterate 6 refine w_ ?_
   refine lc (Qh (QaC a.2.2 ((QN Zz l.2.1 ((QN fS l.1 k).2)).2) l.2.2 hm3 (by omega)) Qii ⟨_,_,rfl,(Qb rfl),⟨_,_,rfl,(Qb rfl),rfl⟩⟩ rfl rfl) ?_
   iterate 7 refine w_ ?_
   cases hb4:(decide (((QN QX l.2.2 ((QN Zz l.2.1 ((QN fS l.1 k).2)).2)).2) < 0))
   ·have hb4':=of_decide_eq_false hb4
    iterate 6 refine w_ ?_
    refine Qe ?_
    subst hO
    have e5:((QN QX l.2.2 ((QN Zz l.2.1 ((QN fS l.1 k).2)).2)).2:Int)=((mSG l k).2):=by
     rfl
    exact Qg (Qd rfl (Qc rfl)) ((congrArg (fun z_=>lI z_) e5)) rfl
   ·have hb4':=of_decide_eq_true hb4
    iterate 4 refine w_ ?_
    refine Qe ?_
    subst hO
    have e6:((-1):Int)=((mSG l k).2):=by
     (exfalso; omega)
    exact Qg (Qd rfl (Qc rfl)) ((congrArg (fun z_=>lI z_) e6)) rfl
  ·have hb3':=of_decide_eq_true hb3
   iterate 4 refine w_ ?_
   refine Qe ?_
   subst hO
   have e7:((-1):Int)=((mSG l k).2):=by
    (exfalso; omega)
   exact Qg (Qd rfl (Qc rfl)) ((congrArg (fun z_=>lI z_) e7)) rfl
 ·have hb2':=of_decide_eq_true hb2
  iterate 4 refine w_ ?_
  refine Qe ?_
  subst hO
  have e8:((-1):Int)=((mSG l k).2):=by
   (exfalso; omega)
  exact Qg (Qd rfl (Qc rfl)) ((congrArg (fun z_=>lI z_) e8)) rfl
end Go.Proofs.YtnakmhfjafecpaaGreat
namespace Go.Proofs.YtnakmhfjafecpaaGreat
open Go.RowKit
theorem QbJ:∀{t:Ty} {w:World} {cs:List Value} {x y:t.Den},Rep t w cs x→Rep t w cs y→x=y
  | .int,_,_,x,y,h,k=>by have h1:=h.1; have h2:=k.1; rw[h1] at h2; simpa using h2
  | .bool,_,_,x,y,h,k=>by have h1:_=_:=h; have h2:_=_:=k; rw[h1] at h2; simpa using h2
  | .str,_,_,x,y,h,k=>by have h1:=h.1; have h2:=k.1; rw[h1] at h2; simpa using h2
  | .u8,_,_,x,y,h,k=>by
    have h1:_=_:=h; have h2:_=_:=k; rw[h1] at h2
    simp only[List.cons.injEq,Value.int.injEq,and_true,true_and] at h2
    exact UInt8.toNat_inj.1 (by omega)
  | .vl,_,_,x,y,h,k=>by
    have h1:_=_:=h; have h2:_=_:=k; rw[h1] at h2
    exact Qi4 (by simpa using h2)
  | .sl E e,w,cs,xs,ys,⟨A,c,h1,h2,h3,h4⟩,⟨A',c',k1,k2,k3,k4⟩=>by
    rw[h1] at k1
    simp only[List.cons.injEq,Value.slice.injEq,and_true] at k1
    obtain ⟨rfl,hl,rfl⟩:=k1
    apply List.ext_getElem?
    intro i
    rcases Nat.lt_or_ge i xs.length with hi | hi
    · obtain ⟨b, o, e1, g1⟩ := h4 (by omega)
      obtain ⟨b',o',e2,g2⟩:=k4 (by omega)
      rw[e1] at e2
      cases e2
      obtain ⟨ds,r1,r2⟩:=g1 i xs[i] (List.getElem?_eq_getElem hi)
      obtain ⟨ds',s1,s2⟩:=g2 i ys[i] (List.getElem?_eq_getElem (by omega))
      have hd:ds=ds':=by
        apply List.ext_getElem?
        intro j
        have l1:=r1.len
        have l2:=s1.len
        rcases Nat.lt_or_ge j e.wd with hj | hj
        · have a1 := r2 j ds[j] (List.getElem?_eq_getElem (by omega))
          have a2:=s2 j ds'[j] (List.getElem?_eq_getElem (by omega))
          rw[a1] at a2
          rw[List.getElem?_eq_getElem (by omega),List.getElem?_eq_getElem (by omega)]
          exact a2
        · rw[List.getElem?_eq_none (by omega),List.getElem?_eq_none (by omega)]
      subst hd
      rw[List.getElem?_eq_getElem hi,List.getElem?_eq_getElem (by omega),QbJ r1 s1]
    · rw[List.getElem?_eq_none hi,List.getElem?_eq_none (by omega)]
  | .pr a b,w,cs,x,y,⟨l,r,h1,h2,h3⟩,⟨l',r',k1,k2,k3⟩=>by
    rw[h1] at k1
    obtain ⟨rfl,rfl⟩:=List.append_inj k1 (by rw[h2.len,k2.len])
    exact Prod.ext (QbJ h2 k2) (QbJ h3 k3)
theorem QcZ {E:TypeId}{e:Ty}{w:World}{fp:List Nat}{cs:List Value}{x:List e.Den}(h:Own (.sl E e) w fp cs x):∃v:Hdr,cs=[hdV v]:=by
  rcases h with ⟨_,h,_⟩ | ⟨g,cap,cur,fps,_,h,_⟩
  · exact ⟨none,h⟩
  · exact ⟨some (g,0,x.length,cap),h⟩
open Classical in
noncomputable def rdF (E:TypeId) (e:Ty) (w:World) (v:Hdr):List e.Den:=if h:∃x,Rep (.sl E e) w [hdV v] x then h.choose else []
theorem Qfp {E:TypeId}{e:Ty}{w:World}{v:Hdr}{x:List e.Den}(h:Rep (.sl E e) w [hdV v] x):rdF E e w v=x:=by
  have hx:∃x,Rep (.sl E e) w [hdV v] x:=⟨x,h⟩
  unfold rdF
  rw[dif_pos hx]
  exact QbJ hx.choose_spec h
theorem Qd9 {E:TypeId}{e:Ty}{w:World}:∀{xs:List (List e.Den)} {fp:List Nat} {cs:List Value},OwnL (Own (.sl E e) w) fp cs xs→∃vs:List Hdr,cs=vs.map hdV∧vs.map (rdF E e w)=xs
  | [],_,_,h=>⟨[],h.2,rfl⟩
  | x :: xs,_,_,⟨f1,f2,c1,c2,h1,h2,h3,h4⟩=>by
    obtain ⟨v,rfl⟩:=QcZ h3
    obtain ⟨vs,rfl,k2⟩:=Qd9 h4
    exact ⟨v :: vs,by rw[h2]; rfl,by rw[List.map_cons,k2,Qfp h3.rep]⟩
theorem HA {E:TypeId}{e:Ty}{w:World}{f:Hdr→List e.Den}:∀{vs:List Hdr} {fp:List Nat},OwnL (Own (.sl E e) w) fp (vs.map hdV) (vs.map f)→∀v∈vs,∃fv,Own (.sl E e) w fv [hdV v] (f v)∧∀g∈fv,g∈fp
  | [],_,_,v,hv=>by cases hv
  | u :: vs,fp,h,v,hv=>by
    obtain ⟨f1,f2,c1,c2,rfl,h2,h3,h4⟩:=h
    obtain ⟨z,rfl⟩:=QcZ h3
    simp only[List.map_cons,List.cons_append,List.nil_append,List.cons.injEq] at h2
    obtain ⟨h5,rfl⟩:=h2
    rcases List.mem_cons.1 hv with rfl | hv
    · exact ⟨f1,by rw[h5]; exact h3,fun g hg=>List.mem_append_left _ hg⟩
    · obtain ⟨fv, k1, k2⟩ := HA h4 v hv
      exact ⟨fv,k1,fun g hg=>List.mem_append_right _ (k2 g hg)⟩
theorem QjW {w:World}:∀(vs:List Hdr),OwnL (Own .vl w) [] (vs.map hdV) vs
  | []=>⟨rfl,rfl⟩
  | v :: vs=>⟨[],[],[hdV v],vs.map hdV,rfl,rfl,⟨rfl,rfl⟩,QjW vs⟩
theorem QmD {E E':TypeId}{e:Ty}{w:World}{fp:List Nat}{v:Value}{xs:List (List e.Den)}(h:Own (.sl E (.sl E' e)) w fp [v] xs):
    ∃fg fi vs f,fp=fg++fi∧Own (.sl E .vl) w fg [v] vs∧OwnL (Own (.sl E' e) w) fi (vs.map hdV) (vs.map f)∧vs.map f=xs:=by
  rcases h with ⟨rfl,h,rfl⟩ | ⟨g,cap,cur,fps,rfl,h1,h2,h3,h4,h5,h6⟩
  · exact ⟨[],[],[],fun _=>[],rfl, .inl ⟨rfl,h,rfl⟩,⟨rfl,rfl⟩,rfl⟩
  · obtain ⟨vs, k1, k2⟩ := Qd9 h6
    have hl:vs.length=xs.length:=by rw[← k2,List.length_map]
    rw[k1] at h6
    refine ⟨[g],fps,vs,rdF E' e w,rfl, .inr ⟨g,cap,cur,[],rfl,by rw[hl]; exact h1,h2,by omega,h4,h5, ?_⟩,by rw[k2]; exact h6,k2⟩
    have:(cur.toList.take (vs.length*Ty.wd .vl))=vs.map hdV:=by rw[hl]; exact k1
    rw[this]
    exact QjW vs
section
variable {A:Amb}{P:Program}{s:St}{Q:Exit→St→Prop}{c:Code}
theorem R.pool {q:Nat}(p:Nat){E E':TypeId}{e:Ty}{xs:List (List e.Den)}{a:Act}{w:World}(he:s.tab.ent q=some (.arr E (.sl E' e) xs))(hfr:Fresh s p)(hk:A.k0≤p)(r:R A s a w):
    ∃(vs:List Hdr) (f:Hdr→List e.Den),vs.map f=xs∧R A ⟨s.tm,(p,some (.pl false (.sl E' e) vs f)) :: (q,some (.arr E .vl vs)) :: s.tab⟩ a w:=by
  obtain ⟨gh,r⟩:=r
  have hq:s.tab.al q:=⟨_,he⟩
  have hne:q≠p:=fun h=>hfr.al (h▸hq)
  have hO:Own (.sl E (.sl E' e)) w (gh.f q) [gh.h q] xs:=r.cx.en q _ he
  obtain ⟨fg,fi,vs,f,h1,h2,h3,h4⟩:=QmD hO
  have hnd:=r.cx.nd q hq
  rw[h1] at hnd
  obtain ⟨n1,n2,n3⟩:=List.nodup_append.1 hnd
  have mg:∀g∈fg,g∈gh.f q:=fun g hg=>by rw[h1]; exact List.mem_append_left _ hg
  have mi:∀g∈fi,g∈gh.f q:=fun g hg=>by rw[h1]; exact List.mem_append_right _ hg
  have hal:∀t,Tab.al ((p,some (.pl false (.sl E' e) vs f)) :: (q,some (.arr E .vl vs)) :: s.tab) t→t=p∨(t≠p∧s.tab.al t):=fun t ⟨x,hx⟩=>by
    by_cases e1:t=p
    · exact .inl e1
    · refine .inr ⟨e1, ?_⟩
      rw[Qp,if_neg e1,Qp] at hx
      by_cases e2:t=q
      · rw[e2]; exact hq
      · rw[if_neg e2] at hx; exact ⟨_,hx⟩
  let gh':Gh:=⟨fun t=>if t=p then .slice none 0 0 else gh.h t,fun t=>if t=p then [] else if t=q then fg else gh.f t,fun g=>gh.N g∨g∈fi⟩
  have fq:gh'.f q=fg:=by show (if q=p then [] else if q=q then fg else gh.f q)=fg; rw[if_neg hne,if_pos rfl]
  have fp:gh'.f p=[]:=if_pos rfl
  have fo:∀t,t≠p→t≠q→gh'.f t=gh.f t:=fun t e1 e2=>by show (if t=p then [] else if t=q then fg else gh.f t)=_; rw[if_neg e1,if_neg e2]
  have hh:∀t,t≠p→gh'.h t=gh.h t:=fun t e1=>if_neg e1
  have sub:∀t,t≠p→∀g∈gh'.f t,g∈gh.f t:=fun t e1 g hg=>by
    by_cases e2:t=q
    · rw[e2,fq] at hg; rw[e2]; exact mg g hg
    · rwa [fo t e1 e2] at hg
  have hN:∀g,gh.N g→gh'.N g∧w.heap[g]? =w.heap[g]? :=fun g h=>⟨.inl h,rfl⟩
  refine ⟨vs,f,h4,gh',r.step ⟨fun t x hx=> ?_,fun t t' ht ht' hn g hg hg'=> ?_,fun t ht=> ?_,fun t ht g hg hgN=> ?_,fun g hgN=> ?_⟩ (fun t ht=> ?_) hN (ZO w) (fun _ _ _=>rfl) (fun g hgN=> ?_) fun t ht g hg=> ?_⟩
  · rw [Qp] at hx
    by_cases e1:t=p
    · rw [if_pos e1] at hx
      cases hx
      rw[e1]
      refine ⟨if_pos rfl,fp,fun v hv=> ?_⟩
      obtain ⟨fv,k1,k2⟩:=HA h3 v hv
      exact k1.rd fun g hg=> .inr (k2 g hg)
    · rw [if_neg e1, Qp] at hx
      by_cases e2:t=q
      · rw [if_pos e2] at hx
        cases hx
        show Own (.sl E .vl) w (gh'.f t) [gh'.h t] vs
        rw[e2,fq,hh q hne]
        exact h2
      · rw [if_neg e2] at hx
        refine (r.cx.en t x hx).mono (fun r' hr' ha=> ?_) hN (hh t e1) (fo t e1 e2) fun _ _=>rfl
        have e3:r'≠p:=fun h=>hfr.en t x hx (h▸hr')
        rcases hal r' ha with h | ⟨_,h⟩
        · exact absurd h e3
        · exact ⟨h,hh r' e3⟩
  · rcases hal t ht with e1 | ⟨e1, a1⟩
    · rw[e1,fp] at hg; cases hg
    · rcases hal t' ht' with e2 | ⟨e2, a2⟩
      · rw[e2,fp] at hg'; cases hg'
      · exact r.cx.dj t t' a1 a2 hn g (sub t e1 g hg) (sub t' e2 g hg')
  · rcases hal t ht with e1 | ⟨e1, a1⟩
    · rw[e1,fp]; exact List.nodup_nil
    · by_cases e2 : t = q
      · rw[e2,fq]; exact n1
      · rw[fo t e1 e2]; exact r.cx.nd t a1
  · rcases hal t ht with e1 | ⟨e1, a1⟩
    · rw[e1,fp] at hg; cases hg
    · rcases hgN with hgN | hgN
      · exact r.cx.no t a1 g (sub t e1 g hg) hgN
      · by_cases e2 : t = q
        · rw[e2,fq] at hg; exact n3 g hg g hgN rfl
        · exact r.cx.dj t q a1 hq e2 g (sub t e1 g hg) (mi g hgN)
  · rcases hgN with hgN | hgN
    · exact r.cx.nl g hgN
    · exact r.cx.lt hq g (mi g hgN)
  · rcases hal t ht with e1 | ⟨e1, a1⟩
    · rw[e1]; exact .inr ⟨hfr,hk⟩
    · exact .inl ⟨a1,hh t e1,fun _=>rfl⟩
  · rcases hgN with hgN | hgN
    · exact .inl hgN
    · exact .inr (.inr ⟨q,hq,mi g hgN,fun hl=>r.xn g hl (r.ox q hq g (mi g hgN) hl)⟩)
  · rcases hal t ht with e1 | ⟨e1, a1⟩
    · rw[e1,fp] at hg; cases hg
    · exact .inr ⟨t,a1,sub t e1 g hg⟩
theorem AC.pool {q:Nat}(p:Nat){E E':TypeId}{e:Ty}{xs:List (List e.Den)}(he:s.tab.ent q=some (.arr E (.sl E' e) xs))(hfr:Fresh s p)(hk:A.k0≤p)
    (k:∀(vs:List Hdr) (f:Hdr→List e.Den),vs.map f=xs→AC A P c Q ⟨s.tm,(p,some (.pl false (.sl E' e) vs f)) :: (q,some (.arr E .vl vs)) :: s.tab⟩):AC A P c Q s:=fun a w r=>by
  obtain ⟨vs,f,h,r'⟩:=R.pool p he hfr hk r
  exact k vs f h a w r'
theorem AL.pool {ops:Array Oper}{l:List Oper}{q:Nat}(p:Nat){E E':TypeId}{e:Ty}{xs:List (List e.Den)}(he:s.tab.ent q=some (.arr E (.sl E' e) xs))(hfr:Fresh s p)(hk:A.k0≤p)
    (k:∀(vs:List Hdr) (f:Hdr→List e.Den),vs.map f=xs→AL A P ops l Q ⟨s.tm,(p,some (.pl false (.sl E' e) vs f)) :: (q,some (.arr E .vl vs)) :: s.tab⟩):AL A P ops l Q s:=fun a w r=>by
  obtain ⟨vs,f,h,r'⟩:=R.pool p he hfr hk r
  exact k vs f h a w r'
theorem QmI {x:Operand}{p:Nat}{e:Ty}{vs:List Hdr}{f:Hdr→e.Den}{v:Hdr}(hx:Evl A s x (.dat .vl v))(hp:s.tab.ent p=some (.pl false e vs f))(hv:v∈vs):Evl A s x (.dat e (f v)):=fun gh a w r=>by
  obtain ⟨_,_,h3⟩:=r.cx.en p _ hp
  have h1:Rd gh.N .vl w [a.eval x] v:=hx gh a w r
  have h2:[a.eval x]=[hdV v]:=h1.rep
  show Rd gh.N e w [a.eval x] (f v)
  rw[h2]
  exact h3 v hv
theorem QlE {i q p:Nat}{E E':TypeId}{e:Ty}{zs vs:List Hdr}{f:Hdr→List e.Den}(hi:lk s.tm i=some (lf (.ref q)))(he:s.tab.ent q=some (.arr E .vl zs))(hp:s.tab.ent p=some (.pl false (.sl E' e) vs f))(hz:∀z∈zs,z∈vs):
    Wk A s ⟨(i,lf (.dat (.sl E (.sl E' e)) (zs.map f))) :: s.tm,(q,none) :: s.tab⟩:=fun a w r=>by
  obtain ⟨gh,r⟩:=r
  obtain ⟨v,h1,l,h2,h3⟩:=r.tm i _ hi
  simp only[List.cons.injEq,and_true] at h2
  subst h2
  have hv:v=gh.h q:=h3 ⟨_,he⟩
  have hO:Own (.sl E .vl) w (gh.f q) [gh.h q] zs:=r.cx.en q _ he
  obtain ⟨_,_,k3⟩:=r.cx.en p _ hp
  refine ⟨_,(r.freeze he).know h1 (pv:=lf (.dat (.sl E (.sl E' e)) (zs.map f))) ⟨_,rfl, ?_⟩⟩
  rw[hv]
  show Rd (fun g=>gh.N g∨g∈gh.f q) (.sl E (.sl E' e)) w [gh.h q] (zs.map f)
  obtain ⟨wM,m1,m2⟩:=JY (fun g=>gh.N g∨g∈gh.f q) w
  refine ⟨wM,m1, ?_⟩
  rcases hO with ⟨_,g2,g3⟩ | ⟨g,cap,cur,fps,g1,g2,g3,g4,g5,g6,g7⟩
  · subst g3
    exact ⟨none,0,g2,Nat.le_refl _,Nat.zero_le _,fun h=>absurd h (by simp)⟩
  · refine ⟨_, cap, by rw [List.length_map]; exact g2, by rw [List.length_map]; exact g4, g5, fun _ => ⟨g, 0, rfl, fun j y hy => ?_⟩⟩
    rw[List.getElem?_map] at hy
    obtain ⟨z,hz1,rfl⟩:=Option.map_eq_some_iff.1 hy
    obtain ⟨wN,w1,w2⟩:=k3 z (hz z (List.mem_of_getElem? hz1))
    refine ⟨[hdV z],w2.kp (w1.kp fun g' hg'=>m2 g' (.inl hg')),fun b u hu=> ?_⟩
    obtain ⟨fv,ds,o1,o2,o3⟩:=g7.get j z hz1
    have o4:ds=[hdV z]:=o1.2
    subst o4
    have o5:=o3 b u hu
    rw[List.getElem?_take] at o5
    split at o5
    · rw [World.cell?_of_block (m2 g (.inr (by rw [g1]; simp)))]
      simp only[World.cell?,g3]
      simpa using o5
    · cases o5
end
end Go.Proofs.YtnakmhfjafecpaaGreat
namespace Go.Proofs.YtnakmhfjafecpaaGreat
open Go.RowKit
section
variable {A:Amb}{P:Program}{s:St}{x y:Operand}{d:Nat}{T T' ty:TypeId}{pos:String}{af:Array Edge}{g:Option (Nat×Bool)}
theorem QhE (m n:Nat)(hm:m < 9223372036854775808)(hn:n < 9223372036854775808):bits .andNot .i64 (m:Int) (n:Int)=((m ^^^ (m &&& n):Nat):Int):=by
  have h1:(BitVec.ofInt 64 (m:Int)).toNat=m:=by rw[BitVec.ofInt_natCast,BitVec.toNat_ofNat]; exact Nat.mod_eq_of_lt (by omega)
  have h2:(BitVec.ofInt 64 (n:Int)).toNat=n:=by rw[BitVec.ofInt_natCast,BitVec.toNat_ofNat]; exact Nat.mod_eq_of_lt (by omega)
  have hx:m ^^^ (m &&& n) < 2 ^ 63:=Nat.xor_lt_two_pow (by omega) (Nat.and_lt_two_pow _ (by omega))
  have h3:BitVec.ofInt 64 (m:Int) &&& ~~~(BitVec.ofInt 64 (n:Int))=BitVec.ofInt 64 (m:Int) ^^^ (BitVec.ofInt 64 (m:Int) &&& BitVec.ofInt 64 (n:Int)):=by
    ext i hi
    simp only[BitVec.getElem_and,BitVec.getElem_not,BitVec.getElem_xor]
    cases (BitVec.ofInt 64 (m:Int))[i] <;> cases (BitVec.ofInt 64 (n:Int))[i] <;> rfl
  show IntKind.i64.wrap ((BitVec.ofInt 64 (m:Int) &&& ~~~(BitVec.ofInt 64 (n:Int))).toNat:Int)=_
  rw[h3,BitVec.toNat_xor,BitVec.toNat_and,h1,h2,IntWalk.i64_in _ (by omega)]
theorem Qf2 {m n:Int}(hx:Evl A s x (dI m))(hy:Evl A s y (dI n))(hn:Nat.blt d A.n=true)(h0:0≤m)(h00:0≤n):Does A P ⟨some d, .binOp .andNot T x y T',ty,pos,af,g⟩ s (s.put d (lf (dI ((m.toNat ^^^ (m.toNat &&& n.toNat):Nat):Int)))):=
  Qu rfl hn fun gh a w r=>by
    have h1:=hx.i r
    have h2:=hy.i r
    have k1:=(LVR.int (hx gh a w r)).2
    have k2:=(LVR.int (hy gh a w r)).2
    have hb:=QhE m.toNat n.toNat (by omega) (by omega)
    rw[Int.toNat_of_nonneg h0,Int.toNat_of_nonneg h00] at hb
    have h3:Op.intBits .andNot .i64 m n=pure (.int .i64 ((m.toNat ^^^ (m.toNat &&& n.toNat):Nat):Int)):=by rw[← hb]; rfl
    have hx2:m.toNat ^^^ (m.toNat &&& n.toNat) < 2 ^ 63:=Nat.xor_lt_two_pow (by omega) (Nat.and_lt_two_pow _ (by omega))
    refine ⟨.int .i64 ((m.toNat ^^^ (m.toNat &&& n.toNat):Nat):Int), ?_,_,rfl,YA (by omega)⟩
    simp only[execOp,h1,h2,eqGuard_at_int,binOp,h3]
    simp
end
end Go.Proofs.YtnakmhfjafecpaaGreat
namespace Go.Proofs.YtnakmhfjafecpaaGreat
open Go.RowKit
section
variable {α:Type}[DecidableEq α][Inhabited α]
omit [Inhabited α] in
theorem Qev (y:α):∀l:List α,Xa (l++[y])=Xa l++(if l.getLast? =some y then [] else [y])
  | []=>by simp[Xa]
  | [x]=>by
    by_cases h:x=y
    · simp[Xa,h]
    · simp[Xa,h]
  | x :: z :: l=>by
    have ih:=Qev y (z :: l)
    have hl:(x :: z :: l).getLast? =(z :: l).getLast? :=by simp
    rw[hl]
    show (if x=z then Xa ((z :: l)++[y]) else x :: Xa ((z :: l)++[y]))=(if x=z then Xa (z :: l) else x :: Xa (z :: l))++_
    rw[ih]
    split <;> simp
theorem HH (zs:List α):∀m,m≤zs.length→Lib.compactUpTo zs.toArray m=Xa (zs.take m)
  | 0,_=>by simp[Lib.compactUpTo,Xa]
  | m+1,hm=>by
    have hg:zs[m]? =some zs[m]:=List.getElem?_eq_getElem (by omega)
    have hd:(zs.toArray)[m]! =zs[m]:=by rw[getElem!_pos _ m (by simp; omega)]; simp
    rw[Lib.compactUpTo_succ,HH zs m (by omega),Za hg,Qev,hd]
    refine congrArg _ ?_
    cases m with
    | zero=>simp[Lib.keeps]
    | succ k=>
      have hd2:(zs.toArray)[k]! =zs[k]:=by rw[getElem!_pos _ k (by simp; omega)]; simp
      have hl:(zs.take (k+1)).getLast? =some zs[k]:=by
        rw[List.getLast?_eq_getElem?,List.length_take,show min (k+1) zs.length - 1=k by omega,List.getElem?_take_of_lt (by omega)]
        exact List.getElem?_eq_getElem (by omega)
      rw[hl]
      have hkp:Lib.keeps zs.toArray (k+1)= !decide (zs[k]=zs[k+1]):=by
        unfold Lib.keeps
        rw[hd,show k+1 - 1=k from rfl,hd2]
        by_cases e:zs[k]=zs[k+1]
        · simp[e]
        · simp[e,Ne.symm e]
      rw[hkp]
      by_cases e:zs[k]=zs[k+1]
      · simp[e]
      · simp[e]
theorem QiB (zs:List α):Lib.compact zs=Xa zs:=by
  have:=HH zs zs.length (Nat.le_refl _)
  rw[List.take_length] at this
  exact this
omit [Inhabited α] in
theorem QfF:∀l:List α,(Xa l).length≤l.length
  | []=>Nat.le_refl _
  | [_]=>Nat.le_refl _
  | x :: y :: l=>by
    have:=QfF (y :: l)
    unfold Xa
    split
    · simp only[List.length_cons] at*; omega
    · simp only[List.length_cons] at*; omega
end
def Qlx (P:Program)(f:FuncId):Prop:=∀(blk cap:Nat) (zs:List Int) (w:World),Sort.Holds (Value.int .i64) w blk 0 zs.toArray→zs.length≤9223372036854775807→zs.length≤cap→
  Calls P f #[.slice (some ⟨blk,0,none⟩) zs.length cap] w fun e w'=>e= .returned (.slice (some ⟨blk,0,none⟩) (Xa zs).length cap)∧∃q,w'=Sort.putRow (Value.int .i64) (Sort.ahead w q) blk 0 (Xa zs++List.replicate (zs.length - (Xa zs).length) 0).toArray
def Qgi (P:Program)(f:FuncId):Prop:=∀w:World,Calls P f #[.slice none 0 0] w fun e w'=>e= .returned (.slice none 0 0)∧w'=w
theorem Qmo {P:Program}{f:FuncId}{E:TypeId}(hS:Qlx P f)(hN:Qgi P f)(xs:List Int)(hl:xs.length≤1000000000):FC P f [(false,[.ref 0])] [(0,some (.arr E .int xs))] 0 (XZ E .int (Xa xs)):=fun gh w vs cx ha=>by
  obtain ⟨v,vs',rfl,⟨l,hl_,h1⟩,rfl⟩:=ha
  simp only[List.cons.injEq,and_true] at hl_
  subst hl_
  have hv:v=gh.h 0:=h1 ⟨_,rfl⟩
  subst hv
  have hO:Own (.sl E .int) w (gh.f 0) [gh.h 0] xs:=cx.en 0 _ rfl
  have alq:∀(y:List Int) q,Tab.al [(0,some (Ent.arr E .int y))] q→q=0:=fun y q ⟨e,he⟩=>by
    rw[Qp] at he
    split at he
    · assumption
    · cases he
  rcases hO with ⟨hf,hc,hx⟩ | ⟨g,cap,cur,fps,hf,hc,hb,hn,hcap,hsz,hL⟩
  · simp only [List.cons.injEq, and_true] at hc
    subst hx
    rw[hc]
    refine Calls.mono (hN w) fun e w' he=> ?_
    obtain ⟨rfl,rfl⟩:=he
    refine ⟨_,_,_,gh,rfl,⟨rfl,rfl⟩,⟨fun q e he=> ?_,fun q q' hq hq' hne=>absurd ((alq _ q hq).trans (alq _ q' hq').symm) hne,fun q hq=> ?_,fun q hq g hg=> ?_,fun g hg=>cx.nl g hg⟩,⟨_,rfl,fun _=>hc.symm⟩,
      ⟨ZO _,fun _ _ _=>rfl,fun g hg=> .inl hg,fun q hq g hg=> ?_⟩,fun q h _=>absurd h (Nat.not_lt_zero _)⟩
    · rw [Qp] at he
      split at he
      · rename_i e0; subst e0; cases he
        exact .inl ⟨hf,by rw[hc],rfl⟩
      · cases he
    · rw[alq _ q hq,hf]; exact List.nodup_nil
    · rw[alq _ q hq,hf] at hg; cases hg
    · rw[alq _ q hq,hf] at hg; cases hg
  · simp only [List.cons.injEq, and_true] at hc
    rw[Nat.mul_one] at hL
    obtain ⟨rfl,ht,hr⟩:=QaB hL
    have hg:g < w.heap.size:=(Array.getElem?_eq_some_iff.1 hb).1
    rw[hc]
    have hm:xs.length≤9223372036854775807:=by unfold maxLen at hcap; omega
    refine Calls.mono (hS g cap xs w (holds_of_blockI hb ht) hm hn) fun e w' he=> ?_
    obtain ⟨rfl,n,rfl⟩:=he
    have hcl:=QfF xs
    have hlen:(Xa xs++List.replicate (xs.length - (Xa xs).length) (0:Int)).length=xs.length:=by simp; omega
    generalize hR:Xa xs++List.replicate (xs.length - (Xa xs).length) (0:Int)=row at*
    have hgrow:Sort.putRow (Value.int .i64) (Sort.ahead w n) g 0 row.toArray=Sort.grow (Sort.putRow (Value.int .i64) (Sort.ahead w n) g 0 row.toArray) #[]:=(Sort.grow_empty _).symm
    rw[hgrow]
    obtain ⟨k1,k2,k3,k4,k5⟩:=grownBy_sortedI (w:=w) (g:=g) (n:=n) (os:= #[]) row.toArray
    have h0:∀x:Int,x∈Xa xs→x∈xs:=fun x hx=>KJ.1 hx
    refine ⟨_,_,_,⟨fun _=> .slice (some ⟨g,0,none⟩) (Xa xs).length cap,gh.f,gh.N⟩,rfl,⟨rfl,rfl⟩,⟨fun q e he=> ?_,fun q q' hq hq' hne=>absurd ((alq _ q hq).trans (alq _ q' hq').symm) hne,fun q hq=> ?_,fun q hq g' hg'=> ?_,fun g' hg'=>Nat.lt_of_lt_of_le (cx.nl g' hg') k4⟩,⟨_,rfl,fun _=>rfl⟩,
      ⟨⟨k1,k2,k3,k4⟩,fun g' h1 h2=> ?_,fun g' h1=> .inl h1,fun q hq g' hg'=> ?_⟩,fun q h _=>absurd h (Nat.not_lt_zero _)⟩
    · rw [Qp] at he
      split at he
      · rename_i e0; subst e0; cases he
        refine .inr ⟨g,cap,_,[],hf,rfl,heap_sortedI _ hb,by omega,hcap,by simpa [Sort.putCells] using hsz, ?_⟩
        show OwnL (Own .int _) [] (List.take ((Xa xs).length*1) _) (Xa xs)
        have ht2:=take_putCellsI cur row (by have:cur.size=cap*1:=hsz; omega)
        rw[Nat.mul_one,show (Xa xs).length=min (Xa xs).length row.length by omega,← List.take_take,ht2,← List.map_take,← hR,List.take_left' rfl]
        exact Qfb fun x hx=>hr x (h0 x hx)
      · cases he
    · rw[alq _ q hq]; exact cx.nd 0 ⟨_,rfl⟩
    · rw[alq _ q hq] at hg'; exact cx.no 0 ⟨_,rfl⟩ g' hg'
    · exact k5 g' h1 fun e0=>h2 0 ⟨_,rfl⟩ (by rw[hf]; cases e0; exact List.mem_cons_self ..)
    · rw[alq _ q hq] at hg'; exact .inr ⟨0,⟨_,rfl⟩,hg'⟩
def QkE:Go.Shelf.Ren:=⟨fun | 189=>265 | 125=>172 | 257=>292 | 128=>239 | 129=>240 | 294=>310 | 295=>311 | 296=>312 | 297=>313 | 298=>314 | 299=>315 | 216=>316 | 300=>317 | 301=>318 | 328=>327 | 329=>279 | 330=>280 | 331=>328 | 332=>329 | 215=>241 | 343=>330 | n=>n,fun | 28=>106 | 3=>3 | 46=>214 | 0=>0 | 51=>272 | 53=>274 | 4=>4 | 183=>266 | 182=>265 | 131=>175 | 5=>5 | 9=>9 | 218=>305 | 222=>309 | 228=>324 | 229=>147 | n=>n,fun | n=>n⟩
theorem Qoy:Go.Proofs.Lays.n189 Tryz.prog QkE:={
  mixed:=by kernel_rfl,
  f125:=Tryz.func172.trans (congrArg some (by kernel_rfl)),
  f128:=Tryz.func239.trans (congrArg some (by kernel_rfl)),
  f129:=Tryz.func240.trans (congrArg some (by kernel_rfl)),
  f189:=Tryz.func265.trans (congrArg some (by kernel_rfl)),
  f215:=Tryz.func241.trans (congrArg some (by kernel_rfl)),
  f216:=Tryz.func316.trans (congrArg some (by kernel_rfl)),
  f257:=Tryz.func292.trans (congrArg some (by kernel_rfl)),
  f294:=Tryz.func310.trans (congrArg some (by kernel_rfl)),
  f295:=Tryz.func311.trans (congrArg some (by kernel_rfl)),
  f296:=Tryz.func312.trans (congrArg some (by kernel_rfl)),
  f297:=Tryz.func313.trans (congrArg some (by kernel_rfl)),
  f298:=Tryz.func314.trans (congrArg some (by kernel_rfl)),
  f299:=Tryz.func315.trans (congrArg some (by kernel_rfl)),
  f300:=Tryz.func317.trans (congrArg some (by kernel_rfl)),
  f301:=Tryz.func318.trans (congrArg some (by kernel_rfl)),
  f328:=Tryz.func327.trans (congrArg some (by kernel_rfl)),
  f329:=Tryz.func279.trans (congrArg some (by kernel_rfl)),
  f330:=Tryz.func280.trans (congrArg some (by kernel_rfl)),
  f331:=Tryz.func328.trans (congrArg some (by kernel_rfl)),
  f332:=Tryz.func329.trans (congrArg some (by kernel_rfl)),
  f343:=Tryz.func330.trans (congrArg some (by kernel_rfl)),
  t0:=Tryz.underlying0,
  a0:=Tryz.isAgg0,
  z0:=Tryz.sizeOf0,
  v0:=Tryz.zeroValue0,
  t3:=Tryz.underlying3,
  a3:=Tryz.isAgg3,
  z3:=Tryz.sizeOf3,
  v3:=Tryz.zeroValue3,
  t4:=Tryz.underlying4,
  a4:=Tryz.isAgg4,
  z4:=Tryz.sizeOf4,
  v4:=Tryz.zeroValue4,
  t5:=Tryz.underlying5,
  a5:=Tryz.isAgg5,
  z5:=Tryz.sizeOf5,
  v5:=Tryz.zeroValue5,
  t9:=Tryz.underlying9,
  a9:=Tryz.isAgg9,
  z9:=Tryz.sizeOf9,
  v9:=Tryz.zeroValue9,
  t28:=Tryz.underlying106,
  a28:=Tryz.isAgg106,
  z28:=Tryz.sizeOf106,
  v28:=Tryz.zeroValue106,
  t46:=Tryz.underlying214,
  a46:=Tryz.isAgg214,
  z46:=Tryz.sizeOf214,
  v46:=Tryz.zeroValue214,
  t51:=Tryz.underlying272,
  a51:=Tryz.isAgg272,
  z51:=Tryz.sizeOf272,
  v51:=Tryz.zeroValue272,
  t53:=Tryz.underlying274,
  a53:=Tryz.isAgg274,
  z53:=Tryz.sizeOf274,
  v53:=Tryz.zeroValue274,
  t131:=Tryz.underlying175,
  a131:=Tryz.isAgg175,
  z131:=Tryz.sizeOf175,
  v131:=Tryz.zeroValue175,
  t182:=Tryz.underlying265,
  a182:=Tryz.isAgg265,
  z182:=Tryz.sizeOf265,
  v182:=Tryz.zeroValue265,
  t183:=Tryz.underlying266,
  a183:=Tryz.isAgg266,
  z183:=Tryz.sizeOf266,
  v183:=Tryz.zeroValue266,
  t218:=Tryz.underlying305,
  a218:=Tryz.isAgg305,
  z218:=Tryz.sizeOf305,
  v218:=Tryz.zeroValue305,
  t222:=Tryz.underlying309,
  a222:=Tryz.isAgg309,
  z222:=Tryz.sizeOf309,
  v222:=Tryz.zeroValue309,
  t228:=Tryz.underlying324,
  a228:=Tryz.isAgg324,
  z228:=Tryz.sizeOf324,
  v228:=Tryz.zeroValue324,
  t229:=Tryz.underlying147,
  a229:=Tryz.isAgg147,
  z229:=Tryz.sizeOf147,
  v229:=Tryz.zeroValue147}
theorem QoM:QlL Tryz.prog 265:=fun blk cap zs w hH hb hl=>calls_of_every_depth fun D=>AnyS.slices_Sort_int_in Qoy D blk 0 cap zs w hH hb hl
theorem Qmy:QfV Tryz.prog 265:=fun w=>Calls.mono (Any.slices_Sort_int_none Qoy none 0 w) fun _ _ ⟨h1,h2⟩=>⟨h1,h2▸Q1 _⟩
theorem QnM (l:List Int)(hl:l.length≤1000000000):FC Tryz.prog 265 [(false,[.ref 0])] [(0,some (.arr 3 .int l))] 1 (Is (.tup []) [(0,some (.arr 3 .int (WW l)))]):=Qmi QoM Qmy l hl
def Qfi:Go.Shelf.Ren:=⟨fun | 20=>266 | n=>n,fun | 22=>106 | 3=>3 | 4=>4 | 0=>0 | n=>n,fun | n=>n⟩
theorem Qgs:Go.Proofs.Lays2.n20 Tryz.prog Qfi:={
  mixed:=by kernel_rfl,
  f20:=Tryz.func266.trans (congrArg some (by kernel_rfl)),
  t0:=Tryz.underlying0,
  a0:=Tryz.isAgg0,
  z0:=Tryz.sizeOf0,
  v0:=Tryz.zeroValue0,
  t3:=Tryz.underlying3,
  a3:=Tryz.isAgg3,
  z3:=Tryz.sizeOf3,
  v3:=Tryz.zeroValue3,
  t4:=Tryz.underlying4,
  a4:=Tryz.isAgg4,
  z4:=Tryz.sizeOf4,
  v4:=Tryz.zeroValue4,
  t22:=Tryz.underlying106,
  a22:=Tryz.isAgg106,
  z22:=Tryz.sizeOf106,
  v22:=Tryz.zeroValue106,
  i3:=by kernel_rfl}
theorem Qo1:Qlx Tryz.prog 266:=fun blk cap zs w hH h1 h2=>by
  have h:=calls_of_every_depth fun D=>AnyS.slices_Compact_int_in Qgs D blk 0 cap zs w hH h1 h2
  rw[QiB] at h
  exact h
theorem QlY:Qgi Tryz.prog 266:=fun w=>calls_of_every_depth fun D=>AnyS.slices_Compact_int_empty_in Qgs D none 0 w
theorem Qhv (l:List Int)(hl:l.length≤1000000000):FC Tryz.prog 266 [(false,[.ref 0])] [(0,some (.arr 3 .int l))] 0 (XZ 3 .int (Xa l)):=Qmo Qo1 QlY l hl
end Go.Proofs.YtnakmhfjafecpaaGreat
namespace Go.Proofs.YtnakmhfjafecpaaGreat
open Go.RowKit
section
variable {E:TypeId}{e:Ty}{w:World}{f:Hdr→List e.Den}
theorem Qck:∀{l vs:List Hdr},l.Sublist vs→∀{fp:List Nat},OwnL (Own (.sl E e) w) fp (vs.map hdV) (vs.map f)→∃fp',fp'.Sublist fp∧OwnL (Own (.sl E e) w) fp' (l.map hdV) (l.map f)
  | _,_, .slnil,fp,h=>⟨[],List.nil_sublist _,⟨rfl,rfl⟩⟩
  | _,_, .cons a s,fp,h=>by
    obtain ⟨f1,f2,c1,c2,rfl,h2,h3,h4⟩:=h
    obtain ⟨z,rfl⟩:=QcZ h3
    simp only[List.map_cons,List.cons_append,List.nil_append,List.cons.injEq] at h2
    obtain ⟨_,rfl⟩:=h2
    obtain ⟨fp',k1,k2⟩:=Qck s h4
    exact ⟨fp',k1.trans (List.sublist_append_right ..),k2⟩
  | _,_, .cons_cons a s,fp,h=>by
    obtain ⟨f1,f2,c1,c2,rfl,h2,h3,h4⟩:=h
    obtain ⟨z,rfl⟩:=QcZ h3
    simp only[List.map_cons,List.cons_append,List.nil_append,List.cons.injEq] at h2
    obtain ⟨h5,rfl⟩:=h2
    obtain ⟨fp',k1,k2⟩:=Qck s h4
    exact ⟨f1++fp',(List.Sublist.refl _).append k1,⟨f1,fp',[hdV z],_,rfl,by rw[List.map_cons,h5]; rfl,h3,k2⟩⟩
end
section
variable {A:Amb}{P:Program}{s:St}{Q:Exit→St→Prop}{c:Code}
theorem Qqo {x:Operand}{p:Nat}{E:TypeId}{e:Ty}{vs:List Hdr}{f:Hdr→List e.Den}{v:Hdr}(hx:Evl A s x (.dat .vl v))(hp:s.tab.ent p=some (.pl true (.sl E e) vs f))(hv:v∈vs):EvB A s x (false,[.dat (.sl E e) (f v)]):=fun gh a w r=>by
  obtain ⟨_,h3⟩:=r.cx.en p _ hp
  have h1:Rd gh.N .vl w [a.eval x] v:=hx gh a w r
  have h2:[a.eval x]=[hdV v]:=h1.rep
  obtain ⟨fv,k1,k2⟩:=HA h3 v hv
  refine ⟨_,rfl, ?_⟩
  have h4:Own (.sl E e) w fv [a.eval x] (f v):=by rw[h2]; exact k1
  exact h4.rd fun g hg=>r.cx.lt ⟨_,hp⟩ g (k2 g hg)
end
section
variable {A:Amb}{P:Program}{s:St}{f:FuncId}{xs:List Operand}{tys:Array TypeId}{args:List (Bool×List LV)}{d:Nat}{ty:TypeId}{pos:String}{af:Array Edge}{g:Option (Nat×Bool)}{pv:PV}
end
end Go.Proofs.YtnakmhfjafecpaaGreat
