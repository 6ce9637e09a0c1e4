/- Further struct types of the laws. -/
import Derived.Test.YtnakmhfjafecpaaGreatTrd
import Derived.Test.YtnakmhfjafecpaaGreatUi
set_option linter.unusedSimpArgs false
set_option linter.unusedVariables false
set_option linter.unusedSectionVars false
namespace Go.Proofs.YtnakmhfjafecpaaGreat
open Go.RowKit
attribute [local irreducible] TF
abbrev Y2:Type:=Xf×Xf
abbrev QoH:Ty:= .pr Qey Qey
abbrev QcM:Ty:= .pr Qfr Qfr
theorem Qfw:Trd Tryz.prog 53 QcM:=Trd.st Tryz.underlying53 (by kernel_rfl) (TF.cons _ rfl rfl QgC (HO _ rfl rfl QgC))
end Go.Proofs.YtnakmhfjafecpaaGreat
namespace Go.Proofs.YtnakmhfjafecpaaGreat
open Go.RowKit
set_option maxRecDepth 100000
set_option maxHeartbeats 4000000
theorem QoY {α:Type}{x y:List α}{k:Nat}{a b:α}(h:x=y)(h1:x[k]? =some a)(h2:y[k]? =some b):a=b:=by
  rw[h,h2] at h1; exact (Option.some.inj h1).symm
theorem QmY [∀c,Decidable (SgOk c)][∀s,Decidable (ZL s)](c:DSg):(if SgOk c then QS c else []).length≤256:=by
  split
  · rename_i h; exact Ja h.sigs.2.2 _ (by have:=h.sigs.2.2; rw[Xz]; omega)
  · exact Nat.zero_le _
theorem Kc (x:Int×Bool)(y:Int×Bool)(h:x=y):FC Tryz.prog 84 [(true,[dI x.1,dB x.2]),(true,[dI y.1,dB y.2])] [] 0 (Zo (lB true)):=by
 refine QM Tryz.func84 rfl rfl Tryz.ntmps84 fun O_ hO w0_ N0_ X_ h0_ f0_=> ?_
 refine AC.fact (QO (x:= .tmp 0) (i:=0) (Qb rfl) rfl) fun hi1=>AC.fact (QO (x:= .tmp 1) (i:=0) (Qb rfl) rfl) fun hi2=> ?_
 refine w_ ?_
 refine lc (Qo 0 (Qb rfl) rfl rfl (Fresh.of rfl) (nlr rfl))<|lc (Qo 1 (Qb rfl) rfl rfl (Fresh.of rfl) (nlr rfl)) ?_
 iterate 10 refine w_ ?_
 cases hb3:(!decide (x.1=y.1))
 ·have hb3':(x.1=y.1):=Zi hb3
  iterate 8 refine w_ ?_
  refine lc (Y6 (Qa rfl) (Qa rfl) rfl Vh) ?_
  refine w_ ?_
  cases hb4:(x.2==y.2)
  ·iterate 4 refine w_ ?_
   refine Qd ?_
   subst hO
   have e5:(false:Bool)=true:=by
    (exfalso; subst h; simp_all; done)
   exact Qg (Qe rfl (Qc rfl)) ((congrArg (fun z_=>lB z_) e5)) rfl
  ·iterate 5 refine w_ ?_
   refine Qd ?_
   subst hO
   exact Qg (Qe rfl (Qc rfl)) rfl rfl
 ·have hb3':¬(x.1=y.1):=Zq hb3
  iterate 4 refine w_ ?_
  refine Qd ?_
  subst hO
  have e6:(false:Bool)=true:=by
   (exfalso; subst h; simp_all; done)
  exact Qg (Qe rfl (Qc rfl)) ((congrArg (fun z_=>lB z_) e6)) rfl
theorem W1 (x:(Int×Bool)×(Int×Bool))(y:(Int×Bool)×(Int×Bool))(h:x=y):FC Tryz.prog 28 [(true,[dI x.1.1,dB x.1.2,dI x.2.1,dB x.2.2]),(true,[dI y.1.1,dB y.1.2,dI y.2.1,dB y.2.2])] [] 0 (Zo (lB true)):=by
 refine QM Tryz.func28 rfl rfl Tryz.ntmps28 fun O_ hO w0_ N0_ X_ h0_ f0_=> ?_
 refine AC.fact (QO (x:= .tmp 0) (i:=0) (Qb rfl) rfl) fun hi1=>AC.fact (QO (x:= .tmp 0) (i:=2) (Qb rfl) rfl) fun hi2=>AC.fact (QO (x:= .tmp 1) (i:=0) (Qb rfl) rfl) fun hi3=>AC.fact (QO (x:= .tmp 1) (i:=2) (Qb rfl) rfl) fun hi4=> ?_
 refine w_ ?_
 refine lc (Qo 0 (Qb rfl) rfl rfl (Fresh.of rfl) (nlr rfl))<|lc (Qo 1 (Qb rfl) rfl rfl (Fresh.of rfl) (nlr rfl)) ?_
 iterate 8 refine w_ ?_
 refine lc (Qf (Kc x.1 y.1 (by rw[h])) QdW ⟨_,_,rfl,(Qb rfl),⟨_,_,rfl,(Qb rfl),rfl⟩⟩ rfl rfl) ?_
 iterate 10 refine w_ ?_
 refine lc (Qf (Kc x.2 y.2 (by rw[h])) QdW ⟨_,_,rfl,(Qb rfl),⟨_,_,rfl,(Qb rfl),rfl⟩⟩ rfl rfl) ?_
 iterate 7 refine w_ ?_
 refine Qd ?_
 subst hO
 exact Qg (Qe rfl (Qc rfl)) rfl rfl
theorem Xr (x:List ((Int×Bool)×(Int×Bool)))(y:List ((Int×Bool)×(Int×Bool)))(h:x=y):FC Tryz.prog 31 [(false,[.dat (.sl 63 (.pr (.pr .int .bool) (.pr .int .bool))) x]),(false,[.dat (.sl 63 (.pr (.pr .int .bool) (.pr .int .bool))) y])] [] 0 (Zo (lB true)):=by
 have hlx:x.length=y.length:=by rw[h]
 refine QM Tryz.func31 rfl rfl Tryz.ntmps31 fun O_ hO w0_ N0_ X_ h0_ f0_=> ?_
 iterate 6 refine w_ ?_
 refine AL.fact (Qy (x:= .tmp 6) (Qa rfl)) fun hl1=> ?_
 iterate 2 refine w_ ?_
 refine AL.fact (Qy (x:= .tmp 8) (Qa rfl)) fun hl2=> ?_
 iterate 3 refine w_ ?_
 cases hb3:(!decide ((x.length:Int)=(y.length:Int)))
 ·have hb3':((x.length:Int)=(y.length:Int)):=Zi hb3
  iterate 7 refine w_ ?_
  refine Qx (fun m_ s_=>∃(k:Nat),k≤x.length∧m_=x.length - k∧s_=⟨[(0,lf (.dat (.sl 63 (.pr (.pr .int .bool) (.pr .int .bool))) x)),(1,lf (.dat (.sl 63 (.pr (.pr .int .bool) (.pr .int .bool))) y)),(5,lI (k:Int))],[]⟩) ⟨0,Nat.zero_le _,rfl,rfl⟩ ?_ ?_
  · exact Wk.of [] rfl ⟨rfl,rfl,rfl,trivial⟩ trivial rfl rfl
  rintro m_ s_ ⟨k,hk4,hm5,rfl⟩
  iterate 4 refine w_ ?_
  refine AL.fact (Qy (x:= .tmp 12) (Qa rfl)) fun hl6=> ?_
  iterate 3 refine w_ ?_
  cases hb7:(decide ((k:Int) < (x.length:Int)))
  ·have hb7':=of_decide_eq_false hb7
   refine w_ ?_
   refine QC ?_
   refine (?_:AC _ _ _ _ _)
   iterate 3 refine w_ ?_
   refine Qd ?_
   subst hO
   exact Qg (Qe rfl (Qc rfl)) rfl rfl
  ·have hb7':=of_decide_eq_true hb7
   iterate 4 refine w_ ?_
   obtain ⟨a,hx9⟩:∃z,x[k]? =some z:=⟨_,List.getElem?_eq_getElem (by omega)⟩
   obtain ⟨b,hx11⟩:∃z,y[k]? =some z:=⟨_,List.getElem?_eq_getElem (by omega)⟩
   refine dw [io 17 (lf (.dat (.sl 63 (.pr (.pr .int .bool) (.pr .int .bool))) x)),io 18 (lI (k:Int)),io 19 (lf (.elt (.pr (.pr .int .bool) (.pr .int .bool)) a 0)),io 20 (ag [dI a.1.1,dB a.1.2,dI a.2.1,dB a.2.2]),io 21 (lf (.dat (.sl 63 (.pr (.pr .int .bool) (.pr .int .bool))) y)),io 22 (lI (k:Int)),io 23 (lf (.elt (.pr (.pr .int .bool) (.pr .int .bool)) b 0)),io 24 (ag [dI b.1.1,dB b.1.2,dI b.2.1,dB b.2.2]),io 25 (lB true),io 26 (lB false)] [0,0,3,7,0,0,48,112,255,511] mixed rfl (by kernel_rfl) ⟨dxm rfl rfl,dxm rfl rfl,fun _ h_=>ac (Qn (h_.v rfl) (h_.v rfl) XF ZK rfl (by omega) hx9) rfl,fun _ h_=>ac (Kz (h_.v rfl) ZK rfl rfl) rfl,dxm rfl rfl,dxm rfl rfl,fun _ h_=>ac (Qn (h_.v rfl) (h_.v rfl) XF ZK rfl (by omega) hx11) rfl,fun _ h_=>ac (Kz (h_.v rfl) ZK rfl rfl) rfl,fun _ h_=>ac (Qf (W1 a b (QoY h hx9 hx11)) Qel ⟨_,_,rfl,(h_.w rfl),⟨_,_,rfl,(h_.w rfl),rfl⟩⟩ rfl rfl) rfl,fun _ h_=>ac (Zy (h_.v rfl) rfl) rfl,⟨⟩⟩ ?_
   refine w_ ?_
   refine AC.skip ?_
   refine (?_:AC _ _ _ _ _)
   iterate 4 refine w_ ?_
   refine Qj<|QR ⟨k+1,by omega,rfl,rfl⟩ (by omega) ?_
   exact Wk.of [] rfl ⟨rfl,rfl,rfl,trivial⟩ trivial rfl rfl
 ·have hb3':¬((x.length:Int)=(y.length:Int)):=Zq hb3
  iterate 4 refine w_ ?_
  refine Qd ?_
  subst hO
  have e12:(false:Bool)=true:=by
   (exfalso; simp_all; done)
  exact Qg (Qe rfl (Qc rfl)) ((congrArg (fun z_=>lB z_) e12)) rfl
@[reducible] def Qm:(Y2)→Int→(Y2)×Int:=fun _ k=>(((k,decide ((k+1) % 3=0)),(k+1+1,decide ((k+1+1+1) % 3=0))),k+1+1+1+1)
theorem Jq:∀(x:(Y2)) (k:Int),(Qm x k).2=k+((fun _=>4:(Y2)→Nat) x:Nat):=fun _ k=>by show k+1+1+1+1=k+((4:Nat):Int); omega
theorem Kg (a:List (Y2)):(a.map fun _=>4).sum=4*a.length:=by
  induction a with
  | nil=>rfl
  | cons x xs ih=>simp[ih]; omega
theorem VR (a:List (Y2))(k:Int)(i:Nat):k≤mkC Qm a k i∧mkC Qm a k i≤k+4*a.length:=by
  have:=Qez _ Jq a k i
  rw[Kg] at this
  omega
theorem W6 {l:List (Y2)}{k:Int}{i:Nat}(h:i < l.length):mkC Qm l k i+1+1+1+1=mkC Qm l k (i+1):=by rw[HJ (List.getElem?_eq_getElem h)]
theorem JS (l:List (Y2))(k:Int):(QZ Qm l k).2=k+4*l.length:=by rw[HB _ Jq,Kg]; omega
theorem U0 (a:List ((Int×Bool)×(Int×Bool)))(k:Int)(hk:0≤k∧k+4*a.length≤1000000000):FC Tryz.prog 33 [(false,[.ref 0]),(false,[dI k])] [(0,some (.arr 63 (.pr (.pr .int .bool) (.pr .int .bool)) a))] 1 (Is (lI ((QZ Qm a k).2)) [(0,some (.arr 63 (.pr (.pr .int .bool) (.pr .int .bool)) ((QZ Qm a k).1)))]):=by
 refine QM Tryz.func33 rfl rfl Tryz.ntmps33 fun O_ hO w0_ N0_ X_ h0_ f0_=> ?_
 refine AC.fact (Qu (x:= .tmp 1) (Qa rfl)) fun hi1=> ?_
 iterate 8 refine w_ ?_
 refine Qx (fun m_ s_=>∃(i:Nat),i≤a.length∧m_=a.length - i∧s_=⟨[(0,lR 0),(1,lI (mkC Qm a k i)),(4,lI 0),(5,lI (i:Int))],[(0,some (.arr 63 (.pr (.pr .int .bool) (.pr .int .bool)) (mkA Qm a k i)))]⟩) ⟨0,Nat.zero_le _,rfl,rfl⟩ ?_ ?_
 · exact Wk.of [(0,0)] rfl ⟨rfl,(show some (lI k)=some (lI (mkC Qm a k 0)) from congrArg (fun z_=>some (lI z_)) (by rw[Qfz])),rfl,rfl,trivial⟩ ⟨(QA (Qj0 Qm a k)),trivial⟩ rfl rfl
 rintro m_ s_ ⟨i,hk3,hm4,rfl⟩
 have hml:=J8 Qm a k i
 have hmc:=VR a k i
 iterate 7 refine w_ ?_
 cases hb5:(decide ((i:Int) < ((mkA Qm a k i).length:Int)))
 ·have hb5':=of_decide_eq_false hb5
  refine w_ ?_
  refine QC ?_
  refine (?_:AC _ _ _ _ _)
  iterate 4 refine w_ ?_
  refine Qd ?_
  subst hO
  have e6:(mkC Qm a k i:Int)=((QZ Qm a k).2):=by
   (rw[Hk _ (by omega)]; done)
  exact Q0 _ _ [(0,0)] (Qe rfl (Qc rfl)) ((congrArg (fun z_=>lI z_) e6)) ⟨(QA (by (rw[QbD _ (by omega)]; done))),trivial⟩ rfl rfl
 ·have hb5':=of_decide_eq_true hb5
  iterate 8 refine w_ ?_
  refine lc (Qq (e:=(.pr (.pr .int .bool) (.pr .int .bool))) (Qa rfl) rfl (Qa rfl) XF ZK rfl (by omega) (by first | omega | (simp only[List.length_set]; omega))) ?_
  iterate 2 refine w_ ?_
  obtain ⟨x7,hx8⟩:∃z,(mkA Qm a k i)[i]? =some z:=⟨_,List.getElem?_eq_getElem (by omega)⟩
  refine lc (Q2 (e:=(.pr (.pr .int .bool) (.pr .int .bool))) (z':=((mkC Qm a k i,x7.1.2),x7.2)) (Qa rfl) rfl hx8 rfl (Qb rfl) rfl Qz rfl rfl) ?_
  iterate 10 refine w_ ?_
  refine lc (Vi (Qa rfl) (QB rfl) rfl (by omega) (by omega)) ?_
  refine w_ ?_
  refine lc (Qq (e:=(.pr (.pr .int .bool) (.pr .int .bool))) (Qa rfl) rfl (Qa rfl) XF ZK rfl (by omega) (by first | omega | (simp only[List.length_set]; omega))) ?_
  iterate 2 refine w_ ?_
  refine lc (Q2 (e:=(.pr (.pr .int .bool) (.pr .int .bool))) (z':=(((((mkC Qm a k i,x7.1.2),x7.2).1).1,decide ((((mkC Qm a k i)+1) % 3)=0)),(((mkC Qm a k i,x7.1.2),x7.2).2))) (Qa rfl) rfl (List.getElem?_set_self (by first | omega | (simp only[List.length_set]; omega))) rfl (Qb rfl) rfl ZD rfl rfl) ?_
  iterate 10 refine w_ ?_
  refine lc (Qq (e:=(.pr (.pr .int .bool) (.pr .int .bool))) (Qa rfl) rfl (Qa rfl) XF ZK rfl (by omega) (by first | omega | (simp only[List.length_set]; omega))) ?_
  iterate 2 refine w_ ?_
  refine lc (Q2 (e:=(.pr (.pr .int .bool) (.pr .int .bool))) (z':=(((((((mkC Qm a k i,x7.1.2),x7.2).1).1,decide ((((mkC Qm a k i)+1) % 3)=0)),(((mkC Qm a k i,x7.1.2),x7.2).2)).1),(((mkC Qm a k i)+1)+1,((((((mkC Qm a k i,x7.1.2),x7.2).1).1,decide ((((mkC Qm a k i)+1) % 3)=0)),(((mkC Qm a k i,x7.1.2),x7.2).2)).2).2))) (Qa rfl) rfl (List.getElem?_set_self (by first | omega | (simp only[List.length_set]; omega))) rfl (Qb rfl) rfl Qz rfl rfl) ?_
  iterate 10 refine w_ ?_
  refine lc (Vi (Qa rfl) (QB rfl) rfl (by omega) (by omega)) ?_
  refine w_ ?_
  refine lc (Qq (e:=(.pr (.pr .int .bool) (.pr .int .bool))) (Qa rfl) rfl (Qa rfl) XF ZK rfl (by omega) (by first | omega | (simp only[List.length_set]; omega))) ?_
  iterate 2 refine w_ ?_
  refine lc (Q2 (e:=(.pr (.pr .int .bool) (.pr .int .bool))) (z':=(((((((((mkC Qm a k i,x7.1.2),x7.2).1).1,decide ((((mkC Qm a k i)+1) % 3)=0)),(((mkC Qm a k i,x7.1.2),x7.2).2)).1),(((mkC Qm a k i)+1)+1,((((((mkC Qm a k i,x7.1.2),x7.2).1).1,decide ((((mkC Qm a k i)+1) % 3)=0)),(((mkC Qm a k i,x7.1.2),x7.2).2)).2).2)).1),(((((((((mkC Qm a k i,x7.1.2),x7.2).1).1,decide ((((mkC Qm a k i)+1) % 3)=0)),(((mkC Qm a k i,x7.1.2),x7.2).2)).1),(((mkC Qm a k i)+1)+1,((((((mkC Qm a k i,x7.1.2),x7.2).1).1,decide ((((mkC Qm a k i)+1) % 3)=0)),(((mkC Qm a k i,x7.1.2),x7.2).2)).2).2)).2).1,decide ((((((mkC Qm a k i)+1)+1)+1) % 3)=0)))) (Qa rfl) rfl (List.getElem?_set_self (by first | omega | (simp only[List.length_set]; omega))) rfl (Qb rfl) rfl ZD rfl rfl) ?_
  iterate 5 refine w_ ?_
  refine Qj ?_
  refine (?_:AC _ _ _ _ _)
  iterate 4 refine w_ ?_
  refine Qj<|QR ⟨i+1,by omega,rfl,rfl⟩ (by omega) ?_
  exact Wk.of [(0,0)] rfl ⟨rfl,(show some (lI (((((mkC Qm a k i)+1)+1)+1)+1))=some (lI (mkC Qm a k (i+1))) from congrArg (fun z_=>some (lI z_)) (W6 (by omega))),rfl,rfl,trivial⟩ ⟨(QA (by rw[List.set_set,List.set_set,List.set_set]; exact JX (f:=Qm) (Qaa hx8))),trivial⟩ rfl rfl
theorem Wg (a:List ((Int×Bool)×(Int×Bool)))(k:Int)(l:List (Y2))(hm:a=(QZ Qm l k).1)(hk:0≤k∧k+4*a.length≤1000000000):FC Tryz.prog 34 [(false,[.dat (.sl 63 (.pr (.pr .int .bool) (.pr .int .bool))) a]),(false,[dI k])] [] 0 (Zo (lI ((QZ Qm l k).2))):=by
 have hla:a.length=l.length:=by rw[hm,XX]
 refine QM Tryz.func34 rfl rfl Tryz.ntmps34 fun O_ hO w0_ N0_ X_ h0_ f0_=> ?_
 refine AC.fact (Qu (x:= .tmp 1) (Qa rfl)) fun hi1=> ?_
 iterate 8 refine w_ ?_
 refine Qx (fun m_ s_=>∃(i:Nat),i≤a.length∧m_=a.length - i∧s_=⟨[(0,lf (.dat (.sl 63 (.pr (.pr .int .bool) (.pr .int .bool))) a)),(1,lI (mkC Qm l k i)),(5,lI (i:Int))],[]⟩) ⟨0,Nat.zero_le _,rfl,rfl⟩ ?_ ?_
 · exact Wk.of [] rfl ⟨rfl,(show some (lI k)=some (lI (mkC Qm l k 0)) from congrArg (fun z_=>some (lI z_)) (by rw[Qfz])),rfl,trivial⟩ trivial rfl rfl
 rintro m_ s_ ⟨i,hk3,hm4,rfl⟩
 have hmc:=VR l k i
 iterate 4 refine w_ ?_
 refine AL.fact (Qy (x:= .tmp 7) (Qa rfl)) fun hl5=> ?_
 iterate 3 refine w_ ?_
 cases hb6:(decide ((i:Int) < (a.length:Int)))
 ·have hb6':=of_decide_eq_false hb6
  refine w_ ?_
  refine QC ?_
  refine (?_:AC _ _ _ _ _)
  iterate 4 refine w_ ?_
  refine Qd ?_
  subst hO
  have e7:(mkC Qm l k i:Int)=((QZ Qm l k).2):=by
   (rw[Hk _ (by omega)]; done)
  exact Qg (Qe rfl (Qc rfl)) ((congrArg (fun z_=>lI z_) e7)) rfl
 ·have hb6':=of_decide_eq_true hb6
  iterate 8 refine w_ ?_
  obtain ⟨x8,hx9⟩:∃z,a[i]? =some z:=⟨_,List.getElem?_eq_getElem (by omega)⟩
  have hv0x8:x8.1.1=mkC Qm l k i:=by obtain ⟨_,_,h⟩:=Qbv hm hx9; rw[h]
  have hv1x8:x8.1.2=decide ((mkC Qm l k i+1) % 3=0):=by obtain ⟨_,_,h⟩:=Qbv hm hx9; rw[h]
  have hv2x8:x8.2.1=mkC Qm l k i+1+1:=by obtain ⟨_,_,h⟩:=Qbv hm hx9; rw[h]
  have hv3x8:x8.2.2=decide ((mkC Qm l k i+1+1+1) % 3=0):=by obtain ⟨_,_,h⟩:=Qbv hm hx9; rw[h]
  refine lc (Qn (Qa rfl) (Qa rfl) XF ZK rfl (by omega) hx9) ?_
  iterate 3 refine w_ ?_
  refine AL.fact (Qu (x:= .tmp 17) (Qa rfl)) fun hi10=> ?_
  iterate 3 refine w_ ?_
  cases hb11:(!decide (x8.1.1=(mkC Qm l k i)))
  ·have hb11':(x8.1.1=(mkC Qm l k i)):=Zi hb11
   iterate 11 refine w_ ?_
   refine lc (Qn (Qa rfl) (Qa rfl) XF ZK rfl (by omega) hx9) ?_
   iterate 4 refine w_ ?_
   refine lc (Vi (Qa rfl) (QB rfl) rfl (by omega) (by omega)) ?_
   refine w_ ?_
   refine lc (Y6 (Qa rfl) (Qa rfl) rfl Vh) ?_
   refine w_ ?_
   cases hb12:(x8.1.2==(decide ((((mkC Qm l k i)+1) % 3)=0)))
   ·iterate 4 refine w_ ?_
    refine Qd ?_
    subst hO
    have e13:((-1):Int)=((QZ Qm l k).2):=by
     (exfalso; simp_all; done)
    exact Qg (Qe rfl (Qc rfl)) ((congrArg (fun z_=>lI z_) e13)) rfl
   ·iterate 11 refine w_ ?_
    refine lc (Qn (Qa rfl) (Qa rfl) XF ZK rfl (by omega) hx9) ?_
    iterate 3 refine w_ ?_
    refine AL.fact (Qu (x:= .tmp 39) (Qa rfl)) fun hi14=> ?_
    iterate 3 refine w_ ?_
    cases hb15:(!decide (x8.2.1=(((mkC Qm l k i)+1)+1)))
    ·have hb15':(x8.2.1=(((mkC Qm l k i)+1)+1)):=Zi hb15
     iterate 11 refine w_ ?_
     refine lc (Qn (Qa rfl) (Qa rfl) XF ZK rfl (by omega) hx9) ?_
     iterate 4 refine w_ ?_
     refine lc (Vi (Qa rfl) (QB rfl) rfl (by omega) (by omega)) ?_
     refine w_ ?_
     refine lc (Y6 (Qa rfl) (Qa rfl) rfl Vh) ?_
     refine w_ ?_
     cases hb16:(x8.2.2==(decide ((((((mkC Qm l k i)+1)+1)+1) % 3)=0)))
     ·iterate 4 refine w_ ?_
      refine Qd ?_
      subst hO
      have e17:((-1):Int)=((QZ Qm l k).2):=by
       (exfalso; simp_all; done)
      exact Qg (Qe rfl (Qc rfl)) ((congrArg (fun z_=>lI z_) e17)) rfl
     ·iterate 6 refine w_ ?_
      refine Qj ?_
      refine (?_:AC _ _ _ _ _)
      iterate 4 refine w_ ?_
      refine Qj<|QR ⟨i+1,by omega,rfl,rfl⟩ (by omega) ?_
      exact Wk.of [] rfl ⟨rfl,(show some (lI (((((mkC Qm l k i)+1)+1)+1)+1))=some (lI (mkC Qm l k (i+1))) from congrArg (fun z_=>some (lI z_)) (W6 (by omega))),rfl,trivial⟩ trivial rfl rfl
    ·have hb15':¬(x8.2.1=(((mkC Qm l k i)+1)+1)):=Zq hb15
     iterate 4 refine w_ ?_
     refine Qd ?_
     subst hO
     have e19:((-1):Int)=((QZ Qm l k).2):=by
      (exfalso; omega)
     exact Qg (Qe rfl (Qc rfl)) ((congrArg (fun z_=>lI z_) e19)) rfl
  ·have hb11':¬(x8.1.1=(mkC Qm l k i)):=Zq hb11
   iterate 4 refine w_ ?_
   refine Qd ?_
   subst hO
   have e20:((-1):Int)=((QZ Qm l k).2):=by
    (exfalso; omega)
   exact Qg (Qe rfl (Qc rfl)) ((congrArg (fun z_=>lI z_) e20)) rfl
theorem XS (aC:(List (ByteArray×Int))×List ByteArray×(List (Int×Int×Bool×Int))):FC Tryz.prog 6 [(true,[.dat (.sl 153 (.pr .str .int)) aC.1, .dat (.sl 9 .str) aC.2.1, .dat (.sl 181 (.pr .int (.pr .int (.pr .bool .int)))) aC.2.2])] [] 0 (Zo (lB true)):=by
 classical
 have hs:=KC 1048576 (Ty.tot Zf aC)
 have ht:Ty.tot Z8 aC=Ty.tot Zf aC:=rfl
 have hq:=Qhi aC
 have hc:=Qi1 aC 1
 have hcl:=QmY aC
 have hms:=JS (if SgOk aC then QS aC else []) 1
 refine QM Tryz.func6 rfl rfl Tryz.ntmps6 fun O_ hO w0_ N0_ X_ h0_ f0_=> ?_
 refine w_ ?_
 refine lc (Qo 0 (Qb rfl) rfl rfl (Fresh.of rfl) (nlr rfl)) ?_
 iterate 8 refine w_ ?_
 refine lc (Qf (WZ aC 1048576 (by omega) (by omega)) Qab ⟨_,_,rfl,(Qb rfl),⟨_,_,rfl,(Qb rfl),rfl⟩⟩ rfl rfl) ?_
 iterate 7 refine w_ ?_
 cases hb1:(decide ((szv 1048576 (Ty.tot Zf aC)) < 0))
 ·have hb1':=of_decide_eq_false hb1
  iterate 4 refine w_ ?_
  refine lc (Zu 1 (ZH aC (by omega)) Xb ⟨_,_,rfl,(Qb rfl),rfl⟩ rfl rfl ⟨Fresh.of rfl,Fresh.of rfl,Fresh.of rfl,trivial⟩ (nlr rfl))<|lc (Kv 4 (Va aC) Qk7 ⟨_,_,rfl,(Wl (Qb rfl) ⟨_,_,rfl, .inr ⟨_,_,_,_,rfl,rfl,rfl⟩,⟨_,_,rfl, .inr ⟨_,_,_,_,rfl,rfl,rfl⟩,⟨_,_,rfl, .inr ⟨_,_,_,_,rfl,rfl,rfl⟩,rfl⟩⟩⟩),rfl⟩ rfl rfl rfl ⟨Fresh.of rfl,trivial⟩ (nlr rfl)) ?_
  iterate 8 refine w_ ?_
  refine lc (Zu 5 (ZH aC (by omega)) Xb ⟨_,_,rfl,(Qb rfl),rfl⟩ rfl rfl ⟨Fresh.of rfl,Fresh.of rfl,Fresh.of rfl,trivial⟩ (nlr rfl))<|lc (Qt 8 (.pr (.sl 145 (.pr .str .int)) (.pr (.sl 9 .str) (.sl 179 (.pr .int (.pr .int (.pr .bool .int)))))) Xd rfl rfl (Fresh.of rfl) (nlr rfl))<|lc (Qh (Qa rfl) rfl (Qb rfl) rfl QU rfl) ?_
  iterate 3 refine w_ ?_
  refine lc (Kv 9 (Xh aC) Qem ⟨_,_,rfl,(Wl (Qb rfl) ⟨_,_,rfl, .inr ⟨_,_,_,_,rfl,rfl,rfl⟩,⟨_,_,rfl, .inr ⟨_,_,_,_,rfl,rfl,rfl⟩,⟨_,_,rfl, .inr ⟨_,_,_,_,rfl,rfl,rfl⟩,rfl⟩⟩⟩),rfl⟩ rfl rfl rfl ⟨Fresh.of rfl,trivial⟩ (nlr rfl)) ?_
  iterate 10 refine w_ ?_
  refine lc (Zj (Xr (if SgOk aC then QS aC else []) (if SgOk aC then QS aC else []) rfl) QaQ ⟨_,_,rfl,(XU (Qa rfl) rfl),⟨_,_,rfl,(XU (Qa rfl) rfl),rfl⟩⟩ rfl rfl rfl) ?_
  iterate 4 refine w_ ?_
  refine lgy rfl rfl (Y6 (Qa rfl) (Qa rfl) rfl Vh) ?_
  iterate 2 refine w_ ?_
  cases hb2:((decide (SgOk aC))==(decide (SgOk aC)))
  ·iterate 4 refine w_ ?_
   refine Qd ?_
   subst hO
   have e3:(false:Bool)=true:=by
    exfalso; first | omega | (simp at hb2; done)
   exact Qg (Qe rfl (Qc rfl)) ((congrArg (fun z_=>lB z_) e3)) rfl
  ·iterate 3 refine w_ ?_
   refine dw [io 41 (ag [.ref 5, .ref 6, .ref 7]),io 42 (ag [.dat (.sl 153 (.pr .str .int)) aC.1, .dat (.sl 9 .str) aC.2.1, .dat (.sl 181 (.pr .int (.pr .int (.pr .bool .int)))) aC.2.2]),⟨some 43,ag [.ref 10, .ref 11, .ref 12],[(10,some (.arr 145 (.pr .str .int) aC.1)),(11,some (.arr 9 .str aC.2.1)),(12,some (.arr 179 (.pr .int (.pr .int (.pr .bool .int))) aC.2.2))]⟩,io 44 (lB true),io 45 (lB false)] [0,0,2,7,15] mixed rfl (by kernel_rfl) ⟨dxa QU rfl rfl rfl rfl,dxa Qfs rfl rfl rfl rfl,fun _ h_=>ac (Zu 10 (ZH aC (by omega)) Xb ⟨_,_,rfl,(h_.w rfl),rfl⟩ rfl rfl ⟨(h_.fr 10 rfl),(h_.fr 11 rfl),(h_.fr 12 rfl),trivial⟩ (nlr rfl)) rfl,fun _ h_=>ac (Zj (WV aC aC rfl) QaG ⟨_,_,rfl,(Wl (h_.w rfl) ⟨_,_,rfl, .inr ⟨_,_,_,_,rfl,(h_.n 5 rfl),rfl⟩,⟨_,_,rfl, .inr ⟨_,_,_,_,rfl,(h_.n 6 rfl),rfl⟩,⟨_,_,rfl, .inr ⟨_,_,_,_,rfl,(h_.n 7 rfl),rfl⟩,rfl⟩⟩⟩),⟨_,_,rfl,(Wl (h_.w rfl) ⟨_,_,rfl, .inr ⟨_,_,_,_,rfl,(h_.n 10 rfl),rfl⟩,⟨_,_,rfl, .inr ⟨_,_,_,_,rfl,(h_.n 11 rfl),rfl⟩,⟨_,_,rfl, .inr ⟨_,_,_,_,rfl,(h_.n 12 rfl),rfl⟩,rfl⟩⟩⟩),rfl⟩⟩ rfl rfl rfl) rfl,fun _ h_=>ac (Zy (h_.v rfl) rfl) rfl,⟨⟩⟩ ?_
   iterate 8 refine w_ ?_
   refine lc (QN 13 [(0,5),(1,6),(2,7)] (UD aC 1 (by omega)) QkO ⟨_,_,rfl,(Qb rfl),⟨_,_,rfl,(Qb rfl),rfl⟩⟩ ⟨rfl,rfl,rfl,trivial⟩ rfl ⟨trivial,trivial,trivial,trivial⟩ (nlr rfl)) ?_
   iterate 7 refine w_ ?_
   cases hb4:(decide (((mSG aC 1).2) < 0))
   ·have hb4':=of_decide_eq_false hb4
    iterate 2 refine w_ ?_
    refine lgy rfl rfl (Zj (Xr (if SgOk aC then QS aC else []) (if SgOk aC then QS aC else []) rfl) QaQ ⟨_,_,rfl,(XU (Qa rfl) rfl),⟨_,_,rfl,(XU (Qa rfl) rfl),rfl⟩⟩ rfl rfl rfl) ?_
    iterate 5 refine w_ ?_
    refine lgy rfl rfl (Y6 (Qa rfl) (Qa rfl) rfl Vh) ?_
    iterate 2 refine w_ ?_
    have hb5:((decide (SgOk aC))==(decide (SgOk aC)))=true:=hb2
    try rw[hb5]
    iterate 8 refine w_ ?_
    refine lc (QN 16 [(0,9)] (U0 (if SgOk aC then QS aC else []) 1 (by omega)) Qkt ⟨_,_,rfl,(Qb rfl),⟨_,_,rfl,(Qb rfl),rfl⟩⟩ ⟨rfl,trivial⟩ rfl ⟨trivial,trivial⟩ (nlr rfl)) ?_
    iterate 8 refine w_ ?_
    refine lc (Zj (Wg ((QZ Qm (if SgOk aC then QS aC else []) 1).1) 1 (if SgOk aC then QS aC else []) rfl (by rw[XX]; omega)) Qd2 ⟨_,_,rfl,(XU (Qa rfl) rfl),⟨_,_,rfl,(Ev.b (Qb rfl)),rfl⟩⟩ rfl rfl rfl) ?_
    iterate 7 refine w_ ?_
    cases hb6:(decide (((QZ Qm (if SgOk aC then QS aC else []) 1).2) < 0))
    ·have hb6':=of_decide_eq_false hb6
     iterate 8 refine w_ ?_
     cases hb7:(!decide (((QZ Qm (if SgOk aC then QS aC else []) 1).2)=((QZ Qm (if SgOk aC then QS aC else []) 1).2)))
     ·have hb7':(((QZ Qm (if SgOk aC then QS aC else []) 1).2)=((QZ Qm (if SgOk aC then QS aC else []) 1).2)):=Zi hb7
      iterate 4 refine w_ ?_
      refine lc (Zu 17 (ZH aC (by omega)) Xb ⟨_,_,rfl,(Qb rfl),rfl⟩ rfl rfl ⟨Fresh.of rfl,Fresh.of rfl,Fresh.of rfl,trivial⟩ (nlr rfl))<|lc (Kv 20 (Xh aC) Qem ⟨_,_,rfl,(Wl (Qb rfl) ⟨_,_,rfl, .inr ⟨_,_,_,_,rfl,rfl,rfl⟩,⟨_,_,rfl, .inr ⟨_,_,_,_,rfl,rfl,rfl⟩,⟨_,_,rfl, .inr ⟨_,_,_,_,rfl,rfl,rfl⟩,rfl⟩⟩⟩),rfl⟩ rfl rfl rfl ⟨Fresh.of rfl,trivial⟩ (nlr rfl)) ?_
      iterate 10 refine w_ ?_
      refine lc (Zj (Xr (if SgOk aC then QS aC else []) (if SgOk aC then QS aC else []) rfl) QaQ ⟨_,_,rfl,(XU (Qa rfl) rfl),⟨_,_,rfl,(XU (Qa rfl) rfl),rfl⟩⟩ rfl rfl rfl) ?_
      iterate 4 refine w_ ?_
      refine lgy rfl rfl (Y6 (Qa rfl) (Qa rfl) rfl Vh) ?_
      iterate 2 refine w_ ?_
      have hb8:((decide (SgOk aC))==(decide (SgOk aC)))=true:=hb2
      try rw[hb8]
      iterate 8 refine w_ ?_
      refine lc (Zj (Wg ((QZ Qm (if SgOk aC then QS aC else []) 1).1) 1 (if SgOk aC then QS aC else []) rfl (by rw[XX]; omega)) Qd2 ⟨_,_,rfl,(XU (Qa rfl) rfl),⟨_,_,rfl,(Ev.b (Qb rfl)),rfl⟩⟩ rfl rfl rfl) ?_
      iterate 7 refine w_ ?_
      have hb9:(decide (((QZ Qm (if SgOk aC then QS aC else []) 1).2) < 0))=false:=hb6
      try rw[hb9]
      iterate 8 refine w_ ?_
      have hb10:(!decide (((QZ Qm (if SgOk aC then QS aC else []) 1).2)=((QZ Qm (if SgOk aC then QS aC else []) 1).2)))=false:=QgY (Qli hb7)
      try rw[hb10]
      iterate 5 refine w_ ?_
      refine Qd ?_
      subst hO
      exact Qg (Qe rfl (Qc rfl)) rfl rfl
     ·have hb7':¬(((QZ Qm (if SgOk aC then QS aC else []) 1).2)=((QZ Qm (if SgOk aC then QS aC else []) 1).2)):=Zq hb7
      iterate 4 refine w_ ?_
      refine Qd ?_
      subst hO
      have e11:(false:Bool)=true:=by
       exfalso; first | omega | (simp at hb10; done)
      exact Qg (Qe rfl (Qc rfl)) ((congrArg (fun z_=>lB z_) e11)) rfl
    ·have hb6':=of_decide_eq_true hb6
     iterate 4 refine w_ ?_
     refine Qd ?_
     subst hO
     have e12:(false:Bool)=true:=by
      exfalso; first | omega | (simp at hb10; done)
     exact Qg (Qe rfl (Qc rfl)) ((congrArg (fun z_=>lB z_) e12)) rfl
   ·have hb4':=of_decide_eq_true hb4
    iterate 15 refine w_ ?_
    refine Qd ?_
    subst hO
    have e13:(false:Bool)=true:=by
     exfalso; first | omega | (simp at hb10; done)
    exact Qg (Qe rfl (Qc rfl)) ((congrArg (fun z_=>lB z_) e13)) rfl
 ·have hb1':=of_decide_eq_true hb1
  iterate 4 refine w_ ?_
  refine Qd ?_
  subst hO
  exact Qg (Qe rfl (Qc rfl)) rfl rfl
theorem WT (aC:(List (ByteArray×Int))×List ByteArray×(List (Int×Int×Bool×Int))):FC Tryz.prog 5 [(true,[.dat (.sl 153 (.pr .str .int)) aC.1, .dat (.sl 9 .str) aC.2.1, .dat (.sl 181 (.pr .int (.pr .int (.pr .bool .int)))) aC.2.2])] [] 0 (Zo (lB true)):=by
 classical
 have hs:=KC 1048576 (Ty.tot Zf aC)
 have ht:Ty.tot Z8 aC=Ty.tot Zf aC:=rfl
 have hq:=Qhi aC
 have hc:=Qi1 aC 1
 refine QM Tryz.func5 rfl rfl Tryz.ntmps5 fun O_ hO w0_ N0_ X_ h0_ f0_=> ?_
 refine w_ ?_
 refine lc (Qo 0 (Qb rfl) rfl rfl (Fresh.of rfl) (nlr rfl)) ?_
 iterate 8 refine w_ ?_
 refine lc (Qf (WZ aC 1048576 (by omega) (by omega)) Qab ⟨_,_,rfl,(Qb rfl),⟨_,_,rfl,(Qb rfl),rfl⟩⟩ rfl rfl) ?_
 iterate 7 refine w_ ?_
 cases hb1:(decide ((szv 1048576 (Ty.tot Zf aC)) < 0))
 ·have hb1':=of_decide_eq_false hb1
  iterate 4 refine w_ ?_
  refine lc (Zu 1 (ZH aC (by omega)) Xb ⟨_,_,rfl,(Qb rfl),rfl⟩ rfl rfl ⟨Fresh.of rfl,Fresh.of rfl,Fresh.of rfl,trivial⟩ (nlr rfl))<|lc (Zj (Km aC) Qkd ⟨_,_,rfl,(Wl (Qb rfl) ⟨_,_,rfl, .inr ⟨_,_,_,_,rfl,rfl,rfl⟩,⟨_,_,rfl, .inr ⟨_,_,_,_,rfl,rfl,rfl⟩,⟨_,_,rfl, .inr ⟨_,_,_,_,rfl,rfl,rfl⟩,rfl⟩⟩⟩),rfl⟩ rfl rfl rfl) ?_
  iterate 3 refine w_ ?_
  refine lc (Qt 4 (.pr (.pr .int .bool) (.pr .int .bool)) Wu rfl rfl (Fresh.of rfl) (nlr rfl))<|lc (Qh (Qa rfl) rfl (Qb rfl) rfl ZK rfl) ?_
  iterate 4 refine w_ ?_
  refine lc (Zu 5 (ZH aC (by omega)) Xb ⟨_,_,rfl,(Qb rfl),rfl⟩ rfl rfl ⟨Fresh.of rfl,Fresh.of rfl,Fresh.of rfl,trivial⟩ (nlr rfl))<|lc (Qt 8 (.pr (.sl 145 (.pr .str .int)) (.pr (.sl 9 .str) (.sl 179 (.pr .int (.pr .int (.pr .bool .int)))))) Xd rfl rfl (Fresh.of rfl) (nlr rfl))<|lc (Qh (Qa rfl) rfl (Qb rfl) rfl QU rfl) ?_
  iterate 3 refine w_ ?_
  refine lc (Zj (Ko aC) Qlc ⟨_,_,rfl,(Wl (Qb rfl) ⟨_,_,rfl, .inr ⟨_,_,_,_,rfl,rfl,rfl⟩,⟨_,_,rfl, .inr ⟨_,_,_,_,rfl,rfl,rfl⟩,⟨_,_,rfl, .inr ⟨_,_,_,_,rfl,rfl,rfl⟩,rfl⟩⟩⟩),rfl⟩ rfl rfl rfl) ?_
  iterate 3 refine w_ ?_
  refine lc (Qt 9 (.pr (.pr .int .bool) (.pr .int .bool)) Wu rfl rfl (Fresh.of rfl) (nlr rfl))<|lc (Qh (Qa rfl) rfl (Qb rfl) rfl ZK rfl) ?_
  iterate 6 refine w_ ?_
  refine lc (Qf (W1 (ZN aC) (ZN aC) rfl) Qel ⟨_,_,rfl,(Qb rfl),⟨_,_,rfl,(Qb rfl),rfl⟩⟩ rfl rfl) ?_
  iterate 4 refine w_ ?_
  refine lgy rfl rfl (Y6 (Qa rfl) (Qa rfl) rfl Vh) ?_
  iterate 2 refine w_ ?_
  cases hb2:((Qbi aC)==(Qbi aC))
  ·iterate 4 refine w_ ?_
   refine Qd ?_
   subst hO
   have e3:(false:Bool)=true:=by
    exfalso; first | omega | (simp at hb2; done)
   exact Qg (Qe rfl (Qc rfl)) ((congrArg (fun z_=>lB z_) e3)) rfl
  ·iterate 3 refine w_ ?_
   refine dw [io 36 (ag [.ref 5, .ref 6, .ref 7]),io 37 (ag [.dat (.sl 153 (.pr .str .int)) aC.1, .dat (.sl 9 .str) aC.2.1, .dat (.sl 181 (.pr .int (.pr .int (.pr .bool .int)))) aC.2.2]),⟨some 38,ag [.ref 10, .ref 11, .ref 12],[(10,some (.arr 145 (.pr .str .int) aC.1)),(11,some (.arr 9 .str aC.2.1)),(12,some (.arr 179 (.pr .int (.pr .int (.pr .bool .int))) aC.2.2))]⟩,io 39 (lB true),io 40 (lB false)] [0,0,2,7,15] mixed rfl (by kernel_rfl) ⟨dxa QU rfl rfl rfl rfl,dxa Qfs rfl rfl rfl rfl,fun _ h_=>ac (Zu 10 (ZH aC (by omega)) Xb ⟨_,_,rfl,(h_.w rfl),rfl⟩ rfl rfl ⟨(h_.fr 10 rfl),(h_.fr 11 rfl),(h_.fr 12 rfl),trivial⟩ (nlr rfl)) rfl,fun _ h_=>ac (Zj (WV aC aC rfl) QaG ⟨_,_,rfl,(Wl (h_.w rfl) ⟨_,_,rfl, .inr ⟨_,_,_,_,rfl,(h_.n 5 rfl),rfl⟩,⟨_,_,rfl, .inr ⟨_,_,_,_,rfl,(h_.n 6 rfl),rfl⟩,⟨_,_,rfl, .inr ⟨_,_,_,_,rfl,(h_.n 7 rfl),rfl⟩,rfl⟩⟩⟩),⟨_,_,rfl,(Wl (h_.w rfl) ⟨_,_,rfl, .inr ⟨_,_,_,_,rfl,(h_.n 10 rfl),rfl⟩,⟨_,_,rfl, .inr ⟨_,_,_,_,rfl,(h_.n 11 rfl),rfl⟩,⟨_,_,rfl, .inr ⟨_,_,_,_,rfl,(h_.n 12 rfl),rfl⟩,rfl⟩⟩⟩),rfl⟩⟩ rfl rfl rfl) rfl,fun _ h_=>ac (Zy (h_.v rfl) rfl) rfl,⟨⟩⟩ ?_
   iterate 5 refine w_ ?_
   refine Qd ?_
   subst hO
   exact Qg (Qe rfl (Qc rfl)) rfl rfl
 ·have hb1':=of_decide_eq_true hb1
  iterate 4 refine w_ ?_
  refine Qd ?_
  subst hO
  exact Qg (Qe rfl (Qc rfl)) rfl rfl
end Go.Proofs.YtnakmhfjafecpaaGreat
