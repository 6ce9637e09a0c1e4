/- laws.FnExactCandidateInsertions and laws.FnExactBestInsertion walked. -/
import Derived.Test.YtnakmhfjafecpaaGreatTb
import Derived.Test.YtnakmhfjafecpaaGreatAg
import Derived.Test.YtnakmhfjafecpaaGreatBp
set_option linter.unusedSimpArgs false
set_option linter.unusedVariables false
set_option linter.unusedSectionVars false
namespace Go.Proofs.YtnakmhfjafecpaaGreat
open Go.RowKit
set_option maxRecDepth 100000
set_option maxHeartbeats 4000000
theorem Qo0 {α:Type}{x y:List α}{k:Nat}{a b:α}(h:x=y)(h1:x[k]? =some a)(h2:y[k]? =some b):a=b:=by
  rw[h,h2] at h1; exact (Option.some.inj h1).symm
theorem Kg (x:Int×Bool)(y:Int×Bool)(h:x=y):FC Tryz.prog 84 [(true,[dI x.1,dB x.2]),(true,[dI y.1,dB y.2])] [] 0 (Zy (lB true)):=by
 refine QQ Tryz.func84 rfl rfl Tryz.ntmps84 fun O_ hO w0_ N0_ X_ h0_ f0_=> ?_
 refine AC.fact (Q3 (x:= .tmp 0) (i:=0) (Qb rfl) rfl) fun hi1=>AC.fact (Q3 (x:= .tmp 1) (i:=0) (Qb rfl) rfl) fun hi2=> ?_
 refine w_ ?_
 refine lc (Qr 0 (Qb rfl) rfl rfl (Fresh.of rfl) (nlr rfl))<|lc (Qr 1 (Qb rfl) rfl rfl (Fresh.of rfl) (nlr rfl)) ?_
 iterate 10 refine w_ ?_
 cases hb3:(!decide (x.1=y.1))
 ·have hb3':(x.1=y.1):=Ze hb3
  iterate 8 refine w_ ?_
  refine lc (XC (Qa rfl) (Qa rfl) rfl VV) ?_
  refine w_ ?_
  cases hb4:(x.2==y.2)
  ·iterate 4 refine w_ ?_
   refine Qe ?_
   subst hO
   have e5:(false:Bool)=true:=by
    (exfalso; subst h; simp_all; done)
   exact Qg (Qd rfl (Qc rfl)) ((congrArg (fun z_=>lB z_) e5)) rfl
  ·iterate 5 refine w_ ?_
   refine Qe ?_
   subst hO
   exact Qg (Qd rfl (Qc rfl)) rfl rfl
 ·have hb3':¬(x.1=y.1):=Zp hb3
  iterate 4 refine w_ ?_
  refine Qe ?_
  subst hO
  have e6:(false:Bool)=true:=by
   (exfalso; subst h; simp_all; done)
  exact Qg (Qd rfl (Qc rfl)) ((congrArg (fun z_=>lB z_) e6)) rfl
theorem Jh (x:(Int×Bool)×(Int×Bool))(y:(Int×Bool)×(Int×Bool))(h:x=y):FC Tryz.prog 28 [(true,[dI x.1.1,dB x.1.2,dI x.2.1,dB x.2.2]),(true,[dI y.1.1,dB y.1.2,dI y.2.1,dB y.2.2])] [] 0 (Zy (lB true)):=by
 refine QQ Tryz.func28 rfl rfl Tryz.ntmps28 fun O_ hO w0_ N0_ X_ h0_ f0_=> ?_
 refine AC.fact (Q3 (x:= .tmp 0) (i:=0) (Qb rfl) rfl) fun hi1=>AC.fact (Q3 (x:= .tmp 0) (i:=2) (Qb rfl) rfl) fun hi2=>AC.fact (Q3 (x:= .tmp 1) (i:=0) (Qb rfl) rfl) fun hi3=>AC.fact (Q3 (x:= .tmp 1) (i:=2) (Qb rfl) rfl) fun hi4=> ?_
 refine w_ ?_
 refine lc (Qr 0 (Qb rfl) rfl rfl (Fresh.of rfl) (nlr rfl))<|lc (Qr 1 (Qb rfl) rfl rfl (Fresh.of rfl) (nlr rfl)) ?_
 iterate 8 refine w_ ?_
 refine lc (Qh (Kg x.1 y.1 (by rw[h])) QdN ⟨_,_,rfl,(Qb rfl),⟨_,_,rfl,(Qb rfl),rfl⟩⟩ rfl rfl) ?_
 iterate 10 refine w_ ?_
 refine lc (Qh (Kg x.2 y.2 (by rw[h])) QdN ⟨_,_,rfl,(Qb rfl),⟨_,_,rfl,(Qb rfl),rfl⟩⟩ rfl rfl) ?_
 iterate 7 refine w_ ?_
 refine Qe ?_
 subst hO
 exact Qg (Qd rfl (Qc rfl)) rfl rfl
theorem Xv (x:List ((Int×Bool)×(Int×Bool)))(y:List ((Int×Bool)×(Int×Bool)))(h:x=y):FC Tryz.prog 31 [(false,[.dat (.sl 63 (.pr (.pr .int .bool) (.pr .int .bool))) x]),(false,[.dat (.sl 63 (.pr (.pr .int .bool) (.pr .int .bool))) y])] [] 0 (Zy (lB true)):=by
 have hlx:x.length=y.length:=by rw[h]
 refine QQ Tryz.func31 rfl rfl Tryz.ntmps31 fun O_ hO w0_ N0_ X_ h0_ f0_=> ?_
 iterate 6 refine w_ ?_
 refine AL.fact (QB (x:= .tmp 6) (Qa rfl)) fun hl1=> ?_
 iterate 2 refine w_ ?_
 refine AL.fact (QB (x:= .tmp 8) (Qa rfl)) fun hl2=> ?_
 iterate 3 refine w_ ?_
 cases hb3:(!decide ((x.length:Int)=(y.length:Int)))
 ·have hb3':((x.length:Int)=(y.length:Int)):=Ze hb3
  iterate 7 refine w_ ?_
  refine Qy (fun m_ s_=>∃(k:Nat),k≤x.length∧m_=x.length - k∧s_=⟨[(0,lf (.dat (.sl 63 (.pr (.pr .int .bool) (.pr .int .bool))) x)),(1,lf (.dat (.sl 63 (.pr (.pr .int .bool) (.pr .int .bool))) y)),(5,lI (k:Int))],[]⟩) ⟨0,Nat.zero_le _,rfl,rfl⟩ ?_ ?_
  · exact Wk.of [] rfl ⟨rfl,rfl,rfl,trivial⟩ trivial rfl rfl
  rintro m_ s_ ⟨k,hk4,hm5,rfl⟩
  iterate 4 refine w_ ?_
  refine AL.fact (QB (x:= .tmp 12) (Qa rfl)) fun hl6=> ?_
  iterate 3 refine w_ ?_
  cases hb7:(decide ((k:Int) < (x.length:Int)))
  ·have hb7':=of_decide_eq_false hb7
   refine w_ ?_
   refine QA ?_
   refine (?_:AC _ _ _ _ _)
   iterate 3 refine w_ ?_
   refine Qe ?_
   subst hO
   exact Qg (Qd rfl (Qc rfl)) rfl rfl
  ·have hb7':=of_decide_eq_true hb7
   iterate 4 refine w_ ?_
   obtain ⟨a,hx9⟩:∃z,x[k]? =some z:=⟨_,List.getElem?_eq_getElem (by omega)⟩
   obtain ⟨b,hx11⟩:∃z,y[k]? =some z:=⟨_,List.getElem?_eq_getElem (by omega)⟩
   refine dw [io 17 (lf (.dat (.sl 63 (.pr (.pr .int .bool) (.pr .int .bool))) x)),io 18 (lI (k:Int)),io 19 (lf (.elt (.pr (.pr .int .bool) (.pr .int .bool)) a 0)),io 20 (ag [dI a.1.1,dB a.1.2,dI a.2.1,dB a.2.2]),io 21 (lf (.dat (.sl 63 (.pr (.pr .int .bool) (.pr .int .bool))) y)),io 22 (lI (k:Int)),io 23 (lf (.elt (.pr (.pr .int .bool) (.pr .int .bool)) b 0)),io 24 (ag [dI b.1.1,dB b.1.2,dI b.2.1,dB b.2.2]),io 25 (lB true),io 26 (lB false)] [0,0,3,7,0,0,48,112,255,511] mixed rfl (by kernel_rfl) ⟨dxm rfl rfl,dxm rfl rfl,fun _ h_=>ac (Qm (h_.v rfl) (h_.v rfl) Xk Yt rfl (by omega) hx9) rfl,fun _ h_=>ac (KD (h_.v rfl) Yt rfl rfl) rfl,dxm rfl rfl,dxm rfl rfl,fun _ h_=>ac (Qm (h_.v rfl) (h_.v rfl) Xk Yt rfl (by omega) hx11) rfl,fun _ h_=>ac (KD (h_.v rfl) Yt rfl rfl) rfl,fun _ h_=>ac (Qh (Jh a b (Qo0 h hx9 hx11)) Qk3 ⟨_,_,rfl,(h_.w rfl),⟨_,_,rfl,(h_.w rfl),rfl⟩⟩ rfl rfl) rfl,fun _ h_=>ac (ZK (h_.v rfl) rfl) rfl,⟨⟩⟩ ?_
   refine w_ ?_
   refine AC.skip ?_
   refine (?_:AC _ _ _ _ _)
   iterate 4 refine w_ ?_
   refine Qj<|QS ⟨k+1,by omega,rfl,rfl⟩ (by omega) ?_
   exact Wk.of [] rfl ⟨rfl,rfl,rfl,trivial⟩ trivial rfl rfl
 ·have hb3':¬((x.length:Int)=(y.length:Int)):=Zp hb3
  iterate 4 refine w_ ?_
  refine Qe ?_
  subst hO
  have e12:(false:Bool)=true:=by
   (exfalso; simp_all; done)
  exact Qg (Qd rfl (Qc rfl)) ((congrArg (fun z_=>lB z_) e12)) rfl
@[reducible] def Qn:(Y5)→Int→(Y5)×Int:=fun _ k=>(((k,decide ((k+1) % 3=0)),(k+1+1,decide ((k+1+1+1) % 3=0))),k+1+1+1+1)
theorem Jr:∀(x:(Y5)) (k:Int),(Qn x k).2=k+((fun _=>4:(Y5)→Nat) x:Nat):=fun _ k=>by show k+1+1+1+1=k+((4:Nat):Int); omega
theorem Ki (a:List (Y5)):(a.map fun _=>4).sum=4*a.length:=by
  induction a with
  | nil=>rfl
  | cons x xs ih=>simp[ih]; omega
theorem VR (a:List (Y5))(k:Int)(i:Nat):k≤mkC Qn a k i∧mkC Qn a k i≤k+4*a.length:=by
  have:=QeI _ Jr a k i
  rw[Ki] at this
  omega
theorem Vb {l:List (Y5)}{k:Int}{i:Nat}(h:i < l.length):mkC Qn l k i+1+1+1+1=mkC Qn l k (i+1):=by rw[H8 (List.getElem?_eq_getElem h)]
theorem J2 (l:List (Y5))(k:Int):(QN Qn l k).2=k+4*l.length:=by rw[Hp _ Jr,Ki]; omega
theorem UX (a:List ((Int×Bool)×(Int×Bool)))(k:Int)(hk:0≤k∧k+4*a.length≤1000000000):FC Tryz.prog 33 [(false,[.ref 0]),(false,[dI k])] [(0,some (.arr 63 (.pr (.pr .int .bool) (.pr .int .bool)) a))] 1 (Is (lI ((QN Qn a k).2)) [(0,some (.arr 63 (.pr (.pr .int .bool) (.pr .int .bool)) ((QN Qn a k).1)))]):=by
 refine QQ Tryz.func33 rfl rfl Tryz.ntmps33 fun O_ hO w0_ N0_ X_ h0_ f0_=> ?_
 refine AC.fact (Qs (x:= .tmp 1) (Qa rfl)) fun hi1=> ?_
 iterate 8 refine w_ ?_
 refine Qy (fun m_ s_=>∃(i:Nat),i≤a.length∧m_=a.length - i∧s_=⟨[(0,lR 0),(1,lI (mkC Qn a k i)),(4,lI 0),(5,lI (i:Int))],[(0,some (.arr 63 (.pr (.pr .int .bool) (.pr .int .bool)) (mkA Qn a k i)))]⟩) ⟨0,Nat.zero_le _,rfl,rfl⟩ ?_ ?_
 · exact Wk.of [(0,0)] rfl ⟨rfl,(show some (lI k)=some (lI (mkC Qn a k 0)) from congrArg (fun z_=>some (lI z_)) (by rw[Qa8])),rfl,rfl,trivial⟩ ⟨(Qv (Qjj Qn a k)),trivial⟩ rfl rfl
 rintro m_ s_ ⟨i,hk3,hm4,rfl⟩
 have hml:=J8 Qn a k i
 have hmc:=VR a k i
 iterate 7 refine w_ ?_
 cases hb5:(decide ((i:Int) < ((mkA Qn a k i).length:Int)))
 ·have hb5':=of_decide_eq_false hb5
  refine w_ ?_
  refine QA ?_
  refine (?_:AC _ _ _ _ _)
  iterate 4 refine w_ ?_
  refine Qe ?_
  subst hO
  have e6:(mkC Qn a k i:Int)=((QN Qn a k).2):=by
   (rw[VU _ (by omega)]; done)
  exact Q2 _ _ [(0,0)] (Qd rfl (Qc rfl)) ((congrArg (fun z_=>lI z_) e6)) ⟨(Qv (by (rw[QbG _ (by omega)]; done))),trivial⟩ rfl rfl
 ·have hb5':=of_decide_eq_true hb5
  iterate 8 refine w_ ?_
  refine lc (Qq (e:=(.pr (.pr .int .bool) (.pr .int .bool))) (Qa rfl) rfl (Qa rfl) Xk Yt rfl (by omega) (by first | omega | (simp only[List.length_set]; omega))) ?_
  iterate 2 refine w_ ?_
  obtain ⟨x7,hx8⟩:∃z,(mkA Qn a k i)[i]? =some z:=⟨_,List.getElem?_eq_getElem (by omega)⟩
  refine lc (Q5 (e:=(.pr (.pr .int .bool) (.pr .int .bool))) (z':=((mkC Qn a k i,x7.1.2),x7.2)) (Qa rfl) rfl hx8 rfl (Qb rfl) rfl QD rfl rfl) ?_
  iterate 10 refine w_ ?_
  refine lc (WV (Qa rfl) (QE rfl) rfl (by omega) (by omega)) ?_
  refine w_ ?_
  refine lc (Qq (e:=(.pr (.pr .int .bool) (.pr .int .bool))) (Qa rfl) rfl (Qa rfl) Xk Yt rfl (by omega) (by first | omega | (simp only[List.length_set]; omega))) ?_
  iterate 2 refine w_ ?_
  refine lc (Q5 (e:=(.pr (.pr .int .bool) (.pr .int .bool))) (z':=(((((mkC Qn a k i,x7.1.2),x7.2).1).1,decide ((((mkC Qn a k i)+1) % 3)=0)),(((mkC Qn a k i,x7.1.2),x7.2).2))) (Qa rfl) rfl (List.getElem?_set_self (by first | omega | (simp only[List.length_set]; omega))) rfl (Qb rfl) rfl ZH rfl rfl) ?_
  iterate 10 refine w_ ?_
  refine lc (Qq (e:=(.pr (.pr .int .bool) (.pr .int .bool))) (Qa rfl) rfl (Qa rfl) Xk Yt rfl (by omega) (by first | omega | (simp only[List.length_set]; omega))) ?_
  iterate 2 refine w_ ?_
  refine lc (Q5 (e:=(.pr (.pr .int .bool) (.pr .int .bool))) (z':=(((((((mkC Qn a k i,x7.1.2),x7.2).1).1,decide ((((mkC Qn a k i)+1) % 3)=0)),(((mkC Qn a k i,x7.1.2),x7.2).2)).1),(((mkC Qn a k i)+1)+1,((((((mkC Qn a k i,x7.1.2),x7.2).1).1,decide ((((mkC Qn a k i)+1) % 3)=0)),(((mkC Qn a k i,x7.1.2),x7.2).2)).2).2))) (Qa rfl) rfl (List.getElem?_set_self (by first | omega | (simp only[List.length_set]; omega))) rfl (Qb rfl) rfl QD rfl rfl) ?_
  iterate 10 refine w_ ?_
  refine lc (WV (Qa rfl) (QE rfl) rfl (by omega) (by omega)) ?_
  refine w_ ?_
  refine lc (Qq (e:=(.pr (.pr .int .bool) (.pr .int .bool))) (Qa rfl) rfl (Qa rfl) Xk Yt rfl (by omega) (by first | omega | (simp only[List.length_set]; omega))) ?_
  iterate 2 refine w_ ?_
  refine lc (Q5 (e:=(.pr (.pr .int .bool) (.pr .int .bool))) (z':=(((((((((mkC Qn a k i,x7.1.2),x7.2).1).1,decide ((((mkC Qn a k i)+1) % 3)=0)),(((mkC Qn a k i,x7.1.2),x7.2).2)).1),(((mkC Qn a k i)+1)+1,((((((mkC Qn a k i,x7.1.2),x7.2).1).1,decide ((((mkC Qn a k i)+1) % 3)=0)),(((mkC Qn a k i,x7.1.2),x7.2).2)).2).2)).1),(((((((((mkC Qn a k i,x7.1.2),x7.2).1).1,decide ((((mkC Qn a k i)+1) % 3)=0)),(((mkC Qn a k i,x7.1.2),x7.2).2)).1),(((mkC Qn a k i)+1)+1,((((((mkC Qn a k i,x7.1.2),x7.2).1).1,decide ((((mkC Qn a k i)+1) % 3)=0)),(((mkC Qn a k i,x7.1.2),x7.2).2)).2).2)).2).1,decide ((((((mkC Qn a k i)+1)+1)+1) % 3)=0)))) (Qa rfl) rfl (List.getElem?_set_self (by first | omega | (simp only[List.length_set]; omega))) rfl (Qb rfl) rfl ZH rfl rfl) ?_
  iterate 5 refine w_ ?_
  refine Qj ?_
  refine (?_:AC _ _ _ _ _)
  iterate 4 refine w_ ?_
  refine Qj<|QS ⟨i+1,by omega,rfl,rfl⟩ (by omega) ?_
  exact Wk.of [(0,0)] rfl ⟨rfl,(show some (lI (((((mkC Qn a k i)+1)+1)+1)+1))=some (lI (mkC Qn a k (i+1))) from congrArg (fun z_=>some (lI z_)) (Vb (by omega))),rfl,rfl,trivial⟩ ⟨(Qv (by rw[List.set_set,List.set_set,List.set_set]; exact H2 (f:=Qn) (Ha hx8))),trivial⟩ rfl rfl
theorem Wl (a:List ((Int×Bool)×(Int×Bool)))(k:Int)(l:List (Y5))(hm:a=(QN Qn l k).1)(hk:0≤k∧k+4*a.length≤1000000000):FC Tryz.prog 34 [(false,[.dat (.sl 63 (.pr (.pr .int .bool) (.pr .int .bool))) a]),(false,[dI k])] [] 0 (Zy (lI ((QN Qn l k).2))):=by
 have hla:a.length=l.length:=by rw[hm,Ys]
 refine QQ Tryz.func34 rfl rfl Tryz.ntmps34 fun O_ hO w0_ N0_ X_ h0_ f0_=> ?_
 refine AC.fact (Qs (x:= .tmp 1) (Qa rfl)) fun hi1=> ?_
 iterate 8 refine w_ ?_
 refine Qy (fun m_ s_=>∃(i:Nat),i≤a.length∧m_=a.length - i∧s_=⟨[(0,lf (.dat (.sl 63 (.pr (.pr .int .bool) (.pr .int .bool))) a)),(1,lI (mkC Qn l k i)),(5,lI (i:Int))],[]⟩) ⟨0,Nat.zero_le _,rfl,rfl⟩ ?_ ?_
 · exact Wk.of [] rfl ⟨rfl,(show some (lI k)=some (lI (mkC Qn l k 0)) from congrArg (fun z_=>some (lI z_)) (by rw[Qa8])),rfl,trivial⟩ trivial rfl rfl
 rintro m_ s_ ⟨i,hk3,hm4,rfl⟩
 have hmc:=VR l k i
 iterate 4 refine w_ ?_
 refine AL.fact (QB (x:= .tmp 7) (Qa rfl)) fun hl5=> ?_
 iterate 3 refine w_ ?_
 cases hb6:(decide ((i:Int) < (a.length:Int)))
 ·have hb6':=of_decide_eq_false hb6
  refine w_ ?_
  refine QA ?_
  refine (?_:AC _ _ _ _ _)
  iterate 4 refine w_ ?_
  refine Qe ?_
  subst hO
  have e7:(mkC Qn l k i:Int)=((QN Qn l k).2):=by
   (rw[VU _ (by omega)]; done)
  exact Qg (Qd rfl (Qc rfl)) ((congrArg (fun z_=>lI z_) e7)) rfl
 ·have hb6':=of_decide_eq_true hb6
  iterate 8 refine w_ ?_
  obtain ⟨x8,hx9⟩:∃z,a[i]? =some z:=⟨_,List.getElem?_eq_getElem (by omega)⟩
  have hv0x8:x8.1.1=mkC Qn l k i:=by obtain ⟨_,_,h⟩:=Wo hm hx9; rw[h]
  have hv1x8:x8.1.2=decide ((mkC Qn l k i+1) % 3=0):=by obtain ⟨_,_,h⟩:=Wo hm hx9; rw[h]
  have hv2x8:x8.2.1=mkC Qn l k i+1+1:=by obtain ⟨_,_,h⟩:=Wo hm hx9; rw[h]
  have hv3x8:x8.2.2=decide ((mkC Qn l k i+1+1+1) % 3=0):=by obtain ⟨_,_,h⟩:=Wo hm hx9; rw[h]
  refine lc (Qm (Qa rfl) (Qa rfl) Xk Yt rfl (by omega) hx9) ?_
  iterate 3 refine w_ ?_
  refine AL.fact (Qs (x:= .tmp 17) (Qa rfl)) fun hi10=> ?_
  iterate 3 refine w_ ?_
  cases hb11:(!decide (x8.1.1=(mkC Qn l k i)))
  ·have hb11':(x8.1.1=(mkC Qn l k i)):=Ze hb11
   iterate 11 refine w_ ?_
   refine lc (Qm (Qa rfl) (Qa rfl) Xk Yt rfl (by omega) hx9) ?_
   iterate 4 refine w_ ?_
   refine lc (WV (Qa rfl) (QE rfl) rfl (by omega) (by omega)) ?_
   refine w_ ?_
   refine lc (XC (Qa rfl) (Qa rfl) rfl VV) ?_
   refine w_ ?_
   cases hb12:(x8.1.2==(decide ((((mkC Qn l k i)+1) % 3)=0)))
   ·iterate 4 refine w_ ?_
    refine Qe ?_
    subst hO
    have e13:((-1):Int)=((QN Qn l k).2):=by
     (exfalso; simp_all; done)
    exact Qg (Qd rfl (Qc rfl)) ((congrArg (fun z_=>lI z_) e13)) rfl
   ·iterate 11 refine w_ ?_
    refine lc (Qm (Qa rfl) (Qa rfl) Xk Yt rfl (by omega) hx9) ?_
    iterate 3 refine w_ ?_
    refine AL.fact (Qs (x:= .tmp 39) (Qa rfl)) fun hi14=> ?_
    iterate 3 refine w_ ?_
    cases hb15:(!decide (x8.2.1=(((mkC Qn l k i)+1)+1)))
    ·have hb15':(x8.2.1=(((mkC Qn l k i)+1)+1)):=Ze hb15
     iterate 11 refine w_ ?_
     refine lc (Qm (Qa rfl) (Qa rfl) Xk Yt rfl (by omega) hx9) ?_
     iterate 4 refine w_ ?_
     refine lc (WV (Qa rfl) (QE rfl) rfl (by omega) (by omega)) ?_
     refine w_ ?_
     refine lc (XC (Qa rfl) (Qa rfl) rfl VV) ?_
     refine w_ ?_
     cases hb16:(x8.2.2==(decide ((((((mkC Qn l k i)+1)+1)+1) % 3)=0)))
     ·iterate 4 refine w_ ?_
      refine Qe ?_
      subst hO
      have e17:((-1):Int)=((QN Qn l k).2):=by
       (exfalso; simp_all; done)
      exact Qg (Qd rfl (Qc rfl)) ((congrArg (fun z_=>lI z_) e17)) rfl
     ·iterate 6 refine w_ ?_
      refine Qj ?_
      refine (?_:AC _ _ _ _ _)
      iterate 4 refine w_ ?_
      refine Qj<|QS ⟨i+1,by omega,rfl,rfl⟩ (by omega) ?_
      exact Wk.of [] rfl ⟨rfl,(show some (lI (((((mkC Qn l k i)+1)+1)+1)+1))=some (lI (mkC Qn l k (i+1))) from congrArg (fun z_=>some (lI z_)) (Vb (by omega))),rfl,trivial⟩ trivial rfl rfl
    ·have hb15':¬(x8.2.1=(((mkC Qn l k i)+1)+1)):=Zp hb15
     iterate 4 refine w_ ?_
     refine Qe ?_
     subst hO
     have e19:((-1):Int)=((QN Qn l k).2):=by
      (exfalso; omega)
     exact Qg (Qd rfl (Qc rfl)) ((congrArg (fun z_=>lI z_) e19)) rfl
  ·have hb11':¬(x8.1.1=(mkC Qn l k i)):=Zp hb11
   iterate 4 refine w_ ?_
   refine Qe ?_
   subst hO
   have e20:((-1):Int)=((QN Qn l k).2):=by
    (exfalso; omega)
   exact Qg (Qd rfl (Qc rfl)) ((congrArg (fun z_=>lI z_) e20)) rfl
end Go.Proofs.YtnakmhfjafecpaaGreat
namespace Go.Proofs.YtnakmhfjafecpaaGreat
open Go.RowKit
@[reducible] def Ex {X:Type} (Q:X→Prop) (pv:X→PV) (T:X→Tab):PV→Tab→Prop:=fun p T'=>∃x,Q x∧p=pv x∧T'=T x
section
variable {A:Amb}{P:Program}{s:St}{f:FuncId}{xs:List Operand}{tys:Array TypeId}{args:List (Bool×List LV)}{d:Nat}{ty:TypeId}{pos:String}{af:Array Edge}{g:Option (Nat×Bool)}{T:Tab}{k:Nat}
  {X:Type} {Qx:X→Prop} {pv:X→PV} {T':X→Tab} {ops:Array Oper} {l:List Oper} {Q:Exit→St→Prop}
end
section
variable {A:Amb}{P:Program}{s:St}{f:FuncId}{xs:List Operand}{tys:Array TypeId}{args:List (Bool×List LV)}{d:Nat}{ty T:TypeId}{pos:String}{af:Array Edge}{g:Option (Nat×Bool)}
  {X:Type} {Qx:X→Prop} {pv:X→PV} {ops:Array Oper} {l:List Oper} {Q:Exit→St→Prop} {x:Operand}
theorem Qd5 (hc:FC P f args [] 0 (Ex Qx pv (fun _=>[])))(hE:Qt P f)(ha:EvLB A s xs args)(ht:∀x,(pv x).tags=[])(hf:∀x,(pv x).fl=true)(hn:Nat.blt d A.n=true)
    (h:∀x,Qx x→AL A P ops l Q (s.put d (pv x))):AL A P ops (⟨some d, .call ⟨.value (.func f),xs.toArray,tys⟩,ty,pos,af,none⟩ :: l) Q s:=by
  refine QmJ rfl (VS A.k0 hc hE ha ?_ ?_ ?_ (Nat.le_refl _) hn) fun s' h'=> ?_
  · rintro p T ⟨y,_,rfl,rfl⟩; simp[XH,ht y,Yq]
  · rintro p T ⟨y,_,rfl,rfl⟩; simp[hf y,Tab.fl]
  · rintro p T ⟨y,_,rfl,rfl⟩ q hq; exact absurd hq (Yy q)
  · obtain ⟨p, T, ⟨y, hq, rfl, rfl⟩, rfl⟩ := h'
    have:=h y hq
    rw[St.back,PV.ren_id (ht y)]
    exact this
theorem FC.lens {E:TypeId}{e:Ty}{zs:List e.Den}(h:FC P f args [] 0 (Zy (lf (.dat (.sl E e) zs)))):FC P f args [] 0 (Ex (fun v:Value=>∃B c,v= .slice B zs.length c∧zs.length≤maxLen) (fun v=>lf (.val v)) (fun _=>[])):=fun gh w vs cx ha=>
  Calls.mono (h gh w vs cx ha) fun e' w' he=>by
    obtain ⟨v,pv',T',gh',rfl,⟨rfl,rfl⟩,cx',hp,fr,hk⟩:=he
    obtain ⟨u,h2,h3⟩:=hp
    simp only[List.cons.injEq,and_true] at h2
    subst h2
    have h4:Rd gh'.N (.sl E e) w' [v] zs:=h3
    obtain ⟨B,c,h5,h6,h7⟩:=h4.rep.slv
    exact ⟨v,_,[],gh',rfl,⟨v,⟨B,c,h5,by omega⟩,rfl,rfl⟩,cx',⟨_,rfl,rfl⟩,fr,hk⟩
theorem Qd4 {v:Value}{n:Nat}{E:TypeId}(hx:Evl A s x (.val v))(hv:∃B c,v= .slice B n c∧n≤maxLen)(hn:Nat.blt d A.n=true)(hT:P.underlying T=some (.slice E)):
    Does A P ⟨some d, .call ⟨.builtin .len, #[x], #[T]⟩,ty,pos,af,g⟩ s (s.put d (lf (dI n))):=
  Qu rfl hn fun gh a w r=>by
    obtain ⟨B,c,h1,h2⟩:=hv
    have h0:a.eval x=v:=hx gh a w r
    have hE:P.elem T=E:=by simp[Program.elem,hT]
    refine ⟨.int .i64 n, ?_,_,rfl,YA (by unfold maxLen at h2; omega)⟩
    simp only[execOp,resolve,invoke,builtin]
    simp[Go.Sem.run_bind,h0,h1,run_len_slice w T ty B n c (by rw[hE]; exact hT),goInt]
end
end Go.Proofs.YtnakmhfjafecpaaGreat
namespace Go.Proofs.YtnakmhfjafecpaaGreat
open Go.RowKit
structure Opens (t t':Ty) (E:TypeId) (e:Ty) where
  sub:t.Den→Hdr→t'.Den
  get:t'.Den→Hdr
  put:t'.Den→List e.Den→t.Den
  val:t.Den→List e.Den
  wd:t'.wd=t.wd
  h1:∀x z,get (sub x z)=z
  h2:∀x z,put (sub x z) (val x)=x
  own:∀{w:World} {fp:List Nat} {cs:List Value} {x:t.Den},Own t w fp cs x→∃z fg fi,fp.Perm (fg++fi)∧Own t' w fg cs (sub x z)∧Own (.sl E e) w fi [hdV z] (val x)
@[reducible] def JG (E:TypeId) (e:Ty):Opens (.sl E e) .vl E e where
  sub:=fun _ z=>z
  get:=fun z=>z
  put:=fun _ y=>y
  val:=fun x=>x
  wd:=rfl
  h1:=fun _ _=>rfl
  h2:=fun _ _=>rfl
  own:=fun h=>by
    obtain ⟨z,rfl⟩:=QcZ h
    exact ⟨z,[],_,List.Perm.refl _,⟨rfl,rfl⟩,h⟩
@[reducible] def Vl (a:Ty) {b b':Ty} {E:TypeId} {e:Ty} (o:Opens b b' E e):Opens (.pr a b) (.pr a b') E e where
  sub:=fun x z=>(x.1,o.sub x.2 z)
  get:=fun y=>o.get y.2
  put:=fun y l=>(y.1,o.put y.2 l)
  val:=fun x=>o.val x.2
  wd:=by show a.wd+b'.wd=a.wd+b.wd; rw[o.wd]
  h1:=fun x z=>o.h1 x.2 z
  h2:=fun x z=>Prod.ext rfl (o.h2 x.2 z)
  own:=fun h=>by
    obtain ⟨f1,f2,l,r,rfl,rfl,k1,k2⟩:=h
    obtain ⟨z,fg,fi,p,q1,q2⟩:=o.own k2
    exact ⟨z,f1++fg,fi,by rw[List.append_assoc]; exact p.append_left f1,⟨f1,fg,l,r,rfl,rfl,k1,q1⟩,q2⟩
@[reducible] def Qem (b:Ty) {a a':Ty} {E:TypeId} {e:Ty} (o:Opens a a' E e):Opens (.pr a b) (.pr a' b) E e where
  sub:=fun x z=>(o.sub x.1 z,x.2)
  get:=fun y=>o.get y.1
  put:=fun y l=>(o.put y.1 l,y.2)
  val:=fun x=>o.val x.1
  wd:=by show a'.wd+b.wd=a.wd+b.wd; rw[o.wd]
  h1:=fun x z=>o.h1 x.1 z
  h2:=fun x z=>Prod.ext (o.h2 x.1 z) rfl
  own:=fun h=>by
    obtain ⟨f1,f2,l,r,rfl,rfl,k1,k2⟩:=h
    obtain ⟨z,fg,fi,p,q1,q2⟩:=o.own k1
    refine ⟨z,fg++f2,fi,(p.append_right f2).trans ?_,⟨fg,f2,l,r,rfl,rfl,q1,k2⟩,q2⟩
    rw[List.append_assoc,List.append_assoc]
    exact (List.perm_append_comm).append_left fg
section
variable {t t' e:Ty}{E E':TypeId}{w:World}
theorem Opens.list (o:Opens t t' E' e):∀{xs:List t.Den} {fp:List Nat} {cs:List Value},OwnL (Own t w) fp cs xs→
    ∃(ys:List t'.Den) (fg fi:List Nat),fp.Perm (fg++fi)∧ys.length=xs.length∧OwnL (Own t' w) fg cs ys∧OwnL (Own (.sl E' e) w) fi ((ys.map o.get).map hdV) ((ys.map o.get).map (rdF E' e w))∧(ys.map fun y=>o.put y (rdF E' e w (o.get y)))=xs
  | [],fp,cs,h=>⟨[],[],[],by rw[h.1]; exact List.Perm.refl _,rfl,⟨rfl,h.2⟩,⟨rfl,rfl⟩,rfl⟩
  | x :: xs,fp,cs,h=>by
    obtain ⟨f1,f2,c1,c2,rfl,rfl,h3,h4⟩:=h
    obtain ⟨z,fg1,fi1,p1,a1,b1⟩:=o.own h3
    obtain ⟨ys,fg,fi,p,hl,k1,k2,k3⟩:=Opens.list o h4
    refine ⟨o.sub x z :: ys,fg1++fg,fi1++fi,(p1.append p).trans ?_,by rw[List.length_cons,hl,List.length_cons],⟨fg1,fg,c1,c2,rfl,rfl,a1,k1⟩, ?_, ?_⟩
    · rw [List.append_assoc, List.append_assoc]
      exact List.Perm.append_left fg1 (List.perm_append_comm_assoc fi1 fg fi)
    · rw [List.map_cons, o.h1]
      exact ⟨fi1,fi,[hdV z],_,rfl,rfl,by rw[Qfp b1.rep]; exact b1,k2⟩
    · rw[List.map_cons,k3,o.h1,Qfp b1.rep,o.h2]
theorem Opens.arr (o:Opens t t' E' e){xs:List t.Den}{fp:List Nat}{v:Value}(h:Own (.sl E t) w fp [v] xs):
    ∃(ys:List t'.Den) (f:Hdr→List e.Den) (fg fi:List Nat),fp.Perm (fg++fi)∧Own (.sl E t') w fg [v] ys∧OwnL (Own (.sl E' e) w) fi ((ys.map o.get).map hdV) ((ys.map o.get).map f)∧(ys.map fun y=>o.put y (f (o.get y)))=xs∧f none=[]:=by
  rcases h with ⟨rfl,h,rfl⟩ | ⟨g,cap,cur,fps,rfl,h1,h2,h3,h4,h5,h6⟩
  · exact ⟨[],fun _=>[],[],[],List.Perm.refl _, .inl ⟨rfl,h,rfl⟩,⟨rfl,rfl⟩,rfl,rfl⟩
  · obtain ⟨ys, fg, fi, p, hl, k1, k2, k3⟩ := o.list h6
    refine ⟨ys,rdF E' e w,g :: fg,fi,p.cons g, .inr ⟨g,cap,cur,fg,rfl,by rw[hl]; exact h1,h2,by rw[hl]; exact h3,h4,by rw[o.wd]; exact h5, ?_⟩,k2,k3,Qfp (x:=[]) (Own.rep (fp:=[]) (.inl ⟨rfl,rfl,rfl⟩))⟩
    rw[hl,o.wd]; exact k1
end
section
variable {A:Amb}{P:Program}{s:St}{Q:Exit→St→Prop}{c:Code}
theorem R.openS {q:Nat}(p:Nat){t t' e:Ty}{E E':TypeId}(o:Opens t t' E' e){xs:List t.Den}{a:Act}{w:World}(he:s.tab.ent q=some (.arr E t xs))(hfr:Fresh s p)(hk:A.k0≤p)(r:R A s a w):
    ∃(ys:List t'.Den) (f:Hdr→List e.Den),(ys.map fun y=>o.put y (f (o.get y)))=xs∧f none=[]∧R A ⟨s.tm,(p,some (.pl true (.sl E' e) (none :: ys.map o.get) f)) :: (q,some (.arr E t' ys)) :: s.tab⟩ a w:=by
  obtain ⟨gh,r⟩:=r
  have hq:s.tab.al q:=⟨_,he⟩
  have hne:q≠p:=fun h=>hfr.al (h▸hq)
  have hO:Own (.sl E t) w (gh.f q) [gh.h q] xs:=r.cx.en q _ he
  obtain ⟨ys,f,fg,fi,h1,h2,h3,h4,h5⟩:=o.arr hO
  have hnd:(fg++fi).Nodup:=h1.nodup_iff.1 (r.cx.nd q hq)
  obtain ⟨n1,n2,n3⟩:=List.nodup_append.1 hnd
  have mg:∀g∈fg,g∈gh.f q:=fun g hg=>h1.mem_iff.2 (List.mem_append_left _ hg)
  have mi:∀g∈fi,g∈gh.f q:=fun g hg=>h1.mem_iff.2 (List.mem_append_right _ hg)
  have hal:∀u,Tab.al ((p,some (.pl true (.sl E' e) (none :: ys.map o.get) f)) :: (q,some (.arr E t' ys)) :: s.tab) u→u=p∨(u≠p∧s.tab.al u):=fun u ⟨x,hx⟩=>by
    by_cases e1:u=p
    · exact .inl e1
    · refine .inr ⟨e1, ?_⟩
      rw[Qp,if_neg e1,Qp] at hx
      by_cases e2:u=q
      · rw[e2]; exact hq
      · rw[if_neg e2] at hx; exact ⟨_,hx⟩
  let gh':Gh:=⟨fun u=>if u=p then .slice none 0 0 else gh.h u,fun u=>if u=p then fi else if u=q then fg else gh.f u,gh.N⟩
  have fq:gh'.f q=fg:=by show (if q=p then fi else if q=q then fg else gh.f q)=fg; rw[if_neg hne,if_pos rfl]
  have fp:gh'.f p=fi:=if_pos rfl
  have fo:∀u,u≠p→u≠q→gh'.f u=gh.f u:=fun u e1 e2=>by show (if u=p then fi else if u=q then fg else gh.f u)=_; rw[if_neg e1,if_neg e2]
  have hh:∀u,u≠p→gh'.h u=gh.h u:=fun u e1=>if_neg e1
  have sub:∀u,u≠p→∀g∈gh'.f u,g∈gh.f u:=fun u e1 g hg=>by
    by_cases e2:u=q
    · rw[e2,fq] at hg; rw[e2]; exact mg g hg
    · rwa [fo u e1 e2] at hg
  have dpq:∀u,u≠p→s.tab.al u→∀g∈gh'.f u,g∉fi:=fun u e1 a1 g hg hgi=>by
    by_cases e2:u=q
    · rw[e2,fq] at hg; exact n3 g hg g hgi rfl
    · rw[fo u e1 e2] at hg; exact r.cx.dj u q a1 hq e2 g hg (mi g hgi)
  refine ⟨ys,f,h4,h5,gh',r.step ⟨fun u x hx=> ?_,fun u u' hu hu' hn g hg hg'=> ?_,fun u hu=> ?_,fun u hu g hg hgN=> ?_,r.cx.nl⟩ (fun u hu=> ?_) (fun g h=>⟨h,rfl⟩) (ZO w) (fun _ _ _=>rfl) (fun g hgN=> .inl hgN) fun u hu g hg=> ?_⟩
  · rw [Qp] at hx
    by_cases e1:u=p
    · rw [if_pos e1] at hx
      cases hx
      rw[e1]
      refine ⟨if_pos rfl, ?_⟩
      rw[fp]; exact ⟨[],fi,[hdV none],_,rfl,rfl,by rw[h5]; exact .inl ⟨rfl,rfl,rfl⟩,h3⟩
    · rw [if_neg e1, Qp] at hx
      by_cases e2:u=q
      · rw [if_pos e2] at hx
        cases hx
        show Own (.sl E t') w (gh'.f u) [gh'.h u] ys
        rw[e2,fq,hh q hne]
        exact h2
      · rw [if_neg e2] at hx
        refine (r.cx.en u x hx).mono (fun r' hr' ha=> ?_) (fun g h=>⟨h,rfl⟩) (hh u e1) (fo u e1 e2) fun _ _=>rfl
        have e3:r'≠p:=fun h=>hfr.en u x hx (h▸hr')
        rcases hal r' ha with h | ⟨_,h⟩
        · exact absurd h e3
        · exact ⟨h,hh r' e3⟩
  · rcases hal u hu with e1 | ⟨e1, a1⟩
    · rcases hal u' hu' with e2 | ⟨e2, a2⟩
      · exact hn (e1.trans e2.symm)
      · rw[e1,fp] at hg; exact dpq u' e2 a2 g hg' hg
    · rcases hal u' hu' with e2 | ⟨e2, a2⟩
      · rw[e2,fp] at hg'; exact dpq u e1 a1 g hg hg'
      · exact r.cx.dj u u' a1 a2 hn g (sub u e1 g hg) (sub u' e2 g hg')
  · rcases hal u hu with e1 | ⟨e1, a1⟩
    · rw[e1,fp]; exact n2
    · by_cases e2 : u = q
      · rw[e2,fq]; exact n1
      · rw[fo u e1 e2]; exact r.cx.nd u a1
  · rcases hal u hu with e1 | ⟨e1, a1⟩
    · rw[e1,fp] at hg; exact r.cx.no q hq g (mi g hg) hgN
    · exact r.cx.no u a1 g (sub u e1 g hg) hgN
  · rcases hal u hu with e1 | ⟨e1, a1⟩
    · rw[e1]; exact .inr ⟨hfr,hk⟩
    · exact .inl ⟨a1,hh u e1,fun _=>rfl⟩
  · rcases hal u hu with e1 | ⟨e1, a1⟩
    · rw[e1,fp] at hg; exact .inr ⟨q,hq,mi g hg⟩
    · exact .inr ⟨u,a1,sub u e1 g hg⟩
theorem AC.openS {q:Nat}(p:Nat){t t' e:Ty}{E E':TypeId}(o:Opens t t' E' e){xs:List t.Den}(he:s.tab.ent q=some (.arr E t xs))(hfr:Fresh s p)(hk:A.k0≤p)
    (k:∀(ys:List t'.Den) (vs:List Hdr) (f:Hdr→List e.Den),vs=none :: ys.map o.get→f none=[]→(ys.map fun y=>o.put y (f (o.get y)))=xs→AC A P c Q ⟨s.tm,(p,some (.pl true (.sl E' e) vs f)) :: (q,some (.arr E t' ys)) :: s.tab⟩):AC A P c Q s:=fun a w r=>by
  obtain ⟨ys,f,h,h0,r'⟩:=R.openS p o he hfr hk r
  exact k ys _ f rfl h0 h a w r'
theorem Rg.take (t:Nat){p:Nat}{E:TypeId}{e:Ty}{vs:List Hdr}{f:Hdr→List e.Den}{z:Hdr}{gh:Gh}{a:Act}{w:World}(hp:s.tab.ent p=some (.pl true (.sl E e) vs f))(hz:z∈vs)(hfr:Fresh s t)(hk:A.k0≤t)(r:Rg A s gh a w):
    ∃gh':Gh,gh'.h t=hdV z∧(∀u,u≠t→gh'.h u=gh.h u)∧Rg A ⟨s.tm,(t,some (.arr E e (f z))) :: (p,none) :: s.tab⟩ gh' a w:=by
  have hpa:s.tab.al p:=⟨_,hp⟩
  have hne:t≠p:=fun h=>hfr.al (h▸hpa)
  obtain ⟨_,h3⟩:=r.cx.en p _ hp
  obtain ⟨fv,m1,m2⟩:=Qck (List.singleton_sublist.2 hz) h3
  obtain ⟨f1,f2,c1,c2,e1,e2,k1,k2⟩:=m2
  have e3:f2=[]:=k2.1
  have e4:c2=[]:=k2.2
  rw[e3,List.append_nil] at e1
  rw[e4,List.append_nil] at e2
  subst e1
  rw[← e2] at k1
  have hO:Own (.sl E e) w fv [hdV z] (f z):=k1
  have mi:∀g∈fv,g∈gh.f p:=fun g hg=>m1.subset hg
  have nv:fv.Nodup:=m1.nodup (r.cx.nd p hpa)
  have hal:∀u,Tab.al ((t,some (.arr E e (f z))) :: (p,none) :: s.tab) u→u=t∨(u≠t∧u≠p∧s.tab.al u):=fun u ⟨x,hx⟩=>by
    by_cases e1:u=t
    · exact .inl e1
    · rw [Qp, if_neg e1, Qp] at hx
      by_cases e2:u=p
      · rw[if_pos e2] at hx; cases hx
      · rw[if_neg e2] at hx; exact .inr ⟨e1,e2,_,hx⟩
  let gh':Gh:=⟨fun u=>if u=t then hdV z else gh.h u,fun u=>if u=t then fv else gh.f u,gh.N⟩
  have ft:gh'.f t=fv:=if_pos rfl
  have fo:∀u,u≠t→gh'.f u=gh.f u:=fun u e1=>if_neg e1
  have ho:∀u,u≠t→gh'.h u=gh.h u:=fun u e1=>if_neg e1
  refine ⟨gh',if_pos rfl,ho,r.step ⟨fun u x hx=> ?_,fun u u' hu hu' hn g hg hg'=> ?_,fun u hu=> ?_,fun u hu g hg hgN=> ?_,r.cx.nl⟩ (fun u hu=> ?_) (fun g h=>⟨h,rfl⟩) (ZO w) (fun _ _ _=>rfl) (fun g hgN=> .inl hgN) fun u hu g hg=> ?_⟩
  · rw [Qp] at hx
    by_cases e1:u=t
    · rw [if_pos e1] at hx
      cases hx
      show Own (.sl E e) w (gh'.f u) [gh'.h u] (f z)
      rw[e1,ft,show gh'.h t=hdV z from if_pos rfl]
      exact hO
    · rw [if_neg e1, Qp] at hx
      by_cases e2:u=p
      · rw[if_pos e2] at hx; cases hx
      · rw [if_neg e2] at hx
        refine (r.cx.en u x hx).mono (fun r' hr' ha=> ?_) (fun g h=>⟨h,rfl⟩) (ho u e1) (fo u e1) fun _ _=>rfl
        have e3:r'≠t:=fun h=>hfr.en u x hx (h▸hr')
        rcases hal r' ha with h | ⟨_,_,h⟩
        · exact absurd h e3
        · exact ⟨h,ho r' e3⟩
  · rcases hal u hu with e1 | ⟨e1, b1, a1⟩
    · rcases hal u' hu' with e2 | ⟨e2, b2, a2⟩
      · exact hn (e1.trans e2.symm)
      · rw[e1,ft] at hg; rw[fo u' e2] at hg'; exact r.cx.dj p u' hpa a2 (fun h=>b2 h.symm) g (mi g hg) hg'
    · rcases hal u' hu' with e2 | ⟨e2, b2, a2⟩
      · rw[e2,ft] at hg'; rw[fo u e1] at hg; exact r.cx.dj p u hpa a1 (fun h=>b1 h.symm) g (mi g hg') hg
      · rw[fo u e1] at hg; rw[fo u' e2] at hg'; exact r.cx.dj u u' a1 a2 hn g hg hg'
  · rcases hal u hu with e1 | ⟨e1, b1, a1⟩
    · rw[e1,ft]; exact nv
    · rw[fo u e1]; exact r.cx.nd u a1
  · rcases hal u hu with e1 | ⟨e1, b1, a1⟩
    · rw[e1,ft] at hg; exact r.cx.no p hpa g (mi g hg) hgN
    · rw[fo u e1] at hg; exact r.cx.no u a1 g hg hgN
  · rcases hal u hu with e1 | ⟨e1, b1, a1⟩
    · rw[e1]; exact .inr ⟨hfr,hk⟩
    · exact .inl ⟨a1,ho u e1,fun _=>rfl⟩
  · rcases hal u hu with e1 | ⟨e1, b1, a1⟩
    · rw[e1,ft] at hg; exact .inr ⟨p,hpa,mi g hg⟩
    · rw[fo u e1] at hg; exact .inr ⟨u,a1,hg⟩
theorem Qb5 (t:Nat){p v off:Nat}{E' E:TypeId}{e:Ty}{cs:List LV}{vs:List Hdr}{f:Hdr→List e.Den}{z:Hdr}(hv:s.tab.ent v=some (.box E' cs))(ho:cs[off]? =some (.dat .vl z))(hp:s.tab.ent p=some (.pl true (.sl E e) vs f))(hz:z∈vs)(hfr:Fresh s t)(hk:A.k0≤t):
    Wk A s ⟨s.tm,(v,some (.box E' (splice cs off [.ref t]))) :: (t,some (.arr E e (f z))) :: (p,none) :: s.tab⟩:=fun a w r=>by
  obtain ⟨gh,r⟩:=r
  have hne:v≠t:=fun h=>hfr.al ⟨_,h▸hv⟩
  have hnp:v≠p:=fun h=>by rw[h,hp] at hv; cases hv
  obtain ⟨gh',ht,hh,r2⟩:=Rg.take t hp hz hfr hk r
  have hv':Tab.ent ((t,some (.arr E e (f z))) :: (p,none) :: s.tab) v=some (.box E' cs):=by rw[Qp,if_neg hne,Qp,if_neg hnp]; exact hv
  obtain ⟨g,cur,h1,h2,h3,h4⟩:=r2.cx.en v _ hv'
  obtain ⟨u,h5,h6⟩:=h4.nth ho
  have h7:Rd gh'.N .vl w [u] z:=h6
  have h8:[u]=[hdV z]:=h7.rep
  have h9:u=hdV z:=by simpa using h8
  have hD:LVs (Tab.al ((t,some (.arr E e (f z))) :: (p,none) :: s.tab)) gh' w [.ref t] [u]:=⟨u,[],rfl,fun _=>by rw[ht,h9],rfl⟩
  have hS:=h4.splice hD (off:=off)
  have hsame:cur.toList.take off++[u]++cur.toList.drop (off+[u].length)=cur.toList:=by
    obtain ⟨hl,hl2⟩:=List.getElem?_eq_some_iff.1 h5
    conv=>rhs; rw[← List.take_append_drop (off+1) cur.toList,List.take_succ_eq_append_getElem hl,hl2]
    rfl
  rw[hsame] at hS
  exact ⟨_,r2.mod hv' (ZO w) (fun _ _ _=>rfl) ⟨g,cur,h1,h2,h3,hS⟩⟩
end
section
variable {A:Amb}{P:Program}{s:St}{d:Nat}{ty T:TypeId}{pos:String}{af:Array Edge}{g:Option (Nat×Bool)}{x:Operand}
theorem QdO {p:Nat}{E:TypeId}{e:Ty}{vs:List Hdr}{f:Hdr→List e.Den}{z:Hdr}(hx:Evl A s x (.dat .vl z))(hp:s.tab.ent p=some (.pl true (.sl E e) vs f))(hz:z∈vs)(hn:Nat.blt d A.n=true)(hT:P.underlying T=some (.slice E)):
    Does A P ⟨some d, .call ⟨.builtin .len, #[x], #[T]⟩,ty,pos,af,g⟩ s (s.put d (lf (dI (f z).length))):=
  Qu rfl hn fun gh a w r=>by
    have h1:Rd gh.N .vl w [a.eval x] z:=hx gh a w r
    have h2:[a.eval x]=[hdV z]:=h1.rep
    obtain ⟨_,h3⟩:=r.cx.en p _ hp
    obtain ⟨fv,k1,_⟩:=HA h3 z hz
    rw[← h2] at k1
    obtain ⟨B,c,h4,h5,h6⟩:=k1.rep.slv
    have hE:P.elem T=E:=by simp[Program.elem,hT]
    refine ⟨.int .i64 (f z).length, ?_,_,rfl,YA (by unfold maxLen at h6; omega)⟩
    simp only[execOp,resolve,invoke,builtin]
    simp[Go.Sem.run_bind,h4,run_len_slice w T ty B (f z).length c (by rw[hE]; exact hT),goInt]
def ThP (s:St):List LV→List LV→Prop
  | [],ls'=>ls'=[]
  | l :: ls,ls'=>∃l' r,ls'=l' :: r∧(l=l'∨(∃q E e xs,l= .ref q∧s.tab.ent q=some (.arr E e xs)∧l'= .dat (.sl E e) xs)∨∃(p:Nat) (E:TypeId) (e:Ty) (vs:List Hdr) (f:Hdr→List e.Den) (z:Hdr),l= .dat .vl z∧s.tab.ent p=some (.pl true (.sl E e) vs f)∧z∈vs∧l'= .dat (.sl E e) (f z))∧ThP s ls r
theorem LVs.thp {gh:Gh}{a:Act}{w:World}(r:Rg A s gh a w){ls ls':List LV}{vs:List Value}(h:LVs s.tab.al gh w ls vs)(k:ThP s ls ls'):LVs (fun _=>False) ⟨gh.h,gh.f,fun g=>g < w.heap.size⟩ w ls' vs:=by
  induction ls generalizing ls' vs with
  | nil=>rw[show ls'=[] from k]; exact h
  | cons l ls ih=>
    obtain ⟨v,vs',rfl,h1,h2⟩:=h
    obtain ⟨l',r',rfl,h3,h4⟩:=k
    refine ⟨v,vs',rfl, ?_,ih h2 h4⟩
    rcases h3 with rfl | ⟨q,E,e,xs,rfl,h5,rfl⟩ | ⟨p,E,e,us,f,z,rfl,h5,h6,rfl⟩
    · exact h1.mono (fun _ _ h=>h.elim) fun g hg=>⟨r.cx.nl g hg,rfl⟩
    · have hv : v = gh.h q := h1 ⟨_, h5⟩
      have hO:Own (.sl E e) w (gh.f q) [gh.h q] xs:=r.cx.en q _ h5
      rw[hv]
      exact hO.rd fun g hg=>Own.lt hO g hg
    · have k1 : Rd gh.N .vl w [v] z := h1
      have k2:[v]=[hdV z]:=k1.rep
      obtain ⟨_,k3⟩:=r.cx.en p _ h5
      obtain ⟨fv,k4,_⟩:=HA k3 z h6
      rw[← k2] at k4
      exact k4.rd fun g hg=>Own.lt k4 g hg
theorem Qpn {b:Bool}{ls ls':List LV}(h:Ev A s x (b,ls))(k:ThP s ls ls'):EvB A s x (b,ls'):=fun gh a w r=>by
  have h0:=h gh a w r
  cases b with
  | true=>obtain ⟨vs,h1,h2⟩:=h0; exact ⟨vs,h1,h2.thp r k⟩
  | false=>
    obtain ⟨l,h1,h2⟩:=h0
    have h1:ls=[l]:=h1
    subst h1
    obtain ⟨l',r',rfl,h3,h4⟩:=k
    have h4:r'=[]:=h4
    subst h4
    obtain ⟨v',vs',h5,h6,_⟩:=LVs.thp r (ls:=[l]) (vs:=[a.eval x]) ⟨_,[],rfl,h2,rfl⟩ (ls':=[l']) ⟨l',[],rfl,h3,rfl⟩
    cases h5
    exact ⟨l',rfl,h6⟩
end
def Qo7:List LV→List LV→Prop
  | [],cs'=>cs'=[]
  | l :: ls,cs'=>∃l' r,cs'=l' :: r∧(l=l'∨(l= .val (.slice none 0 0)∧l'= .dat .vl none))∧Qo7 ls r
theorem LVs.vls {al:Nat→Prop}{gh:Gh}{w:World}:∀{ls ls':List LV} {vs:List Value},LVs al gh w ls vs→Qo7 ls ls'→LVs al gh w ls' vs
  | [],_,_,h,k=>by rw[show _=[] from k]; exact h
  | l :: ls,_,_,⟨v,vs',h1,h2,h3⟩,⟨l',r,k1,k2,k3⟩=>by
    rw[k1]
    refine ⟨v,vs',h1, ?_,h3.vls k3⟩
    rcases k2 with rfl | ⟨rfl,rfl⟩
    · exact h2
    · have h4 : v = .slice none 0 0 := h2
      rw[h4]
      exact Rep.rd0 (t:= .vl) (w:=w) (show _=_ from rfl) rfl
theorem QnF {A:Amb}{s:St}{p:Nat}{E':TypeId}{cs:List LV}(cs':List LV)(hp:s.tab.ent p=some (.box E' cs))(k:Qo7 cs cs'):Wk A s ⟨s.tm,(p,some (.box E' cs')) :: s.tab⟩:=fun a w r=>by
  obtain ⟨gh,r⟩:=r
  obtain ⟨g,cur,h1,h2,h3,h4⟩:=r.cx.en p _ hp
  exact ⟨gh,r.mod hp (ZO w) (fun _ _ _=>rfl) ⟨g,cur,h1,h2,h3,h4.vls k⟩⟩
end Go.Proofs.YtnakmhfjafecpaaGreat
