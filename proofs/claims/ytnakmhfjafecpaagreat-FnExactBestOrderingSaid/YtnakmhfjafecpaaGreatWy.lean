/- Walks over abstract states: sameness of slices, the firings of a graph. -/
import Derived.Test.YtnakmhfjafecpaaGreatWr
set_option linter.unusedSimpArgs false
set_option linter.unusedVariables false
set_option linter.unusedSectionVars false
namespace Go.Proofs.YtnakmhfjafecpaaGreat
open Go.RowKit
set_option maxRecDepth 100000
set_option maxHeartbeats 4000000
section
variable {α:Type}[DecidableEq α]{a b:List α}{k:Nat}{x y:α}
theorem X5 (h:¬(a.length:Int)=(b.length:Int)):false=decide (a=b):=(decide_eq_false fun e=>h (by rw[e])).symm
theorem WN (hx:a[k]? =some x)(hy:b[k]? =some y)(h:x≠y):false=decide (a=b):=(decide_eq_false fun e=>h (by rw[e,hy] at hx; exact (Option.some.inj hx).symm)).symm
theorem V1 {α:Type}{a b:List α}{k:Nat}{x y:α}(hE:∀j,j < k→a[j]? =b[j]?)(hx:a[k]? =some x)(hy:b[k]? =some y)(h:x=y):∀j,j < k+1→a[j]? =b[j]? :=fun j hj=>by
  by_cases e:j=k
  · rw[e,hx,hy,h]
  · exact hE j (by omega)
theorem KZ (hl:(a.length:Int)=(b.length:Int))(hE:∀j,j < k→a[j]? =b[j]?)(hk:a.length≤k):true=decide (a=b):=(decide_eq_true (List.ext_getElem? fun j=>by
  by_cases h:j < k
  · exact hE j h
  · rw[List.getElem?_eq_none (by omega),List.getElem?_eq_none (by omega)])).symm
theorem Qaf {t:Ty}{x y:t.Den}(h:Ty.beq t x y=false):x≠y:=fun e=>by rw[(Ty.beq_iff t x y).2 e] at h; cases h
end
section
variable [∀s,Decidable (StgOk s)]
def Wc (s:Q5):List Int:=(dtV s (Qc s).1).1
def V0 (s:Q5):Bool:=decide ((0:Int) < ((dlV (Qc s).1).1.length:Int))
def frV (s:Q5):List Int×Bool×Bool:=if (sgV s).2=true then (Wc s,V0 s,true) else ([],false,false)
theorem Qb4 {s:Q5}(h:(sgV s).2=false):frV s=([],false,false):=if_neg (by rw[h]; decide)
theorem Hf {s:Q5}(h:(sgV s).2=true):frV s=(Wc s,V0 s,true):=if_pos h
def pfI (a b:Q5):Bool×Bool:=if (frV a).2.2=true∧(frV b).2.2=true∧a.2.1=b.2.1∧a.2.2.1=b.2.2.1 then (decide ((frV a).1=(frV b).1)&&(!(frV b).2.1||(frV a).2.1),true) else (false,false)
def pfV (a b:Q5):Bool×Bool:=if (sgV a).2=true∧(sgV b).2=true∧a.2.1=b.2.1∧a.2.2.1=b.2.2.1 then (decide (Wc a=Wc b)&&(V0 a|| !V0 b),true) else (false,false)
theorem HD (a b:Q5):pfI a b=pfV a b:=by
  unfold pfI pfV
  cases ha:(sgV a).2 with
  | false=>rw[Qb4 ha]; simp
  | true=>
    cases hb:(sgV b).2 with
    | false=>rw[Qb4 hb]; simp
    | true=>rw[Hf ha,Hf hb,Bool.or_comm]
section
variable {a b:Q5}
theorem Qjr (h:(frV a).2.2=false):pfV a b=(false,false):=by rw[← HD]; exact if_neg fun g=>by rw[h] at g; cases g.1
theorem QjD (h:(frV b).2.2=false):pfV a b=(false,false):=by rw[← HD]; exact if_neg fun g=>by rw[h] at g; cases g.2.1
theorem Qa8 (h:¬a.2.1=b.2.1):pfV a b=(false,false):=by rw[← HD]; exact if_neg fun g=>h g.2.2.1
theorem Qbv (h:¬a.2.2.1=b.2.2.1):pfV a b=(false,false):=by rw[← HD]; exact if_neg fun g=>h g.2.2.2
theorem Qfb (h1:(frV a).2.2=true)(h2:(frV b).2.2=true)(h3:a.2.1=b.2.1)(h4:a.2.2.1=b.2.2.1):pfV a b=(decide ((frV a).1=(frV b).1)&&(!(frV b).2.1||(frV a).2.1),true):=by rw[← HD]; exact if_pos ⟨h1,h2,h3,h4⟩
theorem Qlw (h1:(frV a).2.2=true)(h2:(frV b).2.2=true)(h3:a.2.1=b.2.1)(h4:a.2.2.1=b.2.2.1)(h:¬(frV a).1=(frV b).1):pfV a b=(false,true):=by rw[Qfb h1 h2 h3 h4,decide_eq_false h]; rfl
theorem QmP (h1:(frV a).2.2=true)(h2:(frV b).2.2=true)(h3:a.2.1=b.2.1)(h4:a.2.2.1=b.2.2.1)(h:(frV a).1=(frV b).1)(hb:(frV b).2.1=false):pfV a b=(true,true):=by rw[Qfb h1 h2 h3 h4,decide_eq_true h,hb]; rfl
theorem Qmv (h1:(frV a).2.2=true)(h2:(frV b).2.2=true)(h3:a.2.1=b.2.1)(h4:a.2.2.1=b.2.2.1)(h:(frV a).1=(frV b).1)(hb:(frV b).2.1=true):pfV a b=((frV a).2.1,true):=by rw[Qfb h1 h2 h3 h4,decide_eq_true h,hb]; rfl
theorem Qi3 (h:(sgV a).2=false):pfV a b=(false,false):=if_neg fun g=>by rw[h] at g; cases g.1
theorem QfG (h:(sgV b).2=false):pfV a b=(false,false):=if_neg fun g=>by rw[h] at g; cases g.2.1
theorem Qe1 (h1:(sgV a).2=true)(h2:(sgV b).2=true)(h3:a.2.1=b.2.1)(h4:a.2.2.1=b.2.2.1):pfV a b=(decide (Wc a=Wc b)&&(V0 a|| !V0 b),true):=if_pos ⟨h1,h2,h3,h4⟩
theorem Qmr (h1:(sgV a).2=true)(h2:(sgV b).2=true)(h3:a.2.1=b.2.1)(h4:a.2.2.1=b.2.2.1)(h:¬Wc a=Wc b):pfV a b=(false,true):=by rw[Qe1 h1 h2 h3 h4,decide_eq_false h]; rfl
theorem Qk2 (h1:(sgV a).2=true)(h2:(sgV b).2=true)(h3:a.2.1=b.2.1)(h4:a.2.2.1=b.2.2.1)(h:Wc a=Wc b)(hb:V0 a=true):pfV a b=(true,true):=by rw[Qe1 h1 h2 h3 h4,decide_eq_true h,hb]; rfl
theorem Qmu (h1:(sgV a).2=true)(h2:(sgV b).2=true)(h3:a.2.1=b.2.1)(h4:a.2.2.1=b.2.2.1)(h:Wc a=Wc b)(hb:V0 a=false):pfV a b=(!V0 b,true):=by rw[Qe1 h1 h2 h3 h4,decide_eq_true h,hb]; rfl
end
end
theorem YF (s1:List (ByteArray×Int))(s2:List (ByteArray×Int)):FC Tryz.prog 244 [(false,[.dat (.sl 145 (.pr .str .int)) s1]),(false,[.dat (.sl 145 (.pr .str .int)) s2])] [] 0 (Zq (lB (decide (s1=s2)))):=by
 refine QN Tryz.func244 rfl rfl Tryz.ntmps244 fun O_ hO w0_ N0_ X_ h0_ f0_=> ?_
 iterate 6 refine w_ ?_
 refine AL.fact (Qq (x:= .tmp 6) (Qa rfl)) fun hl1=> ?_
 iterate 2 refine w_ ?_
 refine AL.fact (Qq (x:= .tmp 8) (Qa rfl)) fun hl2=> ?_
 iterate 3 refine w_ ?_
 cases hb3:(!decide ((s1.length:Int)=(s2.length:Int)))
 ·have hb3':((s1.length:Int)=(s2.length:Int)):=Zb hb3
  iterate 5 refine w_ ?_
  refine AL.fact (Qq (x:= .tmp 11) (Qa rfl)) fun hl4=> ?_
  iterate 4 refine w_ ?_
  refine Qx (fun m_ s_=>∃(k:Nat),k≤s1.length∧m_=s1.length - k∧(∀j,j < k→s1[j]? =s2[j]?)∧s_=⟨[(0,lf (.dat (.sl 145 (.pr .str .int)) s1)),(1,lf (.dat (.sl 145 (.pr .str .int)) s2)),(12,lI (s1.length:Int)),(13,lI (k:Int))],[]⟩) ⟨0,Nat.zero_le _,rfl,(fun j hj=>absurd hj (Nat.not_lt_zero j)),rfl⟩ ?_ ?_
  · exact Wk.of [] rfl ⟨rfl,rfl,rfl,rfl,trivial⟩ trivial rfl rfl
  rintro m_ s_ ⟨k,hk5,hm6,hE,rfl⟩
  iterate 4 refine w_ ?_
  cases hb7:(decide ((k:Int) < (s1.length:Int)))
  ·have hb7':=of_decide_eq_false hb7
   refine w_ ?_
   refine QB ?_
   refine (?_:AC _ _ _ _ _)
   iterate 3 refine w_ ?_
   refine Qf ?_
   subst hO
   have e8:(true:Bool)=(decide (s1=s2)):=by
    exact KZ (by assumption) hE (by omega)
   exact Ql (Qm rfl (Qd rfl)) ((congrArg (fun z_=>lB z_) e8)) rfl
  ·have hb7':=of_decide_eq_true hb7
   iterate 8 refine w_ ?_
   obtain ⟨x9,hx10⟩:∃z,s1[k]? =some z:=⟨_,List.getElem?_eq_getElem (by omega)⟩
   obtain ⟨x11,hx12⟩:∃z,s2[k]? =some z:=⟨_,List.getElem?_eq_getElem (by omega)⟩
   refine dw [io 16 (lf (.dat (.sl 145 (.pr .str .int)) s1)),io 17 (lI (k:Int)),io 18 (lf (.elt (.pr .str .int) x9 0)),io 19 (ag [dS x9.1,dI x9.2]),io 20 (lf (.dat (.sl 145 (.pr .str .int)) s2)),io 21 (lI (k:Int)),io 22 (lf (.elt (.pr .str .int) x11 0)),io 23 (ag [dS x11.1,dI x11.2]),io 24 (lB (!(Ty.beq (.pr .str .int) x9 x11)))] [0,0,3,7,0,0,48,112,255] mixed rfl (by kernel_rfl) ⟨dxm rfl rfl,dxm rfl rfl,fun _ h_=>ac (Qh (h_.v rfl) (h_.v rfl) YQ Z4 rfl (by omega) hx10) rfl,fun _ h_=>ac (Z1 (h_.v rfl) Z4 rfl rfl) rfl,dxm rfl rfl,dxm rfl rfl,fun _ h_=>ac (Qh (h_.v rfl) (h_.v rfl) YQ Z4 rfl (by omega) hx12) rfl,fun _ h_=>ac (Z1 (h_.v rfl) Z4 rfl rfl) rfl,fun _ h_=>ac (KW QjE Qjp (h_.w rfl) (h_.w rfl) (p:=x9) (q:=x11) rfl rfl rfl) rfl,⟨⟩⟩ ?_
   cases hb13:(Ty.beq (.pr .str .int) x9 x11)
   ·iterate 4 refine w_ ?_
    refine Qf ?_
    subst hO
    have e14:(false:Bool)=(decide (s1=s2)):=by
     exact WN hx10 hx12 (by first | exact Qaf (by assumption) | assumption)
    exact Ql (Qm rfl (Qd rfl)) ((congrArg (fun z_=>lB z_) e14)) rfl
   ·refine w_ ?_
    refine AC.skip ?_
    refine (?_:AC _ _ _ _ _)
    iterate 3 refine w_ ?_
    refine Qk<|QU ⟨k+1,by omega,rfl,(V1 hE hx10 hx12 (by first | exact (Ty.beq_iff _ _ _).1 (by assumption) | assumption)),rfl⟩ (by omega) ?_
    exact Wk.of [] rfl ⟨rfl,rfl,rfl,rfl,trivial⟩ trivial rfl rfl
 ·have hb3':¬((s1.length:Int)=(s2.length:Int)):=Zk hb3
  iterate 4 refine w_ ?_
  refine Qf ?_
  subst hO
  have e15:(false:Bool)=(decide (s1=s2)):=by
   exact X5 (by assumption)
  exact Ql (Qm rfl (Qd rfl)) ((congrArg (fun z_=>lB z_) e15)) rfl
theorem Y1 (s1:List (Int×Bool))(s2:List (Int×Bool)):FC Tryz.prog 245 [(false,[.dat (.sl 61 (.pr .int .bool)) s1]),(false,[.dat (.sl 61 (.pr .int .bool)) s2])] [] 0 (Zq (lB (decide (s1=s2)))):=by
 refine QN Tryz.func245 rfl rfl Tryz.ntmps245 fun O_ hO w0_ N0_ X_ h0_ f0_=> ?_
 iterate 6 refine w_ ?_
 refine AL.fact (Qq (x:= .tmp 6) (Qa rfl)) fun hl1=> ?_
 iterate 2 refine w_ ?_
 refine AL.fact (Qq (x:= .tmp 8) (Qa rfl)) fun hl2=> ?_
 iterate 3 refine w_ ?_
 cases hb3:(!decide ((s1.length:Int)=(s2.length:Int)))
 ·have hb3':((s1.length:Int)=(s2.length:Int)):=Zb hb3
  iterate 5 refine w_ ?_
  refine AL.fact (Qq (x:= .tmp 11) (Qa rfl)) fun hl4=> ?_
  iterate 4 refine w_ ?_
  refine Qx (fun m_ s_=>∃(k:Nat),k≤s1.length∧m_=s1.length - k∧(∀j,j < k→s1[j]? =s2[j]?)∧s_=⟨[(0,lf (.dat (.sl 61 (.pr .int .bool)) s1)),(1,lf (.dat (.sl 61 (.pr .int .bool)) s2)),(12,lI (s1.length:Int)),(13,lI (k:Int))],[]⟩) ⟨0,Nat.zero_le _,rfl,(fun j hj=>absurd hj (Nat.not_lt_zero j)),rfl⟩ ?_ ?_
  · exact Wk.of [] rfl ⟨rfl,rfl,rfl,rfl,trivial⟩ trivial rfl rfl
  rintro m_ s_ ⟨k,hk5,hm6,hE,rfl⟩
  iterate 4 refine w_ ?_
  cases hb7:(decide ((k:Int) < (s1.length:Int)))
  ·have hb7':=of_decide_eq_false hb7
   refine w_ ?_
   refine QB ?_
   refine (?_:AC _ _ _ _ _)
   iterate 3 refine w_ ?_
   refine Qf ?_
   subst hO
   have e8:(true:Bool)=(decide (s1=s2)):=by
    exact KZ (by assumption) hE (by omega)
   exact Ql (Qm rfl (Qd rfl)) ((congrArg (fun z_=>lB z_) e8)) rfl
  ·have hb7':=of_decide_eq_true hb7
   iterate 8 refine w_ ?_
   obtain ⟨x9,hx10⟩:∃z,s1[k]? =some z:=⟨_,List.getElem?_eq_getElem (by omega)⟩
   obtain ⟨x11,hx12⟩:∃z,s2[k]? =some z:=⟨_,List.getElem?_eq_getElem (by omega)⟩
   refine dw [io 16 (lf (.dat (.sl 61 (.pr .int .bool)) s1)),io 17 (lI (k:Int)),io 18 (lf (.elt (.pr .int .bool) x9 0)),io 19 (ag [dI x9.1,dB x9.2]),io 20 (lf (.dat (.sl 61 (.pr .int .bool)) s2)),io 21 (lI (k:Int)),io 22 (lf (.elt (.pr .int .bool) x11 0)),io 23 (ag [dI x11.1,dB x11.2]),io 24 (lB (!(Ty.beq (.pr .int .bool) x9 x11)))] [0,0,3,7,0,0,48,112,255] mixed rfl (by kernel_rfl) ⟨dxm rfl rfl,dxm rfl rfl,fun _ h_=>ac (Qh (h_.v rfl) (h_.v rfl) X2 Yr rfl (by omega) hx10) rfl,fun _ h_=>ac (Z1 (h_.v rfl) Yr rfl rfl) rfl,dxm rfl rfl,dxm rfl rfl,fun _ h_=>ac (Qh (h_.v rfl) (h_.v rfl) X2 Yr rfl (by omega) hx12) rfl,fun _ h_=>ac (Z1 (h_.v rfl) Yr rfl rfl) rfl,fun _ h_=>ac (KW Ql8 QkW (h_.w rfl) (h_.w rfl) (p:=x9) (q:=x11) rfl rfl rfl) rfl,⟨⟩⟩ ?_
   cases hb13:(Ty.beq (.pr .int .bool) x9 x11)
   ·iterate 4 refine w_ ?_
    refine Qf ?_
    subst hO
    have e14:(false:Bool)=(decide (s1=s2)):=by
     exact WN hx10 hx12 (by first | exact Qaf (by assumption) | assumption)
    exact Ql (Qm rfl (Qd rfl)) ((congrArg (fun z_=>lB z_) e14)) rfl
   ·refine w_ ?_
    refine AC.skip ?_
    refine (?_:AC _ _ _ _ _)
    iterate 3 refine w_ ?_
    refine Qk<|QU ⟨k+1,by omega,rfl,(V1 hE hx10 hx12 (by first | exact (Ty.beq_iff _ _ _).1 (by assumption) | assumption)),rfl⟩ (by omega) ?_
    exact Wk.of [] rfl ⟨rfl,rfl,rfl,rfl,trivial⟩ trivial rfl rfl
 ·have hb3':¬((s1.length:Int)=(s2.length:Int)):=Zk hb3
  iterate 4 refine w_ ?_
  refine Qf ?_
  subst hO
  have e15:(false:Bool)=(decide (s1=s2)):=by
   exact X5 (by assumption)
  exact Ql (Qm rfl (Qd rfl)) ((congrArg (fun z_=>lB z_) e15)) rfl
theorem Yj (s1:List Int)(s2:List Int):FC Tryz.prog 117 [(false,[.dat (.sl 3 .int) s1]),(false,[.dat (.sl 3 .int) s2])] [] 0 (Zq (lB (decide (s1=s2)))):=by
 refine QN Tryz.func117 rfl rfl Tryz.ntmps117 fun O_ hO w0_ N0_ X_ h0_ f0_=> ?_
 iterate 6 refine w_ ?_
 refine AL.fact (Qq (x:= .tmp 6) (Qa rfl)) fun hl1=> ?_
 iterate 2 refine w_ ?_
 refine AL.fact (Qq (x:= .tmp 8) (Qa rfl)) fun hl2=> ?_
 iterate 3 refine w_ ?_
 cases hb3:(!decide ((s1.length:Int)=(s2.length:Int)))
 ·have hb3':((s1.length:Int)=(s2.length:Int)):=Zb hb3
  iterate 5 refine w_ ?_
  refine AL.fact (Qq (x:= .tmp 11) (Qa rfl)) fun hl4=> ?_
  iterate 4 refine w_ ?_
  refine Qx (fun m_ s_=>∃(k:Nat),k≤s1.length∧m_=s1.length - k∧(∀j,j < k→s1[j]? =s2[j]?)∧s_=⟨[(0,lf (.dat (.sl 3 .int) s1)),(1,lf (.dat (.sl 3 .int) s2)),(12,lI (s1.length:Int)),(13,lI (k:Int))],[]⟩) ⟨0,Nat.zero_le _,rfl,(fun j hj=>absurd hj (Nat.not_lt_zero j)),rfl⟩ ?_ ?_
  · exact Wk.of [] rfl ⟨rfl,rfl,rfl,rfl,trivial⟩ trivial rfl rfl
  rintro m_ s_ ⟨k,hk5,hm6,hE,rfl⟩
  iterate 4 refine w_ ?_
  cases hb7:(decide ((k:Int) < (s1.length:Int)))
  ·have hb7':=of_decide_eq_false hb7
   refine w_ ?_
   refine QB ?_
   refine (?_:AC _ _ _ _ _)
   iterate 3 refine w_ ?_
   refine Qf ?_
   subst hO
   have e8:(true:Bool)=(decide (s1=s2)):=by
    exact KZ (by assumption) hE (by omega)
   exact Ql (Qm rfl (Qd rfl)) ((congrArg (fun z_=>lB z_) e8)) rfl
  ·have hb7':=of_decide_eq_true hb7
   iterate 8 refine w_ ?_
   obtain ⟨x9,hx10⟩:∃z,s1[k]? =some z:=⟨_,List.getElem?_eq_getElem (by omega)⟩
   obtain ⟨x11,hx12⟩:∃z,s2[k]? =some z:=⟨_,List.getElem?_eq_getElem (by omega)⟩
   refine dw [io 16 (lf (.dat (.sl 3 .int) s1)),io 17 (lI (k:Int)),io 18 (lf (.elt .int x9 0)),io 19 (lI x9),io 20 (lf (.dat (.sl 3 .int) s2)),io 21 (lI (k:Int)),io 22 (lf (.elt .int x11 0)),io 23 (lI x11),io 24 (lB (!decide (x9=x11)))] [0,0,3,7,0,0,48,112,255] mixed rfl (by kernel_rfl) ⟨dxm rfl rfl,dxm rfl rfl,fun _ h_=>ac (Qh (h_.v rfl) (h_.v rfl) QE QO rfl (by omega) hx10) rfl,fun _ h_=>ac (Q0 (h_.v rfl) QO rfl rfl) rfl,dxm rfl rfl,dxm rfl rfl,fun _ h_=>ac (Qh (h_.v rfl) (h_.v rfl) QE QO rfl (by omega) hx12) rfl,fun _ h_=>ac (Q0 (h_.v rfl) QO rfl rfl) rfl,fun _ h_=>ac (He (h_.v rfl) (h_.v rfl) rfl) rfl,⟨⟩⟩ ?_
   cases hb13:(!decide (x9=x11))
   ·have hb13':(x9=x11):=Zb hb13
    refine w_ ?_
    refine AC.skip ?_
    refine (?_:AC _ _ _ _ _)
    iterate 3 refine w_ ?_
    refine Qk<|QU ⟨k+1,by omega,rfl,(V1 hE hx10 hx12 (by first | exact (Ty.beq_iff _ _ _).1 (by assumption) | assumption)),rfl⟩ (by omega) ?_
    exact Wk.of [] rfl ⟨rfl,rfl,rfl,rfl,trivial⟩ trivial rfl rfl
   ·have hb13':¬(x9=x11):=Zk hb13
    iterate 4 refine w_ ?_
    refine Qf ?_
    subst hO
    have e14:(false:Bool)=(decide (s1=s2)):=by
     exact WN hx10 hx12 (by first | exact Qaf (by assumption) | assumption)
    exact Ql (Qm rfl (Qd rfl)) ((congrArg (fun z_=>lB z_) e14)) rfl
 ·have hb3':¬((s1.length:Int)=(s2.length:Int)):=Zk hb3
  iterate 4 refine w_ ?_
  refine Qf ?_
  subst hO
  have e15:(false:Bool)=(decide (s1=s2)):=by
   exact X5 (by assumption)
  exact Ql (Qm rfl (Qd rfl)) ((congrArg (fun z_=>lB z_) e15)) rfl
theorem U4 (a:List (ByteArray×Int))(b:List (ByteArray×Int)):FC Tryz.prog 275 [(false,[.dat (.sl 145 (.pr .str .int)) a]),(false,[.dat (.sl 145 (.pr .str .int)) b])] [] 0 (Zq (lB (decide (a=b)))):=by
 refine QN Tryz.func275 rfl rfl Tryz.ntmps275 fun O_ hO w0_ N0_ X_ h0_ f0_=> ?_
 iterate 6 refine w_ ?_
 refine AL.fact (Qq (x:= .tmp 6) (Qa rfl)) fun hl1=> ?_
 iterate 2 refine w_ ?_
 refine AL.fact (Qq (x:= .tmp 8) (Qa rfl)) fun hl2=> ?_
 iterate 3 refine w_ ?_
 cases hb3:(!decide ((a.length:Int)=(b.length:Int)))
 ·have hb3':((a.length:Int)=(b.length:Int)):=Zb hb3
  iterate 5 refine w_ ?_
  refine AL.fact (Qq (x:= .tmp 11) (Qa rfl)) fun hl4=> ?_
  iterate 4 refine w_ ?_
  refine Qx (fun m_ s_=>∃(k:Nat),k≤a.length∧m_=a.length - k∧(∀j,j < k→a[j]? =b[j]?)∧s_=⟨[(0,lf (.dat (.sl 145 (.pr .str .int)) a)),(1,lf (.dat (.sl 145 (.pr .str .int)) b)),(12,lI (a.length:Int)),(13,lI (k:Int))],[]⟩) ⟨0,Nat.zero_le _,rfl,(fun j hj=>absurd hj (Nat.not_lt_zero j)),rfl⟩ ?_ ?_
  · exact Wk.of [] rfl ⟨rfl,rfl,rfl,rfl,trivial⟩ trivial rfl rfl
  rintro m_ s_ ⟨k,hk5,hm6,hE,rfl⟩
  iterate 4 refine w_ ?_
  cases hb7:(decide ((k:Int) < (a.length:Int)))
  ·have hb7':=of_decide_eq_false hb7
   refine w_ ?_
   refine QB ?_
   refine (?_:AC _ _ _ _ _)
   iterate 3 refine w_ ?_
   refine Qf ?_
   subst hO
   have e8:(true:Bool)=(decide (a=b)):=by
    exact KZ (by assumption) hE (by omega)
   exact Ql (Qm rfl (Qd rfl)) ((congrArg (fun z_=>lB z_) e8)) rfl
  ·have hb7':=of_decide_eq_true hb7
   iterate 8 refine w_ ?_
   obtain ⟨x9,hx10⟩:∃z,a[k]? =some z:=⟨_,List.getElem?_eq_getElem (by omega)⟩
   obtain ⟨x11,hx12⟩:∃z,b[k]? =some z:=⟨_,List.getElem?_eq_getElem (by omega)⟩
   refine dw [io 16 (lf (.dat (.sl 145 (.pr .str .int)) a)),io 17 (lI (k:Int)),io 18 (lf (.elt (.pr .str .int) x9 0)),io 19 (ag [dS x9.1,dI x9.2]),io 20 (lf (.dat (.sl 145 (.pr .str .int)) b)),io 21 (lI (k:Int)),io 22 (lf (.elt (.pr .str .int) x11 0)),io 23 (ag [dS x11.1,dI x11.2]),io 24 (lB (!(Ty.beq (.pr .str .int) x9 x11)))] [0,0,3,7,0,0,48,112,255] mixed rfl (by kernel_rfl) ⟨dxm rfl rfl,dxm rfl rfl,fun _ h_=>ac (Qh (h_.v rfl) (h_.v rfl) YQ Z4 rfl (by omega) hx10) rfl,fun _ h_=>ac (Z1 (h_.v rfl) Z4 rfl rfl) rfl,dxm rfl rfl,dxm rfl rfl,fun _ h_=>ac (Qh (h_.v rfl) (h_.v rfl) YQ Z4 rfl (by omega) hx12) rfl,fun _ h_=>ac (Z1 (h_.v rfl) Z4 rfl rfl) rfl,fun _ h_=>ac (KW QjE Qjp (h_.w rfl) (h_.w rfl) (p:=x9) (q:=x11) rfl rfl rfl) rfl,⟨⟩⟩ ?_
   cases hb13:(Ty.beq (.pr .str .int) x9 x11)
   ·iterate 4 refine w_ ?_
    refine Qf ?_
    subst hO
    have e14:(false:Bool)=(decide (a=b)):=by
     exact WN hx10 hx12 (by first | exact Qaf (by assumption) | assumption)
    exact Ql (Qm rfl (Qd rfl)) ((congrArg (fun z_=>lB z_) e14)) rfl
   ·refine w_ ?_
    refine AC.skip ?_
    refine (?_:AC _ _ _ _ _)
    iterate 3 refine w_ ?_
    refine Qk<|QU ⟨k+1,by omega,rfl,(V1 hE hx10 hx12 (by first | exact (Ty.beq_iff _ _ _).1 (by assumption) | assumption)),rfl⟩ (by omega) ?_
    exact Wk.of [] rfl ⟨rfl,rfl,rfl,rfl,trivial⟩ trivial rfl rfl
 ·have hb3':¬((a.length:Int)=(b.length:Int)):=Zk hb3
  iterate 4 refine w_ ?_
  refine Qf ?_
  subst hO
  have e15:(false:Bool)=(decide (a=b)):=by
   exact X5 (by assumption)
  exact Ql (Qm rfl (Qd rfl)) ((congrArg (fun z_=>lB z_) e15)) rfl
theorem U2 (a:List (Int×Bool))(b:List (Int×Bool)):FC Tryz.prog 276 [(false,[.dat (.sl 61 (.pr .int .bool)) a]),(false,[.dat (.sl 61 (.pr .int .bool)) b])] [] 0 (Zq (lB (decide (a=b)))):=by
 refine QN Tryz.func276 rfl rfl Tryz.ntmps276 fun O_ hO w0_ N0_ X_ h0_ f0_=> ?_
 iterate 6 refine w_ ?_
 refine AL.fact (Qq (x:= .tmp 6) (Qa rfl)) fun hl1=> ?_
 iterate 2 refine w_ ?_
 refine AL.fact (Qq (x:= .tmp 8) (Qa rfl)) fun hl2=> ?_
 iterate 3 refine w_ ?_
 cases hb3:(!decide ((a.length:Int)=(b.length:Int)))
 ·have hb3':((a.length:Int)=(b.length:Int)):=Zb hb3
  iterate 5 refine w_ ?_
  refine AL.fact (Qq (x:= .tmp 11) (Qa rfl)) fun hl4=> ?_
  iterate 4 refine w_ ?_
  refine Qx (fun m_ s_=>∃(k:Nat),k≤a.length∧m_=a.length - k∧(∀j,j < k→a[j]? =b[j]?)∧s_=⟨[(0,lf (.dat (.sl 61 (.pr .int .bool)) a)),(1,lf (.dat (.sl 61 (.pr .int .bool)) b)),(12,lI (a.length:Int)),(13,lI (k:Int))],[]⟩) ⟨0,Nat.zero_le _,rfl,(fun j hj=>absurd hj (Nat.not_lt_zero j)),rfl⟩ ?_ ?_
  · exact Wk.of [] rfl ⟨rfl,rfl,rfl,rfl,trivial⟩ trivial rfl rfl
  rintro m_ s_ ⟨k,hk5,hm6,hE,rfl⟩
  iterate 4 refine w_ ?_
  cases hb7:(decide ((k:Int) < (a.length:Int)))
  ·have hb7':=of_decide_eq_false hb7
   refine w_ ?_
   refine QB ?_
   refine (?_:AC _ _ _ _ _)
   iterate 3 refine w_ ?_
   refine Qf ?_
   subst hO
   have e8:(true:Bool)=(decide (a=b)):=by
    exact KZ (by assumption) hE (by omega)
   exact Ql (Qm rfl (Qd rfl)) ((congrArg (fun z_=>lB z_) e8)) rfl
  ·have hb7':=of_decide_eq_true hb7
   iterate 8 refine w_ ?_
   obtain ⟨x9,hx10⟩:∃z,a[k]? =some z:=⟨_,List.getElem?_eq_getElem (by omega)⟩
   obtain ⟨x11,hx12⟩:∃z,b[k]? =some z:=⟨_,List.getElem?_eq_getElem (by omega)⟩
   refine dw [io 16 (lf (.dat (.sl 61 (.pr .int .bool)) a)),io 17 (lI (k:Int)),io 18 (lf (.elt (.pr .int .bool) x9 0)),io 19 (ag [dI x9.1,dB x9.2]),io 20 (lf (.dat (.sl 61 (.pr .int .bool)) b)),io 21 (lI (k:Int)),io 22 (lf (.elt (.pr .int .bool) x11 0)),io 23 (ag [dI x11.1,dB x11.2]),io 24 (lB (!(Ty.beq (.pr .int .bool) x9 x11)))] [0,0,3,7,0,0,48,112,255] mixed rfl (by kernel_rfl) ⟨dxm rfl rfl,dxm rfl rfl,fun _ h_=>ac (Qh (h_.v rfl) (h_.v rfl) X2 Yr rfl (by omega) hx10) rfl,fun _ h_=>ac (Z1 (h_.v rfl) Yr rfl rfl) rfl,dxm rfl rfl,dxm rfl rfl,fun _ h_=>ac (Qh (h_.v rfl) (h_.v rfl) X2 Yr rfl (by omega) hx12) rfl,fun _ h_=>ac (Z1 (h_.v rfl) Yr rfl rfl) rfl,fun _ h_=>ac (KW Ql8 QkW (h_.w rfl) (h_.w rfl) (p:=x9) (q:=x11) rfl rfl rfl) rfl,⟨⟩⟩ ?_
   cases hb13:(Ty.beq (.pr .int .bool) x9 x11)
   ·iterate 4 refine w_ ?_
    refine Qf ?_
    subst hO
    have e14:(false:Bool)=(decide (a=b)):=by
     exact WN hx10 hx12 (by first | exact Qaf (by assumption) | assumption)
    exact Ql (Qm rfl (Qd rfl)) ((congrArg (fun z_=>lB z_) e14)) rfl
   ·refine w_ ?_
    refine AC.skip ?_
    refine (?_:AC _ _ _ _ _)
    iterate 3 refine w_ ?_
    refine Qk<|QU ⟨k+1,by omega,rfl,(V1 hE hx10 hx12 (by first | exact (Ty.beq_iff _ _ _).1 (by assumption) | assumption)),rfl⟩ (by omega) ?_
    exact Wk.of [] rfl ⟨rfl,rfl,rfl,rfl,trivial⟩ trivial rfl rfl
 ·have hb3':¬((a.length:Int)=(b.length:Int)):=Zk hb3
  iterate 4 refine w_ ?_
  refine Qf ?_
  subst hO
  have e15:(false:Bool)=(decide (a=b)):=by
   exact X5 (by assumption)
  exact Ql (Qm rfl (Qd rfl)) ((congrArg (fun z_=>lB z_) e15)) rfl
theorem WX (a:List Int)(b:List Int):FC Tryz.prog 164 [(false,[.dat (.sl 3 .int) a]),(false,[.dat (.sl 3 .int) b])] [] 0 (Zq (lB (decide (a=b)))):=by
 refine QN Tryz.func164 rfl rfl Tryz.ntmps164 fun O_ hO w0_ N0_ X_ h0_ f0_=> ?_
 iterate 6 refine w_ ?_
 refine AL.fact (Qq (x:= .tmp 6) (Qa rfl)) fun hl1=> ?_
 iterate 2 refine w_ ?_
 refine AL.fact (Qq (x:= .tmp 8) (Qa rfl)) fun hl2=> ?_
 iterate 3 refine w_ ?_
 cases hb3:(!decide ((a.length:Int)=(b.length:Int)))
 ·have hb3':((a.length:Int)=(b.length:Int)):=Zb hb3
  iterate 5 refine w_ ?_
  refine AL.fact (Qq (x:= .tmp 11) (Qa rfl)) fun hl4=> ?_
  iterate 4 refine w_ ?_
  refine Qx (fun m_ s_=>∃(k:Nat),k≤a.length∧m_=a.length - k∧(∀j,j < k→a[j]? =b[j]?)∧s_=⟨[(0,lf (.dat (.sl 3 .int) a)),(1,lf (.dat (.sl 3 .int) b)),(12,lI (a.length:Int)),(13,lI (k:Int))],[]⟩) ⟨0,Nat.zero_le _,rfl,(fun j hj=>absurd hj (Nat.not_lt_zero j)),rfl⟩ ?_ ?_
  · exact Wk.of [] rfl ⟨rfl,rfl,rfl,rfl,trivial⟩ trivial rfl rfl
  rintro m_ s_ ⟨k,hk5,hm6,hE,rfl⟩
  iterate 4 refine w_ ?_
  cases hb7:(decide ((k:Int) < (a.length:Int)))
  ·have hb7':=of_decide_eq_false hb7
   refine w_ ?_
   refine QB ?_
   refine (?_:AC _ _ _ _ _)
   iterate 3 refine w_ ?_
   refine Qf ?_
   subst hO
   have e8:(true:Bool)=(decide (a=b)):=by
    exact KZ (by assumption) hE (by omega)
   exact Ql (Qm rfl (Qd rfl)) ((congrArg (fun z_=>lB z_) e8)) rfl
  ·have hb7':=of_decide_eq_true hb7
   iterate 8 refine w_ ?_
   obtain ⟨x9,hx10⟩:∃z,a[k]? =some z:=⟨_,List.getElem?_eq_getElem (by omega)⟩
   obtain ⟨x11,hx12⟩:∃z,b[k]? =some z:=⟨_,List.getElem?_eq_getElem (by omega)⟩
   refine dw [io 16 (lf (.dat (.sl 3 .int) a)),io 17 (lI (k:Int)),io 18 (lf (.elt .int x9 0)),io 19 (lI x9),io 20 (lf (.dat (.sl 3 .int) b)),io 21 (lI (k:Int)),io 22 (lf (.elt .int x11 0)),io 23 (lI x11),io 24 (lB (!decide (x9=x11)))] [0,0,3,7,0,0,48,112,255] mixed rfl (by kernel_rfl) ⟨dxm rfl rfl,dxm rfl rfl,fun _ h_=>ac (Qh (h_.v rfl) (h_.v rfl) QE QO rfl (by omega) hx10) rfl,fun _ h_=>ac (Q0 (h_.v rfl) QO rfl rfl) rfl,dxm rfl rfl,dxm rfl rfl,fun _ h_=>ac (Qh (h_.v rfl) (h_.v rfl) QE QO rfl (by omega) hx12) rfl,fun _ h_=>ac (Q0 (h_.v rfl) QO rfl rfl) rfl,fun _ h_=>ac (He (h_.v rfl) (h_.v rfl) rfl) rfl,⟨⟩⟩ ?_
   cases hb13:(!decide (x9=x11))
   ·have hb13':(x9=x11):=Zb hb13
    refine w_ ?_
    refine AC.skip ?_
    refine (?_:AC _ _ _ _ _)
    iterate 3 refine w_ ?_
    refine Qk<|QU ⟨k+1,by omega,rfl,(V1 hE hx10 hx12 (by first | exact (Ty.beq_iff _ _ _).1 (by assumption) | assumption)),rfl⟩ (by omega) ?_
    exact Wk.of [] rfl ⟨rfl,rfl,rfl,rfl,trivial⟩ trivial rfl rfl
   ·have hb13':¬(x9=x11):=Zk hb13
    iterate 4 refine w_ ?_
    refine Qf ?_
    subst hO
    have e14:(false:Bool)=(decide (a=b)):=by
     exact WN hx10 hx12 (by first | exact Qaf (by assumption) | assumption)
    exact Ql (Qm rfl (Qd rfl)) ((congrArg (fun z_=>lB z_) e14)) rfl
 ·have hb3':¬((a.length:Int)=(b.length:Int)):=Zk hb3
  iterate 4 refine w_ ?_
  refine Qf ?_
  subst hO
  have e15:(false:Bool)=(decide (a=b)):=by
   exact X5 (by assumption)
  exact Ql (Qm rfl (Qd rfl)) ((congrArg (fun z_=>lB z_) e15)) rfl
theorem UT (s:(Int×(List (List Int×List Int)))×(List (ByteArray×Int))×(List (Int×Bool))×ByteArray)[∀s,Decidable (StgOk s)]:FC Tryz.prog 243 [(true,[dI s.1.1, .dat (.sl 159 (.pr (.sl 3 .int) (.sl 3 .int))) s.1.2, .dat (.sl 145 (.pr .str .int)) s.2.1, .dat (.sl 61 (.pr .int .bool)) s.2.2.1,dS s.2.2.2])] [] 0 (Is (PV.tup [(false,[.ref 0]),(false,[dB ((frV s).2.1)]),(false,[dB ((frV s).2.2)])]) [(0,some (.arr 3 .int ((frV s).1)))]):=by
 refine QN Tryz.func243 rfl rfl Tryz.ntmps243 fun O_ hO w0_ N0_ X_ h0_ f0_=> ?_
 refine AC.fact (QG (x:= .tmp 0) (i:=0) (Qb rfl) rfl) fun hi1=> ?_
 refine w_ ?_
 refine lc (Qw 0 (Qb rfl) rfl rfl (Fresh.of rfl) (nlr rfl)) ?_
 iterate 7 refine w_ ?_
 refine lc (Q6 1 (Yn s) Qaw ⟨_,_,rfl,(Qb rfl),rfl⟩ rfl rfl ⟨Fresh.of rfl,Fresh.of rfl,Fresh.of rfl,trivial⟩ (nlr rfl)) ?_
 iterate 3 refine w_ ?_
 refine lc (Qp 4 (.pr (.sl 145 (.pr .str .int)) (.pr (.sl 9 .str) (.sl 179 (.pr .int (.pr .int (.pr .bool .int)))))) VR rfl rfl (Fresh.of rfl) (nlr rfl))<|lc (Qe (Qa rfl) rfl (Qb rfl) rfl ZA rfl) ?_
 iterate 6 refine w_ ?_
 cases hb2:((sgV s).2)
 ·iterate 6 refine w_ ?_
  refine AC.wk (Wk.nilS 5 2 3 .int rfl (Fresh.of rfl) (nlr rfl))<|Qf ?_
  subst hO
  have e3:(false:Bool)=((frV s).2.1):=by
   (rw[Qb4 (by assumption)]; done)
  have e4:(false:Bool)=((frV s).2.2):=by
   (rw[Qb4 (by assumption)]; done)
  exact QF _ _ [(0,5)] (XA rfl (Qd rfl) (Qd rfl) (Qd rfl)) (((congrArg (fun z_=>PV.tup [(false,[.ref 5]),(false,[dB z_]),(false,[dB false])]) e3)).trans (congrArg (fun z_=>PV.tup [(false,[.ref 5]),(false,[dB ((frV s).2.1)]),(false,[dB z_])]) e4)) ⟨(Qy (by (rw[Qb4 (by assumption)]; done))),trivial⟩ rfl rfl
 ·iterate 4 refine w_ ?_
  refine lc (Q6 6 (Ww s) JR ⟨_,_,rfl,(Qb rfl),rfl⟩ rfl rfl ⟨Fresh.of rfl,Fresh.of rfl,trivial⟩ (nlr rfl)) ?_
  iterate 3 refine w_ ?_
  refine lc (Qp 8 (.pr (.sl 9 .str) (.sl 226 (.pr .int (.pr .int .int)))) Wr rfl rfl (Fresh.of rfl) (nlr rfl))<|lc (Qe (Qa rfl) rfl (Qb rfl) rfl ZD rfl) ?_
  iterate 5 refine w_ ?_
  refine lc (Wo 9 (V2 s ((Qc s).1)) Qhp ⟨_,_,rfl,(Ev.b (Qb rfl)),⟨_,_,rfl,(XR (Qb rfl) ⟨_,_,rfl, .inr ⟨_,_,_,_,rfl,rfl,rfl⟩,⟨_,_,rfl, .inr ⟨_,_,_,_,rfl,rfl,rfl⟩,rfl⟩⟩),rfl⟩⟩ rfl rfl rfl ⟨Fresh.of rfl,trivial⟩ (nlr rfl)) ?_
  iterate 8 refine w_ ?_
  refine lc (Wo 10 (J0 ((Qc s).1)) Qhl ⟨_,_,rfl,(XR (Qb rfl) ⟨_,_,rfl, .inr ⟨_,_,_,_,rfl,rfl,rfl⟩,⟨_,_,rfl, .inr ⟨_,_,_,_,rfl,rfl,rfl⟩,rfl⟩⟩),rfl⟩ rfl rfl rfl ⟨Fresh.of rfl,trivial⟩ (nlr rfl)) ?_
  iterate 15 refine w_ ?_
  refine Qf ?_
  subst hO
  have e5:(decide (0 < (((dlV ((Qc s).1)).1).length:Int)):Bool)=((frV s).2.1):=by
   (rw[Hf (by assumption)]; rfl)
  have e6:(true:Bool)=((frV s).2.2):=by
   (rw[Hf (by assumption)]; done)
  exact QF _ _ [(0,9)] (XA rfl (Qd rfl) (Qd rfl) (Qd rfl)) (((congrArg (fun z_=>PV.tup [(false,[.ref 9]),(false,[dB z_]),(false,[dB true])]) e5)).trans (congrArg (fun z_=>PV.tup [(false,[.ref 9]),(false,[dB ((frV s).2.1)]),(false,[dB z_])]) e6)) ⟨(Qy (by (rw[Hf (by assumption)]; rfl))),trivial⟩ rfl rfl
theorem Y3 (s:(Int×(List (List Int×List Int)))×(List (ByteArray×Int))×(List (Int×Bool))×ByteArray)[∀s,Decidable (StgOk s)]:FC Tryz.prog 89 [(true,[dI s.1.1, .dat (.sl 159 (.pr (.sl 3 .int) (.sl 3 .int))) s.1.2, .dat (.sl 145 (.pr .str .int)) s.2.1, .dat (.sl 61 (.pr .int .bool)) s.2.2.1,dS s.2.2.2])] [] 0 (Zq (lB ((sgV s).2))):=by
 refine QN Tryz.func89 rfl rfl Tryz.ntmps89 fun O_ hO w0_ N0_ X_ h0_ f0_=> ?_
 refine AC.fact (QG (x:= .tmp 0) (i:=0) (Qb rfl) rfl) fun hi1=> ?_
 refine w_ ?_
 refine lc (Qw 0 (Qb rfl) rfl rfl (Fresh.of rfl) (nlr rfl)) ?_
 iterate 4 refine w_ ?_
 refine lc (Q6 1 (Xt s) QcG ⟨_,_,rfl,(Qb rfl),rfl⟩ rfl rfl ⟨Fresh.of rfl,Fresh.of rfl,Fresh.of rfl,trivial⟩ (nlr rfl)) ?_
 iterate 3 refine w_ ?_
 refine lc (Qp 4 (.pr (.sl 145 (.pr .str .int)) (.pr (.sl 9 .str) (.sl 179 (.pr .int (.pr .int (.pr .bool .int)))))) VR rfl rfl (Fresh.of rfl) (nlr rfl))<|lc (Qe (Qa rfl) rfl (Qb rfl) rfl ZA rfl) ?_
 iterate 6 refine w_ ?_
 refine Qf ?_
 subst hO
 exact Ql (Qm rfl (Qd rfl)) rfl rfl
theorem Up (s:(Int×(List (List Int×List Int)))×(List (ByteArray×Int))×(List (Int×Bool))×ByteArray)[∀s,Decidable (StgOk s)]:FC Tryz.prog 277 [(true,[dI s.1.1, .dat (.sl 159 (.pr (.sl 3 .int) (.sl 3 .int))) s.1.2, .dat (.sl 145 (.pr .str .int)) s.2.1, .dat (.sl 61 (.pr .int .bool)) s.2.2.1,dS s.2.2.2])] [] 0 (Is (PV.tup [(false,[.ref 0]),(false,[dB (V0 s)])]) [(0,some (.arr 3 .int (Wc s)))]):=by
 refine QN Tryz.func277 rfl rfl Tryz.ntmps277 fun O_ hO w0_ N0_ X_ h0_ f0_=> ?_
 refine AC.fact (QG (x:= .tmp 0) (i:=0) (Qb rfl) rfl) fun hi1=> ?_
 refine w_ ?_
 refine lc (Qw 0 (Qb rfl) rfl rfl (Fresh.of rfl) (nlr rfl)) ?_
 iterate 5 refine w_ ?_
 refine lc (Q6 1 (Wt s) Qav ⟨_,_,rfl,(Qb rfl),rfl⟩ rfl rfl ⟨Fresh.of rfl,Fresh.of rfl,trivial⟩ (nlr rfl)) ?_
 iterate 3 refine w_ ?_
 refine lc (Qp 3 (.pr (.sl 9 .str) (.sl 226 (.pr .int (.pr .int .int)))) Wr rfl rfl (Fresh.of rfl) (nlr rfl))<|lc (Qe (Qa rfl) rfl (Qb rfl) rfl ZD rfl) ?_
 iterate 5 refine w_ ?_
 refine lc (Wo 4 (Uf s ((Qc s).1)) QhE ⟨_,_,rfl,(Ev.b (Qb rfl)),⟨_,_,rfl,(XR (Qb rfl) ⟨_,_,rfl, .inr ⟨_,_,_,_,rfl,rfl,rfl⟩,⟨_,_,rfl, .inr ⟨_,_,_,_,rfl,rfl,rfl⟩,rfl⟩⟩),rfl⟩⟩ rfl rfl rfl ⟨Fresh.of rfl,trivial⟩ (nlr rfl)) ?_
 iterate 8 refine w_ ?_
 refine lc (Wo 5 (HL ((Qc s).1)) QiP ⟨_,_,rfl,(XR (Qb rfl) ⟨_,_,rfl, .inr ⟨_,_,_,_,rfl,rfl,rfl⟩,⟨_,_,rfl, .inr ⟨_,_,_,_,rfl,rfl,rfl⟩,rfl⟩⟩),rfl⟩ rfl rfl rfl ⟨Fresh.of rfl,trivial⟩ (nlr rfl)) ?_
 iterate 14 refine w_ ?_
 refine Qf ?_
 subst hO
 have e2:(decide (0 < (((dlV ((Qc s).1)).1).length:Int)):Bool)=(V0 s):=by
  rfl
 exact QF _ _ [(0,4)] (QC rfl (Qd rfl) (Qd rfl)) ((congrArg (fun z_=>PV.tup [(false,[.ref 4]),(false,[dB z_])]) e2)) ⟨(Qy (by rfl)),trivial⟩ rfl rfl
theorem VJ (a:(Int×(List (List Int×List Int)))×(List (ByteArray×Int))×(List (Int×Bool))×ByteArray)(b:(Int×(List (List Int×List Int)))×(List (ByteArray×Int))×(List (Int×Bool))×ByteArray)[∀s,Decidable (StgOk s)]:FC Tryz.prog 175 [(true,[dI a.1.1, .dat (.sl 159 (.pr (.sl 3 .int) (.sl 3 .int))) a.1.2, .dat (.sl 145 (.pr .str .int)) a.2.1, .dat (.sl 61 (.pr .int .bool)) a.2.2.1,dS a.2.2.2]),(true,[dI b.1.1, .dat (.sl 159 (.pr (.sl 3 .int) (.sl 3 .int))) b.1.2, .dat (.sl 145 (.pr .str .int)) b.2.1, .dat (.sl 61 (.pr .int .bool)) b.2.2.1,dS b.2.2.2])] [] 0 (Zq (PV.tup [(false,[dB ((pfV a b).1)]),(false,[dB ((pfV a b).2)])])):=by
 refine QN Tryz.func175 rfl rfl Tryz.ntmps175 fun O_ hO w0_ N0_ X_ h0_ f0_=> ?_
 refine AC.fact (QG (x:= .tmp 0) (i:=0) (Qb rfl) rfl) fun hi1=>AC.fact (QG (x:= .tmp 1) (i:=0) (Qb rfl) rfl) fun hi2=> ?_
 refine w_ ?_
 refine lc (Qw 0 (Qb rfl) rfl rfl (Fresh.of rfl) (nlr rfl))<|lc (Qw 1 (Qb rfl) rfl rfl (Fresh.of rfl) (nlr rfl)) ?_
 iterate 5 refine w_ ?_
 refine lc (Q6 2 (UT a) QcU ⟨_,_,rfl,(Qb rfl),rfl⟩ rfl rfl ⟨Fresh.of rfl,trivial⟩ (nlr rfl)) ?_
 iterate 10 refine w_ ?_
 refine lc (Q6 3 (UT b) QcU ⟨_,_,rfl,(Qb rfl),rfl⟩ rfl rfl ⟨Fresh.of rfl,trivial⟩ (nlr rfl)) ?_
 iterate 13 refine w_ ?_
 cases hb3:((frV a).2.2)
 ·iterate 25 refine w_ ?_
  refine Qf ?_
  subst hO
  have e4:(false:Bool)=((pfV a b).1):=by
   (rw[Qjr (by assumption)]; done)
  have e5:(false:Bool)=((pfV a b).2):=by
   (rw[Qjr (by assumption)]; done)
  exact Ql (QC rfl (Qd rfl) (Qd rfl)) (((congrArg (fun z_=>PV.tup [(false,[dB z_]),(false,[dB false])]) e4)).trans (congrArg (fun z_=>PV.tup [(false,[dB ((pfV a b).1)]),(false,[dB z_])]) e5)) rfl
 ·iterate 4 refine w_ ?_
  cases hb6:((frV b).2.2)
  ·iterate 21 refine w_ ?_
   refine Qf ?_
   subst hO
   have e7:(false:Bool)=((pfV a b).1):=by
    (rw[QjD (by assumption)]; done)
   have e8:(false:Bool)=((pfV a b).2):=by
    (rw[QjD (by assumption)]; done)
   exact Ql (QC rfl (Qd rfl) (Qd rfl)) (((congrArg (fun z_=>PV.tup [(false,[dB z_]),(false,[dB false])]) e7)).trans (congrArg (fun z_=>PV.tup [(false,[dB ((pfV a b).1)]),(false,[dB z_])]) e8)) rfl
  ·iterate 4 refine w_ ?_
   refine lgy rfl rfl (Qn (YF a.2.1 b.2.1) QiD ⟨_,_,rfl,(Qb rfl),⟨_,_,rfl,(Qb rfl),rfl⟩⟩ rfl rfl) ?_
   iterate 3 refine w_ ?_
   cases hb9:(decide (a.2.1=b.2.1))
   ·have hb9':=of_decide_eq_false hb9
    iterate 13 refine w_ ?_
    refine Qf ?_
    subst hO
    have e10:(false:Bool)=((pfV a b).1):=by
     (rw[Qa8 (by assumption)]; done)
    have e11:(false:Bool)=((pfV a b).2):=by
     (rw[Qa8 (by assumption)]; done)
    exact Ql (QC rfl (Qd rfl) (Qd rfl)) (((congrArg (fun z_=>PV.tup [(false,[dB z_]),(false,[dB false])]) e10)).trans (congrArg (fun z_=>PV.tup [(false,[dB ((pfV a b).1)]),(false,[dB z_])]) e11)) rfl
   ·have hb9':=of_decide_eq_true hb9
    iterate 4 refine w_ ?_
    refine lgy rfl rfl (Qn (Y1 a.2.2.1 b.2.2.1) Qhi ⟨_,_,rfl,(Qb rfl),⟨_,_,rfl,(Qb rfl),rfl⟩⟩ rfl rfl) ?_
    iterate 3 refine w_ ?_
    cases hb12:(decide (a.2.2.1=b.2.2.1))
    ·have hb12':=of_decide_eq_false hb12
     iterate 5 refine w_ ?_
     refine Qf ?_
     subst hO
     have e13:(false:Bool)=((pfV a b).1):=by
      (rw[Qbv (by assumption)]; done)
     have e14:(false:Bool)=((pfV a b).2):=by
      (rw[Qbv (by assumption)]; done)
     exact Ql (QC rfl (Qd rfl) (Qd rfl)) (((congrArg (fun z_=>PV.tup [(false,[dB z_]),(false,[dB false])]) e13)).trans (congrArg (fun z_=>PV.tup [(false,[dB ((pfV a b).1)]),(false,[dB z_])]) e14)) rfl
    ·have hb12':=of_decide_eq_true hb12
     iterate 5 refine w_ ?_
     refine lc (Zm (Yj ((frV a).1) ((frV b).1)) JA ⟨_,_,rfl,(Us (Qa rfl) rfl),⟨_,_,rfl,(Us (Qa rfl) rfl),rfl⟩⟩ rfl rfl rfl) ?_
     refine w_ ?_
     cases hb15:(decide (((frV a).1)=((frV b).1)))
     ·have hb15':=of_decide_eq_false hb15
      iterate 3 refine w_ ?_
      refine Q8 rfl rfl rfl ?_ rfl
      iterate 5 refine w_ ?_
      refine Qf ?_
      subst hO
      have e16:(false:Bool)=((pfV a b).1):=by
       (rw[Qlw (by assumption) (by assumption) (by assumption) (by assumption) (by assumption)]; done)
      have e17:(true:Bool)=((pfV a b).2):=by
       (rw[Qlw (by assumption) (by assumption) (by assumption) (by assumption) (by assumption)]; done)
      exact Ql (QC rfl (Qd rfl) (Qd rfl)) (((congrArg (fun z_=>PV.tup [(false,[dB z_]),(false,[dB true])]) e16)).trans (congrArg (fun z_=>PV.tup [(false,[dB ((pfV a b).1)]),(false,[dB z_])]) e17)) rfl
     ·have hb15':=of_decide_eq_true hb15
      iterate 3 refine w_ ?_
      cases hb18:((frV b).2.1)
      ·iterate 6 refine w_ ?_
       refine Qf ?_
       subst hO
       have e19:(true:Bool)=((pfV a b).1):=by
        (rw[QmP (by assumption) (by assumption) (by assumption) (by assumption) (by assumption) (by assumption)]; done)
       have e20:(true:Bool)=((pfV a b).2):=by
        (rw[QmP (by assumption) (by assumption) (by assumption) (by assumption) (by assumption) (by assumption)]; done)
       exact Ql (QC rfl (Qd rfl) (Qd rfl)) (((congrArg (fun z_=>PV.tup [(false,[dB z_]),(false,[dB true])]) e19)).trans (congrArg (fun z_=>PV.tup [(false,[dB ((pfV a b).1)]),(false,[dB z_])]) e20)) rfl
      ·iterate 6 refine w_ ?_
       refine Qf ?_
       subst hO
       have e21:((frV a).2.1:Bool)=((pfV a b).1):=by
        (rw[Qmv (by assumption) (by assumption) (by assumption) (by assumption) (by assumption) (by assumption)]; done)
       have e22:(true:Bool)=((pfV a b).2):=by
        (rw[Qmv (by assumption) (by assumption) (by assumption) (by assumption) (by assumption) (by assumption)]; done)
       exact Ql (QC rfl (Qd rfl) (Qd rfl)) (((congrArg (fun z_=>PV.tup [(false,[dB z_]),(false,[dB true])]) e21)).trans (congrArg (fun z_=>PV.tup [(false,[dB ((pfV a b).1)]),(false,[dB z_])]) e22)) rfl
theorem VQ (a:(Int×(List (List Int×List Int)))×(List (ByteArray×Int))×(List (Int×Bool))×ByteArray)(b:(Int×(List (List Int×List Int)))×(List (ByteArray×Int))×(List (Int×Bool))×ByteArray)[∀s,Decidable (StgOk s)]:FC Tryz.prog 228 [(true,[dI a.1.1, .dat (.sl 159 (.pr (.sl 3 .int) (.sl 3 .int))) a.1.2, .dat (.sl 145 (.pr .str .int)) a.2.1, .dat (.sl 61 (.pr .int .bool)) a.2.2.1,dS a.2.2.2]),(true,[dI b.1.1, .dat (.sl 159 (.pr (.sl 3 .int) (.sl 3 .int))) b.1.2, .dat (.sl 145 (.pr .str .int)) b.2.1, .dat (.sl 61 (.pr .int .bool)) b.2.2.1,dS b.2.2.2])] [] 0 (Zq (PV.tup [(false,[dB ((pfV a b).1)]),(false,[dB ((pfV a b).2)])])):=by
 refine QN Tryz.func228 rfl rfl Tryz.ntmps228 fun O_ hO w0_ N0_ X_ h0_ f0_=> ?_
 refine AC.fact (QG (x:= .tmp 0) (i:=0) (Qb rfl) rfl) fun hi1=>AC.fact (QG (x:= .tmp 1) (i:=0) (Qb rfl) rfl) fun hi2=> ?_
 refine w_ ?_
 refine lc (Qw 0 (Qb rfl) rfl rfl (Fresh.of rfl) (nlr rfl))<|lc (Qw 1 (Qb rfl) rfl rfl (Fresh.of rfl) (nlr rfl)) ?_
 iterate 6 refine w_ ?_
 refine lc (Qn (Y3 a) KX ⟨_,_,rfl,(Qb rfl),rfl⟩ rfl rfl) ?_
 iterate 2 refine w_ ?_
 cases hb3:((sgV a).2)
 ·iterate 26 refine w_ ?_
  refine Qf ?_
  subst hO
  have e4:(false:Bool)=((pfV a b).1):=by
   (rw[Qi3 (by assumption)]; done)
  have e5:(false:Bool)=((pfV a b).2):=by
   (rw[Qi3 (by assumption)]; done)
  exact Ql (QC rfl (Qd rfl) (Qd rfl)) (((congrArg (fun z_=>PV.tup [(false,[dB z_]),(false,[dB false])]) e4)).trans (congrArg (fun z_=>PV.tup [(false,[dB ((pfV a b).1)]),(false,[dB z_])]) e5)) rfl
 ·refine w_ ?_
  refine lgy rfl rfl (Qn (Y3 b) KX ⟨_,_,rfl,(Qb rfl),rfl⟩ rfl rfl) ?_
  iterate 3 refine w_ ?_
  cases hb6:((sgV b).2)
  ·iterate 21 refine w_ ?_
   refine Qf ?_
   subst hO
   have e7:(false:Bool)=((pfV a b).1):=by
    (rw[QfG (by assumption)]; done)
   have e8:(false:Bool)=((pfV a b).2):=by
    (rw[QfG (by assumption)]; done)
   exact Ql (QC rfl (Qd rfl) (Qd rfl)) (((congrArg (fun z_=>PV.tup [(false,[dB z_]),(false,[dB false])]) e7)).trans (congrArg (fun z_=>PV.tup [(false,[dB ((pfV a b).1)]),(false,[dB z_])]) e8)) rfl
  ·iterate 4 refine w_ ?_
   refine lgy rfl rfl (Qn (U4 a.2.1 b.2.1) Qiz ⟨_,_,rfl,(Qb rfl),⟨_,_,rfl,(Qb rfl),rfl⟩⟩ rfl rfl) ?_
   iterate 3 refine w_ ?_
   cases hb9:(decide (a.2.1=b.2.1))
   ·have hb9':=of_decide_eq_false hb9
    iterate 13 refine w_ ?_
    refine Qf ?_
    subst hO
    have e10:(false:Bool)=((pfV a b).1):=by
     (rw[Qa8 (by assumption)]; done)
    have e11:(false:Bool)=((pfV a b).2):=by
     (rw[Qa8 (by assumption)]; done)
    exact Ql (QC rfl (Qd rfl) (Qd rfl)) (((congrArg (fun z_=>PV.tup [(false,[dB z_]),(false,[dB false])]) e10)).trans (congrArg (fun z_=>PV.tup [(false,[dB ((pfV a b).1)]),(false,[dB z_])]) e11)) rfl
   ·have hb9':=of_decide_eq_true hb9
    iterate 4 refine w_ ?_
    refine lgy rfl rfl (Qn (U2 a.2.2.1 b.2.2.1) QiI ⟨_,_,rfl,(Qb rfl),⟨_,_,rfl,(Qb rfl),rfl⟩⟩ rfl rfl) ?_
    iterate 3 refine w_ ?_
    cases hb12:(decide (a.2.2.1=b.2.2.1))
    ·have hb12':=of_decide_eq_false hb12
     iterate 5 refine w_ ?_
     refine Qf ?_
     subst hO
     have e13:(false:Bool)=((pfV a b).1):=by
      (rw[Qbv (by assumption)]; done)
     have e14:(false:Bool)=((pfV a b).2):=by
      (rw[Qbv (by assumption)]; done)
     exact Ql (QC rfl (Qd rfl) (Qd rfl)) (((congrArg (fun z_=>PV.tup [(false,[dB z_]),(false,[dB false])]) e13)).trans (congrArg (fun z_=>PV.tup [(false,[dB ((pfV a b).1)]),(false,[dB z_])]) e14)) rfl
    ·have hb12':=of_decide_eq_true hb12
     iterate 4 refine w_ ?_
     refine lc (Q6 2 (Up a) QbK ⟨_,_,rfl,(Qb rfl),rfl⟩ rfl rfl ⟨Fresh.of rfl,trivial⟩ (nlr rfl)) ?_
     iterate 8 refine w_ ?_
     refine lc (Q6 3 (Up b) QbK ⟨_,_,rfl,(Qb rfl),rfl⟩ rfl rfl ⟨Fresh.of rfl,trivial⟩ (nlr rfl)) ?_
     iterate 9 refine w_ ?_
     refine lc (Zm (WX (Wc a) (Wc b)) JP ⟨_,_,rfl,(Us (Qa rfl) rfl),⟨_,_,rfl,(Us (Qa rfl) rfl),rfl⟩⟩ rfl rfl rfl) ?_
     refine w_ ?_
     cases hb15:(decide ((Wc a)=(Wc b)))
     ·have hb15':=of_decide_eq_false hb15
      iterate 2 refine w_ ?_
      refine Q8 rfl rfl rfl ?_ rfl
      refine Q8 rfl rfl rfl ?_ rfl
      iterate 5 refine w_ ?_
      refine Qf ?_
      subst hO
      have e16:(false:Bool)=((pfV a b).1):=by
       (rw[Qmr (by assumption) (by assumption) (by assumption) (by assumption) (by assumption)]; done)
      have e17:(true:Bool)=((pfV a b).2):=by
       (rw[Qmr (by assumption) (by assumption) (by assumption) (by assumption) (by assumption)]; done)
      exact Ql (QC rfl (Qd rfl) (Qd rfl)) (((congrArg (fun z_=>PV.tup [(false,[dB z_]),(false,[dB true])]) e16)).trans (congrArg (fun z_=>PV.tup [(false,[dB ((pfV a b).1)]),(false,[dB z_])]) e17)) rfl
     ·have hb15':=of_decide_eq_true hb15
      iterate 2 refine w_ ?_
      cases hb18:(V0 a)
      ·iterate 7 refine w_ ?_
       refine Qf ?_
       subst hO
       have e19:(!(V0 b):Bool)=((pfV a b).1):=by
        (rw[Qmu (by assumption) (by assumption) (by assumption) (by assumption) (by assumption) (by assumption)]; done)
       have e20:(true:Bool)=((pfV a b).2):=by
        (rw[Qmu (by assumption) (by assumption) (by assumption) (by assumption) (by assumption) (by assumption)]; done)
       exact Ql (QC rfl (Qd rfl) (Qd rfl)) (((congrArg (fun z_=>PV.tup [(false,[dB z_]),(false,[dB true])]) e19)).trans (congrArg (fun z_=>PV.tup [(false,[dB ((pfV a b).1)]),(false,[dB z_])]) e20)) rfl
      ·iterate 7 refine w_ ?_
       refine Qf ?_
       subst hO
       have e21:(true:Bool)=((pfV a b).1):=by
        (rw[Qk2 (by assumption) (by assumption) (by assumption) (by assumption) (by assumption) (by assumption)]; done)
       have e22:(true:Bool)=((pfV a b).2):=by
        (rw[Qk2 (by assumption) (by assumption) (by assumption) (by assumption) (by assumption) (by assumption)]; done)
       exact Ql (QC rfl (Qd rfl) (Qd rfl)) (((congrArg (fun z_=>PV.tup [(false,[dB z_]),(false,[dB true])]) e21)).trans (congrArg (fun z_=>PV.tup [(false,[dB ((pfV a b).1)]),(false,[dB z_])]) e22)) rfl
end Go.Proofs.YtnakmhfjafecpaaGreat
namespace Go.Proofs.YtnakmhfjafecpaaGreat
open Go.RowKit
set_option maxRecDepth 100000
set_option maxHeartbeats 4000000
theorem Hj {A:Amb}{P:Program}{o:Oper}{s:St}{d:Nat}{b b':Bool}(e:b=b')(h:Does A P o s (s.put d (lf (dB b)))):Does A P o s (s.put d (lf (dB b'))):=e▸h
abbrev DSg:=List (ByteArray×Int)×List ByteArray×List DAr
def Qkn (n:Int)(l:Zn):Prop:=(0≤l.1∧l.1≤n - 1)∨(l.1= -1∧l.2=false)
instance (n:Int) (l:Zn):Decidable (Qkn n l):=inferInstanceAs (Decidable (_∨_))
def Qoe (s:ByteArray)(n:Int):Prop:=(∀c∈s.toList,c=48∨c=49)∧(s.size:Int)=n
instance (s:ByteArray) (n:Int):Decidable (Qoe s n):=inferInstanceAs (Decidable (_∧_))
section
variable {n:Int}{l:Zn}{s x y:ByteArray}{k:Nat}{c d:UInt8}{a:DAr}
def QkU (a:DAr)(x y:ByteArray)(j:Nat):Prop:=if (j:Int)=a.2.1 then (decide (bAt x j=49)= !a.2.2.1∧decide (bAt y j=49)=a.2.2.1) else bAt x j=bAt y j
instance (a:DAr) (x y:ByteArray) (j:Nat):Decidable (QkU a x y j):=by unfold QkU; exact inferInstance
def Fit (a:DAr)(x y:ByteArray):Prop:=∀j,j < x.size→QkU a x y j
instance (a:DAr) (x y:ByteArray):Decidable (Fit a x y):=by unfold Fit; exact inferInstance
def QqC (code:ByteArray)(sig:Int)(b:ByteArray):ByteArray:=(code.extract 0 sig.toNat++b)++code.extract (sig+1).toNat code.size
end
end Go.Proofs.YtnakmhfjafecpaaGreat
namespace Go.Proofs.YtnakmhfjafecpaaGreat
open Go.RowKit
set_option maxRecDepth 100000
set_option maxHeartbeats 4000000
def Qh4 (c:DSg)(i:Int):ByteArray:=(c.2.1[i.toNat]?).getD ByteArray.empty
def QlH (c:DSg)(a:DAr):Prop:=(0≤a.1∧a.1≤(c.2.1.length:Int) - 1)∧(0≤a.2.2.2∧a.2.2.2≤(c.2.1.length:Int) - 1)∧Qkn (c.1.length:Int) (a.2.1,a.2.2.1)∧Fit a (Qh4 c a.1) (Qh4 c a.2.2.2)
instance (c:DSg) (a:DAr):Decidable (QlH c a):=inferInstanceAs (Decidable (_∧_))
section
variable {c:DSg}{a:DAr}{x y b code:ByteArray}{n sig p:Int}{j k m:Nat}
section
variable (h1:0≤a.1∧a.1≤(c.2.1.length:Int) - 1)(h2:0≤a.2.2.2∧a.2.2.2≤(c.2.1.length:Int) - 1)(h3:Qkn (c.1.length:Int) (a.2.1,a.2.2.1))(hx:c.2.1[a.1.toNat]? =some x)(hy:c.2.1[a.2.2.2.toNat]? =some y)
include h1 h2 h3 hx hy
end
end
end Go.Proofs.YtnakmhfjafecpaaGreat
namespace Go.Proofs.YtnakmhfjafecpaaGreat
open Go.RowKit
set_option maxRecDepth 100000
set_option maxHeartbeats 4000000
inductive Rch (es:List (Int×Int)):Int→Prop
  | zero:Rch es 0
  | step {u v:Int}:Rch es u→(u,v)∈es→Rch es v
def QoI (rs:List DAr):List (Int×Int):=rs.map fun a=>(a.1,a.2.2.2)
def InE (n:Nat)(e:Int×Int):Prop:=(0≤e.1∧e.1 < n)∧0≤e.2∧e.2 < n
def QpC (n:Nat)(es:List (Int×Int)):Prop:=∀k:Nat,k < n→Rch es k
def Qpl (e:Int×Int)(m:List Bool):List Bool:=if m[e.1.toNat]? =some true then m.set e.2.toNat true else m
def Qn1:List (Int×Int)→List Bool→List Bool
  | [],m=>m
  | e :: es,m=>Qn1 es (Qpl e m)
def Qpu (es:List (Int×Int)):Nat→List Bool→List Bool
  | 0,m=>m
  | f+1,m=>Qpu es f (Qn1 es m)
section
variable {es:List (Int×Int)}{e:Int×Int}{m:List Bool}{n f i k:Nat}{rs:List DAr}{a:DAr}{b:Bool}
def Qqw (m:List Bool):Nat:=(m.filter fun b=> !b).length
def m0 (n:Nat):List Bool:=(List.replicate n false).set 0 true
section
variable [Decidable (QpC n es)]
end
end
theorem Ue (s:List Int)(v:Int):FC Tryz.prog 224 [(false,[.dat (.sl 3 .int) s]),(false,[dI v])] [] 0 (Zq (lI (ZH (fun y=>decide (v=y)) s))):=by
 refine QN Tryz.func224 rfl rfl Tryz.ntmps224 fun O_ hO w0_ N0_ X_ h0_ f0_=> ?_
 refine AC.fact (QA (x:= .tmp 1) (Qa rfl)) fun hi1=> ?_
 iterate 6 refine w_ ?_
 refine AL.fact (Qq (x:= .tmp 6) (Qa rfl)) fun hl2=> ?_
 iterate 4 refine w_ ?_
 refine Qx (fun m_ s_=>∃(k:Nat),k≤s.length∧m_=s.length - k∧(NoneTo (fun y=>decide (v=y)) s k)∧s_=⟨[(0,lf (.dat (.sl 3 .int) s)),(1,lI v),(7,lI (s.length:Int)),(8,lI (k:Int))],[]⟩) ⟨0,Nat.zero_le _,rfl,NoneTo.zero,rfl⟩ ?_ ?_
 · exact Wk.of [] rfl ⟨rfl,rfl,rfl,rfl,trivial⟩ trivial rfl rfl
 rintro m_ s_ ⟨k,hk3,hm4,hno,rfl⟩
 iterate 4 refine w_ ?_
 cases hb5:(decide ((k:Int) < (s.length:Int)))
 ·have hb5':=of_decide_eq_false hb5
  refine w_ ?_
  refine QB ?_
  refine (?_:AC _ _ _ _ _)
  iterate 3 refine w_ ?_
  refine Qf ?_
  subst hO
  have e6:((-1):Int)=(ZH (fun y=>decide (v=y)) s):=by
   first | exact (hno.no (by omega)).symm
  exact Ql (Qm rfl (Qd rfl)) ((congrArg (fun z_=>lI z_) e6)) rfl
 ·have hb5':=of_decide_eq_true hb5
  iterate 12 refine w_ ?_
  obtain ⟨x7,hx8⟩:∃z,s[k]? =some z:=⟨_,List.getElem?_eq_getElem (by omega)⟩
  refine lc (Qh (Qa rfl) (Qa rfl) QE QO rfl (by omega) hx8) ?_
  refine w_ ?_
  refine AL.fact (QA (x:= .tmp 15) (Qa rfl)) fun hi9=> ?_
  iterate 2 refine w_ ?_
  cases hb10:(decide (v=x7))
  ·have hb10':=of_decide_eq_false hb10
   refine w_ ?_
   refine AC.skip ?_
   refine (?_:AC _ _ _ _ _)
   iterate 3 refine w_ ?_
   refine Qk<|QU ⟨k+1,by omega,rfl,hno.step hx8 (by assumption),rfl⟩ (by omega) ?_
   exact Wk.of [] rfl ⟨rfl,rfl,rfl,rfl,trivial⟩ trivial rfl rfl
  ·have hb10':=of_decide_eq_true hb10
   iterate 5 refine w_ ?_
   refine Qf ?_
   subst hO
   have e11:((k:Int):Int)=(ZH (fun y=>decide (v=y)) s):=by
    exact (hno.at hx8 (by assumption)).symm
   exact Ql (Qm rfl (Qd rfl)) ((congrArg (fun z_=>lI z_) e11)) rfl
theorem Ve (s:List Int)(v:Int):FC Tryz.prog 158 [(false,[.dat (.sl 3 .int) s]),(false,[dI v])] [] 0 (Zq (lB (s.any (fun y=>decide (v=y))))):=by
 refine QN Tryz.func158 rfl rfl Tryz.ntmps158 fun O_ hO w0_ N0_ X_ h0_ f0_=> ?_
 refine AC.fact (QA (x:= .tmp 1) (Qa rfl)) fun hi1=> ?_
 iterate 6 refine w_ ?_
 refine lc (Qn (Ue s v) Qiw ⟨_,_,rfl,(Qb rfl),⟨_,_,rfl,(Qb rfl),rfl⟩⟩ rfl rfl) ?_
 iterate 3 refine w_ ?_
 refine Qf ?_
 subst hO
 have e2:(decide (0≤(ZH (fun y=>decide (v=y)) s)):Bool)=(s.any (fun y=>decide (v=y))):=by
  exact W6 _ _
 exact Ql (Qm rfl (Qd rfl)) ((congrArg (fun z_=>lB z_) e2)) rfl
end Go.Proofs.YtnakmhfjafecpaaGreat
namespace Go.Proofs.YtnakmhfjafecpaaGreat
open Go.RowKit
set_option maxRecDepth 100000
set_option maxHeartbeats 4000000
structure SgOk (c:DSg):Prop where
  sigs:QbD c.1
  some_:1≤c.2.1.length∧c.2.1.length≤300
  few:c.2.2.length≤4000
  codes:∀x∈c.2.1,Qoe x (c.1.length:Int)
  arcs:∀a∈c.2.2,QlH c a
  all:QpC c.2.1.length (QoI c.2.2)
theorem K8 {α:Type}{p:α→Prop}{l:List α}{k:Nat}{x:α}(h:∀j,j < k→∀x,l[j]? =some x→p x)(hx:l[k]? =some x)(hp:p x):∀j,j < k+1→∀x,l[j]? =some x→p x:=fun j hj y hy=>by
  by_cases e:j=k
  · subst e; rw[hx] at hy; cases hy; exact hp
  · exact h j (by omega) y hy
theorem Qi7 {c:DSg}{a:DAr}(h:QlH c a):InR c.2.1.length a:=by
  obtain ⟨⟨h1,h2⟩,⟨h3,h4⟩,_⟩:=h
  exact ⟨⟨h1,by omega⟩,h3,by omega⟩
section
variable {c:DSg}[Decidable (SgOk c)]{x:ByteArray}{a:DAr}{k i:Nat}
end
end Go.Proofs.YtnakmhfjafecpaaGreat
