/- Walks over abstract states: sameness of slices, the firings of a graph. -/
import Derived.Test.YtjaadeknhofhpaaGreatWr
import Derived.Test.YtjaadeknhofhpaaGreatAk
import Derived.Laws.Bits64b
set_option linter.unusedSimpArgs false
set_option linter.unusedVariables false
set_option linter.unusedSectionVars false
namespace Go.Proofs.YtjaadeknhofhpaaGreat
open Go.RowKit
set_option maxRecDepth 100000
set_option maxHeartbeats 4000000
section
variable {α:Type}[DecidableEq α]{a b:List α}{k:Nat}{x y:α}
theorem W4 (h:¬(a.length:Int)=(b.length:Int)):false=decide (a=b):=(aP fun e=>h (by rw[e])).symm
theorem V1 (hx:a[k]? =some x)(hy:b[k]? =some y)(h:x≠y):false=decide (a=b):=(aP fun e=>h (by rw[e,hy] at hx; exact (Option.some.inj hx).symm)).symm
theorem KI {α:Type}{a b:List α}{k:Nat}{x y:α}(hE:∀j,j < k→a[j]? =b[j]?)(hx:a[k]? =some x)(hy:b[k]? =some y)(h:x=y):∀j,j < k+1→a[j]? =b[j]? :=fun j hj=>by
  by_cases e:j=k
  · rw[e,hx,hy,h]
  · exact hE j (by omega)
theorem HR (hl:(a.length:Int)=(b.length:Int))(hE:∀j,j < k→a[j]? =b[j]?)(hk:a.length≤k):true=decide (a=b):=(aK (bp fun j=>by
  by_cases h:j < k
  · exact hE j h
  · rw[bB (by omega),bB (by omega)])).symm
theorem QbS {t:Ty}{x y:t.Den}(h:Ty.beq t x y=false):x≠y:=fun e=>by rw[(Ty.beq_iff t x y).2 e] at h; cases h
end
section
variable [∀s,Decidable (StgOk s)]
def Vw (s:QX):List Int:=(dtV s (Qe s).1).1
def Ko (s:QX):Bool:=decide ((0:Int) < ((dlV (Qe s).1).1.length:Int))
def frV (s:QX):List Int×Bool×Bool:=if (sgV s).2=true then (Vw s,Ko s,true) else ([],false,false)
theorem Qej {s:QX}(h:(sgV s).2=false):frV s=([],false,false):=if_neg (by rw[h]; decide)
theorem QbE {s:QX}(h:(sgV s).2=true):frV s=(Vw s,Ko s,true):=if_pos h
def pfI (a b:QX):Bool×Bool:=if (frV a).2.2=true∧(frV b).2.2=true∧a.2.1=b.2.1∧a.2.2.1=b.2.2.1 then (decide ((frV a).1=(frV b).1)&&(!(frV b).2.1||(frV a).2.1),true) else (false,false)
def pfV (a b:QX):Bool×Bool:=if (sgV a).2=true∧(sgV b).2=true∧a.2.1=b.2.1∧a.2.2.1=b.2.2.1 then (decide (Vw a=Vw b)&&(Ko a|| !Ko b),true) else (false,false)
theorem Qba (a b:QX):pfI a b=pfV a b:=by
  unfold pfI pfV
  cases ha:(sgV a).2 with
  | false=>rw[Qej ha]; simp
  | true=>
    cases hb:(sgV b).2 with
    | false=>rw[Qej hb]; simp
    | true=>rw[QbE ha,QbE hb,Bool.or_comm]
section
variable {a b:QX}
theorem QlF (h:(frV a).2.2=false):pfV a b=(false,false):=by rw[← Qba]; exact if_neg fun g=>by rw[h] at g; cases g.1
theorem Qls (h:(frV b).2.2=false):pfV a b=(false,false):=by rw[← Qba]; exact if_neg fun g=>by rw[h] at g; cases g.2.1
theorem Qdc (h:¬a.2.1=b.2.1):pfV a b=(false,false):=by rw[← Qba]; exact if_neg fun g=>h g.2.2.1
theorem Qc5 (h:¬a.2.2.1=b.2.2.1):pfV a b=(false,false):=by rw[← Qba]; exact if_neg fun g=>h g.2.2.2
theorem Qhy (h1:(frV a).2.2=true)(h2:(frV b).2.2=true)(h3:a.2.1=b.2.1)(h4:a.2.2.1=b.2.2.1):pfV a b=(decide ((frV a).1=(frV b).1)&&(!(frV b).2.1||(frV a).2.1),true):=by rw[← Qba]; exact if_pos ⟨h1,h2,h3,h4⟩
theorem Qpn (h1:(frV a).2.2=true)(h2:(frV b).2.2=true)(h3:a.2.1=b.2.1)(h4:a.2.2.1=b.2.2.1)(h:¬(frV a).1=(frV b).1):pfV a b=(false,true):=by rw[Qhy h1 h2 h3 h4,aP h]; rfl
theorem Qpi (h1:(frV a).2.2=true)(h2:(frV b).2.2=true)(h3:a.2.1=b.2.1)(h4:a.2.2.1=b.2.2.1)(h:(frV a).1=(frV b).1)(hb:(frV b).2.1=false):pfV a b=(true,true):=by rw[Qhy h1 h2 h3 h4,aK h,hb]; rfl
theorem QnN (h1:(frV a).2.2=true)(h2:(frV b).2.2=true)(h3:a.2.1=b.2.1)(h4:a.2.2.1=b.2.2.1)(h:(frV a).1=(frV b).1)(hb:(frV b).2.1=true):pfV a b=((frV a).2.1,true):=by rw[Qhy h1 h2 h3 h4,aK h,hb]; rfl
theorem Qlw (h:(sgV a).2=false):pfV a b=(false,false):=if_neg fun g=>by rw[h] at g; cases g.1
theorem QgJ (h:(sgV b).2=false):pfV a b=(false,false):=if_neg fun g=>by rw[h] at g; cases g.2.1
theorem Qhf (h1:(sgV a).2=true)(h2:(sgV b).2=true)(h3:a.2.1=b.2.1)(h4:a.2.2.1=b.2.2.1):pfV a b=(decide (Vw a=Vw b)&&(Ko a|| !Ko b),true):=if_pos ⟨h1,h2,h3,h4⟩
theorem Qo6 (h1:(sgV a).2=true)(h2:(sgV b).2=true)(h3:a.2.1=b.2.1)(h4:a.2.2.1=b.2.2.1)(h:¬Vw a=Vw b):pfV a b=(false,true):=by rw[Qhf h1 h2 h3 h4,aP h]; rfl
theorem QoZ (h1:(sgV a).2=true)(h2:(sgV b).2=true)(h3:a.2.1=b.2.1)(h4:a.2.2.1=b.2.2.1)(h:Vw a=Vw b)(hb:Ko a=true):pfV a b=(true,true):=by rw[Qhf h1 h2 h3 h4,aK h,hb]; rfl
theorem QnD (h1:(sgV a).2=true)(h2:(sgV b).2=true)(h3:a.2.1=b.2.1)(h4:a.2.2.1=b.2.2.1)(h:Vw a=Vw b)(hb:Ko a=false):pfV a b=(!Ko b,true):=by rw[Qhf h1 h2 h3 h4,aK h,hb]; rfl
end
end
theorem XE (s1:List (ByteArray×Int))(s2:List (ByteArray×Int)):FC Tryz.prog 127 [(false,[.dat QJ s1]),(false,[.dat QJ s2])] [] 0 (Yj (lB (decide (s1=s2)))):=by
 refine QO Tryz.func127 rfl rfl Tryz.ntmps127 fun O_ hO w0_ N0_ X_ h0_ f0_=> ?_
 iterate 6 refine w_ ?_
 refine AL.fact (Qo (x:= .tmp 6) (Qa rfl)) fun hl1=> ?_
 iterate 2 refine w_ ?_
 refine AL.fact (Qo (x:= .tmp 8) (Qa rfl)) fun hl2=> ?_
 iterate 3 refine w_ ?_
 cases hb3:(!decide ((s1.length:Int)=(s2.length:Int)))
 have hb3':((s1.length:Int)=(s2.length:Int)):=Zm hb3
 iterate 5 refine w_ ?_
 refine AL.fact (Qo (x:= .tmp 11) (Qa rfl)) fun hl4=> ?_
 iterate 4 refine w_ ?_
 refine Qu (fun m_ s_=>∃(k:Nat),k≤s1.length∧m_=s1.length - k∧(∀j,j < k→s1[j]? =s2[j]?)∧s_=⟨[(0,lf (.dat QJ s1)),(1,lf (.dat QJ s2)),(12,lI (s1.length:Int)),(13,lI (k:Int))],[]⟩) ⟨0,aw _,rfl,(fun j hj=>absurd hj (bK j)),rfl⟩ ?_ ?_
 exact wo []
 rintro m_ s_ ⟨k,hk5,hm6,hE,rfl⟩
 iterate 4 refine w_ ?_
 cases hb7:(decide ((k:Int) < (s1.length:Int)))
 have hb7':=a7 hb7
 iterate 7 refine w_ ?_
 subst hO
 have e8:(true:Bool)=(decide (s1=s2)):=by
  exact HR ‹_› hE (by omega)
 exact Qi (Qg rfl (Qd rfl)) (by rw[← e8] <;> rfl) rfl
 have hb7':=a8 hb7
 iterate 8 refine w_ ?_
 obtain ⟨x9,hx10⟩:=gx s1 k
 obtain ⟨x11,hx12⟩:=gx s2 k
 refine dw [io 16 (lf (.dat QJ s1)),io 17 (lI (k:Int)),io 18 (lf (.elt QY x9 0)),io 19 (ag [dS x9.1,dI x9.2]),io 20 (lf (.dat QJ s2)),io 21 (lI (k:Int)),io 22 (lf (.elt QY x11 0)),io 23 (ag [dS x11.1,dI x11.2]),io 24 (lB (!(Ty.beq QY x9 x11)))] [0,0,3,7,0,0,48,112,255] mixed rfl (by kernel_rfl) ⟨dxm rfl rfl,dxm rfl rfl,fun _ h_=>ac (Qh (h_.v rfl) (h_.v rfl) YE YJ rfl (by omega) hx10) rfl,fun _ h_=>ac (Ya (h_.v rfl) YJ rfl rfl) rfl,dxm rfl rfl,dxm rfl rfl,fun _ h_=>ac (Qh (h_.v rfl) (h_.v rfl) YE YJ rfl (by omega) hx12) rfl,fun _ h_=>ac (Ya (h_.v rfl) YJ rfl rfl) rfl,fun _ h_=>ac (V9 Qps QnB (h_.w rfl) (h_.w rfl) (p:=x9) (q:=x11) rfl rfl rfl) rfl,⟨⟩⟩ ?_
 cases hb13:(Ty.beq QY x9 x11)
 iterate 5 refine w_ ?_
 subst hO
 have e14:(false:Bool)=(decide (s1=s2)):=by
  exact V1 hx10 hx12 (by first | exact QbS ‹_› | assumption)
 exact Qi (Qg rfl (Qd rfl)) (by rw[← e14] <;> rfl) rfl
 iterate 6 refine w_ ?_
 refine Qm<|QV ⟨k+1,by omega,rfl,(KI hE hx10 hx12 (by first | exact (Ty.beq_iff _ _ _).1 ‹_› | assumption)),rfl⟩ (by omega) ?_
 exact wo []
 have hb3':¬((s1.length:Int)=(s2.length:Int)):=Zx hb3
 iterate 5 refine w_ ?_
 subst hO
 have e15:(false:Bool)=(decide (s1=s2)):=by
  exact W4 ‹_›
 exact Qi (Qg rfl (Qd rfl)) (by rw[← e15] <;> rfl) rfl
theorem X1 (s1:List (Int×Bool))(s2:List (Int×Bool)):FC Tryz.prog 128 [(false,[.dat QR s1]),(false,[.dat QR s2])] [] 0 (Yj (lB (decide (s1=s2)))):=by
 refine QO Tryz.func128 rfl rfl Tryz.ntmps128 fun O_ hO w0_ N0_ X_ h0_ f0_=> ?_
 iterate 6 refine w_ ?_
 refine AL.fact (Qo (x:= .tmp 6) (Qa rfl)) fun hl1=> ?_
 iterate 2 refine w_ ?_
 refine AL.fact (Qo (x:= .tmp 8) (Qa rfl)) fun hl2=> ?_
 iterate 3 refine w_ ?_
 cases hb3:(!decide ((s1.length:Int)=(s2.length:Int)))
 have hb3':((s1.length:Int)=(s2.length:Int)):=Zm hb3
 iterate 5 refine w_ ?_
 refine AL.fact (Qo (x:= .tmp 11) (Qa rfl)) fun hl4=> ?_
 iterate 4 refine w_ ?_
 refine Qu (fun m_ s_=>∃(k:Nat),k≤s1.length∧m_=s1.length - k∧(∀j,j < k→s1[j]? =s2[j]?)∧s_=⟨[(0,lf (.dat QR s1)),(1,lf (.dat QR s2)),(12,lI (s1.length:Int)),(13,lI (k:Int))],[]⟩) ⟨0,aw _,rfl,(fun j hj=>absurd hj (bK j)),rfl⟩ ?_ ?_
 exact wo []
 rintro m_ s_ ⟨k,hk5,hm6,hE,rfl⟩
 iterate 4 refine w_ ?_
 cases hb7:(decide ((k:Int) < (s1.length:Int)))
 have hb7':=a7 hb7
 iterate 7 refine w_ ?_
 subst hO
 have e8:(true:Bool)=(decide (s1=s2)):=by
  exact HR ‹_› hE (by omega)
 exact Qi (Qg rfl (Qd rfl)) (by rw[← e8] <;> rfl) rfl
 have hb7':=a8 hb7
 iterate 8 refine w_ ?_
 obtain ⟨x9,hx10⟩:=gx s1 k
 obtain ⟨x11,hx12⟩:=gx s2 k
 refine dw [io 16 (lf (.dat QR s1)),io 17 (lI (k:Int)),io 18 (lf (.elt Q5 x9 0)),io 19 (ag [dI x9.1,dB x9.2]),io 20 (lf (.dat QR s2)),io 21 (lI (k:Int)),io 22 (lf (.elt Q5 x11 0)),io 23 (ag [dI x11.1,dB x11.2]),io 24 (lB (!(Ty.beq Q5 x9 x11)))] [0,0,3,7,0,0,48,112,255] mixed rfl (by kernel_rfl) ⟨dxm rfl rfl,dxm rfl rfl,fun _ h_=>ac (Qh (h_.v rfl) (h_.v rfl) Yq ZO rfl (by omega) hx10) rfl,fun _ h_=>ac (Ya (h_.v rfl) ZO rfl rfl) rfl,dxm rfl rfl,dxm rfl rfl,fun _ h_=>ac (Qh (h_.v rfl) (h_.v rfl) Yq ZO rfl (by omega) hx12) rfl,fun _ h_=>ac (Ya (h_.v rfl) ZO rfl rfl) rfl,fun _ h_=>ac (V9 Qkg Qja (h_.w rfl) (h_.w rfl) (p:=x9) (q:=x11) rfl rfl rfl) rfl,⟨⟩⟩ ?_
 cases hb13:(Ty.beq Q5 x9 x11)
 iterate 5 refine w_ ?_
 subst hO
 have e14:(false:Bool)=(decide (s1=s2)):=by
  exact V1 hx10 hx12 (by first | exact QbS ‹_› | assumption)
 exact Qi (Qg rfl (Qd rfl)) (by rw[← e14] <;> rfl) rfl
 iterate 6 refine w_ ?_
 refine Qm<|QV ⟨k+1,by omega,rfl,(KI hE hx10 hx12 (by first | exact (Ty.beq_iff _ _ _).1 ‹_› | assumption)),rfl⟩ (by omega) ?_
 exact wo []
 have hb3':¬((s1.length:Int)=(s2.length:Int)):=Zx hb3
 iterate 5 refine w_ ?_
 subst hO
 have e15:(false:Bool)=(decide (s1=s2)):=by
  exact W4 ‹_›
 exact Qi (Qg rfl (Qd rfl)) (by rw[← e15] <;> rfl) rfl
theorem Xf (s1:List Int)(s2:List Int):FC Tryz.prog 129 [(false,[.dat Qs s1]),(false,[.dat Qs s2])] [] 0 (Yj (lB (decide (s1=s2)))):=by
 refine QO Tryz.func129 rfl rfl Tryz.ntmps129 fun O_ hO w0_ N0_ X_ h0_ f0_=> ?_
 iterate 6 refine w_ ?_
 refine AL.fact (Qo (x:= .tmp 6) (Qa rfl)) fun hl1=> ?_
 iterate 2 refine w_ ?_
 refine AL.fact (Qo (x:= .tmp 8) (Qa rfl)) fun hl2=> ?_
 iterate 3 refine w_ ?_
 cases hb3:(!decide ((s1.length:Int)=(s2.length:Int)))
 have hb3':((s1.length:Int)=(s2.length:Int)):=Zm hb3
 iterate 5 refine w_ ?_
 refine AL.fact (Qo (x:= .tmp 11) (Qa rfl)) fun hl4=> ?_
 iterate 4 refine w_ ?_
 refine Qu (fun m_ s_=>∃(k:Nat),k≤s1.length∧m_=s1.length - k∧(∀j,j < k→s1[j]? =s2[j]?)∧s_=⟨[(0,lf (.dat Qs s1)),(1,lf (.dat Qs s2)),(12,lI (s1.length:Int)),(13,lI (k:Int))],[]⟩) ⟨0,aw _,rfl,(fun j hj=>absurd hj (bK j)),rfl⟩ ?_ ?_
 exact wo []
 rintro m_ s_ ⟨k,hk5,hm6,hE,rfl⟩
 iterate 4 refine w_ ?_
 cases hb7:(decide ((k:Int) < (s1.length:Int)))
 have hb7':=a7 hb7
 iterate 7 refine w_ ?_
 subst hO
 have e8:(true:Bool)=(decide (s1=s2)):=by
  exact HR ‹_› hE (by omega)
 exact Qi (Qg rfl (Qd rfl)) (by rw[← e8] <;> rfl) rfl
 have hb7':=a8 hb7
 iterate 8 refine w_ ?_
 obtain ⟨x9,hx10⟩:=gx s1 k
 obtain ⟨x11,hx12⟩:=gx s2 k
 refine dw [io 16 (lf (.dat Qs s1)),io 17 (lI (k:Int)),io 18 (lf (.elt .int x9 0)),io 19 (lI x9),io 20 (lf (.dat Qs s2)),io 21 (lI (k:Int)),io 22 (lf (.elt .int x11 0)),io 23 (lI x11),io 24 (lB (!decide (x9=x11)))] [0,0,3,7,0,0,48,112,255] mixed rfl (by kernel_rfl) ⟨dxm rfl rfl,dxm rfl rfl,fun _ h_=>ac (Qh (h_.v rfl) (h_.v rfl) QN QL rfl (by omega) hx10) rfl,fun _ h_=>ac (Q3 (h_.v rfl) QL rfl rfl) rfl,dxm rfl rfl,dxm rfl rfl,fun _ h_=>ac (Qh (h_.v rfl) (h_.v rfl) QN QL rfl (by omega) hx12) rfl,fun _ h_=>ac (Q3 (h_.v rfl) QL rfl rfl) rfl,fun _ h_=>ac (Qbq (h_.v rfl) (h_.v rfl) rfl) rfl,⟨⟩⟩ ?_
 cases hb13:(!decide (x9=x11))
 have hb13':(x9=x11):=Zm hb13
 iterate 6 refine w_ ?_
 refine Qm<|QV ⟨k+1,by omega,rfl,(KI hE hx10 hx12 (by first | exact (Ty.beq_iff _ _ _).1 ‹_› | assumption)),rfl⟩ (by omega) ?_
 exact wo []
 have hb13':¬(x9=x11):=Zx hb13
 iterate 5 refine w_ ?_
 subst hO
 have e14:(false:Bool)=(decide (s1=s2)):=by
  exact V1 hx10 hx12 (by first | exact QbS ‹_› | assumption)
 exact Qi (Qg rfl (Qd rfl)) (by rw[← e14] <;> rfl) rfl
 have hb3':¬((s1.length:Int)=(s2.length:Int)):=Zx hb3
 iterate 5 refine w_ ?_
 subst hO
 have e15:(false:Bool)=(decide (s1=s2)):=by
  exact W4 ‹_›
 exact Qi (Qg rfl (Qd rfl)) (by rw[← e15] <;> rfl) rfl
theorem WW (a:List (ByteArray×Int))(b:List (ByteArray×Int)):FC Tryz.prog 83 [(false,[.dat QJ a]),(false,[.dat QJ b])] [] 0 (Yj (lB (decide (a=b)))):=by
 refine QO Tryz.func83 rfl rfl Tryz.ntmps83 fun O_ hO w0_ N0_ X_ h0_ f0_=> ?_
 iterate 6 refine w_ ?_
 refine AL.fact (Qo (x:= .tmp 6) (Qa rfl)) fun hl1=> ?_
 iterate 2 refine w_ ?_
 refine AL.fact (Qo (x:= .tmp 8) (Qa rfl)) fun hl2=> ?_
 iterate 3 refine w_ ?_
 cases hb3:(!decide ((a.length:Int)=(b.length:Int)))
 have hb3':((a.length:Int)=(b.length:Int)):=Zm hb3
 iterate 5 refine w_ ?_
 refine AL.fact (Qo (x:= .tmp 11) (Qa rfl)) fun hl4=> ?_
 iterate 4 refine w_ ?_
 refine Qu (fun m_ s_=>∃(k:Nat),k≤a.length∧m_=a.length - k∧(∀j,j < k→a[j]? =b[j]?)∧s_=⟨[(0,lf (.dat QJ a)),(1,lf (.dat QJ b)),(12,lI (a.length:Int)),(13,lI (k:Int))],[]⟩) ⟨0,aw _,rfl,(fun j hj=>absurd hj (bK j)),rfl⟩ ?_ ?_
 exact wo []
 rintro m_ s_ ⟨k,hk5,hm6,hE,rfl⟩
 iterate 4 refine w_ ?_
 cases hb7:(decide ((k:Int) < (a.length:Int)))
 have hb7':=a7 hb7
 iterate 7 refine w_ ?_
 subst hO
 have e8:(true:Bool)=(decide (a=b)):=by
  exact HR ‹_› hE (by omega)
 exact Qi (Qg rfl (Qd rfl)) (by rw[← e8] <;> rfl) rfl
 have hb7':=a8 hb7
 iterate 8 refine w_ ?_
 obtain ⟨x9,hx10⟩:=gx a k
 obtain ⟨x11,hx12⟩:=gx b k
 refine dw [io 16 (lf (.dat QJ a)),io 17 (lI (k:Int)),io 18 (lf (.elt QY x9 0)),io 19 (ag [dS x9.1,dI x9.2]),io 20 (lf (.dat QJ b)),io 21 (lI (k:Int)),io 22 (lf (.elt QY x11 0)),io 23 (ag [dS x11.1,dI x11.2]),io 24 (lB (!(Ty.beq QY x9 x11)))] [0,0,3,7,0,0,48,112,255] mixed rfl (by kernel_rfl) ⟨dxm rfl rfl,dxm rfl rfl,fun _ h_=>ac (Qh (h_.v rfl) (h_.v rfl) YE YJ rfl (by omega) hx10) rfl,fun _ h_=>ac (Ya (h_.v rfl) YJ rfl rfl) rfl,dxm rfl rfl,dxm rfl rfl,fun _ h_=>ac (Qh (h_.v rfl) (h_.v rfl) YE YJ rfl (by omega) hx12) rfl,fun _ h_=>ac (Ya (h_.v rfl) YJ rfl rfl) rfl,fun _ h_=>ac (V9 Qps QnB (h_.w rfl) (h_.w rfl) (p:=x9) (q:=x11) rfl rfl rfl) rfl,⟨⟩⟩ ?_
 cases hb13:(Ty.beq QY x9 x11)
 iterate 5 refine w_ ?_
 subst hO
 have e14:(false:Bool)=(decide (a=b)):=by
  exact V1 hx10 hx12 (by first | exact QbS ‹_› | assumption)
 exact Qi (Qg rfl (Qd rfl)) (by rw[← e14] <;> rfl) rfl
 iterate 6 refine w_ ?_
 refine Qm<|QV ⟨k+1,by omega,rfl,(KI hE hx10 hx12 (by first | exact (Ty.beq_iff _ _ _).1 ‹_› | assumption)),rfl⟩ (by omega) ?_
 exact wo []
 have hb3':¬((a.length:Int)=(b.length:Int)):=Zx hb3
 iterate 5 refine w_ ?_
 subst hO
 have e15:(false:Bool)=(decide (a=b)):=by
  exact W4 ‹_›
 exact Qi (Qg rfl (Qd rfl)) (by rw[← e15] <;> rfl) rfl
theorem Jr (a:List (Int×Bool))(b:List (Int×Bool)):FC Tryz.prog 130 [(false,[.dat QR a]),(false,[.dat QR b])] [] 0 (Yj (lB (decide (a=b)))):=by
 refine QO Tryz.func130 rfl rfl Tryz.ntmps130 fun O_ hO w0_ N0_ X_ h0_ f0_=> ?_
 iterate 6 refine w_ ?_
 refine AL.fact (Qo (x:= .tmp 6) (Qa rfl)) fun hl1=> ?_
 iterate 2 refine w_ ?_
 refine AL.fact (Qo (x:= .tmp 8) (Qa rfl)) fun hl2=> ?_
 iterate 3 refine w_ ?_
 cases hb3:(!decide ((a.length:Int)=(b.length:Int)))
 have hb3':((a.length:Int)=(b.length:Int)):=Zm hb3
 iterate 5 refine w_ ?_
 refine AL.fact (Qo (x:= .tmp 11) (Qa rfl)) fun hl4=> ?_
 iterate 4 refine w_ ?_
 refine Qu (fun m_ s_=>∃(k:Nat),k≤a.length∧m_=a.length - k∧(∀j,j < k→a[j]? =b[j]?)∧s_=⟨[(0,lf (.dat QR a)),(1,lf (.dat QR b)),(12,lI (a.length:Int)),(13,lI (k:Int))],[]⟩) ⟨0,aw _,rfl,(fun j hj=>absurd hj (bK j)),rfl⟩ ?_ ?_
 exact wo []
 rintro m_ s_ ⟨k,hk5,hm6,hE,rfl⟩
 iterate 4 refine w_ ?_
 cases hb7:(decide ((k:Int) < (a.length:Int)))
 have hb7':=a7 hb7
 iterate 7 refine w_ ?_
 subst hO
 have e8:(true:Bool)=(decide (a=b)):=by
  exact HR ‹_› hE (by omega)
 exact Qi (Qg rfl (Qd rfl)) (by rw[← e8] <;> rfl) rfl
 have hb7':=a8 hb7
 iterate 8 refine w_ ?_
 obtain ⟨x9,hx10⟩:=gx a k
 obtain ⟨x11,hx12⟩:=gx b k
 refine dw [io 16 (lf (.dat QR a)),io 17 (lI (k:Int)),io 18 (lf (.elt Q5 x9 0)),io 19 (ag [dI x9.1,dB x9.2]),io 20 (lf (.dat QR b)),io 21 (lI (k:Int)),io 22 (lf (.elt Q5 x11 0)),io 23 (ag [dI x11.1,dB x11.2]),io 24 (lB (!(Ty.beq Q5 x9 x11)))] [0,0,3,7,0,0,48,112,255] mixed rfl (by kernel_rfl) ⟨dxm rfl rfl,dxm rfl rfl,fun _ h_=>ac (Qh (h_.v rfl) (h_.v rfl) Yq ZO rfl (by omega) hx10) rfl,fun _ h_=>ac (Ya (h_.v rfl) ZO rfl rfl) rfl,dxm rfl rfl,dxm rfl rfl,fun _ h_=>ac (Qh (h_.v rfl) (h_.v rfl) Yq ZO rfl (by omega) hx12) rfl,fun _ h_=>ac (Ya (h_.v rfl) ZO rfl rfl) rfl,fun _ h_=>ac (V9 Qkg Qja (h_.w rfl) (h_.w rfl) (p:=x9) (q:=x11) rfl rfl rfl) rfl,⟨⟩⟩ ?_
 cases hb13:(Ty.beq Q5 x9 x11)
 iterate 5 refine w_ ?_
 subst hO
 have e14:(false:Bool)=(decide (a=b)):=by
  exact V1 hx10 hx12 (by first | exact QbS ‹_› | assumption)
 exact Qi (Qg rfl (Qd rfl)) (by rw[← e14] <;> rfl) rfl
 iterate 6 refine w_ ?_
 refine Qm<|QV ⟨k+1,by omega,rfl,(KI hE hx10 hx12 (by first | exact (Ty.beq_iff _ _ _).1 ‹_› | assumption)),rfl⟩ (by omega) ?_
 exact wo []
 have hb3':¬((a.length:Int)=(b.length:Int)):=Zx hb3
 iterate 5 refine w_ ?_
 subst hO
 have e15:(false:Bool)=(decide (a=b)):=by
  exact W4 ‹_›
 exact Qi (Qg rfl (Qd rfl)) (by rw[← e15] <;> rfl) rfl
theorem Xa (a:List Int)(b:List Int):FC Tryz.prog 132 [(false,[.dat Qs a]),(false,[.dat Qs b])] [] 0 (Yj (lB (decide (a=b)))):=by
 refine QO Tryz.func132 rfl rfl Tryz.ntmps132 fun O_ hO w0_ N0_ X_ h0_ f0_=> ?_
 iterate 6 refine w_ ?_
 refine AL.fact (Qo (x:= .tmp 6) (Qa rfl)) fun hl1=> ?_
 iterate 2 refine w_ ?_
 refine AL.fact (Qo (x:= .tmp 8) (Qa rfl)) fun hl2=> ?_
 iterate 3 refine w_ ?_
 cases hb3:(!decide ((a.length:Int)=(b.length:Int)))
 have hb3':((a.length:Int)=(b.length:Int)):=Zm hb3
 iterate 5 refine w_ ?_
 refine AL.fact (Qo (x:= .tmp 11) (Qa rfl)) fun hl4=> ?_
 iterate 4 refine w_ ?_
 refine Qu (fun m_ s_=>∃(k:Nat),k≤a.length∧m_=a.length - k∧(∀j,j < k→a[j]? =b[j]?)∧s_=⟨[(0,lf (.dat Qs a)),(1,lf (.dat Qs b)),(12,lI (a.length:Int)),(13,lI (k:Int))],[]⟩) ⟨0,aw _,rfl,(fun j hj=>absurd hj (bK j)),rfl⟩ ?_ ?_
 exact wo []
 rintro m_ s_ ⟨k,hk5,hm6,hE,rfl⟩
 iterate 4 refine w_ ?_
 cases hb7:(decide ((k:Int) < (a.length:Int)))
 have hb7':=a7 hb7
 iterate 7 refine w_ ?_
 subst hO
 have e8:(true:Bool)=(decide (a=b)):=by
  exact HR ‹_› hE (by omega)
 exact Qi (Qg rfl (Qd rfl)) (by rw[← e8] <;> rfl) rfl
 have hb7':=a8 hb7
 iterate 8 refine w_ ?_
 obtain ⟨x9,hx10⟩:=gx a k
 obtain ⟨x11,hx12⟩:=gx b k
 refine dw [io 16 (lf (.dat Qs a)),io 17 (lI (k:Int)),io 18 (lf (.elt .int x9 0)),io 19 (lI x9),io 20 (lf (.dat Qs b)),io 21 (lI (k:Int)),io 22 (lf (.elt .int x11 0)),io 23 (lI x11),io 24 (lB (!decide (x9=x11)))] [0,0,3,7,0,0,48,112,255] mixed rfl (by kernel_rfl) ⟨dxm rfl rfl,dxm rfl rfl,fun _ h_=>ac (Qh (h_.v rfl) (h_.v rfl) QN QL rfl (by omega) hx10) rfl,fun _ h_=>ac (Q3 (h_.v rfl) QL rfl rfl) rfl,dxm rfl rfl,dxm rfl rfl,fun _ h_=>ac (Qh (h_.v rfl) (h_.v rfl) QN QL rfl (by omega) hx12) rfl,fun _ h_=>ac (Q3 (h_.v rfl) QL rfl rfl) rfl,fun _ h_=>ac (Qbq (h_.v rfl) (h_.v rfl) rfl) rfl,⟨⟩⟩ ?_
 cases hb13:(!decide (x9=x11))
 have hb13':(x9=x11):=Zm hb13
 iterate 6 refine w_ ?_
 refine Qm<|QV ⟨k+1,by omega,rfl,(KI hE hx10 hx12 (by first | exact (Ty.beq_iff _ _ _).1 ‹_› | assumption)),rfl⟩ (by omega) ?_
 exact wo []
 have hb13':¬(x9=x11):=Zx hb13
 iterate 5 refine w_ ?_
 subst hO
 have e14:(false:Bool)=(decide (a=b)):=by
  exact V1 hx10 hx12 (by first | exact QbS ‹_› | assumption)
 exact Qi (Qg rfl (Qd rfl)) (by rw[← e14] <;> rfl) rfl
 have hb3':¬((a.length:Int)=(b.length:Int)):=Zx hb3
 iterate 5 refine w_ ?_
 subst hO
 have e15:(false:Bool)=(decide (a=b)):=by
  exact W4 ‹_›
 exact Qi (Qg rfl (Qd rfl)) (by rw[← e15] <;> rfl) rfl
theorem Jm (s:(Int×(List (List Int×List Int)))×(List (ByteArray×Int))×(List (Int×Bool))×ByteArray)[∀s,Decidable (StgOk s)]:FC Tryz.prog 126 [(true,[dI s.1.1, .dat QZ s.1.2, .dat QJ s.2.1, .dat QR s.2.2.1,dS s.2.2.2])] [] 0 (Is (PV.tup [(false,[.ref 0]),(false,[dB ((frV s).2.1)]),(false,[dB ((frV s).2.2)])]) [(0,some (.arr 3 .int ((frV s).1)))]):=by
 refine QO Tryz.func126 rfl rfl Tryz.ntmps126 fun O_ hO w0_ N0_ X_ h0_ f0_=> ?_
 refine AC.fact (QI (x:= .tmp 0) (i:=0) (Qb rfl) rfl) fun hi1=> ?_
 refine w_ ?_
 refine lc (Qy 0 (Qb rfl) rfl rfl (Fresh.of rfl) (nlr rfl)) ?_
 iterate 7 refine w_ ?_
 refine lc (Q8 1 (Xc s) Qar ⟨_,_,rfl,(Qb rfl),rfl⟩ rfl rfl ⟨Fresh.of rfl,Fresh.of rfl,Fresh.of rfl,trivial⟩ (nlr rfl)) ?_
 iterate 3 refine w_ ?_
 refine lc (Qj 4 QgX U5 rfl rfl (Fresh.of rfl) (nlr rfl))<|lc (Qc (Qa rfl) rfl (Qb rfl) rfl Yh rfl) ?_
 iterate 6 refine w_ ?_
 cases hb2:((sgV s).2)
 iterate 6 refine w_ ?_
 refine AC.wk (Wk.nilS 5 2 3 .int rfl (Fresh.of rfl) (nlr rfl))<|Q4 ?_
 subst hO
 have e3:(false:Bool)=((frV s).2.1):=by
  (rw[Qej ‹_›]; done)
 have e4:(false:Bool)=((frV s).2.2):=by
  (rw[Qej ‹_›]; done)
 exact QD _ _ [(0,5)] (Wv rfl (Qd rfl) (Qd rfl) (Qd rfl)) (by rw[← e3,← e4] <;> rfl) ⟨(Qp (by (rw[Qej ‹_›]; done))),trivial⟩ rfl rfl
 iterate 4 refine w_ ?_
 refine lc (Q8 6 (VD s) Qaq ⟨_,_,rfl,(Qb rfl),rfl⟩ rfl rfl ⟨Fresh.of rfl,Fresh.of rfl,trivial⟩ (nlr rfl)) ?_
 iterate 3 refine w_ ?_
 refine lc (Qj 8 QeK Wf rfl rfl (Fresh.of rfl) (nlr rfl))<|lc (Qc (Qa rfl) rfl (Qb rfl) rfl ZM rfl) ?_
 iterate 5 refine w_ ?_
 refine lc (XK 9 (KA s ((Qe s).1)) QjR ⟨_,_,rfl,(Ev.b (Qb rfl)),⟨_,_,rfl,(UM (Qb rfl) ⟨_,_,rfl, .inr ⟨_,_,_,_,rfl,rfl,rfl⟩,⟨_,_,rfl, .inr ⟨_,_,_,_,rfl,rfl,rfl⟩,rfl⟩⟩),rfl⟩⟩ rfl rfl rfl ⟨Fresh.of rfl,trivial⟩ (nlr rfl)) ?_
 iterate 8 refine w_ ?_
 refine lc (XK 10 (Qbx ((Qe s).1)) Qjq ⟨_,_,rfl,(UM (Qb rfl) ⟨_,_,rfl, .inr ⟨_,_,_,_,rfl,rfl,rfl⟩,⟨_,_,rfl, .inr ⟨_,_,_,_,rfl,rfl,rfl⟩,rfl⟩⟩),rfl⟩ rfl rfl rfl ⟨Fresh.of rfl,trivial⟩ (nlr rfl)) ?_
 iterate 16 refine w_ ?_
 subst hO
 have e5:(decide (0 < (((dlV ((Qe s).1)).1).length:Int)):Bool)=((frV s).2.1):=by
  (rw[QbE ‹_›]; rfl)
 have e6:(true:Bool)=((frV s).2.2):=by
  (rw[QbE ‹_›]; done)
 exact QD _ _ [(0,9)] (Wv rfl (Qd rfl) (Qd rfl) (Qd rfl)) (by rw[e5,← e6] <;> rfl) ⟨(Qp (by (rw[QbE ‹_›]; rfl))),trivial⟩ rfl rfl
theorem Xe (s:(Int×(List (List Int×List Int)))×(List (ByteArray×Int))×(List (Int×Bool))×ByteArray)[∀s,Decidable (StgOk s)]:FC Tryz.prog 70 [(true,[dI s.1.1, .dat QZ s.1.2, .dat QJ s.2.1, .dat QR s.2.2.1,dS s.2.2.2])] [] 0 (Yj (lB ((sgV s).2))):=by
 refine QO Tryz.func70 rfl rfl Tryz.ntmps70 fun O_ hO w0_ N0_ X_ h0_ f0_=> ?_
 refine AC.fact (QI (x:= .tmp 0) (i:=0) (Qb rfl) rfl) fun hi1=> ?_
 refine w_ ?_
 refine lc (Qy 0 (Qb rfl) rfl rfl (Fresh.of rfl) (nlr rfl)) ?_
 iterate 4 refine w_ ?_
 refine lc (Q8 1 (Ws s) Qdz ⟨_,_,rfl,(Qb rfl),rfl⟩ rfl rfl ⟨Fresh.of rfl,Fresh.of rfl,Fresh.of rfl,trivial⟩ (nlr rfl)) ?_
 iterate 3 refine w_ ?_
 refine lc (Qj 4 QgX U5 rfl rfl (Fresh.of rfl) (nlr rfl))<|lc (Qc (Qa rfl) rfl (Qb rfl) rfl Yh rfl) ?_
 iterate 7 refine w_ ?_
 subst hO
 exact Qi (Qg rfl (Qd rfl)) rfl rfl
theorem Kk (s:(Int×(List (List Int×List Int)))×(List (ByteArray×Int))×(List (Int×Bool))×ByteArray)[∀s,Decidable (StgOk s)]:FC Tryz.prog 131 [(true,[dI s.1.1, .dat QZ s.1.2, .dat QJ s.2.1, .dat QR s.2.2.1,dS s.2.2.2])] [] 0 (Is (PV.tup [(false,[.ref 0]),(false,[dB (Ko s)])]) [(0,some (.arr 3 .int (Vw s)))]):=by
 refine QO Tryz.func131 rfl rfl Tryz.ntmps131 fun O_ hO w0_ N0_ X_ h0_ f0_=> ?_
 refine AC.fact (QI (x:= .tmp 0) (i:=0) (Qb rfl) rfl) fun hi1=> ?_
 refine w_ ?_
 refine lc (Qy 0 (Qb rfl) rfl rfl (Fresh.of rfl) (nlr rfl)) ?_
 iterate 5 refine w_ ?_
 refine lc (Q8 1 (VF s) QaD ⟨_,_,rfl,(Qb rfl),rfl⟩ rfl rfl ⟨Fresh.of rfl,Fresh.of rfl,trivial⟩ (nlr rfl)) ?_
 iterate 3 refine w_ ?_
 refine lc (Qj 3 QeK Wf rfl rfl (Fresh.of rfl) (nlr rfl))<|lc (Qc (Qa rfl) rfl (Qb rfl) rfl ZM rfl) ?_
 iterate 5 refine w_ ?_
 refine lc (XK 4 (Kx s ((Qe s).1)) Qjp ⟨_,_,rfl,(Ev.b (Qb rfl)),⟨_,_,rfl,(UM (Qb rfl) ⟨_,_,rfl, .inr ⟨_,_,_,_,rfl,rfl,rfl⟩,⟨_,_,rfl, .inr ⟨_,_,_,_,rfl,rfl,rfl⟩,rfl⟩⟩),rfl⟩⟩ rfl rfl rfl ⟨Fresh.of rfl,trivial⟩ (nlr rfl)) ?_
 iterate 8 refine w_ ?_
 refine lc (XK 5 (Qbt ((Qe s).1)) Qkw ⟨_,_,rfl,(UM (Qb rfl) ⟨_,_,rfl, .inr ⟨_,_,_,_,rfl,rfl,rfl⟩,⟨_,_,rfl, .inr ⟨_,_,_,_,rfl,rfl,rfl⟩,rfl⟩⟩),rfl⟩ rfl rfl rfl ⟨Fresh.of rfl,trivial⟩ (nlr rfl)) ?_
 iterate 15 refine w_ ?_
 subst hO
 have e2:(decide (0 < (((dlV ((Qe s).1)).1).length:Int)):Bool)=(Ko s):=by
  rfl
 exact QD _ _ [(0,4)] (QB rfl (Qd rfl) (Qd rfl)) (by rw[e2] <;> rfl) ⟨(Qp (by rfl)),trivial⟩ rfl rfl
theorem UY (a:(Int×(List (List Int×List Int)))×(List (ByteArray×Int))×(List (Int×Bool))×ByteArray)(b:(Int×(List (List Int×List Int)))×(List (ByteArray×Int))×(List (Int×Bool))×ByteArray)[∀s,Decidable (StgOk s)]:FC Tryz.prog 43 [(true,[dI a.1.1, .dat QZ a.1.2, .dat QJ a.2.1, .dat QR a.2.2.1,dS a.2.2.2]),(true,[dI b.1.1, .dat QZ b.1.2, .dat QJ b.2.1, .dat QR b.2.2.1,dS b.2.2.2])] [] 0 (Yj (PV.tup [(false,[dB ((pfV a b).1)]),(false,[dB ((pfV a b).2)])])):=by
 refine QO Tryz.func43 rfl rfl Tryz.ntmps43 fun O_ hO w0_ N0_ X_ h0_ f0_=> ?_
 refine AC.fact (QI (x:= .tmp 0) (i:=0) (Qb rfl) rfl) fun hi1=>AC.fact (QI (x:= .tmp 1) (i:=0) (Qb rfl) rfl) fun hi2=> ?_
 refine w_ ?_
 refine lc (Qy 0 (Qb rfl) rfl rfl (Fresh.of rfl) (nlr rfl))<|lc (Qy 1 (Qb rfl) rfl rfl (Fresh.of rfl) (nlr rfl)) ?_
 iterate 5 refine w_ ?_
 refine lc (Q8 2 (Jm a) QdX ⟨_,_,rfl,(Qb rfl),rfl⟩ rfl rfl ⟨Fresh.of rfl,trivial⟩ (nlr rfl)) ?_
 iterate 10 refine w_ ?_
 refine lc (Q8 3 (Jm b) QdX ⟨_,_,rfl,(Qb rfl),rfl⟩ rfl rfl ⟨Fresh.of rfl,trivial⟩ (nlr rfl)) ?_
 iterate 13 refine w_ ?_
 cases hb3:((frV a).2.2)
 iterate 26 refine w_ ?_
 subst hO
 have e4:(false:Bool)=((pfV a b).1):=by
  (rw[QlF ‹_›]; done)
 have e5:(false:Bool)=((pfV a b).2):=by
  (rw[QlF ‹_›]; done)
 exact Qi (QB rfl (Qd rfl) (Qd rfl)) (by rw[← e4,← e5] <;> rfl) rfl
 iterate 4 refine w_ ?_
 cases hb6:((frV b).2.2)
 iterate 22 refine w_ ?_
 subst hO
 have e7:(false:Bool)=((pfV a b).1):=by
  (rw[Qls ‹_›]; done)
 have e8:(false:Bool)=((pfV a b).2):=by
  (rw[Qls ‹_›]; done)
 exact Qi (QB rfl (Qd rfl) (Qd rfl)) (by rw[← e7,← e8] <;> rfl) rfl
 iterate 4 refine w_ ?_
 refine lgy rfl rfl (Ql (XE a.2.1 b.2.1) Qku ⟨_,_,rfl,(Qb rfl),⟨_,_,rfl,(Qb rfl),rfl⟩⟩ rfl rfl) ?_
 iterate 3 refine w_ ?_
 cases hb9:(decide (a.2.1=b.2.1))
 have hb9':=a7 hb9
 iterate 14 refine w_ ?_
 subst hO
 have e10:(false:Bool)=((pfV a b).1):=by
  (rw[Qdc ‹_›]; done)
 have e11:(false:Bool)=((pfV a b).2):=by
  (rw[Qdc ‹_›]; done)
 exact Qi (QB rfl (Qd rfl) (Qd rfl)) (by rw[← e10,← e11] <;> rfl) rfl
 have hb9':=a8 hb9
 iterate 4 refine w_ ?_
 refine lgy rfl rfl (Ql (X1 a.2.2.1 b.2.2.1) QkC ⟨_,_,rfl,(Qb rfl),⟨_,_,rfl,(Qb rfl),rfl⟩⟩ rfl rfl) ?_
 iterate 3 refine w_ ?_
 cases hb12:(decide (a.2.2.1=b.2.2.1))
 have hb12':=a7 hb12
 iterate 6 refine w_ ?_
 subst hO
 have e13:(false:Bool)=((pfV a b).1):=by
  (rw[Qc5 ‹_›]; done)
 have e14:(false:Bool)=((pfV a b).2):=by
  (rw[Qc5 ‹_›]; done)
 exact Qi (QB rfl (Qd rfl) (Qd rfl)) (by rw[← e13,← e14] <;> rfl) rfl
 have hb12':=a8 hb12
 iterate 5 refine w_ ?_
 refine lc (Yv (Xf ((frV a).1) ((frV b).1)) Qau ⟨_,_,rfl,(U3 (Qa rfl) rfl),⟨_,_,rfl,(U3 (Qa rfl) rfl),rfl⟩⟩ rfl rfl rfl) ?_
 refine w_ ?_
 cases hb15:(decide (((frV a).1)=((frV b).1)))
 have hb15':=a7 hb15
 iterate 3 refine w_ ?_
 refine QQ rfl rfl rfl ?_ rfl
 iterate 6 refine w_ ?_
 subst hO
 have e16:(false:Bool)=((pfV a b).1):=by
  (rw[Qpn ‹_› ‹_› ‹_› ‹_› ‹_›]; done)
 have e17:(true:Bool)=((pfV a b).2):=by
  (rw[Qpn ‹_› ‹_› ‹_› ‹_› ‹_›]; done)
 exact Qi (QB rfl (Qd rfl) (Qd rfl)) (by rw[← e16,← e17] <;> rfl) rfl
 have hb15':=a8 hb15
 iterate 3 refine w_ ?_
 cases hb18:((frV b).2.1)
 iterate 7 refine w_ ?_
 subst hO
 have e19:(true:Bool)=((pfV a b).1):=by
  (rw[Qpi ‹_› ‹_› ‹_› ‹_› ‹_› ‹_›]; done)
 have e20:(true:Bool)=((pfV a b).2):=by
  (rw[Qpi ‹_› ‹_› ‹_› ‹_› ‹_› ‹_›]; done)
 exact Qi (QB rfl (Qd rfl) (Qd rfl)) (by rw[← e19,← e20] <;> rfl) rfl
 iterate 7 refine w_ ?_
 subst hO
 have e21:((frV a).2.1:Bool)=((pfV a b).1):=by
  (rw[QnN ‹_› ‹_› ‹_› ‹_› ‹_› ‹_›]; done)
 have e22:(true:Bool)=((pfV a b).2):=by
  (rw[QnN ‹_› ‹_› ‹_› ‹_› ‹_› ‹_›]; done)
 exact Qi (QB rfl (Qd rfl) (Qd rfl)) (by rw[e21,← e22] <;> rfl) rfl
theorem UX (a:(Int×(List (List Int×List Int)))×(List (ByteArray×Int))×(List (Int×Bool))×ByteArray)(b:(Int×(List (List Int×List Int)))×(List (ByteArray×Int))×(List (Int×Bool))×ByteArray)[∀s,Decidable (StgOk s)]:FC Tryz.prog 44 [(true,[dI a.1.1, .dat QZ a.1.2, .dat QJ a.2.1, .dat QR a.2.2.1,dS a.2.2.2]),(true,[dI b.1.1, .dat QZ b.1.2, .dat QJ b.2.1, .dat QR b.2.2.1,dS b.2.2.2])] [] 0 (Yj (PV.tup [(false,[dB ((pfV a b).1)]),(false,[dB ((pfV a b).2)])])):=by
 refine QO Tryz.func44 rfl rfl Tryz.ntmps44 fun O_ hO w0_ N0_ X_ h0_ f0_=> ?_
 refine AC.fact (QI (x:= .tmp 0) (i:=0) (Qb rfl) rfl) fun hi1=>AC.fact (QI (x:= .tmp 1) (i:=0) (Qb rfl) rfl) fun hi2=> ?_
 refine w_ ?_
 refine lc (Qy 0 (Qb rfl) rfl rfl (Fresh.of rfl) (nlr rfl))<|lc (Qy 1 (Qb rfl) rfl rfl (Fresh.of rfl) (nlr rfl)) ?_
 iterate 6 refine w_ ?_
 refine lc (Ql (Xe a) Kt ⟨_,_,rfl,(Qb rfl),rfl⟩ rfl rfl) ?_
 iterate 2 refine w_ ?_
 cases hb3:((sgV a).2)
 iterate 27 refine w_ ?_
 subst hO
 have e4:(false:Bool)=((pfV a b).1):=by
  (rw[Qlw ‹_›]; done)
 have e5:(false:Bool)=((pfV a b).2):=by
  (rw[Qlw ‹_›]; done)
 exact Qi (QB rfl (Qd rfl) (Qd rfl)) (by rw[← e4,← e5] <;> rfl) rfl
 refine w_ ?_
 refine lgy rfl rfl (Ql (Xe b) Kt ⟨_,_,rfl,(Qb rfl),rfl⟩ rfl rfl) ?_
 iterate 3 refine w_ ?_
 cases hb6:((sgV b).2)
 iterate 22 refine w_ ?_
 subst hO
 have e7:(false:Bool)=((pfV a b).1):=by
  (rw[QgJ ‹_›]; done)
 have e8:(false:Bool)=((pfV a b).2):=by
  (rw[QgJ ‹_›]; done)
 exact Qi (QB rfl (Qd rfl) (Qd rfl)) (by rw[← e7,← e8] <;> rfl) rfl
 iterate 4 refine w_ ?_
 refine lgy rfl rfl (Ql (WW a.2.1 b.2.1) Qgc ⟨_,_,rfl,(Qb rfl),⟨_,_,rfl,(Qb rfl),rfl⟩⟩ rfl rfl) ?_
 iterate 3 refine w_ ?_
 cases hb9:(decide (a.2.1=b.2.1))
 have hb9':=a7 hb9
 iterate 14 refine w_ ?_
 subst hO
 have e10:(false:Bool)=((pfV a b).1):=by
  (rw[Qdc ‹_›]; done)
 have e11:(false:Bool)=((pfV a b).2):=by
  (rw[Qdc ‹_›]; done)
 exact Qi (QB rfl (Qd rfl) (Qd rfl)) (by rw[← e10,← e11] <;> rfl) rfl
 have hb9':=a8 hb9
 iterate 4 refine w_ ?_
 refine lgy rfl rfl (Ql (Jr a.2.2.1 b.2.2.1) Qjs ⟨_,_,rfl,(Qb rfl),⟨_,_,rfl,(Qb rfl),rfl⟩⟩ rfl rfl) ?_
 iterate 3 refine w_ ?_
 cases hb12:(decide (a.2.2.1=b.2.2.1))
 have hb12':=a7 hb12
 iterate 6 refine w_ ?_
 subst hO
 have e13:(false:Bool)=((pfV a b).1):=by
  (rw[Qc5 ‹_›]; done)
 have e14:(false:Bool)=((pfV a b).2):=by
  (rw[Qc5 ‹_›]; done)
 exact Qi (QB rfl (Qd rfl) (Qd rfl)) (by rw[← e13,← e14] <;> rfl) rfl
 have hb12':=a8 hb12
 iterate 4 refine w_ ?_
 refine lc (Q8 2 (Kk a) QeV ⟨_,_,rfl,(Qb rfl),rfl⟩ rfl rfl ⟨Fresh.of rfl,trivial⟩ (nlr rfl)) ?_
 iterate 8 refine w_ ?_
 refine lc (Q8 3 (Kk b) QeV ⟨_,_,rfl,(Qb rfl),rfl⟩ rfl rfl ⟨Fresh.of rfl,trivial⟩ (nlr rfl)) ?_
 iterate 9 refine w_ ?_
 refine lc (Yv (Xa (Vw a) (Vw b)) W6 ⟨_,_,rfl,(U3 (Qa rfl) rfl),⟨_,_,rfl,(U3 (Qa rfl) rfl),rfl⟩⟩ rfl rfl rfl) ?_
 refine w_ ?_
 cases hb15:(decide ((Vw a)=(Vw b)))
 have hb15':=a7 hb15
 iterate 2 refine w_ ?_
 refine QQ rfl rfl rfl ?_ rfl
 refine QQ rfl rfl rfl ?_ rfl
 iterate 6 refine w_ ?_
 subst hO
 have e16:(false:Bool)=((pfV a b).1):=by
  (rw[Qo6 ‹_› ‹_› ‹_› ‹_› ‹_›]; done)
 have e17:(true:Bool)=((pfV a b).2):=by
  (rw[Qo6 ‹_› ‹_› ‹_› ‹_› ‹_›]; done)
 exact Qi (QB rfl (Qd rfl) (Qd rfl)) (by rw[← e16,← e17] <;> rfl) rfl
 have hb15':=a8 hb15
 iterate 2 refine w_ ?_
 cases hb18:(Ko a)
 iterate 8 refine w_ ?_
 subst hO
 have e19:(!(Ko b):Bool)=((pfV a b).1):=by
  (rw[QnD ‹_› ‹_› ‹_› ‹_› ‹_› ‹_›]; done)
 have e20:(true:Bool)=((pfV a b).2):=by
  (rw[QnD ‹_› ‹_› ‹_› ‹_› ‹_› ‹_›]; done)
 exact Qi (QB rfl (Qd rfl) (Qd rfl)) (by rw[e19,← e20] <;> rfl) rfl
 iterate 8 refine w_ ?_
 subst hO
 have e21:(true:Bool)=((pfV a b).1):=by
  (rw[QoZ ‹_› ‹_› ‹_› ‹_› ‹_› ‹_›]; done)
 have e22:(true:Bool)=((pfV a b).2):=by
  (rw[QoZ ‹_› ‹_› ‹_› ‹_› ‹_› ‹_›]; done)
 exact Qi (QB rfl (Qd rfl) (Qd rfl)) (by rw[← e21,← e22] <;> rfl) rfl
end Go.Proofs.YtjaadeknhofhpaaGreat
namespace Go.Proofs.YtjaadeknhofhpaaGreat
open Go.RowKit
set_option maxRecDepth 100000
set_option maxHeartbeats 4000000
theorem KK {A:Amb}{P:Program}{o:Oper}{s:St}{d:Nat}{b b':Bool}(e:b=b')(h:Does A P o s (s.put d (lf (dB b)))):Does A P o s (s.put d (lf (dB b'))):=e▸h
abbrev DSg:=List (ByteArray×Int)×List ByteArray×List DAr
def Qm5 (n:Int)(l:ZD):Prop:=(0≤l.1∧l.1≤n - 1)∨(l.1= -1∧l.2=false)
instance (n:Int) (l:ZD):Decidable (Qm5 n l):=inferInstanceAs (Decidable (_∨_))
def Qq4 (s:ByteArray)(n:Int):Prop:=(∀c∈s.toList,c=48∨c=49)∧(s.size:Int)=n
instance (s:ByteArray) (n:Int):Decidable (Qq4 s n):=inferInstanceAs (Decidable (_∧_))
section
variable {n:Int}{l:ZD}{s x y:ByteArray}{k:Nat}{c d:UInt8}{a:DAr}
def Qog (a:DAr)(x y:ByteArray)(j:Nat):Prop:=if (j:Int)=a.2.1 then (decide (bAt x j=49)= !a.2.2.1∧decide (bAt y j=49)=a.2.2.1) else bAt x j=bAt y j
instance (a:DAr) (x y:ByteArray) (j:Nat):Decidable (Qog a x y j):=by unfold Qog; exact inferInstance
def Fit (a:DAr)(x y:ByteArray):Prop:=∀j,j < x.size→Qog a x y j
instance (a:DAr) (x y:ByteArray):Decidable (Fit a x y):=by unfold Fit; exact inferInstance
def Qua (code:ByteArray)(sig:Int)(b:ByteArray):ByteArray:=(code.extract 0 sig.toNat++b)++code.extract (sig+1).toNat code.size
end
end Go.Proofs.YtjaadeknhofhpaaGreat
namespace Go.Proofs.YtjaadeknhofhpaaGreat
open Go.RowKit
set_option maxRecDepth 100000
set_option maxHeartbeats 4000000
def Qjw (c:DSg)(i:Int):ByteArray:=(c.2.1[i.toNat]?).getD ByteArray.empty
def QnZ (c:DSg)(a:DAr):Prop:=(0≤a.1∧a.1≤(c.2.1.length:Int) - 1)∧(0≤a.2.2.2∧a.2.2.2≤(c.2.1.length:Int) - 1)∧Qm5 (c.1.length:Int) (a.2.1,a.2.2.1)∧Fit a (Qjw c a.1) (Qjw c a.2.2.2)
instance (c:DSg) (a:DAr):Decidable (QnZ c a):=inferInstanceAs (Decidable (_∧_))
section
variable {c:DSg}{a:DAr}{x y b code:ByteArray}{n sig p:Int}{j k m:Nat}
section
variable (h1:0≤a.1∧a.1≤(c.2.1.length:Int) - 1)(h2:0≤a.2.2.2∧a.2.2.2≤(c.2.1.length:Int) - 1)(h3:Qm5 (c.1.length:Int) (a.2.1,a.2.2.1))(hx:c.2.1[a.1.toNat]? =some x)(hy:c.2.1[a.2.2.2.toNat]? =some y)
include h1 h2 h3 hx hy
end
end
end Go.Proofs.YtjaadeknhofhpaaGreat
namespace Go.Proofs.YtjaadeknhofhpaaGreat
open Go.RowKit
set_option maxRecDepth 100000
set_option maxHeartbeats 4000000
inductive Rch (es:List (Int×Int)):Int→Prop
  | zero:Rch es 0
  | step {u v:Int}:Rch es u→(u,v)∈es→Rch es v
def Qro (rs:List DAr):List (Int×Int):=rs.map fun a=>(a.1,a.2.2.2)
def InE (n:Nat)(e:Int×Int):Prop:=(0≤e.1∧e.1 < n)∧0≤e.2∧e.2 < n
def Qsh (n:Nat)(es:List (Int×Int)):Prop:=∀k:Nat,k < n→Rch es k
def Qs5 (e:Int×Int)(m:List Bool):List Bool:=if m[e.1.toNat]? =some true then m.set e.2.toNat true else m
def Qq1:List (Int×Int)→List Bool→List Bool
  | [],m=>m
  | e :: es,m=>Qq1 es (Qs5 e m)
def Qsy (es:List (Int×Int)):Nat→List Bool→List Bool
  | 0,m=>m
  | f+1,m=>Qsy es f (Qq1 es m)
section
variable {es:List (Int×Int)}{e:Int×Int}{m:List Bool}{n f i k:Nat}{rs:List DAr}{a:DAr}{b:Bool}
def Que (m:List Bool):Nat:=(m.filter fun b=> !b).length
def m0 (n:Nat):List Bool:=(List.replicate n false).set 0 true
section
variable [Decidable (Qsh n es)]
end
end
theorem Kv (s:List Int)(v:Int):FC Tryz.prog 269 [(false,[.dat Qs s]),(false,[dI v])] [] 0 (Yj (lI (ZN (fun y=>decide (v=y)) s))):=by
 refine QO Tryz.func269 rfl rfl Tryz.ntmps269 fun O_ hO w0_ N0_ X_ h0_ f0_=> ?_
 refine AC.fact (QC (x:= .tmp 1) (Qa rfl)) fun hi1=> ?_
 iterate 6 refine w_ ?_
 refine AL.fact (Qo (x:= .tmp 6) (Qa rfl)) fun hl2=> ?_
 iterate 4 refine w_ ?_
 refine Qu (fun m_ s_=>∃(k:Nat),k≤s.length∧m_=s.length - k∧(NoneTo (fun y=>decide (v=y)) s k)∧s_=⟨[(0,lf (.dat Qs s)),(1,lI v),(7,lI (s.length:Int)),(8,lI (k:Int))],[]⟩) ⟨0,aw _,rfl,NoneTo.zero,rfl⟩ ?_ ?_
 exact wo []
 rintro m_ s_ ⟨k,hk3,hm4,hno,rfl⟩
 iterate 4 refine w_ ?_
 cases hb5:(decide ((k:Int) < (s.length:Int)))
 have hb5':=a7 hb5
 iterate 7 refine w_ ?_
 subst hO
 have e6:((-1):Int)=(ZN (fun y=>decide (v=y)) s):=by
  first | exact (hno.no (by omega)).symm
 exact Qi (Qg rfl (Qd rfl)) (by rw[← e6] <;> rfl) rfl
 have hb5':=a8 hb5
 iterate 12 refine w_ ?_
 obtain ⟨x7,hx8⟩:=gx s k
 refine lc (Qh (Qa rfl) (Qa rfl) QN QL rfl (by omega) hx8) ?_
 refine w_ ?_
 refine AL.fact (QC (x:= .tmp 15) (Qa rfl)) fun hi9=> ?_
 iterate 2 refine w_ ?_
 cases hb10:(decide (v=x7))
 have hb10':=a7 hb10
 iterate 6 refine w_ ?_
 refine Qm<|QV ⟨k+1,by omega,rfl,hno.step hx8 ‹_›,rfl⟩ (by omega) ?_
 exact wo []
 have hb10':=a8 hb10
 iterate 6 refine w_ ?_
 subst hO
 have e11:((k:Int):Int)=(ZN (fun y=>decide (v=y)) s):=by
  exact (hno.at hx8 ‹_›).symm
 exact Qi (Qg rfl (Qd rfl)) (by rw[e11] <;> rfl) rfl
theorem Ui (s:List Int)(v:Int):FC Tryz.prog 178 [(false,[.dat Qs s]),(false,[dI v])] [] 0 (Yj (lB (s.any (fun y=>decide (v=y))))):=by
 refine QO Tryz.func178 rfl rfl Tryz.ntmps178 fun O_ hO w0_ N0_ X_ h0_ f0_=> ?_
 refine AC.fact (QC (x:= .tmp 1) (Qa rfl)) fun hi1=> ?_
 iterate 6 refine w_ ?_
 refine lc (Ql (Kv s v) QjJ ⟨_,_,rfl,(Qb rfl),⟨_,_,rfl,(Qb rfl),rfl⟩⟩ rfl rfl) ?_
 iterate 4 refine w_ ?_
 subst hO
 have e2:(decide (0≤(ZN (fun y=>decide (v=y)) s)):Bool)=(s.any (fun y=>decide (v=y))):=by
  exact Vx _ _
 exact Qi (Qg rfl (Qd rfl)) (by rw[e2] <;> rfl) rfl
end Go.Proofs.YtjaadeknhofhpaaGreat
namespace Go.Proofs.YtjaadeknhofhpaaGreat
open Go.RowKit
set_option maxRecDepth 100000
set_option maxHeartbeats 4000000
structure SgOk (c:DSg):Prop where
  sigs:Qec c.1
  some_:1≤c.2.1.length∧c.2.1.length≤300
  few:c.2.2.length≤4000
  codes:∀x∈c.2.1,Qq4 x (c.1.length:Int)
  arcs:∀a∈c.2.2,QnZ c a
  all:Qsh c.2.1.length (Qro c.2.2)
theorem Hj {α:Type}{p:α→Prop}{l:List α}{k:Nat}{x:α}(h:∀j,j < k→∀x,l[j]? =some x→p x)(hx:l[k]? =some x)(hp:p x):∀j,j < k+1→∀x,l[j]? =some x→p x:=fun j hj y hy=>by
  by_cases e:j=k
  · subst e; rw[hx] at hy; cases hy; exact hp
  · exact h j (by omega) y hy
theorem Qlm {c:DSg}{a:DAr}(h:QnZ c a):InR c.2.1.length a:=by
  obtain ⟨⟨h1,h2⟩,⟨h3,h4⟩,_⟩:=h
  exact ⟨⟨h1,by omega⟩,h3,by omega⟩
section
variable {c:DSg}[Decidable (SgOk c)]{x:ByteArray}{a:DAr}{k i:Nat}
end
end Go.Proofs.YtjaadeknhofhpaaGreat
namespace Go.Proofs.YtjaadeknhofhpaaGreat
open Go.RowKit
set_option maxRecDepth 100000
set_option maxHeartbeats 4000000
section
variable {A:Amb}{P:Program}{s:St}{x y:Operand}{d:Nat}{T T' ty:TypeId}{pos:String}{af:Array Edge}{g:Option (Nat×Bool)}{n a b:Int}
theorem QoK (h:0≤n∧n≤9223372036854775807):IntKind.u64.wrap n=n:=by
  simp[IntKind.wrap,IntKind.bits,IntKind.signed]
  omega
theorem Qpx (h:0≤n∧n≤9223372036854775807):IntKind.i64.wrap n=n:=IntWalk.i64_in _ (by omega)
theorem Qef (hx:Evl A s x (dI n))(hs:P.underlying T=some (.int .i64))(hd:P.underlying T'=some (.int .u64))(h0:0≤n)(hn:Nat.blt d A.n=true):
    Does A P ⟨some d, .convert T T' x,ty,pos,af,g⟩ s (s.put d (lf (.val (.int .u64 n)))):=
  Qr rfl hn fun gh a w r=>by
    have h2:=hx.i r
    have h3:=(LVR.int (hx gh a w r)).2
    have e2:=QoK (n:=n) (by omega)
    refine ⟨.int .u64 n, ?_,_,rfl,rfl⟩
    simp only[execOp,h2,convert,run_underlying hs,run_underlying hd,ax,aE,Conv.intToInt,e2]
    simp
theorem QdT (hx:Evl A s x (.val (.int .u64 n)))(hs:P.underlying T=some (.int .u64))(hd:P.underlying T'=some (.int .i64))(h0:0≤n∧n≤9223372036854775807)(hn:Nat.blt d A.n=true):
    Does A P ⟨some d, .convert T T' x,ty,pos,af,g⟩ s (s.put d (lf (dI n))):=
  Qr rfl hn fun gh a w r=>by
    have h2:a.eval x= .int .u64 n:=hx gh a w r
    have e2:=Qpx h0
    refine ⟨.int .i64 n, ?_,_,rfl,Y3 (by omega)⟩
    simp only[execOp,h2,convert,run_underlying hs,run_underlying hd,ax,aE,Conv.intToInt,e2]
    simp
end
end Go.Proofs.YtjaadeknhofhpaaGreat
namespace Go.Proofs.YtjaadeknhofhpaaGreat
open Go.RowKit
set_option maxRecDepth 100000
set_option maxHeartbeats 4000000
def QtC (l:List (List Int))(e:Int×Int):List (List Int):=l.modify e.1.toNat (· ++[e.2])
def Qsb (n:Nat)(es:List (Int×Int)):List (List Int):=es.foldl QtC (List.replicate n [])
def bfT (o:Int):List Int→List Int×List Int→List Int×List Int
  | [],st=>st
  | t :: ts,st=>if (st.1[t.toNat]?).getD 0 < 0 then bfT o ts (st.1.set t.toNat ((st.1[o.toNat]?).getD 0+1),st.2++[t]) else bfT o ts st
def bfK (nx:List (List Int)):Nat→Nat→List Int×List Int→List Int
  | 0,_,st=>st.1
  | f+1,k,st=>match st.2[k]? with
    | none=>st.1
    | some o=>bfK nx f (k+1) (bfT o ((nx[o.toNat]?).getD []) st)
def QtZ (n:Nat)(es:List (Int×Int)):List Int:=bfK (Qsb n es) (n+1) 0 ((List.replicate n (-1)).set 0 0,[0])
def Qfj (l:List Int):Nat:=(l.filter (· < 0)).length
structure BI (n:Nat) (es:List (Int×Int)) (st:List Int×List Int):Prop where
  len:st.1.length=n
  cnt:Qfj st.1+st.2.length=n
  q:∀x∈st.2,(0≤x∧x < n)∧Rch es x∧∃v,st.1[x.toNat]? =some v∧0≤v
  nn:∀(i:Nat) v,st.1[i]? =some v→0≤v→(i:Int)∈st.2
  rng:∀v∈st.1, -1≤v∧v≤(st.2.length:Int)
section
variable {n k i f:Nat}{es:List (Int×Int)}{e:Int×Int}{l ts ys q out:List Int}{o t c w:Int}{nx:List (List Int)}{st:List Int×List Int}
theorem Qiu {l:List Int}(h:l[i]? =some c)(hc:c < 0)(hw:0≤w):Qfj (l.set i w)+1=Qfj l:=by
  induction l generalizing i with
  | nil=>simp at h
  | cons x l ih=>
    cases i with
    | zero=>
      simp only[bh,bd] at h
      subst h
      simp[Qfj,hc,show¬w < 0 by omega]
    | succ i=>
      have:=ih (i:=i) (by simpa using h)
      simp only[Qfj,co,d8] at this ⊢
      split <;> simp_all
theorem BI.step (h:BI n es (out,q))(hr:∀e∈es,InE n e)(ho:o∈q)(he:(o,t)∈es)(hc:out[t.toNat]? =some c)(hn:c < 0)(hw:out[o.toNat]? =some w):BI n es (out.set t.toNat (w+1),q++[t]):=by
  obtain ⟨h1,h2,h3,h4,h5⟩:=h
  have hw0:0≤w:=by
    obtain ⟨_,_,v,h6,h7⟩:=h3 o ho
    have h6:out[o.toNat]? =some v:=h6
    rw[hw] at h6; cases h6; exact h7
  have hw1:=h5 w (ai hw)
  have htl:=(au.1 hc).1
  obtain ⟨_,ht0,ht1⟩:=hr _ he
  have ht0:0≤t:=ht0
  have ht1:t < (n:Int):=ht1
  refine ⟨by simpa using h1, ?_, ?_, ?_, ?_⟩
  · have h6 := Qiu hc hn (show 0 ≤ w + 1 by omega)
    have h2:Qfj out+q.length=n:=h2
    show Qfj (out.set t.toNat (w+1))+(q++[t]).length=n
    rw[aa,List.length_singleton]; omega
  · intro x hx
    show (0≤x∧x < n)∧Rch es x∧∃v,(out.set t.toNat (w+1))[x.toNat]? =some v∧0≤v
    rcases aJ.1 hx with hx | hx
    · obtain ⟨h6, h7, v, h8, h9⟩ := h3 x hx
      refine ⟨h6,h7, ?_⟩
      by_cases e2:t.toNat=x.toNat
      · exact ⟨w+1,by rw[← e2,aU htl],by omega⟩
      · exact ⟨v,by rw[aX e2]; exact h8,h9⟩
    · rw [aM] at hx
      subst hx
      exact ⟨⟨ht0,ht1⟩, .step (h3 o ho).2.1 he,w+1,aU htl,by omega⟩
  · intro i v hv h0
    have hv:(out.set t.toNat (w+1))[i]? =some v:=hv
    show (i:Int)∈q++[t]
    by_cases e2:t.toNat=i
    · exact aJ.2 (.inr (by rw[aM]; omega))
    · rw [aX e2] at hv
      exact aJ.2 (.inl (h4 i v hv h0))
  · intro v hv
    show -1≤v∧v≤((q++[t]).length:Int)
    rw[aa,List.length_singleton]
    have hw1':w≤(q.length:Int):=hw1.2
    rcases c9 hv with h6 | h6
    · have h7 := h5 v h6
      have h8:v≤(q.length:Int):=h7.2
      omega
    · omega
theorem BI.at_ (h:BI n es (out,q))(hq:q[k]? =some o):(0≤o∧o < n)∧o∈q:=⟨(h.q o (ai hq)).1,ai hq⟩
theorem BI.start (hn:1≤n):BI n es ((List.replicate n (-1)).set 0 0,[0]):=by
  have h0:(List.replicate n (-1:Int))[0]? =some (-1):=by rw[List.getElem?_replicate,if_pos (by omega)]
  refine ⟨by simp, ?_, ?_, ?_, ?_⟩
  · have h1 := Qiu (w := 0) h0 (by decide) (by decide)
    have h2:Qfj (List.replicate n (-1:Int))=n:=by simp[Qfj]
    show Qfj ((List.replicate n (-1)).set 0 0)+1=n
    omega
  · intro x hx
    rw[aM.1 hx]
    exact ⟨⟨by omega,by omega⟩, .zero,0,aU (by simp; omega),by decide⟩
  · intro i v hv h1
    have hv:((List.replicate n (-1:Int)).set 0 0)[i]? =some v:=hv
    by_cases e2:0=i
    · subst e2; simp
    · rw [aX e2, List.getElem?_replicate] at hv
      split at hv
      · cases hv; omega
      · cases hv
  · intro v hv
    show -1≤v∧v≤1
    rcases c9 hv with h | h
    · rw[cq h]; omega
    · omega
end
end Go.Proofs.YtjaadeknhofhpaaGreat
namespace Go.Proofs.YtjaadeknhofhpaaGreat
open Go.RowKit
set_option maxRecDepth 100000
set_option maxHeartbeats 4000000
def Qtu (a b:UInt8):Bool:=decide (a=b)||(decide (a=48)&&decide (b=43))||(decide (a=43)&&decide (b=49))||(decide (a=49)&&decide (b=45))||(decide (a=45)&&decide (b=48))||(decide (a=43)&&decide (b=45))||(decide (a=45)&&decide (b=43))
def QqW (s:ByteArray):Prop:=∀x∈s.toList,x=48∨x=43∨x=49∨x=45
instance (s:ByteArray):Decidable (QqW s):=inferInstanceAs (Decidable (∀x∈s.toList,x=48∨x=43∨x=49∨x=45))
def SignsOk (c:DSg)(s:ByteArray):Prop:=QqW s∧s.size=c.2.1.length∧SgOk c
instance (c:DSg) (s:ByteArray) [Decidable (SgOk c)]:Decidable (SignsOk c s):=inferInstanceAs (Decidable (_∧_))
def QqU (c:DSg)(s:ByteArray):Bool:=c.2.2.all fun a=>Qtu (bAt s a.1) (bAt s a.2.2.2)
def Qsl (s:ByteArray)(a:DAr):Bool:=(decide (bAt s a.1=43)&&(decide (bAt s a.2.2.2=49)||decide (bAt s a.2.2.2=45)))||(decide (bAt s a.1=45)&&(decide (bAt s a.2.2.2=48)||decide (bAt s a.2.2.2=43)))
def okP (c:DSg)(s:ByteArray)[Decidable (SgOk c)]:Bool:=decide (SignsOk c s)&&QqU c s
def Qr9 (as_:List DAr)(q:Int):List DAr:=as_.filter fun a=>decide (a.1=q)
def QtM:ByteArray:=⟨#[48,43,49,45,48]⟩
section
variable {a b x:UInt8}{k i:Nat}{s:ByteArray}{c:DSg}{l:List DAr}{e:DAr}{q:Int}
section
variable [Decidable (SignsOk c s)]
end
theorem SignsOk.at_ (h:SignsOk c s)(ha:e∈c.2.2):(0≤e.1∧e.1 < (s.size:Int))∧0≤e.2.2.2∧e.2.2.2 < (s.size:Int):=by
  have h1:=Qlm (h.2.2.arcs e ha)
  rw[h.2.1]
  exact h1
end
end Go.Proofs.YtjaadeknhofhpaaGreat
