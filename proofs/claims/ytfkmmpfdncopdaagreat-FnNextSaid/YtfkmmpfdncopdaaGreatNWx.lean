/- Walks over abstract states: codes, edges and arcs of state graphs. -/
import Derived.Test.YtfkmmpfdncopdaaGreatNWt
set_option linter.unusedSimpArgs false
set_option linter.unusedVariables false
set_option linter.unusedSectionVars false
namespace Go.Proofs.YtfkmmpfdncopdaaGreat
open Go.RowKit
set_option maxRecDepth 100000
set_option maxHeartbeats 4000000
theorem Zh {A:Amb}{P:Program}{o:Oper}{s:St}{d:Nat}{b b':Bool}(e:b=b')(h:Does A P o s (s.put d (lf (dB b)))):Does A P o s (s.put d (lf (dB b'))):=e▸h
abbrev DSg:=List (ByteArray×Int)×List ByteArray×List DAr
theorem KM (ss:List Qz)[Decidable (Y3 ss)]:FC Tryz.prog 153 [(false,[.dat (.sl 203 YR) ss])] [] 0 (QH (lf (dB (decide (Y3 ss))))):=QeY fun gh w vs h=>by
  obtain ⟨v,rfl,hr⟩:=h.leaf1
  exact (Qb0 v ss w hr).mono fun _ _ h=>Js h
theorem JK (ss:List Qz)[Decidable (Y3 ss)]:FC Tryz.prog 162 [(false,[.dat (.sl 203 YR) ss])] [] 0 (QH (lf (dB (decide (Y3 ss))))):=QeY fun gh w vs h=>by
  obtain ⟨v,rfl,hr⟩:=h.leaf1
  exact (KC v ss w hr).mono fun _ _ h=>Js h
def UH (n:Int)(l:ZF):Prop:=(0≤l.1∧l.1≤n - 1)∨(l.1= -1∧l.2=false)
instance (n:Int) (l:ZF):Decidable (UH n l):=inferInstanceAs (Decidable (_∨_))
def ZQ (s:ByteArray)(n:Int):Prop:=(∀c∈s.toList,c=48∨c=49)∧(s.size:Int)=n
instance (s:ByteArray) (n:Int):Decidable (ZQ s n):=inferInstanceAs (Decidable (_∧_))
section
variable {n:Int}{l:ZF}{s x y:ByteArray}{k:Nat}{c d:UInt8}{a:DAr}
theorem Qjo (h:0≤l.1∧l.1≤n - 1):true=decide (UH n l):=(aJ (.inl h)).symm
theorem Qm8 (h:¬(0≤l.1∧l.1≤n - 1)):Ty.beq QeZ l (-1,false)=decide (UH n l):=by
  rw[bU,Ty.beq_iff,aV]
  constructor
  · rintro rfl; exact .inr ⟨rfl,rfl⟩
  · rintro (h1 | h1)
    · exact absurd h1 h
    · exact Prod.ext h1.1 h1.2
theorem QqR (h:¬(0≤l.1∧l.1≤n - 1))(h1:l.1= -1):(!l.2)=decide (UH n l):=by
  rw[bU,aV]
  constructor
  · intro h2; exact .inr ⟨h1,by simpa using h2⟩
  · rintro (h2 | h2)
    · exact absurd h2 h
    · simp[h2.2]
theorem Qra (h:¬(0≤l.1∧l.1≤n - 1))(h1:¬l.1= -1):false=decide (UH n l):=(ay (by rintro (h2 | h2); exact h h2; exact h1 h2.1)).symm
theorem U7 (h:s[((k:Int)).toNat]? =some c):s.toList[k]? =some c:=by
  have h:s[k]? =some c:=h
  rw[bc]
  obtain ⟨hk,h2⟩:∃hk:k < s.size,s[k]=c:=by
    by_cases hk:k < s.size
    · rw[aY s k hk] at h; exact ⟨hk,Option.some.inj h⟩
    · rw[getElem?_neg s k hk] at h; cases h
  rw[aa (by simpa using hk)]
  rw[← h2]; simp; rfl
theorem Kh (hB:∀j,j < k→∀c,s.toList[j]? =some c→c=48∨c=49)(hx:s[((k:Int)).toNat]? =some c)(h:c=48∨c=49):∀j,j < k+1→∀c,s.toList[j]? =some c→c=48∨c=49:=fun j hj d hd=>by
  by_cases e:j=k
  · subst e; rw[U7 hx] at hd; cases hd; exact h
  · exact hB j (by omega) d hd
theorem Qi0 (hx:s[((k:Int)).toNat]? =some c)(h1:¬c=48)(h2:¬c=49):false=decide (ZQ s n):=(ay fun h=>by
  rcases h.1 c (ap (U7 hx)) with h | h
  · exact h1 h
  · exact h2 h).symm
theorem Qfj (hB:∀j,j < k→∀c,s.toList[j]? =some c→c=48∨c=49)(hk:s.size≤k):decide ((s.size:Int)=n)=decide (ZQ s n):=bL.2 ⟨fun h=>⟨fun c hc=>by
    obtain ⟨j,hj⟩:=aM.1 hc
    have:=(ah.1 hj).1
    rw[XA] at this
    exact hB j (by omega) c hj,h⟩,fun h=>h.2⟩
def YM (a:DAr)(x y:ByteArray)(j:Nat):Prop:=if (j:Int)=a.2.1 then (decide (bAt x j=49)= !a.2.2.1∧decide (bAt y j=49)=a.2.2.1) else bAt x j=bAt y j
instance (a:DAr) (x y:ByteArray) (j:Nat):Decidable (YM a x y j):=by unfold YM; exact inferInstance
def Fit (a:DAr)(x y:ByteArray):Prop:=∀j,j < x.size→YM a x y j
instance (a:DAr) (x y:ByteArray):Decidable (Fit a x y):=by unfold Fit; exact inferInstance
theorem Qfx (hF:∀j,j < k→YM a x y j)(h:YM a x y k):∀j,j < k+1→YM a x y j:=fun j hj=>by
  by_cases e:j=k
  · subst e; exact h
  · exact hF j (by omega)
theorem Qgw (hk:k < x.size)(h:¬YM a x y k):false=decide (Fit a x y):=(ay fun h1=>h (h1 k hk)).symm
theorem QnY (hF:∀j,j < k→YM a x y j)(hk:x.size≤k):true=decide (Fit a x y):=(aJ fun j hj=>hF j (by omega)).symm
theorem UB (h:¬(k:Int)=a.2.1)(hx:x[((k:Int)).toNat]? =some c)(hy:y[((k:Int)).toNat]? =some d):YM a x y k↔c=d:=by
  unfold YM; rw[if_neg h,Q2 hx,Q2 hy]
theorem Qms (h:(k:Int)=a.2.1)(hx:x[((k:Int)).toNat]? =some c)(hy:y[((k:Int)).toNat]? =some d):YM a x y k↔(decide (c=49)= !a.2.2.1∧decide (d=49)=a.2.2.1):=by
  unfold YM; rw[if_pos h,Q2 hx,Q2 hy]
theorem Hl (h:(k:Int)=a.2.1)(hx:x[((k:Int)).toNat]? =some c)(h1:(decide (c=49)==a.2.2.1)=true):¬YM a x y k:=by
  unfold YM; rw[if_pos h,Q2 hx]
  rintro ⟨h2,_⟩
  rw[h2] at h1
  cases ha:a.2.2.1 <;> rw[ha] at h1 <;> cases h1
theorem Ha (h:(k:Int)=a.2.1)(hy:y[((k:Int)).toNat]? =some d)(h1:(decide (d=49)==a.2.2.1)=false):¬YM a x y k:=by
  unfold YM; rw[if_pos h,Q2 hy]
  rintro ⟨_,h2⟩
  rw[h2] at h1
  cases ha:a.2.2.1 <;> rw[ha] at h1 <;> cases h1
theorem Qdr (h:(k:Int)=a.2.1)(hx:x[((k:Int)).toNat]? =some c)(hy:y[((k:Int)).toNat]? =some d)(h1:(decide (c=49)==a.2.2.1)=false)(h2:(decide (d=49)==a.2.2.1)=true):YM a x y k:=by
  rw[Qms h hx hy]
  cases ha:a.2.2.1 <;> rw[ha] at h1 h2 <;> cases hc:decide (c=49) <;> rw[hc] at h1 <;> cases hd:decide (d=49) <;> rw[hd] at h2 <;> first | exact ⟨rfl,rfl⟩ | exact absurd h1 (by decide) | exact absurd h2 (by decide)
def VB (code:ByteArray)(sig:Int)(b:ByteArray):ByteArray:=(code.extract 0 sig.toNat++b)++code.extract (sig+1).toNat code.size
end
theorem UA (l:Int×Bool)(n:Int)(hn:0≤n∧n≤1000000):FC Tryz.prog 155 [(true,[dI l.1,dB l.2]),(false,[dI n])] [] 0 (QH (lB (decide (UH n l)))):=by
 refine Ql Tryz.func155 rfl rfl Tryz.ntmps155 fun O_ hO w0_ N0_ X_ h0_ f0_=> ?_
 refine acG 0 0 fun hi1=> ?_
 refine acI 1 fun hi2=> ?_
 refine w_ ?_
 refine xbx 0 ?_
 iterate 7 refine w_ ?_
 refine lc (dK (QM l.1 0 (n - 1)) ZG) ?_
 refine w_ ?_
 cases hb3:(decide (0≤l.1∧l.1≤(n - 1)))
 ·have hb3':=ab hb3
  refine w_ ?_
  refine lgy rfl rfl (Qp UX ⟨_,_,rfl,(Evl.ev (Qo rfl)),rfl⟩ (aB.1 rfl) rfl rfl)<|lgy rfl rfl (QkF QnI QnH (Qm rfl) (Qm rfl) (p:=l) (q:=((-1),false)) rfl rfl rfl) ?_
  iterate 3 refine w_ ?_
  refine Qb<|fqB hO ?_
  exact Qm8 (by assumption)
 ·have hb3':=ae hb3
  iterate 6 refine w_ ?_
  refine Qb<|fqB hO ?_
  exact Qjo (by assumption)
theorem Qat (l:Int×Bool)(n:Int)(hn:0≤n∧n≤1000000):FC Tryz.prog 230 [(true,[dI l.1,dB l.2]),(false,[dI n])] [] 0 (QH (lB (decide (UH n l)))):=by
 refine Ql Tryz.func230 rfl rfl Tryz.ntmps230 fun O_ hO w0_ N0_ X_ h0_ f0_=> ?_
 refine acG 0 0 fun hi1=> ?_
 refine acI 1 fun hi2=> ?_
 refine w_ ?_
 refine xbx 0 ?_
 iterate 7 refine w_ ?_
 refine lc (dK (YT l.1 0 (n - 1)) XG) ?_
 refine w_ ?_
 cases hb3:(decide (0≤l.1∧l.1≤(n - 1)))
 ·have hb3':=ab hb3
  iterate 4 refine w_ ?_
  cases hb4:(decide (l.1=(-1)))
  ·have hb4':=ab hb4
   iterate 7 refine w_ ?_
   refine Qb<|fqB hO ?_
   exact Qra (by assumption) (by assumption)
  ·have hb4':=ae hb4
   iterate 7 refine w_ ?_
   refine Qb<|fqB hO ?_
   exact QqR (by assumption) (by assumption)
 ·have hb3':=ae hb3
  iterate 4 refine w_ ?_
  refine Qf rfl rfl rfl ?_ rfl
  refine Qf rfl rfl rfl ?_ rfl
  refine Qf rfl rfl rfl ?_ rfl
  iterate 4 refine w_ ?_
  refine Qb<|fqB hO ?_
  exact Qjo (by assumption)
theorem Qck (s:ByteArray)(n:Int):FC Tryz.prog 154 [(false,[dS s]),(false,[dI n])] [] 0 (QH (lB (decide (ZQ s n)))):=by
 refine Ql Tryz.func154 rfl rfl Tryz.ntmps154 fun O_ hO w0_ N0_ X_ h0_ f0_=> ?_
 refine acI 1 fun hi1=> ?_
 iterate 8 refine w_ ?_
 refine lpK s.size (fun k=>∀j,j < k→∀c,s.toList[j]? =some c→c=48∨c=49) (fun k=>⟨[(0,lf (dS s)),(1,lI n),(5,lI (k:Int))],[]⟩) ((fun j hj=>absurd hj (b8 j))) ?_ fun k hk2 hB=> ?_
 · exact Wk.of [] rfl ⟨rfl,rfl,rfl,trivial⟩ trivial rfl rfl
 iterate 4 refine w_ ?_
 refine alS 7 fun hl3=> ?_
 refine lc (QZ (Qa rfl) rfl Zc) ?_
 iterate 2 refine w_ ?_
 cases hb4:(decide ((k:Int) < (s.size:Int)))
 ·have hb4':=ab hb4
  refine w_ ?_
  refine Qj ?_
  refine (?_:AC _ _ _ _ _)
  iterate 2 refine w_ ?_
  refine alS 22 fun hl5=> ?_
  refine lc (QZ (Qa rfl) rfl Zc) ?_
  iterate 4 refine w_ ?_
  refine Qb<|fqB hO ?_
  exact Qfj hB (by omega)
 ·have hb4':=ae hb4
  iterate 7 refine w_ ?_
  obtain ⟨c6,hc7⟩:∃z,s[((k:Int)).toNat]? =some z:=⟨_,aY _ _ (by omega)⟩
  refine w_ ?_
  refine lc (QD (Qa rfl) (QG 48 rfl) rfl) ?_
  refine w_ ?_
  cases hb8:(!decide (c6=48))
  ·have hb8':(c6=48):=QA hb8
   iterate 7 refine w_ ?_
   refine AC.skip ?_
   refine (?_:AC _ _ _ _ _)
   iterate 4 refine w_ ?_
   refine Qd ?_
   refine lK_ ((Kh hB (by assumption) (by first | exact .inl (by assumption) | exact .inr (by assumption)))) ?_
   exact Wk.of [] rfl ⟨rfl,rfl,rfl,trivial⟩ trivial rfl rfl
  ·have hb8':¬(c6=48):=QS hb8
   iterate 3 refine w_ ?_
   refine lgy rfl rfl (QD (Qa rfl) (QG 49 rfl) rfl) ?_
   iterate 2 refine w_ ?_
   cases hb9:(!decide (c6=49))
   ·have hb9':(c6=49):=QA hb9
    refine w_ ?_
    refine AC.skip ?_
    refine (?_:AC _ _ _ _ _)
    iterate 4 refine w_ ?_
    refine Qd ?_
    refine lK_ ((Kh hB (by assumption) (by first | exact .inl (by assumption) | exact .inr (by assumption)))) ?_
    exact Wk.of [] rfl ⟨rfl,rfl,rfl,trivial⟩ trivial rfl rfl
   ·have hb9':¬(c6=49):=QS hb9
    iterate 4 refine w_ ?_
    refine Qb<|fqB hO ?_
    exact Qi0 (k:=k) (by assumption) (by assumption) (by assumption)
theorem UQ (s:ByteArray)(n:Int):FC Tryz.prog 163 [(false,[dS s]),(false,[dI n])] [] 0 (QH (lB (decide (ZQ s n)))):=by
 refine Ql Tryz.func163 rfl rfl Tryz.ntmps163 fun O_ hO w0_ N0_ X_ h0_ f0_=> ?_
 refine acI 1 fun hi1=> ?_
 iterate 8 refine w_ ?_
 refine lpK s.size (fun k=>∀j,j < k→∀c,s.toList[j]? =some c→c=48∨c=49) (fun k=>⟨[(0,lf (dS s)),(1,lI n),(5,lI (k:Int))],[]⟩) ((fun j hj=>absurd hj (b8 j))) ?_ fun k hk2 hB=> ?_
 · exact Wk.of [] rfl ⟨rfl,rfl,rfl,trivial⟩ trivial rfl rfl
 iterate 4 refine w_ ?_
 refine alS 7 fun hl3=> ?_
 refine lc (QZ (Qa rfl) rfl Zc) ?_
 iterate 2 refine w_ ?_
 cases hb4:(decide ((k:Int) < (s.size:Int)))
 ·have hb4':=ab hb4
  refine w_ ?_
  refine Qj ?_
  refine (?_:AC _ _ _ _ _)
  iterate 2 refine w_ ?_
  refine alS 22 fun hl5=> ?_
  refine lc (QZ (Qa rfl) rfl Zc) ?_
  iterate 4 refine w_ ?_
  refine Qb<|fqB hO ?_
  exact Qfj hB (by omega)
 ·have hb4':=ae hb4
  iterate 7 refine w_ ?_
  obtain ⟨c6,hc7⟩:∃z,s[((k:Int)).toNat]? =some z:=⟨_,aY _ _ (by omega)⟩
  refine w_ ?_
  refine lc (QD (Qa rfl) (QG 48 rfl) rfl) ?_
  refine w_ ?_
  cases hb8:(!decide (c6=48))
  ·have hb8':(c6=48):=QA hb8
   iterate 7 refine w_ ?_
   refine AC.skip ?_
   refine (?_:AC _ _ _ _ _)
   iterate 4 refine w_ ?_
   refine Qd ?_
   refine lK_ ((Kh hB (by assumption) (by first | exact .inl (by assumption) | exact .inr (by assumption)))) ?_
   exact Wk.of [] rfl ⟨rfl,rfl,rfl,trivial⟩ trivial rfl rfl
  ·have hb8':¬(c6=48):=QS hb8
   iterate 3 refine w_ ?_
   refine lgy rfl rfl (QD (Qa rfl) (QG 49 rfl) rfl) ?_
   iterate 2 refine w_ ?_
   cases hb9:(!decide (c6=49))
   ·have hb9':(c6=49):=QA hb9
    refine w_ ?_
    refine AC.skip ?_
    refine (?_:AC _ _ _ _ _)
    iterate 4 refine w_ ?_
    refine Qd ?_
    refine lK_ ((Kh hB (by assumption) (by first | exact .inl (by assumption) | exact .inr (by assumption)))) ?_
    exact Wk.of [] rfl ⟨rfl,rfl,rfl,trivial⟩ trivial rfl rfl
   ·have hb9':¬(c6=49):=QS hb9
    iterate 4 refine w_ ?_
    refine Qb<|fqB hO ?_
    exact Qi0 (k:=k) (by assumption) (by assumption) (by assumption)
theorem JB (a:Int×Int×Bool×Int)(x:ByteArray)(y:ByteArray)(hxy:x.size≤y.size):FC Tryz.prog 156 [(true,[dI a.1,dI a.2.1,dB a.2.2.1,dI a.2.2.2]),(false,[dS x]),(false,[dS y])] [] 0 (QH (lB (decide (Fit a x y)))):=by
 refine Ql Tryz.func156 rfl rfl Tryz.ntmps156 fun O_ hO w0_ N0_ X_ h0_ f0_=> ?_
 refine acG 0 0 fun hi1=> ?_
 refine acG 0 1 fun hi2=> ?_
 refine acG 0 3 fun hi3=> ?_
 refine w_ ?_
 refine xbx 0 ?_
 iterate 5 refine w_ ?_
 refine alS 8 fun hl4=> ?_
 refine lc (QZ (Qa rfl) rfl Zc) ?_
 iterate 3 refine w_ ?_
 refine lpK x.size (fun k=>∀j,j < k→YM a x y j) (fun k=>⟨[(1,lf (dS x)),(2,lf (dS y)),(3,lP 0 0),(9,lI (x.size:Int)),(10,lI (k:Int))],[bx 0 136 [dI a.1,dI a.2.1,dB a.2.2.1,dI a.2.2.2]]⟩) ((fun j hj=>absurd hj (b8 j))) ?_ fun k hk5 hF=> ?_
 · exact Wk.of [] rfl ⟨rfl,rfl,rfl,rfl,rfl,trivial⟩ ⟨rfl,trivial⟩ rfl rfl
 iterate 4 refine w_ ?_
 cases hb6:(decide ((k:Int) < (x.size:Int)))
 ·have hb6':=ab hb6
  refine w_ ?_
  refine Qj ?_
  refine (?_:AC _ _ _ _ _)
  iterate 3 refine w_ ?_
  refine Qb<|fqB hO ?_
  exact QnY hF (by omega)
 ·have hb6':=ae hb6
  iterate 16 refine w_ ?_
  cases hb7:(!decide ((k:Int)=a.2.1))
  ·have hb7':((k:Int)=a.2.1):=QA hb7
   refine w_ ?_
   obtain ⟨c8,hc9⟩:∃z,x[((k:Int)).toNat]? =some z:=⟨_,aY _ _ (by omega)⟩
   cases hb10:((decide (c8=49))==a.2.2.1)
   ·obtain ⟨c11,hc12⟩:∃z,y[((k:Int)).toNat]? =some z:=⟨_,aY _ _ (by omega)⟩
    apply dW (i3 26 _ _ _ (io 29 (lB (decide (c8=49))) :: i2 30 _ _ (io 32 (lB false) :: i4 33 _ _ _ _ (io 37 (lB (decide (c11=49))) :: i2 38 _ _ [io 40 (lB (!((decide (c11=49))==a.2.2.1))),io 41 _,io 25 _])))) [0,1,0,0,15,15,0,0,0,256,0,0,3840,3840,0,0,0]
    iterate 3 refine z_ ?_
    refine zz (fun _ h_=>ac (Zm (h_.v rfl) (QG 49 rfl) rfl) rfl) ?_
    iterate 2 refine z_ ?_
    refine zz (fun _ h_=>ac (Zh (hb10) (Yf (h_.v rfl) (h_.v rfl) rfl Yc)) rfl) ?_
    iterate 4 refine z_ ?_
    refine zz (fun _ h_=>day rfl (h_.k rfl) (Zm (h_.v rfl) (QG 49 rfl) rfl) rfl) ?_
    iterate 2 refine z_ ?_
    refine zz (fun _ h_=>day rfl (h_.k rfl) (ZA (h_.v rfl) (h_.v rfl) rfl Yc) rfl) ?_
    iterate 2 refine z_ ?_
    exact zN
    cases hb13:((decide (c11=49))==a.2.2.1)
    ·iterate 4 refine w_ ?_
     refine Qb<|fqB hO ?_
     exact Qgw (k:=k) (by omega) (fun h=>by first | exact absurd ((UB (by assumption) (by assumption) (by assumption)).1 h) (by assumption) | exact Hl (by assumption) (by assumption) (by assumption) h | exact Ha (by assumption) (by assumption) (by assumption) h)
    ·refine w_ ?_
     refine AC.skip ?_
     refine (?_:AC _ _ _ _ _)
     iterate 3 refine w_ ?_
     refine Qd ?_
     refine lK_ ((Qfx hF (by first | exact (UB (by assumption) (by assumption) (by assumption)).2 (by assumption) | exact Qdr (by assumption) (by assumption) (by assumption) (by assumption) (by assumption)))) ?_
     exact Wk.of [] rfl ⟨rfl,rfl,rfl,rfl,rfl,trivial⟩ ⟨rfl,trivial⟩ rfl rfl
   ·apply dW (i3 26 _ _ _ (io 29 (lB (decide (c8=49))) :: i2 30 _ _ (io 32 (lB true) :: i9 33 _ _ _ _ _ _ _ _ _ [io 25 _]))) [0,1,0,0,15,15,0,0,0,256,0,0,3840,3840,0,0,0]
    iterate 3 refine z_ ?_
    refine zz (fun _ h_=>ac (Zm (h_.v rfl) (QG 49 rfl) rfl) rfl) ?_
    iterate 2 refine z_ ?_
    refine zz (fun _ h_=>ac (Zh (hb10) (Yf (h_.v rfl) (h_.v rfl) rfl Yc)) rfl) ?_
    iterate 10 refine z_ ?_
    exact zN
    iterate 4 refine w_ ?_
    refine Qb<|fqB hO ?_
    exact Qgw (k:=k) (by omega) (fun h=>by first | exact absurd ((UB (by assumption) (by assumption) (by assumption)).1 h) (by assumption) | exact Hl (by assumption) (by assumption) (by assumption) h | exact Ha (by assumption) (by assumption) (by assumption) h)
  ·have hb7':¬((k:Int)=a.2.1):=QS hb7
   refine w_ ?_
   obtain ⟨c14,hc15⟩:∃z,x[((k:Int)).toNat]? =some z:=⟨_,aY _ _ (by omega)⟩
   obtain ⟨c16,hc17⟩:∃z,y[((k:Int)).toNat]? =some z:=⟨_,aY _ _ (by omega)⟩
   apply dW (i7 18 _ _ _ _ _ _ _ []) [0,1,0,7,15,7,0]
   iterate 7 refine z_ ?_
   exact zN
   cases hb18:(!decide (c14=c16))
   ·have hb18':(c14=c16):=QA hb18
    refine w_ ?_
    refine AC.skip ?_
    refine (?_:AC _ _ _ _ _)
    iterate 3 refine w_ ?_
    refine Qd ?_
    refine lK_ ((Qfx hF (by first | exact (UB (by assumption) (by assumption) (by assumption)).2 (by assumption) | exact Qdr (by assumption) (by assumption) (by assumption) (by assumption) (by assumption)))) ?_
    exact Wk.of [] rfl ⟨rfl,rfl,rfl,rfl,rfl,trivial⟩ ⟨rfl,trivial⟩ rfl rfl
   ·have hb18':¬(c14=c16):=QS hb18
    iterate 4 refine w_ ?_
    refine Qb<|fqB hO ?_
    exact Qgw (k:=k) (by omega) (fun h=>by first | exact absurd ((UB (by assumption) (by assumption) (by assumption)).1 h) (by assumption) | exact Hl (by assumption) (by assumption) (by assumption) h | exact Ha (by assumption) (by assumption) (by assumption) h)
theorem XK (code:ByteArray)(sig:Int)(b:ByteArray)(hs:0≤sig∧sig < (code.size:Int))(hb:code.size≤1000000∧b.size≤1000000):FC Tryz.prog 248 [(false,[dS code]),(false,[dI sig]),(false,[dS b])] [] 0 (QH (lf (dS (VB code sig b)))):=by
 refine Ql Tryz.func248 rfl rfl Tryz.ntmps248 fun O_ hO w0_ N0_ X_ h0_ f0_=> ?_
 refine acI 1 fun hi1=> ?_
 iterate 3 refine w_ ?_
 apply dW (i2 7 _ _ (io 9 (lf (dS (code.extract 0 (sig).toNat))) :: io 10 _ :: io 11 (lf (dS ((code.extract 0 (sig).toNat)++b))) :: i3 12 _ _ _ [io 15 (lf (dS (code.extract (sig+1).toNat code.size))),io 16 (lf (dS (((code.extract 0 (sig).toNat)++b)++(code.extract (sig+1).toNat code.size)))),io 6 _])) [0,1,0,7,0,31,63,63,31,0,0]
 iterate 2 refine z_ ?_
 refine zz (fun _ h_=>ac (show Does _ _ _ _ (St.put _ 9 (lf (dS (code.extract 0 (sig).toNat)))) from QW (l:=none) (h:=(some sig)) (h_.v rfl) (by exact trivial) (by exact (h_.v rfl)) Zc rfl (by first | omega | (simp only[ak,aj]; omega)) (by first | omega | (simp only[ak,aj]; omega)) (by first | omega | (simp only[ak,aj]; omega))) rfl) ?_
 refine z_ ?_
 refine zz (fun _ h_=>ac (Q3 (h_.v rfl) (h_.v rfl) rfl (by first | omega | (simp only[aN,aS]; omega))) rfl) ?_
 iterate 3 refine z_ ?_
 refine zz (fun _ h_=>ac (show Does _ _ _ _ (St.put _ 15 (lf (dS (code.extract (sig+1).toNat code.size)))) from QW (l:=(some (sig+1))) (h:=none) (h_.v rfl) (by exact (h_.v rfl)) (by exact trivial) Zc rfl (by first | omega | (simp only[ak,aj]; omega)) (by first | omega | (simp only[ak,aj]; omega)) (by first | omega | (simp only[ak,aj]; omega))) rfl)<|zz (fun _ h_=>ac (Q3 (h_.v rfl) (h_.v rfl) rfl (by first | omega | (simp only[aN,aS]; omega))) rfl) ?_
 refine z_ ?_
 exact zN
 refine Qb<|fqS hO ?_
 rfl
end Go.Proofs.YtfkmmpfdncopdaaGreat
namespace Go.Proofs.YtfkmmpfdncopdaaGreat
open Go.RowKit
set_option maxRecDepth 100000
set_option maxHeartbeats 4000000
def Z8 (c:DSg)(i:Int):ByteArray:=(c.2.1[i.toNat]?).getD ByteArray.empty
def YV (c:DSg)(a:DAr):Prop:=(0≤a.1∧a.1≤(c.2.1.length:Int) - 1)∧(0≤a.2.2.2∧a.2.2.2≤(c.2.1.length:Int) - 1)∧UH (c.1.length:Int) (a.2.1,a.2.2.1)∧Fit a (Z8 c a.1) (Z8 c a.2.2.2)
instance (c:DSg) (a:DAr):Decidable (YV c a):=inferInstanceAs (Decidable (_∧_))
section
variable {c:DSg}{a:DAr}{x y b code:ByteArray}{n sig p:Int}{j k m:Nat}
theorem Xo (h:c.2.1[p.toNat]? =some x):Z8 c p=x:=by unfold Z8; rw[h]; rfl
theorem VE (m:ByteArray)(p:Int):bAt m p=(m.toList[p.toNat]?).getD 0:=by
  unfold bAt
  rw[bc]
  by_cases h:p.toNat < m.size
  · rw [aY m p.toNat h, aa (by simpa using h)]
    rfl
  · rw[getElem?_neg m p.toNat h,bp (by simpa using h)]
theorem QeW (hs:x.size=y.size)(h:∀j:Nat,j < x.size→bAt x (j:Int)=bAt y (j:Int)):x=y:=by
  have e:x.toList=y.toList:=bA fun j=>by
    by_cases hj:j < x.size
    · have h1 := h j hj
      rw[VE,VE] at h1
      have h2:j < x.toList.length:=by rw[XA]; exact hj
      have h3:j < y.toList.length:=by rw[XA,← hs]; exact hj
      have e1:((j:Int)).toNat=j:=rfl
      rw[e1,aa h2,aa h3] at h1
      rw[aa h2,aa h3]
      exact congrArg some h1
    · rw[bp (by rw[XA]; omega),bp (by rw[XA]; omega)]
  rw[bc,bc] at e
  exact ByteArray.ext (Array.toList_inj.1 e)
theorem Qdc (code:ByteArray)(sig:Int)(b:ByteArray):(VB code sig b).toList=code.toList.take sig.toNat++(b.toList++code.toList.drop (sig+1).toNat):=by
  have h:code.data.size=code.size:=rfl
  simp only[VB,bc,ByteArray.data_append,ByteArray.data_extract,Array.toList_append,Array.toList_extract,aZ]
  simp[h,List.extract_eq_take_drop]
  rw[aU (by simp[h])]
theorem Hx (h0:0≤sig)(h1:sig < code.size)(hb:b.size=1):(VB code sig b).size=code.size:=by
  rw[← XA,Qdc]
  simp only[ai,aq,bd,XA,hb]
  omega
theorem Qja (h0:0≤sig)(h1:sig < code.size)(hb:b.size=1)(hj:j < code.size):bAt (VB code sig b) (j:Int)=if (j:Int)=sig then bAt b 0 else bAt code (j:Int):=by
  rw[VE,Qdc,VE,VE]
  have hl:=XA code
  have hbl:=XA b
  have e1:((j:Int)).toNat=j:=rfl
  rw[e1]
  by_cases e:(j:Int)=sig
  · rw [if_pos e, bj (by rw [aq]; omega), bf (by rw [aq]; omega)]
    rw[show j - (code.toList.take sig.toNat).length=((0:Int)).toNat by rw[aq]; show _=0; omega]
  · rw [if_neg e]
    by_cases h:(j:Int) < sig
    · rw[bf (by rw[aq]; omega),be,if_pos (by omega)]
    · rw [bj (by rw [aq]; omega), bj (by rw [aq]; omega), cC]
      congr 2
      rw[aq]
      omega
theorem QaS (h:ZQ x n)(hj:j < x.size):bAt x (j:Int)=48∨bAt x (j:Int)=49:=by
  have h2:j < x.toList.length:=by rw[XA]; exact hj
  rw[VE]
  have e1:((j:Int)).toNat=j:=rfl
  rw[e1,aa h2]
  exact h.1 _ (cI h2)
theorem Qfa (b:Bool):bAt (YH b) 0=if b=true then 49 else 48:=by cases b <;> rfl
theorem XF (b:Bool):(YH b).size=1:=rfl
theorem QaE {c:UInt8}{b:Bool}(h:c=48∨c=49):decide (c=49)=b↔c=if b=true then 49 else 48:=by
  rcases h with rfl | rfl <;> cases b <;> decide
theorem QnW (hx:ZQ x n)(hy:ZQ y n)(hs:a.2.1 < 0):Fit a x y↔x=y:=by
  have hsz:x.size=y.size:=by have:=hx.2; have:=hy.2; omega
  constructor
  · intro h
    refine QeW hsz fun j hj=> ?_
    have:=h j hj
    unfold YM at this
    rwa [if_neg (by omega)] at this
  · rintro rfl j hj
    unfold YM
    rw[if_neg (by omega)]
theorem Qjr (hx:ZQ x n)(hy:ZQ y n)(hs:¬a.2.1 < 0)(hn:a.2.1 < n):Fit a x y↔x=VB y a.2.1 (YH (!a.2.2.1))∧y=VB x a.2.1 (YH a.2.2.1):=by
  have hxs:=hx.2
  have hys:=hy.2
  have z1:=Hx (code:=y) (sig:=a.2.1) (b:=YH (!a.2.2.1)) (by omega) (by omega) (XF _)
  have z2:=Hx (code:=x) (sig:=a.2.1) (b:=YH a.2.2.1) (by omega) (by omega) (XF _)
  have g1:=fun (j:Nat) hj=>Qja (j:=j) (code:=y) (sig:=a.2.1) (b:=YH (!a.2.2.1)) (by omega) (by omega) (XF _) hj
  have g2:=fun (j:Nat) hj=>Qja (j:=j) (code:=x) (sig:=a.2.1) (b:=YH a.2.2.1) (by omega) (by omega) (XF _) hj
  constructor
  · intro h
    constructor
    · refine QeW (by omega) fun j hj => ?_
      rw[g1 j (by omega),Qfa]
      have h1:=h j hj
      unfold YM at h1
      split
      · rename_i e
        rw[if_pos e] at h1
        exact (QaE (QaS hx hj)).1 h1.1
      · rename_i e
        rwa [if_neg e] at h1
    · refine QeW (by omega) fun j hj => ?_
      rw[g2 j (by omega),Qfa]
      have h1:=h j (by omega)
      unfold YM at h1
      split
      · rename_i e
        rw[if_pos e] at h1
        exact (QaE (QaS hy hj)).1 h1.2
      · rename_i e
        rw[if_neg e] at h1
        exact h1.symm
  · rintro ⟨e1, e2⟩ j hj
    have h1:=g1 j (by omega)
    have h2:=g2 j hj
    rw[← e1,Qfa] at h1
    rw[← e2,Qfa] at h2
    unfold YM
    split
    · rename_i e
      rw[if_pos e] at h1 h2
      exact ⟨(QaE (QaS hx hj)).2 h1,(QaE (QaS hy (by omega))).2 h2⟩
    · rename_i e
      rwa [if_neg e] at h1
theorem Qo7 (h:¬(0≤a.1∧a.1≤(c.2.1.length:Int) - 1)):false=decide (YV c a):=(ay fun g=>h g.1).symm
theorem Qos (h:¬(0≤a.2.2.2∧a.2.2.2≤(c.2.1.length:Int) - 1)):false=decide (YV c a):=(ay fun g=>h g.2.1).symm
theorem Qot (h:¬UH (c.1.length:Int) (a.2.1,a.2.2.1)):false=decide (YV c a):=(ay fun g=>h g.2.2.1).symm
theorem QgN (h3:UH (c.1.length:Int) (a.2.1,a.2.2.1))(hs:¬a.2.1 < 0):a.2.1 < (c.1.length:Int):=by
  rcases h3 with h | h
  · have h:0≤a.2.1∧a.2.1≤(c.1.length:Int) - 1:=h; omega
  · have h:a.2.1= -1:=h.1; omega
section
variable (h1:0≤a.1∧a.1≤(c.2.1.length:Int) - 1)(h2:0≤a.2.2.2∧a.2.2.2≤(c.2.1.length:Int) - 1)(h3:UH (c.1.length:Int) (a.2.1,a.2.2.1))(hx:c.2.1[a.1.toNat]? =some x)(hy:c.2.1[a.2.2.2.toNat]? =some y)
include h1 h2 h3 hx hy
theorem Qed:YV c a↔Fit a x y:=by
  unfold YV
  rw[Xo hx,Xo hy]
  exact ⟨fun g=>g.2.2.2,fun g=>⟨h1,h2,h3,g⟩⟩
theorem QoQ (hb:∀x∈c.2.1,ZQ x (c.1.length:Int))(hs:a.2.1 < 0):decide (x=y)=decide (YV c a):=bL.2 (by rw[Qed h1 h2 h3 hx hy,QnW (hb x (ap hx)) (hb y (ap hy)) hs])
theorem QmI (hb:∀x∈c.2.1,ZQ x (c.1.length:Int))(hs:¬a.2.1 < 0)(h:¬x=VB y a.2.1 (YH (!a.2.2.1))):false=decide (YV c a):=(ay fun g=>by
  rw[Qed h1 h2 h3 hx hy,Qjr (hb x (ap hx)) (hb y (ap hy)) hs (QgN h3 hs)] at g
  exact h g.1).symm
theorem Qmn (hb:∀x∈c.2.1,ZQ x (c.1.length:Int))(hs:¬a.2.1 < 0)(h:x=VB y a.2.1 (YH (!a.2.2.1))):decide (y=VB x a.2.1 (YH a.2.2.1))=decide (YV c a):=bL.2 (by
  rw[Qed h1 h2 h3 hx hy,Qjr (hb x (ap hx)) (hb y (ap hy)) hs (QgN h3 hs)]
  exact ⟨fun g=>⟨h,g⟩,fun g=>g.2⟩)
end
end
theorem QcN (c:(List (ByteArray×Int))×List ByteArray×(List (Int×Int×Bool×Int)))(a:Int×Int×Bool×Int)(hcd:∀x∈c.2.1,ZQ x (c.1.length:Int))(hc1:c.1.length≤1000):FC Tryz.prog 164 [(true,[.dat (.sl 203 (.pr .str .int)) c.1, .dat (.sl 9 .str) c.2.1, .dat (.sl 136 (.pr .int (.pr .int (.pr .bool .int)))) c.2.2]),(true,[dI a.1,dI a.2.1,dB a.2.2.1,dI a.2.2.2])] [] 0 (QH (lB (decide (YV c a)))):=by
 refine Ql Tryz.func164 rfl rfl Tryz.ntmps164 fun O_ hO w0_ N0_ X_ h0_ f0_=> ?_
 refine acG 1 0 fun hi1=> ?_
 refine acG 1 1 fun hi2=> ?_
 refine acG 1 3 fun hi3=> ?_
 refine w_ ?_
 refine xbx 0 ?_
 refine xbx 1 ?_
 iterate 8 refine w_ ?_
 refine alL 10 fun hl4=> ?_
 iterate 2 refine w_ ?_
 refine lc (dK (YT a.1 0 ((c.2.1.length:Int) - 1)) XG) ?_
 iterate 2 refine w_ ?_
 cases hb5:(decide (0≤a.1∧a.1≤((c.2.1.length:Int) - 1)))
 ·have hb5':=ab hb5
  iterate 26 refine w_ ?_
  refine Qb<|fqB hO ?_
  exact Qo7 (by assumption)
 ·have hb5':=ae hb5
  iterate 4 refine w_ ?_
  refine alL 19 fun hl6=> ?_
  iterate 2 refine w_ ?_
  refine lgy rfl rfl (dK (YT a.2.2.2 0 ((c.2.1.length:Int) - 1)) XG) ?_
  iterate 3 refine w_ ?_
  cases hb7:(decide (0≤a.2.2.2∧a.2.2.2≤((c.2.1.length:Int) - 1)))
  ·have hb7':=ab hb7
   iterate 16 refine w_ ?_
   refine Qb<|fqB hO ?_
   exact Qos (by assumption)
  ·have hb7':=ae hb7
   iterate 4 refine w_ ?_
   refine lgy rfl rfl (Qp UX ⟨_,_,rfl,(Qm rfl),⟨_,_,rfl,(Qm rfl),rfl⟩⟩ (aB.1 rfl) rfl rfl) ?_
   iterate 2 refine w_ ?_
   refine alL 32 fun hl8=> ?_
   refine w_ ?_
   refine lgy rfl rfl (dK (Qat (a.2.1,a.2.2.1) (c.1.length:Int) (by omega)) Qhi) ?_
   iterate 3 refine w_ ?_
   cases hb9:(decide (UH (c.1.length:Int) (a.2.1,a.2.2.1)))
   ·have hb9':=ab hb9
    iterate 4 refine w_ ?_
    refine Qb<|fqB hO ?_
    exact Qot (by assumption)
   ·have hb9':=ae hb9
    iterate 2 refine w_ ?_
    obtain ⟨cx,hx11⟩:∃z,c.2.1[(a.1).toNat]? =some z:=⟨_,aa (by omega)⟩
    have hzcx:=(hcd _ (ap hx11)).2
    obtain ⟨cy,hx13⟩:∃z,c.2.1[(a.2.2.2).toNat]? =some z:=⟨_,aa (by omega)⟩
    have hzcy:=(hcd _ (ap hx13)).2
    apply dW (i9 37 _ _ _ _ _ _ _ _ _ (i3 46 _ _ _ (i2 5 _ _ []))) [0,0,3,3,0,0,63,63,255,255,63,63,4032,0]
    iterate 14 refine z_ ?_
    exact zN
    iterate 6 refine w_ ?_
    refine cd_ (fun hb14 hb14'=> ?_) fun hb14 hb14'=> ?_
    ·refine w_ ?_
     have hsl:=QgN (c:=c) (a:=a) (by assumption) (by assumption)
     cases hb15:(decide (cx=(VB cy a.2.1 (YH (!a.2.2.1)))))
     ·have hb15':=ab hb15
      apply dW (i7 55 _ _ _ _ _ _ _ (io 62 (lf (dS (YH (!a.2.2.1)))) :: io 63 (lf (dS (VB cy a.2.1 (YH (!a.2.2.1))))) :: io 64 (lB false) :: i9 65 _ _ _ _ _ _ _ _ _ (i2 74 _ _ [io 4 _]))) [0,1,3,3,15,15,15,15,1,0,0,0,2048,6144,6144,30720,30720,30720,2048,0,0,0]
      iterate 7 refine z_ ?_
      refine zz (fun _ h_=>ac (dK (Y7 (!a.2.2.1)) WA) rfl) ?_
      refine zz (fun _ h_=>ac (dK (XK cy a.2.1 (YH (!a.2.2.1)) (by omega) ⟨by omega,by rw[XF]; decide⟩) Ua) rfl) ?_
      refine zz (fun _ h_=>ac (Zh (hb15) (UW (h_.v rfl) (h_.v rfl) rfl)) rfl) ?_
      iterate 12 refine z_ ?_
      exact zN
      refine Qb<|fqB hO ?_
      exact QmI (by assumption) (by assumption) (by assumption) (x:=cx) (y:=cy) (by assumption) (by assumption) hcd (by assumption) (by assumption)
     ·have hb15':=ae hb15
      apply dW (i7 55 _ _ _ _ _ _ _ (io 62 (lf (dS (YH (!a.2.2.1)))) :: io 63 (lf (dS (VB cy a.2.1 (YH (!a.2.2.1))))) :: io 64 (lB true) :: i7 65 _ _ _ _ _ _ _ (io 72 (lf (dS (YH a.2.2.1))) :: io 73 (lf (dS (VB cx a.2.1 (YH a.2.2.1)))) :: i2 74 _ _ [io 4 _]))) [0,1,3,3,15,15,15,15,1,0,0,0,2048,6144,6144,30720,30720,30720,2048,0,0,0]
      iterate 7 refine z_ ?_
      refine zz (fun _ h_=>ac (dK (Y7 (!a.2.2.1)) WA) rfl) ?_
      refine zz (fun _ h_=>ac (dK (XK cy a.2.1 (YH (!a.2.2.1)) (by omega) ⟨by omega,by rw[XF]; decide⟩) Ua) rfl) ?_
      refine zz (fun _ h_=>ac (Zh (hb15) (UW (h_.v rfl) (h_.v rfl) rfl)) rfl) ?_
      iterate 7 refine z_ ?_
      refine zz (fun _ h_=>day rfl (h_.k rfl) (dK (Y7 a.2.2.1) WA) rfl) ?_
      refine zz (fun _ h_=>day rfl (h_.k rfl) (dK (XK cx a.2.1 (YH a.2.2.1) (by omega) ⟨by omega,by rw[XF]; decide⟩) Ua) rfl) ?_
      iterate 3 refine z_ ?_
      exact zN
      refine Qb<|fqB hO ?_
      exact Qmn (by assumption) (by assumption) (by assumption) (x:=cx) (y:=cy) (by assumption) (by assumption) hcd (by assumption) (by assumption)
    ·iterate 6 refine w_ ?_
     refine Qb<|fqB hO ?_
     exact QoQ (by assumption) (by assumption) (by assumption) (x:=cx) (y:=cy) (by assumption) (by assumption) hcd (by assumption)
end Go.Proofs.YtfkmmpfdncopdaaGreat
namespace Go.Proofs.YtfkmmpfdncopdaaGreat
open Go.RowKit
set_option maxRecDepth 100000
set_option maxHeartbeats 4000000
inductive Rch (es:List (Int×Int)):Int→Prop
  | zero:Rch es 0
  | step {u v:Int}:Rch es u→(u,v)∈es→Rch es v
def ZI (rs:List DAr):List (Int×Int):=rs.map fun a=>(a.1,a.2.2.2)
def InE (n:Nat)(e:Int×Int):Prop:=(0≤e.1∧e.1 < n)∧0≤e.2∧e.2 < n
def Qaj (n:Nat)(es:List (Int×Int)):Prop:=∀k:Nat,k < n→Rch es k
def XO (e:Int×Int)(m:List Bool):List Bool:=if m[e.1.toNat]? =some true then m.set e.2.toNat true else m
def YX:List (Int×Int)→List Bool→List Bool
  | [],m=>m
  | e :: es,m=>YX es (XO e m)
def YU (es:List (Int×Int)):Nat→List Bool→List Bool
  | 0,m=>m
  | f+1,m=>YU es f (YX es m)
section
variable {es:List (Int×Int)}{e:Int×Int}{m:List Bool}{n f i k:Nat}{rs:List DAr}{a:DAr}{b:Bool}
theorem Qdl:(XO e m).length=m.length:=by unfold XO; split <;> simp
theorem Qla:(YX es m).length=m.length:=by
  induction es generalizing m with
  | nil=>rfl
  | cons e es ih=>rw[YX,ih,Qdl]
theorem QbL (h:m[i]? =some true):(XO e m)[i]? =some true:=by
  unfold XO
  split
  · by_cases h2 : e.2.toNat = i
    · rw[h2,aW (ah.1 h).1]
    · rw[b6 h2]; exact h
  · exact h
theorem Qbk (h:m[i]? =some true):(YX es m)[i]? =some true:=by
  induction es generalizing m with
  | nil=>exact h
  | cons e es ih=>rw[YX]; exact ih (QbL h)
theorem Qkx (he:e∈es)(h:m[e.1.toNat]? =some true)(hl:e.2.toNat < m.length):(YX es m)[e.2.toNat]? =some true:=by
  induction es generalizing m with
  | nil=>cases he
  | cons d es ih=>
    rw[YX]
    rcases aE.1 he with rfl | he
    · refine Qbk ?_
      unfold XO
      rw[if_pos h,aW hl]
    · exact ih he (QbL h) (by rw[Qdl]; exact hl)
def Qaq (m:List Bool):Nat:=(m.filter fun b=> !b).length
theorem Qgg (h:m[i]? =some false):Qaq (m.set i true)+1=Qaq m:=by
  induction m generalizing i with
  | nil=>simp at h
  | cons x l ih=>
    cases i with
    | zero=>
      simp only[bO,bk] at h
      subst h
      simp[Qaq]
    | succ i=>
      have:=ih (i:=i) (by simpa using h)
      simp only[Qaq,cK,dd] at this ⊢
      split <;> simp_all
theorem Qk1 {α:Type _}{vs:List α}{i:Nat}{c:α}(h:vs[i]? =some c):vs.set i c=vs:=by
  apply bA
  intro j
  by_cases e:i=j
  · subst e; rw[aW (ah.1 h).1,h]
  · rw[b6 e]
theorem QkA:XO e m=m∨Qaq (XO e m) < Qaq m:=by
  unfold XO
  split
  · cases h : m[e.2.toNat]? with
    | none=>left; rw[List.set_eq_of_length_le]; rwa [List.getElem?_eq_none_iff] at h
    | some b=>
      cases b with
      | true=>left; exact Qk1 h
      | false=>right; have:=Qgg h; omega
  · exact .inl rfl
theorem QkK:YX es m=m∨Qaq (YX es m) < Qaq m:=by
  induction es generalizing m with
  | nil=>exact .inl rfl
  | cons e es ih=>
    rw[YX]
    rcases QkA (e:=e) (m:=m) with h | h
    · rw[h]; exact ih
    · rcases ih (m := XO e m) with h2 | h2
      · rw[h2]; exact .inr h
      · exact .inr (Nat.lt_trans h2 h)
theorem QdM (h:YX es m=m):∀f,YU es f m=m
  | 0=>rfl
  | f+1=>by rw[YU,h]; exact QdM h f
theorem Qeo (h:Qaq m < f):YX es (YU es f m)=YU es f m:=by
  induction f generalizing m with
  | zero=>omega
  | succ f ih=>
    rw[YU]
    rcases QkK (es:=es) (m:=m) with h2 | h2
    · rw[h2,QdM h2,h2]
    · exact ih (by omega)
theorem Qhl (h:m[i]? =some true):(YU es f m)[i]? =some true:=by
  induction f generalizing m with
  | zero=>exact h
  | succ f ih=>rw[YU]; exact ih (Qbk h)
theorem HK:(YU es f m).length=m.length:=by
  induction f generalizing m with
  | zero=>rfl
  | succ f ih=>rw[YU,ih,Qla]
def m0 (n:Nat):List Bool:=(List.replicate n false).set 0 true
theorem Qq7 (h:1≤n):Qaq (m0 n) < n:=by
  have h1:(List.replicate n false)[0]? =some false:=by rw[ck,if_pos (by omega)]
  have:=Qgg h1
  have h2:Qaq (List.replicate n false)=n:=by simp[Qaq]
  unfold m0
  omega
theorem QfY (he:(e.1,e.2)∈es)(hr:InE n e)(h:∀k:Nat,m[k]? =some true→Rch es k):∀k:Nat,(XO e m)[k]? =some true→Rch es k:=fun k hk=>by
  obtain ⟨⟨r1,r2⟩,r3,r4⟩:=hr
  unfold XO at hk
  split at hk
  · rename_i h1
    by_cases e2:e.2.toNat=k
    · have h3 := h _ h1
      rw[show ((e.1.toNat:Nat):Int)=e.1 by omega] at h3
      rw[show (k:Int)=e.2 by omega]
      exact .step h3 he
    · rw[b6 e2] at hk; exact h k hk
  · exact h k hk
theorem Qfv {ds:List (Int×Int)}(hd:∀e∈ds,e∈es)(hr:∀e∈es,InE n e)(h:∀k:Nat,m[k]? =some true→Rch es k):∀k:Nat,(YX ds m)[k]? =some true→Rch es k:=by
  induction ds generalizing m with
  | nil=>exact h
  | cons e ds ih=>rw[YX]; exact ih (fun e he=>hd e (ax _ he)) (QfY (hd e (az ..)) (hr e (hd e (az ..))) h)
theorem Qff (hr:∀e∈es,InE n e)(h:∀k:Nat,m[k]? =some true→Rch es k):∀k:Nat,(YU es f m)[k]? =some true→Rch es k:=by
  induction f generalizing m with
  | zero=>exact h
  | succ f ih=>rw[YU]; exact ih (Qfv (fun _ h=>h) hr h)
theorem Qjx (h1:1≤n)(hr:∀e∈es,InE n e)(k:Nat)(hk:k < n):(YU es n (m0 n))[k]? =some true↔Rch es k:=by
  have hl:(YU es n (m0 n)).length=n:=by rw[HK]; simp[m0]
  constructor
  · refine Qff hr (fun k hk => ?_) k
    unfold m0 at hk
    by_cases e:0=k
    · subst e; exact .zero
    · rw [b6 e, ck] at hk
      split at hk <;> cases hk
  · intro h
    have main:∀u:Int,Rch es u→0≤u∧u < n∧(YU es n (m0 n))[u.toNat]? =some true:=fun u hu=>by
      induction hu with
      | zero=>exact ⟨by omega,by omega,Qhl (by unfold m0; exact aW (by simp; omega))⟩
      | @step u v _ he ih=>
        obtain ⟨_,r3,r4⟩:=hr _ he
        refine ⟨r3,r4, ?_⟩
        have r3:0≤v:=r3
        have r4:v < (n:Int):=r4
        have:=Qkx he ih.2.2 (by rw[hl]; show v.toNat < n; omega)
        rwa [Qeo (Qq7 h1)] at this
    exact (main k h).2.2
theorem Qct {n:Nat}(h:∀a∈rs,InR n a):∀e∈ZI rs,InE n e:=fun e he=>by
  obtain ⟨a,ha,rfl⟩:=ba.1 he
  exact h a ha
theorem QdI (hx:rs[i]? =some a):YX ((ZI rs).drop i) m=YX ((ZI rs).drop (i+1)) (XO (a.1,a.2.2.2) m):=by
  rw[ZW (x:=(a.1,a.2.2.2)) (by unfold ZI; rw[bq,hx]; rfl),YX]
theorem QcX (h:m[a.1.toNat]? =some b)(hb:b=true):XO (a.1,a.2.2.2) m=m.set a.2.2.2.toNat true:=by unfold XO; rw[if_pos (by rw[h,hb])]
theorem QfC (h:m[a.1.toNat]? =some b)(hb:b=false):XO (a.1,a.2.2.2) m=m:=by unfold XO; rw[if_neg (by rw[h,hb]; intro h; cases h)]
theorem Qmu (h:rs.length≤i):YX ((ZI rs).drop i) m=m:=by rw[bE (by simpa [ZI] using h),YX]
section
variable [Decidable (Qaj n es)]
theorem QpO (h1:1≤n)(hr:∀e∈es,InE n e)(hm:YU es n (m0 n)=m)(hx:m[k]? =some b)(hb:b=false):false=decide (Qaj n es):=(ay (p:=Qaj n es) fun h=>by
  have hl:(YU es n (m0 n)).length=n:=by rw[HK]; simp[m0]
  have hk:k < n:=by rw[← hl,hm]; exact (ah.1 hx).1
  have:=(Qjx h1 hr k hk).2 (h k hk)
  rw[hm,hx,hb] at this
  cases this).symm
theorem QnX (h1:1≤n)(hr:∀e∈es,InE n e)(hm:YU es n (m0 n)=m)(h:∀j,j < k→m[j]? =some true)(hk:m.length≤k):true=decide (Qaj n es):=(aJ (p:=Qaj n es) fun j hj=>by
  have hl:(YU es n (m0 n)).length=n:=by rw[HK]; simp[m0]
  rw[hm] at hl
  exact (Qjx h1 hr j hj).1 (by rw[hm]; exact h j (by omega))).symm
end
end
theorem Qmj {m:List Bool}{k:Nat}{b:Bool}(h:∀j,j < k→m[j]? =some true)(hx:m[k]? =some b)(hb:b=true):∀j,j < k+1→m[j]? =some true:=fun j hj=>by
  by_cases e:j=k
  · rw[e,hx,hb]
  · exact h j (by omega)
theorem Hf (as_:List (Int×Int×Bool×Int))(hl:as_.length≤1000000):FC Tryz.prog 159 [(false,[.dat (.sl 136 (.pr .int (.pr .int (.pr .bool .int)))) as_])] [] 0 (WC 258 (.pr .int .int) (ZI as_)):=by
 refine Ql Tryz.func159 rfl rfl Tryz.ntmps159 fun O_ hO w0_ N0_ X_ h0_ f0_=> ?_
 iterate 4 refine w_ ?_
 refine lc (dBs 0 (e:=(.pr .int .int)) Qa6) ?_
 iterate 5 refine w_ ?_
 refine alL 7 fun hl1=> ?_
 iterate 4 refine w_ ?_
 refine lp0 as_.length (fun k=>⟨[(2,lf (.val (.slice none 0 0))),(3,lR 1),(7,lf (.dat (.sl 136 (.pr .int (.pr .int (.pr .bool .int)))) as_)),(8,lI (as_.length:Int)),(9,lI (k:Int))],[ar 1 258 (.pr .int .int) (ZI (as_.take k))]⟩) ?_ fun k hk2=> ?_
 · exact Wk.of [(1,0)] rfl ⟨rfl,rfl,rfl,rfl,rfl,trivial⟩ ⟨(Qn (by first | rfl | simp)),trivial⟩ rfl rfl
 have hsl:(ZI (as_.take k)).length≤as_.length:=by simp only[ZI,aP,aq]; omega
 iterate 4 refine w_ ?_
 cases hb3:(decide ((k:Int) < (as_.length:Int)))
 ·have hb3':=ab hb3
  refine w_ ?_
  refine Qj ?_
  refine (?_:AC _ _ _ _ _)
  iterate 4 refine w_ ?_
  refine Qb<|fo_ hO ?_
  rw[ZK (by omega)]
 ·have hb3':=ae hb3
  iterate 5 refine w_ ?_
  obtain ⟨x4,hx5⟩:∃z,as_[k]? =some z:=⟨_,aa (by omega)⟩
  iterate 2 refine w_ ?_
  refine lc (xal 2 (.pr .int (.pr .int (.pr .bool .int))) V0) ?_
  iterate 6 refine w_ ?_
  refine alI 15 fun hi6=> ?_
  iterate 2 refine w_ ?_
  refine alI 17 fun hi7=> ?_
  refine lc (Qp QoL ⟨_,_,rfl,(Qm rfl),⟨_,_,rfl,(Qm rfl),rfl⟩⟩ (aB.1 rfl) rfl rfl) ?_
  refine lc (dBs 3 (e:=(.pr .int .int)) Qa6 (hab:=by exact ⟨_,_,_,_,rfl,⟨[dI x4.1],[dI x4.2.2.2],_,_,_,_,rfl,rfl,⟨rfl,rfl⟩,⟨rfl,rfl⟩,rfl⟩,⟨rfl,rfl⟩,rfl⟩)) ?_
  refine lc (dA 4 Qo1) ?_
  refine w_ ?_
  refine Qd ?_
  refine (?_:AC _ _ _ _ _)
  iterate 3 refine w_ ?_
  refine Qd ?_
  refine l0_ ?_
  exact Wk.of [(1,4)] rfl ⟨rfl,rfl,rfl,rfl,rfl,trivial⟩ ⟨(Qn (by rw[QQ hx5]; simp[ZI])),trivial⟩ rfl rfl
theorem Vo (s:List Int)(v:Int):FC Tryz.prog 245 [(false,[.dat (.sl 3 .int) s]),(false,[dI v])] [] 0 (QH (lI (Q4 (fun y=>decide (v=y)) s))):=by
 refine Ql Tryz.func245 rfl rfl Tryz.ntmps245 fun O_ hO w0_ N0_ X_ h0_ f0_=> ?_
 refine acI 1 fun hi1=> ?_
 iterate 6 refine w_ ?_
 refine alL 6 fun hl2=> ?_
 iterate 4 refine w_ ?_
 refine lpK s.length (fun k=>NoneTo (fun y=>decide (v=y)) s k) (fun k=>⟨[(0,lf (.dat (.sl 3 .int) s)),(1,lI v),(7,lI (s.length:Int)),(8,lI (k:Int))],[]⟩) (NoneTo.zero) ?_ fun k hk3 hno=> ?_
 · exact Wk.of [] rfl ⟨rfl,rfl,rfl,rfl,trivial⟩ trivial rfl rfl
 iterate 4 refine w_ ?_
 cases hb4:(decide ((k:Int) < (s.length:Int)))
 ·have hb4':=ab hb4
  refine w_ ?_
  refine Qj ?_
  refine (?_:AC _ _ _ _ _)
  iterate 3 refine w_ ?_
  refine Qb<|fqI hO ?_
  first | exact (hno.no (by omega)).symm
 ·have hb4':=ae hb4
  iterate 12 refine w_ ?_
  obtain ⟨x5,hx6⟩:∃z,s[k]? =some z:=⟨_,aa (by omega)⟩
  iterate 2 refine w_ ?_
  refine alI 15 fun hi7=> ?_
  iterate 2 refine w_ ?_
  cases hb8:(decide (v=x5))
  ·have hb8':=ab hb8
   refine w_ ?_
   refine AC.skip ?_
   refine (?_:AC _ _ _ _ _)
   iterate 3 refine w_ ?_
   refine Qd ?_
   refine lK_ (hno.step hx6 (by assumption)) ?_
   exact Wk.of [] rfl ⟨rfl,rfl,rfl,rfl,trivial⟩ trivial rfl rfl
  ·have hb8':=ae hb8
   iterate 5 refine w_ ?_
   refine Qb<|fqI hO ?_
   exact (hno.at hx6 (by assumption)).symm
theorem Wx (s:List Int)(v:Int):FC Tryz.prog 157 [(false,[.dat (.sl 3 .int) s]),(false,[dI v])] [] 0 (QH (lB (s.any (fun y=>decide (v=y))))):=by
 refine Ql Tryz.func157 rfl rfl Tryz.ntmps157 fun O_ hO w0_ N0_ X_ h0_ f0_=> ?_
 refine acI 1 fun hi1=> ?_
 iterate 6 refine w_ ?_
 refine lc (dK (Vo s v) Qg3) ?_
 iterate 3 refine w_ ?_
 refine Qb<|fqB hO ?_
 exact XL _ _
theorem QcP (c:(List (ByteArray×Int))×List ByteArray×(List (Int×Int×Bool×Int)))[Decidable (Qaj c.2.1.length (ZI c.2.2))](hn:1≤c.2.1.length∧c.2.1.length≤300)(ha:∀a∈c.2.2,InR c.2.1.length a):FC Tryz.prog 165 [(true,[.dat (.sl 203 (.pr .str .int)) c.1, .dat (.sl 9 .str) c.2.1, .dat (.sl 136 (.pr .int (.pr .int (.pr .bool .int)))) c.2.2])] [] 0 (QH (lB (decide (Qaj c.2.1.length (ZI c.2.2))))):=by
 have hes:=Qct ha
 have hrl:(List.replicate c.2.1.length (Ty.zero .bool)).length=c.2.1.length:=aA ..
 refine Ql Tryz.func165 rfl rfl Tryz.ntmps165 fun O_ hO w0_ N0_ X_ h0_ f0_=> ?_
 refine w_ ?_
 refine xbx 0 ?_
 iterate 5 refine w_ ?_
 refine alL 9 fun hl1=> ?_
 refine w_ ?_
 refine lc (U2 1 (e:= .bool) (n:=c.2.1.length) (Qa rfl) (Qa rfl) QnZ QrH rfl (by omega) (by omega) rfl (Fresh.of rfl) (nlr rfl)) ?_
 iterate 5 refine w_ ?_
 obtain ⟨x2,hx3⟩:∃z,(List.replicate c.2.1.length (Ty.zero .bool))[0]? =some z:=⟨_,aa (by omega)⟩
 refine lc (Qs (e:= .bool) (z':=true) (Qa rfl) rfl hx3 rfl (Evl.ev Zn) rfl QfH rfl rfl) ?_
 iterate 5 refine w_ ?_
 refine alL 15 fun hl4=> ?_
 iterate 4 refine w_ ?_
 refine Qy (fun m_ s_=>∃(p:Nat) (met:List Bool),p≤c.2.1.length∧m_=c.2.1.length - p∧(YU (ZI c.2.2) c.2.1.length (m0 c.2.1.length)=YU (ZI c.2.2) (c.2.1.length - p) met)∧(met.length=c.2.1.length)∧s_=⟨[(1,lP 0 0),(2,lB false),(3,lR 2),(16,lI (c.2.1.length:Int)),(17,lI (p:Int))],[bx 0 28 [.dat (.sl 203 (.pr .str .int)) c.1, .dat (.sl 9 .str) c.2.1, .dat (.sl 136 (.pr .int (.pr .int (.pr .bool .int)))) c.2.2],(2,some (.arr 4 .bool met))]⟩) ⟨0,(List.replicate c.2.1.length (Ty.zero .bool)).set 0 true,aR _,rfl,rfl,(by simp),rfl⟩ ?_ ?_
 · exact Wk.of [(2,1)] rfl ⟨rfl,rfl,rfl,rfl,rfl,trivial⟩ ⟨rfl,(Qn (by first | rfl | simp)),trivial⟩ rfl rfl
 rintro m_ s_ ⟨p,met,hk5,hm6,hA,hL,rfl⟩
 iterate 4 refine w_ ?_
 cases hb7:(decide ((p:Int) < (c.2.1.length:Int)))
 ·have hb7':=ab hb7
  refine w_ ?_
  refine Qj ?_
  refine (?_:AC _ _ _ _ _)
  iterate 7 refine w_ ?_
  refine lpK met.length (fun k=>∀j,j < k→met[j]? =some true) (fun k=>⟨[(37,lR 2),(38,lI (met.length:Int)),(39,lI (k:Int))],[(2,some (.arr 4 .bool met))]⟩) ((fun j hj=>absurd hj (b8 j))) ?_ fun k hk8 hM=> ?_
  · exact Wk.of [] rfl ⟨rfl,rfl,rfl,trivial⟩ ⟨rfl,trivial⟩ rfl rfl
  iterate 4 refine w_ ?_
  cases hb9:(decide ((k:Int) < (met.length:Int)))
  ·have hb9':=ab hb9
   refine w_ ?_
   refine Qj ?_
   refine (?_:AC _ _ _ _ _)
   iterate 3 refine w_ ?_
   refine Qb<|fqB hO ?_
   first | exact QnX hn.1 hes (by rw[hA,show c.2.1.length - p=0 by omega]; rfl) hM (by omega)
  ·have hb9':=ae hb9
   iterate 6 refine w_ ?_
   obtain ⟨x10,hx11⟩:∃z,met[k]? =some z:=⟨_,aa (by omega)⟩
   iterate 7 refine w_ ?_
   cases hb12:(x10)
   ·iterate 4 refine w_ ?_
    refine Qb<|fqB hO ?_
    exact QpO hn.1 hes (by rw[hA,show c.2.1.length - p=0 by omega]; rfl) hx11 (by assumption)
   ·refine w_ ?_
    refine AC.skip ?_
    refine (?_:AC _ _ _ _ _)
    iterate 3 refine w_ ?_
    refine Qd ?_
    refine lK_ ((Qmj hM hx11 (by assumption))) ?_
    exact Wk.of [] rfl ⟨rfl,rfl,rfl,trivial⟩ ⟨rfl,trivial⟩ rfl rfl
 ·have hb7':=ae hb7
  iterate 7 refine w_ ?_
  refine alL 20 fun hl13=> ?_
  iterate 4 refine w_ ?_
  refine Qy (fun m_ s_=>∃(i:Nat) (met2:List Bool),i≤c.2.2.length∧m_=c.2.2.length - i∧(YX (ZI c.2.2) met=YX ((ZI c.2.2).drop i) met2)∧(met2.length=c.2.1.length)∧s_=⟨[(1,lP 0 0),(2,lB false),(3,lR 3),(16,lI (c.2.1.length:Int)),(17,lI (p:Int)),(18,lB true),(19,lP 0 2),(20,lf (.dat (.sl 136 (.pr .int (.pr .int (.pr .bool .int)))) c.2.2)),(21,lI (c.2.2.length:Int)),(22,lI (i:Int))],[bx 0 28 [.dat (.sl 203 (.pr .str .int)) c.1, .dat (.sl 9 .str) c.2.1, .dat (.sl 136 (.pr .int (.pr .int (.pr .bool .int)))) c.2.2],(3,some (.arr 4 .bool met2))]⟩) ⟨0,met,aR _,rfl,rfl,hL,rfl⟩ ?_ ?_
  · exact Wk.of [(3,2)] rfl ⟨rfl,rfl,rfl,rfl,rfl,rfl,rfl,rfl,rfl,rfl,trivial⟩ ⟨rfl,rfl,trivial⟩ rfl rfl
  rintro m_ s_ ⟨i,met2,hk14,hm15,hA2,hL2,rfl⟩
  iterate 4 refine w_ ?_
  cases hb16:(decide ((i:Int) < (c.2.2.length:Int)))
  ·have hb16':=ab hb16
   refine w_ ?_
   refine Qj ?_
   refine (?_:AC _ _ _ _ _)
   iterate 3 refine w_ ?_
   refine Qd<|Q0 ⟨p+1,met2,by omega,rfl,(by rw[hA,show c.2.1.length - p=(c.2.1.length - (p+1))+1 by omega,YU,hA2,Qmu (by omega)]),hL2,rfl⟩ (by omega) ?_
   exact Wk.of [(2,3)] rfl ⟨rfl,rfl,rfl,rfl,rfl,trivial⟩ ⟨rfl,rfl,trivial⟩ rfl rfl
  ·have hb16':=ae hb16
   iterate 5 refine w_ ?_
   obtain ⟨ar,hx18⟩:∃z,c.2.2[i]? =some z:=⟨_,aa (by omega)⟩
   obtain ⟨⟨hr1,hr2⟩,hr3,hr4⟩:=ha _ (ap hx18)
   iterate 2 refine w_ ?_
   refine lc (xal 4 (.pr .int (.pr .int (.pr .bool .int))) V0) ?_
   iterate 6 refine w_ ?_
   refine alI 28 fun hi19=> ?_
   refine w_ ?_
   obtain ⟨x20,hx21⟩:∃z,met2[(ar.1).toNat]? =some z:=⟨_,aa (by omega)⟩
   iterate 2 refine w_ ?_
   cases hb22:(x20)
   ·refine w_ ?_
    refine AC.skip ?_
    refine (?_:AC _ _ _ _ _)
    iterate 3 refine w_ ?_
    refine Qd<|Q0 ⟨i+1,met2,by omega,rfl,(by rw[hA2,QdI hx18]; first | rw[QcX (by assumption) (by assumption)] | rw[QfC (by assumption) (by assumption)]),(by exact hL2),rfl⟩ (by omega) ?_
    exact Wk.of [] rfl ⟨rfl,rfl,rfl,rfl,rfl,rfl,rfl,rfl,rfl,rfl,trivial⟩ ⟨rfl,rfl,trivial⟩ rfl rfl
   ·iterate 5 refine w_ ?_
    refine alI 33 fun hi23=> ?_
    refine w_ ?_
    obtain ⟨x24,hx25⟩:∃z,met2[(ar.2.2.2).toNat]? =some z:=⟨_,aa (by omega)⟩
    refine lc (Qs (e:= .bool) (z':=true) (Qa rfl) rfl hx25 rfl (Evl.ev Zn) rfl QfH rfl rfl)<|Qd ?_
    refine (?_:AC _ _ _ _ _)
    iterate 3 refine w_ ?_
    refine Qd<|Q0 ⟨i+1,(met2.set ((ar.2.2.2).toNat) true),by omega,rfl,(by rw[hA2,QdI hx18]; first | rw[QcX (by assumption) (by assumption)] | rw[QfC (by assumption) (by assumption)]),(by (rw[aD]; exact hL2)),rfl⟩ (by omega) ?_
    exact Wk.of [] rfl ⟨rfl,rfl,rfl,rfl,rfl,rfl,rfl,rfl,rfl,rfl,trivial⟩ ⟨rfl,(Qn (by first | rfl | simp)),trivial⟩ rfl rfl
end Go.Proofs.YtfkmmpfdncopdaaGreat
