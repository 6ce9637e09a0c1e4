/- Walks over abstract states: cubes, codes and covers, both sides. -/
import Derived.Test.YtfkmmpfdncopdaaGreatNHx
import Derived.Test.YtfkmmpfdncopdaaGreatNVa
import Derived.Test.YtfkmmpfdncopdaaGreatNWj
import Derived.Test.YtfkmmpfdncopdaaGreatNDf
import Derived.Test.YtfkmmpfdncopdaaGreatNUa
set_option linter.unusedSimpArgs false
set_option linter.unusedVariables false
set_option linter.unusedSectionVars false
namespace Go.Proofs.YtfkmmpfdncopdaaGreat
open Go.RowKit
set_option maxRecDepth 100000
set_option maxHeartbeats 4000000
def Vy (u:UInt8):Prop:=u=48∨u=49∨u=45
instance (u:UInt8):Decidable (Vy u):=inferInstanceAs (Decidable (_∨_))
def ZY (s:ByteArray)(n:Int):Prop:=(∀u∈s.toList,Vy u)∧(s.size:Int)=n∧(1≤n∧n≤8)
instance (s:ByteArray) (n:Int):Decidable (ZY s n):=inferInstanceAs (Decidable (_∧_))
def WU (s:ByteArray)(n:Int):Prop:=ZQ s n∧(1≤n∧n≤8)
instance (s:ByteArray) (n:Int):Decidable (WU s n):=inferInstanceAs (Decidable (_∧_))
def Ub (n:Int)(l:List ByteArray):Prop:=(1≤n∧n≤8)∧l.length≤60∧∀c∈l,ZY c n
instance (n:Int) (l:List ByteArray):Decidable (Ub n l):=inferInstanceAs (Decidable (_∧_))
def QV (cube code:ByteArray):Bool:=(List.range cube.size).all fun i=>decide (bAt cube (i:Int)=45)||decide (bAt cube (i:Int)=bAt code (i:Int))
section
variable {s t cube code c:ByteArray}{n:Int}{k j:Nat}{u v:UInt8}{l:List ByteArray}
theorem HJ (hB:∀j,j < k→∀c,s.toList[j]? =some c→Vy c)(hx:s[((k:Int)).toNat]? =some u)(h:Vy u):∀j,j < k+1→∀c,s.toList[j]? =some c→Vy c:=fun j hj d hd=>by
  by_cases e:j=k
  · subst e; rw[U7 hx] at hd; cases hd; exact h
  · exact hB j (by omega) d hd
theorem QoB (hx:s[((k:Int)).toNat]? =some u)(h1:¬u=48)(h2:¬u=49)(h3:¬u=45):false=decide (ZY s n):=(ay fun h=>by
  rcases h.1 u (ap (U7 hx)) with h | h | h
  · exact h1 h
  · exact h2 h
  · exact h3 h).symm
theorem QmW (hB:∀j,j < k→∀c,s.toList[j]? =some c→Vy c)(hk:s.size≤k):∀u∈s.toList,Vy u:=fun c hc=>by
  obtain ⟨j,hj⟩:=aM.1 hc
  have:=(ah.1 hj).1
  rw[XA] at this
  exact hB j (by omega) c hj
theorem Qle (hB:∀j,j < k→∀c,s.toList[j]? =some c→Vy c)(hk:s.size≤k)(h:(s.size:Int)=n):decide (1≤n∧n≤8)=decide (ZY s n):=bL.2 ⟨fun g=>⟨QmW hB hk,h,g⟩,fun g=>g.2.2⟩
theorem QjR (h:¬(s.size:Int)=n):false=decide (ZY s n):=(ay fun g=>h g.2.1).symm
theorem Qm6 (h:s.size=1):ibV s (bAt s 0)=0:=by
  have h1:=QiV (s:=s) (c:=bAt s 0)
  have h2:bAt s 0∈s.toList:=by
    have:s[(0:Nat)]? =some s[0]:=aY s 0 (by omega)
    have e:bAt s 0=s[0]:=Q2 this
    rw[e]
    exact ap (U7 (k:=0) this)
  have h3:=QiE.2 h2
  unfold ibV at*
  have:s.data.toList=[bAt s 0]:=by
    obtain ⟨⟨l⟩⟩:=s
    have hl:l.length=1:=h
    match l,hl with
    | [x],_=>rfl
  rw[this]; simp[Lib.indexByte]
theorem Qls (h:ZY code n):(!decide (0≤ibV code (bAt ⟨#[45]⟩ 0)))=decide (WU code n):=by
  have e:bAt ⟨#[45]⟩ 0=45:=rfl
  rw[e,bU,bM,decide_eq_false_iff_not,QiE,decide_eq_true_iff]
  constructor
  · intro g
    refine ⟨⟨fun u hu=> ?_,h.2.1⟩,h.2.2⟩
    rcases h.1 u hu with h1 | h1 | h1
    · exact .inl h1
    · exact .inr h1
    · subst h1; exact absurd hu g
  · intro g hu
    rcases g.1.1 _ hu with h1 | h1 <;> exact absurd h1 (by decide)
theorem QoO (h:¬ZY code n):false=decide (WU code n):=(ay fun g=>h ⟨fun u hu=>(g.1.1 u hu).elim .inl fun h=> .inr (.inl h),g.1.2,g.2⟩).symm
theorem Qo3 (h:¬(1≤n∧n≤8)):false=decide (Ub n l):=(ay fun g=>h g.1).symm
theorem Qny (h:¬(l.length:Int)≤60):false=decide (Ub n l):=(ay fun g=>h (by have:=g.2.1; omega)).symm
theorem Qn3 (h1:1≤n∧n≤8)(h2:(l.length:Int)≤60):(!(l.any fun c=> !decide (ZY c n)))=decide (Ub n l):=by
  rw[bU,bM,cq,decide_eq_true_iff]
  exact ⟨fun g=>⟨h1,by omega,fun c hc=>by simpa using g c hc⟩,fun g c hc=>by simpa using g.2.2 c hc⟩
theorem Qma (hk:k < cube.size)(h1:cube[((k:Int)).toNat]? =some u)(h2:code[((k:Int)).toNat]? =some v)(h3:¬u=45)(h4:¬u=v):false=QV cube code:=by
  symm
  unfold QV
  rw[List.all_eq_false]
  exact ⟨k,bY.2 hk,by rw[Q2 h1,Q2 h2]; simp[h3,h4]⟩
theorem QjE (hB:∀j,j < k→(bAt cube (j:Int)=45∨bAt cube (j:Int)=bAt code (j:Int)))(hk:cube.size≤k):true=QV cube code:=by
  symm
  unfold QV
  rw[aB]
  intro j hj
  have:=hB j (bh (bY.1 hj) hk)
  simpa using this
theorem Jp (hB:∀j,j < k→(bAt cube (j:Int)=45∨bAt cube (j:Int)=bAt code (j:Int)))(h:bAt cube (k:Int)=45∨bAt cube (k:Int)=bAt code (k:Int)):∀j,j < k+1→(bAt cube (j:Int)=45∨bAt cube (j:Int)=bAt code (j:Int)):=fun j hj=>by
  by_cases e:j=k
  · subst e; exact h
  · exact hB j (by omega)
end
theorem XR (s:ByteArray)(substr:ByteArray)(h1:substr.size=1):FC Tryz.prog 306 [(false,[dS s]),(false,[dS substr])] [] 0 (QH (lI (ibV s (bAt substr 0)))):=by
 refine Ql Tryz.func306 rfl rfl Tryz.ntmps306 fun O_ hO w0_ N0_ X_ h0_ f0_=> ?_
 iterate 5 refine w_ ?_
 refine alS 14 fun hl1=> ?_
 refine lc (QZ (Qa rfl) rfl Zc) ?_
 iterate 8 refine w_ ?_
 cases hb2:(decide ((substr.size:Int)=0))
 ·have hb2':=ab hb2
  iterate 6 refine w_ ?_
  refine cd_ (fun hb3 hb3'=> ?_) fun hb3 hb3'=> ?_
  ·iterate 5 refine w_ ?_
   cases hb4:(decide ((substr.size:Int)=1))
   · exact absurd (hb4.symm.trans (show (decide ((substr.size:Int)=1))=true from aJ (by omega))) (by decide)
   ·have hb4':=ae hb4
    iterate 4 refine w_ ?_
    obtain ⟨c5,hc6⟩:∃z,substr[(0:Int).toNat]? =some z:=⟨_,aY _ _ (by omega)⟩
    refine w_ ?_
    refine lc (dK (Qsh s c5) Qhj) ?_
    iterate 2 refine w_ ?_
    refine Qb<|fqI hO ?_
    (rw[Q2 (by assumption)])
  ·iterate 3 refine w_ ?_
   refine Qb<|fqI hO ?_
   (subst_vars; exact (Qm6 h1).symm)
 · exact absurd (hb2.symm.trans (show (decide ((substr.size:Int)=0))=false from ay (by omega))) (by decide)
theorem J7 (s:ByteArray)(substr:ByteArray)(h1:substr.size=1):FC Tryz.prog 249 [(false,[dS s]),(false,[dS substr])] [] 0 (QH (lI (ibV s (bAt substr 0)))):=by
 refine Ql Tryz.func249 rfl rfl Tryz.ntmps249 fun O_ hO w0_ N0_ X_ h0_ f0_=> ?_
 iterate 6 refine w_ ?_
 refine lc (dK (XR s substr h1) QhT) ?_
 iterate 2 refine w_ ?_
 refine Qb ?_
 exact fe_ hO
theorem Ku (s:ByteArray)(substr:ByteArray)(h1:substr.size=1):FC Tryz.prog 168 [(false,[dS s]),(false,[dS substr])] [] 0 (QH (lB (decide (0≤ibV s (bAt substr 0))))):=by
 refine Ql Tryz.func168 rfl rfl Tryz.ntmps168 fun O_ hO w0_ N0_ X_ h0_ f0_=> ?_
 iterate 6 refine w_ ?_
 refine lc (dK (J7 s substr h1) Qgx) ?_
 iterate 3 refine w_ ?_
 refine Qb<|fqB hO ?_
 rfl
theorem UI (cube:ByteArray)(n:Int):FC Tryz.prog 116 [(false,[dS cube]),(false,[dI n])] [] 0 (QH (lB (decide (ZY cube n)))):=by
 refine Ql Tryz.func116 rfl rfl Tryz.ntmps116 fun O_ hO w0_ N0_ X_ h0_ f0_=> ?_
 refine acI 1 fun hi1=> ?_
 iterate 8 refine w_ ?_
 refine lpK cube.size (fun k=>∀j,j < k→∀c,cube.toList[j]? =some c→Vy c) (fun k=>⟨[(0,lf (dS cube)),(1,lI n),(5,lI (k:Int))],[]⟩) ((fun j hj=>absurd hj (b8 j))) ?_ fun k hk2 hB=> ?_
 · exact Wk.of [] rfl ⟨rfl,rfl,rfl,trivial⟩ trivial rfl rfl
 iterate 4 refine w_ ?_
 refine alS 7 fun hl3=> ?_
 refine lc (QZ (Qa rfl) rfl Zc) ?_
 iterate 2 refine w_ ?_
 cases hb4:(decide ((k:Int) < (cube.size:Int)))
 ·have hb4':=ab hb4
  refine w_ ?_
  refine Qj ?_
  refine (?_:AC _ _ _ _ _)
  iterate 2 refine w_ ?_
  refine alS 28 fun hl5=> ?_
  refine lc (QZ (Qa rfl) rfl Zc) ?_
  iterate 3 refine w_ ?_
  cases hb6:(decide ((cube.size:Int)=n))
  ·have hb6':=ab hb6
   iterate 5 refine w_ ?_
   refine Qb<|fqB hO ?_
   exact QjR (by assumption)
  ·have hb6':=ae hb6
   refine w_ ?_
   refine lgy rfl rfl (dK (QM n 1 8) ZG) ?_
   iterate 3 refine w_ ?_
   refine Qb<|fqB hO ?_
   exact Qle hB (by omega) (by assumption)
 ·have hb4':=ae hb4
  iterate 7 refine w_ ?_
  obtain ⟨c7,hc8⟩:∃z,cube[((k:Int)).toNat]? =some z:=⟨_,aY _ _ (by omega)⟩
  refine w_ ?_
  refine lc (QD (Qa rfl) (QG 48 rfl) rfl) ?_
  refine w_ ?_
  cases hb9:(!decide (c7=48))
  ·have hb9':(c7=48):=QA hb9
   iterate 13 refine w_ ?_
   refine AC.skip ?_
   refine (?_:AC _ _ _ _ _)
   iterate 4 refine w_ ?_
   refine Qd ?_
   refine lK_ ((HJ hB (by assumption) (by first | exact .inl (by assumption) | exact .inr (.inl (by assumption)) | exact .inr (.inr (by assumption))))) ?_
   exact Wk.of [] rfl ⟨rfl,rfl,rfl,trivial⟩ trivial rfl rfl
  ·have hb9':¬(c7=48):=QS hb9
   iterate 3 refine w_ ?_
   refine lgy rfl rfl (QD (Qa rfl) (QG 49 rfl) rfl) ?_
   iterate 2 refine w_ ?_
   cases hb10:(!decide (c7=49))
   ·have hb10':(c7=49):=QA hb10
    iterate 7 refine w_ ?_
    refine AC.skip ?_
    refine (?_:AC _ _ _ _ _)
    iterate 4 refine w_ ?_
    refine Qd ?_
    refine lK_ ((HJ hB (by assumption) (by first | exact .inl (by assumption) | exact .inr (.inl (by assumption)) | exact .inr (.inr (by assumption))))) ?_
    exact Wk.of [] rfl ⟨rfl,rfl,rfl,trivial⟩ trivial rfl rfl
   ·have hb10':¬(c7=49):=QS hb10
    iterate 3 refine w_ ?_
    refine lgy rfl rfl (QD (Qa rfl) (QG 45 rfl) rfl) ?_
    iterate 2 refine w_ ?_
    cases hb11:(!decide (c7=45))
    ·have hb11':(c7=45):=QA hb11
     refine w_ ?_
     refine AC.skip ?_
     refine (?_:AC _ _ _ _ _)
     iterate 4 refine w_ ?_
     refine Qd ?_
     refine lK_ ((HJ hB (by assumption) (by first | exact .inl (by assumption) | exact .inr (.inl (by assumption)) | exact .inr (.inr (by assumption))))) ?_
     exact Wk.of [] rfl ⟨rfl,rfl,rfl,trivial⟩ trivial rfl rfl
    ·have hb11':¬(c7=45):=QS hb11
     iterate 4 refine w_ ?_
     refine Qb<|fqB hO ?_
     exact QoB (k:=k) (by assumption) (by assumption) (by assumption) (by assumption)
theorem Uw (code:ByteArray)(n:Int):FC Tryz.prog 76 [(false,[dS code]),(false,[dI n])] [] 0 (QH (lB (decide (WU code n)))):=by
 refine Ql Tryz.func76 rfl rfl Tryz.ntmps76 fun O_ hO w0_ N0_ X_ h0_ f0_=> ?_
 refine acI 1 fun hi1=> ?_
 iterate 6 refine w_ ?_
 refine lc (dK (UI code n) QbS) ?_
 refine w_ ?_
 cases hb2:(decide (ZY code n))
 ·have hb2':=ab hb2
  iterate 6 refine w_ ?_
  refine Qb<|fqB hO ?_
  exact QoO (by assumption)
 ·have hb2':=ae hb2
  refine w_ ?_
  refine lgy rfl rfl (dK (Ku code (⟨#[45]⟩:ByteArray) rfl) Qhg) ?_
  iterate 4 refine w_ ?_
  refine Qb<|fqB hO ?_
  exact Qls (by assumption)
theorem V4 (cube:ByteArray)(n:Int):FC Tryz.prog 166 [(false,[dS cube]),(false,[.ptr 0 0])] [bx 0 3 [dI n]] 1 (Is (lB (!decide (ZY cube n))) [bx 0 3 [dI n]]):=by
 refine Ql Tryz.func166 rfl rfl Tryz.ntmps166 fun O_ hO w0_ N0_ X_ h0_ f0_=> ?_
 iterate 6 refine w_ ?_
 refine alI 5 fun hi1=> ?_
 refine lc (dK (UI cube n) QbS) ?_
 iterate 3 refine w_ ?_
 refine Qb ?_
 have e2:(!(decide (ZY cube n)):Bool)=(!decide (ZY cube n)):=by
  rfl
 exact fi_ [] hO ⟨rfl,trivial⟩ (h0:=(congrArg (fun z_=>lB z_) e2))
theorem WH (l:List ByteArray)(n:Int):FC Tryz.prog 160 [(false,[.dat (.sl 9 .str) l]),(false,[.clo 166 [0]])] [bx 0 3 [dI n]] 1 (Is (lI (Q4 (fun c=> !decide (ZY c n)) l)) [bx 0 3 [dI n]]):=by
 refine Ql Tryz.func160 rfl rfl Tryz.ntmps160 fun O_ hO w0_ N0_ X_ h0_ f0_=> ?_
 iterate 6 refine w_ ?_
 refine alL 6 fun hl1=> ?_
 iterate 4 refine w_ ?_
 refine lpK l.length (fun k=>NoneTo (fun c=> !decide (ZY c n)) l k) (fun k=>⟨[(0,lf (.dat (.sl 9 .str) l)),(1,lf (.clo 166 [0])),(7,lI (l.length:Int)),(8,lI (k:Int))],[bx 0 3 [dI n]]⟩) (NoneTo.zero) ?_ fun k hk2 hno=> ?_
 · exact Wk.of [] rfl ⟨rfl,rfl,rfl,rfl,trivial⟩ ⟨rfl,trivial⟩ rfl rfl
 iterate 4 refine w_ ?_
 cases hb3:(decide ((k:Int) < (l.length:Int)))
 ·have hb3':=ab hb3
  refine w_ ?_
  refine Qj ?_
  refine (?_:AC _ _ _ _ _)
  iterate 3 refine w_ ?_
  refine Qb ?_
  have e4:((-1):Int)=(Q4 (fun c=> !decide (ZY c n)) l):=by
   first | exact (hno.no (by omega)).symm
  exact fi_ [] hO ⟨rfl,trivial⟩ (h0:=(congrArg (fun z_=>lI z_) e4))
 ·have hb3':=ae hb3
  iterate 12 refine w_ ?_
  obtain ⟨x5,hx6⟩:∃z,l[k]? =some z:=⟨_,aa (by omega)⟩
  iterate 2 refine w_ ?_
  refine lc (Zk (args0:=[(false,[dS x5])]) (caps:=[0]) 1 [(0,0)] (V4 x5 n) Qig rfl (Qa rfl) rfl rfl ⟨_,_,rfl,(Qm rfl),rfl⟩ ⟨rfl,trivial⟩ rfl ⟨trivial,trivial⟩ (nlr rfl)) ?_
  refine w_ ?_
  cases hb7:(!decide (ZY x5 n))
  ·have hb7':(ZY x5 n):=QA hb7
   refine w_ ?_
   refine AC.skip ?_
   refine (?_:AC _ _ _ _ _)
   iterate 3 refine w_ ?_
   refine Qd ?_
   refine lK_ (hno.step hx6 (by assumption)) ?_
   exact Wk.of [] rfl ⟨rfl,rfl,rfl,rfl,trivial⟩ ⟨rfl,trivial⟩ rfl rfl
  ·have hb7':¬(ZY x5 n):=QS hb7
   iterate 5 refine w_ ?_
   refine Qb ?_
   have e8:((k:Int):Int)=(Q4 (fun c=> !decide (ZY c n)) l):=by
    exact (hno.at hx6 (by assumption)).symm
   exact fi_ [] hO ⟨rfl,trivial⟩ (h0:=(congrArg (fun z_=>lI z_) e8))
theorem X2 (l:List ByteArray)(n:Int):FC Tryz.prog 72 [(false,[.dat (.sl 9 .str) l]),(false,[.clo 166 [0]])] [bx 0 3 [dI n]] 1 (Is (lB (l.any (fun c=> !decide (ZY c n)))) [bx 0 3 [dI n]]):=by
 refine Ql Tryz.func72 rfl rfl Tryz.ntmps72 fun O_ hO w0_ N0_ X_ h0_ f0_=> ?_
 iterate 6 refine w_ ?_
 refine lc (dP 1 [] (WH l n) XE) ?_
 iterate 3 refine w_ ?_
 refine Qb ?_
 have e1:(decide (0≤(Q4 (fun c=> !decide (ZY c n)) l)):Bool)=(l.any (fun c=> !decide (ZY c n))):=by
  exact XL _ _
 exact fi_ [] hO ⟨rfl,trivial⟩ (h0:=(congrArg (fun z_=>lB z_) e1))
theorem Uu (n:Int)(l:List ByteArray):FC Tryz.prog 71 [(false,[dI n]),(false,[.dat (.sl 9 .str) l])] [] 0 (QH (lB (decide (Ub n l)))):=by
 refine Ql Tryz.func71 rfl rfl Tryz.ntmps71 fun O_ hO w0_ N0_ X_ h0_ f0_=> ?_
 refine acI 0 fun hi1=> ?_
 refine w_ ?_
 refine xbx 0 ?_
 iterate 4 refine w_ ?_
 refine lc (dK (QM n 1 8) ZG) ?_
 refine w_ ?_
 cases hb2:(decide (1≤n∧n≤8))
 ·have hb2':=ab hb2
  iterate 12 refine w_ ?_
  refine Qb<|fqB hO ?_
  exact Qo3 (by assumption)
 ·have hb2':=ae hb2
  refine w_ ?_
  refine alL 8 fun hl3=> ?_
  iterate 4 refine w_ ?_
  cases hb4:(decide ((l.length:Int)≤60))
  ·have hb4':=ab hb4
   iterate 7 refine w_ ?_
   refine Qb<|fqB hO ?_
   exact Qny (by assumption)
  ·have hb4':=ae hb4
   refine w_ ?_
   refine lgy rfl rfl (Zj ⟨_,_,rfl,(Qa rfl),rfl,rfl⟩ rfl) ?_
   refine lgy rfl rfl (dP 1 [] (X2 l n) UY) ?_
   iterate 4 refine w_ ?_
   refine Qb<|fqB hO ?_
   exact Qn3 (by assumption) (by assumption)
theorem YS (cube:ByteArray)(code:ByteArray)(hl:cube.size≤code.size):FC Tryz.prog 170 [(false,[dS cube]),(false,[dS code])] [] 0 (QH (lB (QV cube code))):=by
 refine Ql Tryz.func170 rfl rfl Tryz.ntmps170 fun O_ hO w0_ N0_ X_ h0_ f0_=> ?_
 iterate 6 refine w_ ?_
 refine alS 6 fun hl1=> ?_
 refine lc (QZ (Qa rfl) rfl Zc) ?_
 iterate 3 refine w_ ?_
 refine lpK cube.size (fun k=>∀j,j < k→(bAt cube (j:Int)=45∨bAt cube (j:Int)=bAt code (j:Int))) (fun k=>⟨[(0,lf (dS cube)),(1,lf (dS code)),(7,lI (cube.size:Int)),(8,lI (k:Int))],[]⟩) ((fun j hj=>absurd hj (b8 j))) ?_ fun k hk2 hB=> ?_
 · exact Wk.of [] rfl ⟨rfl,rfl,rfl,rfl,trivial⟩ trivial rfl rfl
 iterate 4 refine w_ ?_
 cases hb3:(decide ((k:Int) < (cube.size:Int)))
 ·have hb3':=ab hb3
  refine w_ ?_
  refine Qj ?_
  refine (?_:AC _ _ _ _ _)
  iterate 3 refine w_ ?_
  refine Qb<|fqB hO ?_
  exact QjE hB (by omega)
 ·have hb3':=ae hb3
  iterate 8 refine w_ ?_
  obtain ⟨c4,hc5⟩:∃z,cube[((k:Int)).toNat]? =some z:=⟨_,aY _ _ (by omega)⟩
  cases hb6:(!decide (c4=45))
  ·have hb6':(c4=45):=QA hb6
   apply dW (i3 11 _ _ _ (io 14 (lB false) :: i9 15 _ _ _ _ _ _ _ _ _ [])) [0,1,0,0,0,0,32,0,224,480,224,0,0]
   iterate 3 refine z_ ?_
   refine zz (fun _ h_=>ac (Zh (Jw (Qbc hb6)) (QD (h_.v rfl) (QG 45 rfl) rfl)) rfl) ?_
   iterate 9 refine z_ ?_
   exact zN
   refine w_ ?_
   refine AC.skip ?_
   refine (?_:AC _ _ _ _ _)
   iterate 3 refine w_ ?_
   refine Qd ?_
   refine lK_ ((Jp hB (by first | exact .inl ((Q2 (by assumption)).trans (by assumption)) | exact .inr ((Q2 (by assumption)).trans ((‹(_:UInt8)=_›).trans (Q2 (by assumption)).symm))))) ?_
   exact Wk.of [] rfl ⟨rfl,rfl,rfl,rfl,trivial⟩ trivial rfl rfl
  ·have hb6':¬(c4=45):=QS hb6
   obtain ⟨c7,hc8⟩:∃z,code[((k:Int)).toNat]? =some z:=⟨_,aY _ _ (by omega)⟩
   apply dW (i3 11 _ _ _ (io 14 (lB true) :: i9 15 _ _ _ _ _ _ _ _ _ [])) [0,1,0,0,0,0,32,0,224,480,224,0,0]
   iterate 3 refine z_ ?_
   refine zz (fun _ h_=>ac (Zh (Jw (Qbc hb6)) (QD (h_.v rfl) (QG 45 rfl) rfl)) rfl) ?_
   iterate 9 refine z_ ?_
   exact zN
   cases hb9:(!decide (c4=c7))
   ·have hb9':(c4=c7):=QA hb9
    refine w_ ?_
    refine AC.skip ?_
    refine (?_:AC _ _ _ _ _)
    iterate 3 refine w_ ?_
    refine Qd ?_
    refine lK_ ((Jp hB (by first | exact .inl ((Q2 (by assumption)).trans (by assumption)) | exact .inr ((Q2 (by assumption)).trans ((‹(_:UInt8)=_›).trans (Q2 (by assumption)).symm))))) ?_
    exact Wk.of [] rfl ⟨rfl,rfl,rfl,rfl,trivial⟩ trivial rfl rfl
   ·have hb9':¬(c4=c7):=QS hb9
    iterate 4 refine w_ ?_
    refine Qb<|fqB hO ?_
    exact Qma (k:=k) (by omega) (by assumption) (by assumption) (by assumption) (by assumption)
theorem Wo (cube:ByteArray)(code:ByteArray)(hl:cube.size≤code.size):FC Tryz.prog 211 [(false,[dS cube]),(false,[dS code])] [] 0 (QH (lB (QV cube code))):=by
 refine Ql Tryz.func211 rfl rfl Tryz.ntmps211 fun O_ hO w0_ N0_ X_ h0_ f0_=> ?_
 iterate 8 refine w_ ?_
 refine lpK cube.size (fun k=>∀j,j < k→(bAt cube (j:Int)=45∨bAt cube (j:Int)=bAt code (j:Int))) (fun k=>⟨[(0,lf (dS cube)),(1,lf (dS code)),(5,lI (k:Int))],[]⟩) ((fun j hj=>absurd hj (b8 j))) ?_ fun k hk1 hB=> ?_
 · exact Wk.of [] rfl ⟨rfl,rfl,rfl,trivial⟩ trivial rfl rfl
 iterate 4 refine w_ ?_
 refine alS 7 fun hl2=> ?_
 refine lc (QZ (Qa rfl) rfl Zc) ?_
 iterate 2 refine w_ ?_
 cases hb3:(decide ((k:Int) < (cube.size:Int)))
 ·have hb3':=ab hb3
  refine w_ ?_
  refine Qj ?_
  refine (?_:AC _ _ _ _ _)
  iterate 3 refine w_ ?_
  refine Qb<|fqB hO ?_
  exact QjE hB (by omega)
 ·have hb3':=ae hb3
  iterate 4 refine w_ ?_
  obtain ⟨c4,hc5⟩:∃z,cube[((k:Int)).toNat]? =some z:=⟨_,aY _ _ (by omega)⟩
  cases hb6:(!decide (c4=45))
  ·have hb6':(c4=45):=QA hb6
   apply dW (i3 12 _ _ _ (io 15 (lB false) :: i9 16 _ _ _ _ _ _ _ _ _ [])) [0,1,0,0,0,0,32,0,224,480,224,0,0]
   iterate 3 refine z_ ?_
   refine zz (fun _ h_=>ac (Zh (Jw (Qbc hb6)) (QD (h_.v rfl) (QG 45 rfl) rfl)) rfl) ?_
   iterate 9 refine z_ ?_
   exact zN
   refine w_ ?_
   refine AC.skip ?_
   refine (?_:AC _ _ _ _ _)
   iterate 4 refine w_ ?_
   refine Qd ?_
   refine lK_ ((Jp hB (by first | exact .inl ((Q2 (by assumption)).trans (by assumption)) | exact .inr ((Q2 (by assumption)).trans ((‹(_:UInt8)=_›).trans (Q2 (by assumption)).symm))))) ?_
   exact Wk.of [] rfl ⟨rfl,rfl,rfl,trivial⟩ trivial rfl rfl
  ·have hb6':¬(c4=45):=QS hb6
   obtain ⟨c7,hc8⟩:∃z,code[((k:Int)).toNat]? =some z:=⟨_,aY _ _ (by omega)⟩
   apply dW (i3 12 _ _ _ (io 15 (lB true) :: i9 16 _ _ _ _ _ _ _ _ _ [])) [0,1,0,0,0,0,32,0,224,480,224,0,0]
   iterate 3 refine z_ ?_
   refine zz (fun _ h_=>ac (Zh (Jw (Qbc hb6)) (QD (h_.v rfl) (QG 45 rfl) rfl)) rfl) ?_
   iterate 9 refine z_ ?_
   exact zN
   cases hb9:(!decide (c4=c7))
   ·have hb9':(c4=c7):=QA hb9
    refine w_ ?_
    refine AC.skip ?_
    refine (?_:AC _ _ _ _ _)
    iterate 4 refine w_ ?_
    refine Qd ?_
    refine lK_ ((Jp hB (by first | exact .inl ((Q2 (by assumption)).trans (by assumption)) | exact .inr ((Q2 (by assumption)).trans ((‹(_:UInt8)=_›).trans (Q2 (by assumption)).symm))))) ?_
    exact Wk.of [] rfl ⟨rfl,rfl,rfl,trivial⟩ trivial rfl rfl
   ·have hb9':¬(c4=c7):=QS hb9
    iterate 4 refine w_ ?_
    refine Qb<|fqB hO ?_
    exact Qma (k:=k) (by omega) (by assumption) (by assumption) (by assumption) (by assumption)
theorem HH (cube:ByteArray)(code:ByteArray)(hl:cube.size≤code.size):FC Tryz.prog 169 [(false,[dS cube]),(false,[.ptr 0 0])] [bx 0 9 [dS code]] 1 (Is (lB (QV cube code)) [bx 0 9 [dS code]]):=by
 refine Ql Tryz.func169 rfl rfl Tryz.ntmps169 fun O_ hO w0_ N0_ X_ h0_ f0_=> ?_
 iterate 6 refine w_ ?_
 refine lc (dK (YS cube code hl) V3) ?_
 iterate 2 refine w_ ?_
 refine Qb ?_
 exact fi_ [] hO ⟨rfl,trivial⟩
theorem Vv (l:List ByteArray)(code:ByteArray)(hl:∀c∈l,c.size≤code.size):FC Tryz.prog 160 [(false,[.dat (.sl 9 .str) l]),(false,[.clo 169 [0]])] [bx 0 9 [dS code]] 1 (Is (lI (Q4 (fun c=>QV c code) l)) [bx 0 9 [dS code]]):=by
 refine Ql Tryz.func160 rfl rfl Tryz.ntmps160 fun O_ hO w0_ N0_ X_ h0_ f0_=> ?_
 iterate 6 refine w_ ?_
 refine alL 6 fun hl1=> ?_
 iterate 4 refine w_ ?_
 refine lpK l.length (fun k=>NoneTo (fun c=>QV c code) l k) (fun k=>⟨[(0,lf (.dat (.sl 9 .str) l)),(1,lf (.clo 169 [0])),(7,lI (l.length:Int)),(8,lI (k:Int))],[bx 0 9 [dS code]]⟩) (NoneTo.zero) ?_ fun k hk2 hno=> ?_
 · exact Wk.of [] rfl ⟨rfl,rfl,rfl,rfl,trivial⟩ ⟨rfl,trivial⟩ rfl rfl
 iterate 4 refine w_ ?_
 cases hb3:(decide ((k:Int) < (l.length:Int)))
 ·have hb3':=ab hb3
  refine w_ ?_
  refine Qj ?_
  refine (?_:AC _ _ _ _ _)
  iterate 3 refine w_ ?_
  refine Qb ?_
  have e4:((-1):Int)=(Q4 (fun c=>QV c code) l):=by
   first | exact (hno.no (by omega)).symm
  exact fi_ [] hO ⟨rfl,trivial⟩ (h0:=(congrArg (fun z_=>lI z_) e4))
 ·have hb3':=ae hb3
  iterate 12 refine w_ ?_
  obtain ⟨x5,hx6⟩:∃z,l[k]? =some z:=⟨_,aa (by omega)⟩
  iterate 2 refine w_ ?_
  refine lc (Zk (args0:=[(false,[dS x5])]) (caps:=[0]) 1 [(0,0)] (HH x5 code (hl _ (ap hx6))) Qip rfl (Qa rfl) rfl rfl ⟨_,_,rfl,(Qm rfl),rfl⟩ ⟨rfl,trivial⟩ rfl ⟨trivial,trivial⟩ (nlr rfl)) ?_
  refine w_ ?_
  cases hb7:(QV x5 code)
  ·refine w_ ?_
   refine AC.skip ?_
   refine (?_:AC _ _ _ _ _)
   iterate 3 refine w_ ?_
   refine Qd ?_
   refine lK_ (hno.step hx6 (by assumption)) ?_
   exact Wk.of [] rfl ⟨rfl,rfl,rfl,rfl,trivial⟩ ⟨rfl,trivial⟩ rfl rfl
  ·iterate 5 refine w_ ?_
   refine Qb ?_
   have e8:((k:Int):Int)=(Q4 (fun c=>QV c code) l):=by
    exact (hno.at hx6 (by assumption)).symm
   exact fi_ [] hO ⟨rfl,trivial⟩ (h0:=(congrArg (fun z_=>lI z_) e8))
theorem Wp (l:List ByteArray)(code:ByteArray)(hl:∀c∈l,c.size≤code.size):FC Tryz.prog 72 [(false,[.dat (.sl 9 .str) l]),(false,[.clo 169 [0]])] [bx 0 9 [dS code]] 1 (Is (lB (l.any (fun c=>QV c code))) [bx 0 9 [dS code]]):=by
 refine Ql Tryz.func72 rfl rfl Tryz.ntmps72 fun O_ hO w0_ N0_ X_ h0_ f0_=> ?_
 iterate 6 refine w_ ?_
 refine lc (dP 1 [] (Vv l code hl) XE) ?_
 iterate 3 refine w_ ?_
 refine Qb ?_
 have e1:(decide (0≤(Q4 (fun c=>QV c code) l)):Bool)=(l.any (fun c=>QV c code)):=by
  exact XL _ _
 exact fi_ [] hO ⟨rfl,trivial⟩ (h0:=(congrArg (fun z_=>lB z_) e1))
theorem Qba (l:List ByteArray)(code:ByteArray)(hl:∀c∈l,c.size≤code.size):FC Tryz.prog 77 [(false,[.dat (.sl 9 .str) l]),(false,[dS code])] [] 0 (QH (lB (l.any (fun c=>QV c code)))):=by
 refine Ql Tryz.func77 rfl rfl Tryz.ntmps77 fun O_ hO w0_ N0_ X_ h0_ f0_=> ?_
 refine w_ ?_
 refine xbx 0 ?_
 iterate 4 refine w_ ?_
 refine lc (Zj ⟨_,_,rfl,(Qa rfl),rfl,rfl⟩ rfl) ?_
 refine lc (dP 1 [] (Wp l code hl) UY) ?_
 iterate 2 refine w_ ?_
 refine Qb ?_
 exact fe_ hO
theorem QcM (l:List ByteArray)(code:ByteArray)(hl:∀c∈l,c.size≤code.size):FC Tryz.prog 167 [(false,[.dat (.sl 9 .str) l]),(false,[dS code])] [] 0 (QH (lB (l.any (fun c=>QV c code)))):=by
 refine Ql Tryz.func167 rfl rfl Tryz.ntmps167 fun O_ hO w0_ N0_ X_ h0_ f0_=> ?_
 iterate 6 refine w_ ?_
 refine alL 7 fun hl1=> ?_
 iterate 4 refine w_ ?_
 refine lpK l.length (fun k=>NoneTo (fun c=>QV c code) l k) (fun k=>⟨[(1,lf (dS code)),(7,lf (.dat (.sl 9 .str) l)),(8,lI (l.length:Int)),(9,lI (k:Int))],[]⟩) (NoneTo.zero) ?_ fun k hk2 hno=> ?_
 · exact Wk.of [] rfl ⟨rfl,rfl,rfl,rfl,trivial⟩ trivial rfl rfl
 iterate 4 refine w_ ?_
 cases hb3:(decide ((k:Int) < (l.length:Int)))
 ·have hb3':=ab hb3
  refine w_ ?_
  refine Qj ?_
  refine (?_:AC _ _ _ _ _)
  iterate 3 refine w_ ?_
  refine Qb<|fqB hO ?_
  first | exact (hno.any_no (by omega)).symm
 ·have hb3':=ae hb3
  iterate 5 refine w_ ?_
  obtain ⟨x4,hx5⟩:∃z,l[k]? =some z:=⟨_,aa (by omega)⟩
  iterate 7 refine w_ ?_
  refine lc (dK (Wo x4 code (hl _ (ap hx5))) KG) ?_
  refine w_ ?_
  cases hb6:(QV x4 code)
  ·refine w_ ?_
   refine AC.skip ?_
   refine (?_:AC _ _ _ _ _)
   iterate 3 refine w_ ?_
   refine Qd ?_
   refine lK_ (hno.step hx5 (by assumption)) ?_
   exact Wk.of [] rfl ⟨rfl,rfl,rfl,rfl,trivial⟩ trivial rfl rfl
  ·iterate 4 refine w_ ?_
   refine Qb<|fqB hO ?_
   exact (bC.2 ⟨_,ap hx5,by assumption⟩).symm
end Go.Proofs.YtfkmmpfdncopdaaGreat
namespace Go.Proofs.YtfkmmpfdncopdaaGreat
open Go.RowKit
set_option maxRecDepth 100000
set_option maxHeartbeats 4000000
def cdF (c:ByteArray):List ByteArray:=[c++⟨#[48]⟩,c++⟨#[49]⟩]
def Qby:Nat→List ByteArray
  | 0=>[⟨#[]⟩]
  | n+1=>(Qby n).flatMap cdF
open Classical in
noncomputable def unrV (c:DSg):List ByteArray:=if SgOk c then (Qby c.1.length).filter fun x=> !(c.2.1.any fun y=>decide (x=y)) else []
def QtJ (l:List ByteArray)(n:Nat):List Int:=((List.range n).map fun i:Nat=>(i:Int)).filter fun i=>l.any fun c=> !decide (bAt c i=45)
section
variable {n k j:Nat}{c x:ByteArray}{l:List ByteArray}
end
def Qut (c:DSg)(k:Nat):List ByteArray:=((Qby ((c.1.length:Nat):Int).toNat).take k).filter fun x=> !(Yq c.2.1 x)
end Go.Proofs.YtfkmmpfdncopdaaGreat
namespace Go.Proofs.YtfkmmpfdncopdaaGreat
open Go.RowKit
set_option maxRecDepth 100000
set_option maxHeartbeats 4000000
section
variable {α:Type}[DecidableEq α]{l zs:List α}{m i j:Int}{x y:α}
theorem Qa0 {k:Nat}(hx:l[k]? =some x)(hy:l[k+1]? =some y):Q7 (l.take (k+2))=if x=y then Q7 (l.take (k+1)) else Q7 (l.take (k+1))++[y]:=by
  rw[QQ hy,Qds]
  have h1:(l.take (k+1)).getLast? =some x:=by rw[QQ hx]; simp
  rw[h1]
  by_cases e:x=y
  · rw[if_pos (by rw[e]),if_pos e,bF]
  · rw[if_neg (fun g=>e (Option.some.inj g)),if_neg e]
theorem Qtb:Q7 (l.take 1)=l.take 1:=by cases l <;> rfl
theorem QpL (h:(l.length:Int) < 2):l=Q7 l:=by
  match l,h with
  | [],_=>rfl
  | [_],_=>rfl
  | _ :: _ :: _,h=>simp at h; omega
theorem Qq9 (hm:1≤m)(hP:Q7 (l.take m.toNat)=l.take m.toNat)(hx:l[(m - 1).toNat]? =some x)(hy:l[m.toNat]? =some y)(h:¬y=x):Q7 (l.take (m+1).toNat)=l.take (m+1).toNat:=by
  have e:m.toNat=(m - 1).toNat+1:=by omega
  rw[show (m+1).toNat=(m - 1).toNat+2 by omega,Qa0 hx (by rw[← e]; exact hy),if_neg fun g=>h g.symm,← e,hP,show (m - 1).toNat+2=m.toNat+1 by omega,QQ hy]
theorem Qqw (hm:1≤m)(hP:Q7 (l.take m.toNat)=l.take m.toNat)(hx:l[(m - 1).toNat]? =some x)(hy:l[m.toNat]? =some y)(h:y=x):l.take m.toNat=Q7 (l.take (m+1).toNat):=by
  have e:m.toNat=(m - 1).toNat+1:=by omega
  rw[show (m+1).toNat=(m - 1).toNat+2 by omega,Qa0 hx (by rw[← e]; exact hy),if_pos h.symm,← e,hP]
theorem Qql (hm:1≤m)(hj:1≤j)(hz:zs.take i.toNat=Q7 (l.take (m+j).toNat))(ht:∀t:Nat,m+j - 1≤(t:Int)→zs[t]? =l[t]?)(hx:zs[m.toNat+(j - 1).toNat]? =some x)(hy:zs[m.toNat+j.toNat]? =some y)(h:y=x):zs.take i.toNat=Q7 (l.take (m+(j+1)).toNat):=by
  rw[ht _ (by omega)] at hx hy
  rw[hz,show (m+(j+1)).toNat=(m.toNat+(j - 1).toNat)+2 by omega,Qa0 hx (by rw[← hy]; congr 1; omega),if_pos h.symm]
  congr 2; omega
theorem Qq4 (hm:1≤m)(hj:1≤j)(h0:0≤i)(hl:i < (zs.length:Int))(hz:zs.take i.toNat=Q7 (l.take (m+j).toNat))(ht:∀t:Nat,m+j - 1≤(t:Int)→zs[t]? =l[t]?)(hx:zs[m.toNat+(j - 1).toNat]? =some x)(hy:zs[m.toNat+j.toNat]? =some y)(h:¬y=x):(zs.set i.toNat y).take (i+1).toNat=Q7 (l.take (m+(j+1)).toNat):=by
  have e1:(zs.set i.toNat y)[i.toNat]? =some y:=aW (by omega)
  rw[ht _ (by omega)] at hx hy
  rw[show (i+1).toNat=i.toNat+1 by omega,QQ e1,List.take_set_of_le (aO _),hz,show (m+(j+1)).toNat=(m.toNat+(j - 1).toNat)+2 by omega,Qa0 hx (by rw[← hy]; congr 1; omega),if_neg fun g=>h g.symm]
  congr 3; omega
theorem QqE (hi:i≤m+j - 1)(h0:0≤i)(ht:∀t:Nat,m+j - 1≤(t:Int)→zs[t]? =l[t]?):∀t:Nat,m+(j+1) - 1≤(t:Int)→(zs.set i.toNat y)[t]? =l[t]? :=fun t h=>by
  rw[b6 (by omega)]; exact ht t (by omega)
theorem Qoo (hP:Q7 (l.take m.toNat)=l.take m.toNat)(h:(l.length:Int)≤m):l=Q7 l:=by rw[aU (by omega)] at hP; exact hP.symm
theorem Qox (h0:0≤i)(hl:i≤(zs.length:Int))(r:List α)(hz:zs.take i.toNat=Q7 (l.take (m+j).toNat))(he:(l.length:Int)≤m+j):(zs.take i.toNat++r).take i.toNat=Q7 l:=by
  rw[List.take_left' (by rw[aq]; omega),hz,aU (by omega)]
end
theorem QU (l:List ByteArray)(hl:l.length≤1000000):FC Tryz.prog 174 [(false,[.ref 0])] [ar 0 9 .str l] 0 (WC 9 .str (Q7 l)):=by
 refine Ql Tryz.func174 rfl rfl Tryz.ntmps174 fun O_ hO w0_ N0_ X_ h0_ f0_=> ?_
 iterate 9 refine w_ ?_
 refine cd_ (fun hb1 hb1'=> ?_) fun hb1 hb1'=> ?_
 ·iterate 6 refine w_ ?_
  refine Qy (fun m_ s_=>∃(m:Int),m_=((l.length:Int) - m).toNat∧(1≤m∧m≤(l.length:Int))∧(Q7 (l.take m.toNat)=l.take m.toNat)∧s_=⟨[(0,lR 0),(3,lI m)],[ar 0 9 .str l]⟩) ⟨1,rfl,(by omega),Qtb,rfl⟩ ?_ ?_
  · exact Wk.of [] rfl ⟨rfl,rfl,trivial⟩ ⟨rfl,trivial⟩ rfl rfl
  rintro m_ s_ ⟨m,hm3,hm,hP,rfl⟩
  iterate 7 refine w_ ?_
  cases hb4:(decide (m < (l.length:Int)))
  ·have hb4':=ab hb4
   refine w_ ?_
   refine Qj ?_
   refine (?_:AC _ _ _ _ _)
   iterate 4 refine w_ ?_
   refine Qb<|fo_ hO ?_
   exact Qoo hP (by omega)
  ·have hb4':=ae hb4
   iterate 4 refine w_ ?_
   obtain ⟨y,hx6⟩:∃z,l[(m).toNat]? =some z:=⟨_,aa (by omega)⟩
   have yh:=hx6
   obtain ⟨x,hx8⟩:∃z,l[(m - 1).toNat]? =some z:=⟨_,aa (by omega)⟩
   have xh:=hx8
   apply dW (i2 16 _ _ (io 18 (lf (.ept 0 1 ((m).toNat) 0)) :: io 19 (lf (dS y)) :: i3 20 _ _ _ [io 23 (lf (.ept 0 1 ((m - 1).toNat) 0)),io 24 (lf (dS x)),io 25 _])) [0,1,0,0,15,31,31,15,15,0]
   iterate 2 refine z_ ?_
   refine zz (fun _ h_=>ac (ZL (e:= .str) (h_.v rfl) (h_.en 0 rfl) (h_.v rfl) Zd ZH rfl (by omega) (by first | omega | (simp only[aD]; omega))) rfl)<|zz (fun _ h_=>ac (Z7 (e:= .str) (h_.v rfl) (h_.n 0 rfl) hx6 rfl ZH rfl rfl) rfl) ?_
   iterate 3 refine z_ ?_
   refine zz (fun _ h_=>ac (ZL (e:= .str) (h_.v rfl) (h_.en 0 rfl) (h_.v rfl) Zd ZH rfl (by omega) (by first | omega | (simp only[aD]; omega))) rfl)<|zz (fun _ h_=>ac (Z7 (e:= .str) (h_.v rfl) (h_.n 0 rfl) hx8 rfl ZH rfl rfl) rfl) ?_
   refine z_ ?_
   exact zN
   cases hb9:(decide (y=x))
   ·have hb9':=ab hb9
    refine w_ ?_
    refine AC.skip ?_
    refine (?_:AC _ _ _ _ _)
    iterate 4 refine w_ ?_
    refine Qd<|Q0 ⟨(m+1),rfl,(by omega),(Qq9 (by omega) hP xh yh (by assumption)),rfl⟩ (by omega) ?_
    exact Wk.of [] rfl ⟨rfl,rfl,trivial⟩ ⟨rfl,trivial⟩ rfl rfl
   ·have hb9':=ae hb9
    iterate 4 refine w_ ?_
    refine lc (Zo (e:= .str) (a:=(m).toNat) (b:=l.length - (m).toNat) (l:=(some m)) (h:=none) (Qa rfl) rfl (by exact (Qa rfl)) (by exact trivial) Zd ZH rfl (by first | (simp only[ak,aj]; omega) | omega | (simp only[ak,aj,ai,aq,aA]; omega)) (by first | (simp only[ak,aj]; omega) | omega | (simp only[ak,aj,ai,aq,aA]; omega)) (by first | (simp only[ak,aj]; omega) | omega | (simp only[ak,aj,ai,aq,aA]; omega)) (by first | rfl | simp) (by first | rfl | simp)) ?_
    iterate 7 refine w_ ?_
    refine Qy (fun m_ s_=>∃(zs:List ByteArray) (i:Int) (j:Int),m_=((l.length:Int) - m - j).toNat∧(zs.length=l.length)∧(m≤i∧1≤j∧i≤m+j - 1∧m+j≤(l.length:Int))∧(zs.take i.toNat=Q7 (l.take (m+j).toNat))∧(∀t:Nat,m+j - 1≤(t:Int)→zs[t]? =l[t]?)∧s_=⟨[(0,lR 1),(3,lI i),(4,lf (.sub 1 1 ((m).toNat) (l.length - (m).toNat))),(5,lI j),(10,lI m),(12,lI (l.length:Int)),(13,lB true),(17,lI m),(19,lf (dS y)),(21,lI m),(22,lI (m - 1)),(24,lf (dS x)),(25,lB true),(27,lI m)],[ar 1 9 .str zs]⟩) ⟨l,m,1,rfl,rfl,(by omega),(Qqw (by omega) hP xh yh (by assumption)),(fun t _=>rfl),rfl⟩ ?_ ?_
    · exact Wk.of [(1,0)] rfl ⟨rfl,rfl,rfl,rfl,rfl,rfl,rfl,rfl,rfl,rfl,rfl,rfl,rfl,rfl,trivial⟩ ⟨rfl,trivial⟩ rfl rfl
    rintro m_ s_ ⟨zs,i,j,hm11,hz0,hij,hzs,htl,rfl⟩
    iterate 4 refine w_ ?_
    refine lc (Qgo (e:= .str) (Qa rfl) rfl (by omega) Zd rfl) ?_
    iterate 2 refine w_ ?_
    cases hb12:(decide (j < ((l.length - (m).toNat:Nat):Int)))
    ·have hb12':=ab hb12
     refine w_ ?_
     refine Qj ?_
     refine (?_:AC _ _ _ _ _)
     iterate 3 refine w_ ?_
     refine lc (Zo (e:= .str) (a:=(i).toNat) (b:=zs.length - (i).toNat) (l:=(some i)) (h:=none) (Qa rfl) rfl (by exact (Qa rfl)) (by exact trivial) Zd ZH rfl (by first | (simp only[ak,aj]; omega) | omega | (simp only[ak,aj,ai,aq,aA]; omega)) (by first | (simp only[ak,aj]; omega) | omega | (simp only[ak,aj,ai,aq,aA]; omega)) (by first | (simp only[ak,aj]; omega) | omega | (simp only[ak,aj,ai,aq,aA]; omega)) (by first | rfl | simp) (by first | rfl | simp))<|lc (Uz (e:= .str) (Qa rfl) rfl (by omega) Zd Yb rfl rfl rfl) ?_
     iterate 4 refine w_ ?_
     refine lc (Zo (e:= .str) (a:=0) (b:=(i).toNat) (l:=none) (h:=(some i)) (Qa rfl) rfl (by exact trivial) (by exact (Qa rfl)) Zd ZH rfl (by first | (simp only[ak,aj]; omega) | omega | (simp only[ak,aj,ai,aq,aA]; omega)) (by first | (simp only[ak,aj]; omega) | omega | (simp only[ak,aj,ai,aq,aA]; omega)) (by first | (simp only[ak,aj]; omega) | omega | (simp only[ak,aj,ai,aq,aA]; omega)) (by first | rfl | simp) (by first | rfl | simp)) ?_
     iterate 2 refine w_ ?_
     refine AC.wk (KH 2 2 (e:= .str) (xs:=zs.take ((i).toNat)++List.replicate (zs.length - (i).toNat) (Ty.zero .str)) rfl rfl (by first | omega | (simp only[ai,aq,aA]; omega)) rfl (Fresh.of rfl) (nlr rfl))<|Qb<|fo_ hO ?_
     exact Qox (by omega) (by omega) _ hzs (by omega)
    ·have hb12':=ae hb12
     iterate 4 refine w_ ?_
     obtain ⟨y2,hx14⟩:∃z,zs[(((m).toNat)+(j).toNat)]? =some z:=⟨_,aa (by omega)⟩
     have y2h:=hx14
     obtain ⟨x2,hx16⟩:∃z,zs[(((m).toNat)+(j - 1).toNat)]? =some z:=⟨_,aa (by omega)⟩
     have x2h:=hx16
     apply dW (i2 35 _ _ (io 37 (lf (.ept 1 1 (((m).toNat)+(j).toNat) 0)) :: io 38 (lf (dS y2)) :: i3 39 _ _ _ [io 42 (lf (.ept 1 1 (((m).toNat)+(j - 1).toNat) 0)),io 43 (lf (dS x2)),io 44 _])) [0,1,0,0,15,31,31,15,15,0]
     iterate 2 refine z_ ?_
     refine zz (fun _ h_=>ac (WV (e:= .str) (k:=((m).toNat)+(j).toNat) (h_.v rfl) (h_.en 1 rfl) (by omega) (h_.v rfl) Zd ZH rfl (by omega) (by omega) (by first | rfl | omega)) rfl)<|zz (fun _ h_=>ac (Z7 (e:= .str) (h_.v rfl) (h_.n 1 rfl) hx14 rfl ZH rfl rfl) rfl) ?_
     iterate 3 refine z_ ?_
     refine zz (fun _ h_=>ac (WV (e:= .str) (k:=((m).toNat)+(j - 1).toNat) (h_.v rfl) (h_.en 1 rfl) (by omega) (h_.v rfl) Zd ZH rfl (by omega) (by omega) (by first | rfl | omega)) rfl)<|zz (fun _ h_=>ac (Z7 (e:= .str) (h_.v rfl) (h_.n 1 rfl) hx16 rfl ZH rfl rfl) rfl) ?_
     refine z_ ?_
     exact zN
     cases hb17:(!decide (y2=x2))
     ·have hb17':(y2=x2):=QA hb17
      refine w_ ?_
      refine AC.skip ?_
      refine (?_:AC _ _ _ _ _)
      iterate 4 refine w_ ?_
      refine Qd<|Q0 ⟨zs,i,(j+1),rfl,(by assumption),(by omega),(by exact Qql (by omega) (by omega) hzs htl x2h y2h (by assumption)),(by exact fun t h=>htl t (by omega)),rfl⟩ (by omega) ?_
      exact Wk.of [] rfl ⟨rfl,rfl,rfl,rfl,rfl,rfl,rfl,rfl,rfl,rfl,rfl,rfl,rfl,rfl,trivial⟩ ⟨rfl,trivial⟩ rfl rfl
     ·have hb17':¬(y2=x2):=QS hb17
      iterate 6 refine w_ ?_
      refine lc (WV (e:= .str) (k:=((m).toNat)+(j).toNat) (Qa rfl) rfl (by omega) (Qa rfl) Zd ZH rfl (by omega) (by omega) (by first | rfl | omega)) ?_
      iterate 2 refine w_ ?_
      obtain ⟨x18,hx19⟩:∃z,zs[(i).toNat]? =some z:=⟨_,aa (by omega)⟩
      have x18h:=hx19
      refine lc (Qs (e:= .str) (z':=y2) (Qa rfl) rfl hx19 rfl (Qm rfl) rfl ZH rfl rfl) ?_
      iterate 5 refine w_ ?_
      refine Qd ?_
      refine (?_:AC _ _ _ _ _)
      iterate 4 refine w_ ?_
      refine Qd<|Q0 ⟨(zs.set ((i).toNat) y2),(i+1),(j+1),rfl,(by (rw[aD]; assumption)),(by omega),(by exact Qq4 (by omega) (by omega) (by omega) (by omega) hzs htl x2h y2h (by assumption)),(by exact QqE (by omega) (by omega) htl),rfl⟩ (by omega) ?_
      exact Wk.of [] rfl ⟨rfl,rfl,rfl,rfl,rfl,rfl,rfl,rfl,rfl,rfl,rfl,rfl,rfl,rfl,trivial⟩ ⟨(Qn (by first | rfl | simp)),trivial⟩ rfl rfl
 ·iterate 4 refine w_ ?_
  refine Qb<|fo_ hO ?_
  exact QpL (by omega)
def n0 (l:List ByteArray):Nat:=((l[0]?).getD ByteArray.empty).size
def Qpx (l:List ByteArray):Prop:=0 < l.length∧Ub (n0 l:Int) l
instance (l:List ByteArray):Decidable (Qpx l):=inferInstanceAs (Decidable (_∧_))
def Quj (l:List ByteArray)(i:Int):Bool:=l.any fun c=> !decide (bAt c i=45)
def Qug (l:List ByteArray):List Int:=if Qpx l then QtJ l (n0 l) else []
section
variable {l:List ByteArray}{c:ByteArray}{k:Nat}{i n:Int}{u:UInt8}
theorem Qqg (h:Ub n l)(hc:c∈l):(c.size:Int)=n:=(h.2.2 c hc).2.1
end
end Go.Proofs.YtfkmmpfdncopdaaGreat
