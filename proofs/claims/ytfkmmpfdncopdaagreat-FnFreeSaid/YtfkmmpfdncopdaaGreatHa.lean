/- Walks over abstract states: cubes, codes and covers, both sides. -/
import Derived.Test.YtfkmmpfdncopdaaGreatHx
import Derived.Test.YtfkmmpfdncopdaaGreatWz
import Derived.Test.YtfkmmpfdncopdaaGreatWk
set_option linter.unusedSimpArgs false
set_option linter.unusedVariables false
set_option linter.unusedSectionVars false
namespace Go.Proofs.YtfkmmpfdncopdaaGreat
open Go.RowKit
set_option maxRecDepth 100000
set_option maxHeartbeats 4000000
def U5 (u:UInt8):Prop:=u=48∨u=49∨u=45
instance (u:UInt8):Decidable (U5 u):=inferInstanceAs (Decidable (_∨_))
def Q6 (s:ByteArray)(n:Int):Prop:=(∀u∈s.toList,U5 u)∧(s.size:Int)=n∧(1≤n∧n≤8)
instance (s:ByteArray) (n:Int):Decidable (Q6 s n):=inferInstanceAs (Decidable (_∧_))
def WI (s:ByteArray)(n:Int):Prop:=ZN s n∧(1≤n∧n≤8)
instance (s:ByteArray) (n:Int):Decidable (WI s n):=inferInstanceAs (Decidable (_∧_))
def Zp (n:Int)(l:List ByteArray):Prop:=(1≤n∧n≤8)∧l.length≤60∧∀c∈l,Q6 c n
instance (n:Int) (l:List ByteArray):Decidable (Zp n l):=inferInstanceAs (Decidable (_∧_))
def YO (cube code:ByteArray):Bool:=(List.range cube.size).all fun i=>decide (bAt cube (i:Int)=45)||decide (bAt cube (i:Int)=bAt code (i:Int))
section
variable {s t cube code c:ByteArray}{n:Int}{k j:Nat}{u v:UInt8}{l:List ByteArray}
theorem X7 (hB:∀j,j < k→∀c,s.toList[j]? =some c→U5 c)(hx:s[((k:Int)).toNat]? =some u)(h:U5 u):∀j,j < k+1→∀c,s.toList[j]? =some c→U5 c:=fun j hj d hd=>by
  by_cases e:j=k
  · subst e; rw[Jb hx] at hd; cases hd; exact h
  · exact hB j (by omega) d hd
theorem Qh6 (hx:s[((k:Int)).toNat]? =some u)(h1:¬u=48)(h2:¬u=49)(h3:¬u=45):false=decide (Q6 s n):=(az fun h=>by
  rcases h.1 u (ao (Jb hx)) with h | h | h
  · exact h1 h
  · exact h2 h
  · exact h3 h).symm
theorem QlO (hB:∀j,j < k→∀c,s.toList[j]? =some c→U5 c)(hk:s.size≤k):∀u∈s.toList,U5 u:=fun c hc=>by
  obtain ⟨j,hj⟩:=aM.1 hc
  have:=(aj.1 hj).1
  rw[YV] at this
  exact hB j (by omega) c hj
theorem QeD (hB:∀j,j < k→∀c,s.toList[j]? =some c→U5 c)(hk:s.size≤k)(h:(s.size:Int)=n):decide (1≤n∧n≤8)=decide (Q6 s n):=bQ.2 ⟨fun g=>⟨QlO hB hk,h,g⟩,fun g=>g.2.2⟩
theorem QiM (h:¬(s.size:Int)=n):false=decide (Q6 s n):=(az fun g=>h g.2.1).symm
theorem Qki (h:s.size=1):ibV s (bAt s 0)=0:=by
  have h1:=Qh8 (s:=s) (c:=bAt s 0)
  have h2:bAt s 0∈s.toList:=by
    have:s[(0:Nat)]? =some s[0]:=b5 s 0 (by omega)
    have e:bAt s 0=s[0]:=Q3 this
    rw[e]
    exact ao (Jb (k:=0) this)
  have h3:=Qhj.2 h2
  unfold ibV at*
  have:s.data.toList=[bAt s 0]:=by
    obtain ⟨⟨l⟩⟩:=s
    have hl:l.length=1:=h
    match l,hl with
    | [x],_=>rfl
  rw[this]; simp[Lib.indexByte]
theorem QlU (h:Q6 code n):(!decide (0≤ibV code (bAt ⟨#[45]⟩ 0)))=decide (WI code n):=by
  have e:bAt ⟨#[45]⟩ 0=45:=rfl
  rw[e,bP,bD,decide_eq_false_iff_not,Qhj,decide_eq_true_iff]
  constructor
  · intro g
    refine ⟨⟨fun u hu=> ?_,h.2.1⟩,h.2.2⟩
    rcases h.1 u hu with h1 | h1 | h1
    · exact .inl h1
    · exact .inr h1
    · subst h1; exact absurd hu g
  · intro g hu
    rcases g.1.1 _ hu with h1 | h1 <;> exact absurd h1 (by decide)
theorem Qmf (h:¬Q6 code n):false=decide (WI code n):=(az fun g=>h ⟨fun u hu=>(g.1.1 u hu).elim .inl fun h=> .inr (.inl h),g.1.2,g.2⟩).symm
theorem Qh4 (h:¬(1≤n∧n≤8)):false=decide (Zp n l):=(az fun g=>h g.1).symm
theorem QmU (h:¬(l.length:Int)≤60):false=decide (Zp n l):=(az fun g=>h (by have:=g.2.1; omega)).symm
theorem Qhv (hx:l[k]? =some c)(h:¬Q6 c n):false=decide (Zp n l):=(az fun g=>h (g.2.2 c (ao hx))).symm
theorem QjA (g:Q6 c n):Q6 c (c.size:Int):=⟨g.1,rfl,by have h1:=g.2.1; have h2:=g.2.2; omega⟩
theorem QmN (g:Q6 c (c.size:Int))(e:(c.size:Int)=n):Q6 c n:=⟨g.1,e,by have h2:=g.2.2; omega⟩
theorem QmO (hx:l[k]? =some c)(h:¬Q6 c (c.size:Int)):false=decide (Zp n l):=Qhv hx fun g=>h (QjA g)
theorem Qmt (hx:l[k]? =some c)(h:¬(c.size:Int)=n):false=decide (Zp n l):=Qhv hx fun g=>h g.2.1
theorem Qmi (hB:∀j,j < k→∀x,l[j]? =some x→Q6 x n)(hk:l.length≤k):∀c∈l,Q6 c n:=fun c hc=>by
  obtain ⟨j,hj⟩:=aM.1 hc
  exact hB j (be (aj.1 hj).1 hk) c hj
theorem Ql6 (h1:1≤n∧n≤8)(h2:(l.length:Int)≤60):(!(l.any fun c=> !decide (Q6 c n)))=decide (Zp n l):=by
  rw[bP,bD,cc,decide_eq_true_iff]
  exact ⟨fun g=>⟨h1,by omega,fun c hc=>by simpa using g c hc⟩,fun g c hc=>by simpa using g.2.2 c hc⟩
theorem QmJ (hB:∀j,j < k→∀x,l[j]? =some x→Q6 x n)(hk:l.length≤k)(h1:1≤n∧n≤8):decide ((l.length:Int)≤60)=decide (Zp n l):=bQ.2 ⟨fun g=>⟨h1,by omega,Qmi hB hk⟩,fun g=>by have:=g.2.1; omega⟩
theorem Qk0 (hk:k < cube.size)(h1:cube[((k:Int)).toNat]? =some u)(h2:code[((k:Int)).toNat]? =some v)(h3:¬u=45)(h4:¬u=v):false=YO cube code:=by
  symm
  unfold YO
  rw[List.all_eq_false]
  exact ⟨k,cr.2 hk,by rw[Q3 h1,Q3 h2]; simp[h3,h4]⟩
theorem Qib (hB:∀j,j < k→(bAt cube (j:Int)=45∨bAt cube (j:Int)=bAt code (j:Int)))(hk:cube.size≤k):true=YO cube code:=by
  symm
  unfold YO
  rw[aw]
  intro j hj
  have:=hB j (be (cr.1 hj) hk)
  simpa using this
theorem Jp (hB:∀j,j < k→(bAt cube (j:Int)=45∨bAt cube (j:Int)=bAt code (j:Int)))(h:bAt cube (k:Int)=45∨bAt cube (k:Int)=bAt code (k:Int)):∀j,j < k+1→(bAt cube (j:Int)=45∨bAt cube (j:Int)=bAt code (j:Int)):=fun j hj=>by
  by_cases e:j=k
  · subst e; exact h
  · exact hB j (by omega)
end
theorem XG (s:ByteArray)(substr:ByteArray)(h1:substr.size=1):FC Tryz.prog 306 [(false,[dS s]),(false,[dS substr])] [] 0 (QU (lI (ibV s (bAt substr 0)))):=by
 refine Qj Tryz.func306 rfl rfl Tryz.ntmps306 fun O_ hO w0_ N0_ X_ h0_ f0_=> ?_
 iterate 5 refine w_ ?_
 refine alS 14 fun hl1=> ?_
 refine lc (QI (Qa rfl) rfl QR) ?_
 iterate 8 refine w_ ?_
 cases hb2:(decide ((substr.size:Int)=0))
 ·have hb2':=ab hb2
  iterate 6 refine w_ ?_
  refine cd_ (fun hb3 hb3'=> ?_) fun hb3 hb3'=> ?_
  ·iterate 5 refine w_ ?_
   cases hb4:(decide ((substr.size:Int)=1))
   · exact absurd (hb4.symm.trans (show (decide ((substr.size:Int)=1))=true from aJ (by omega))) (by decide)
   ·have hb4':=ae hb4
    iterate 4 refine w_ ?_
    obtain ⟨c5,hc6⟩:∃z,substr[(0:Int).toNat]? =some z:=⟨_,b5 _ _ (by omega)⟩
    refine w_ ?_
    refine lc (dK (Qp3 s c5) Qgb) ?_
    iterate 2 refine w_ ?_
    refine Qb<|fqI hO ?_
    (rw[Q3 (by assumption)])
  ·iterate 3 refine w_ ?_
   refine Qb<|fqI hO ?_
   (subst_vars; exact (Qki h1).symm)
 · exact absurd (hb2.symm.trans (show (decide ((substr.size:Int)=0))=false from az (by omega))) (by decide)
theorem JH (s:ByteArray)(substr:ByteArray)(h1:substr.size=1):FC Tryz.prog 249 [(false,[dS s]),(false,[dS substr])] [] 0 (QU (lI (ibV s (bAt substr 0)))):=by
 refine Qj Tryz.func249 rfl rfl Tryz.ntmps249 fun O_ hO w0_ N0_ X_ h0_ f0_=> ?_
 iterate 6 refine w_ ?_
 refine lc (dK (XG s substr h1) Qfp) ?_
 iterate 2 refine w_ ?_
 refine Qb ?_
 exact fe_ hO
theorem UZ (s:ByteArray)(substr:ByteArray)(h1:substr.size=1):FC Tryz.prog 168 [(false,[dS s]),(false,[dS substr])] [] 0 (QU (lB (decide (0≤ibV s (bAt substr 0))))):=by
 refine Qj Tryz.func168 rfl rfl Tryz.ntmps168 fun O_ hO w0_ N0_ X_ h0_ f0_=> ?_
 iterate 6 refine w_ ?_
 refine lc (dK (JH s substr h1) QfM) ?_
 iterate 3 refine w_ ?_
 refine Qb<|fqB hO ?_
 rfl
theorem VV (cube:ByteArray)(n:Int):FC Tryz.prog 116 [(false,[dS cube]),(false,[dI n])] [] 0 (QU (lB (decide (Q6 cube n)))):=by
 refine Qj Tryz.func116 rfl rfl Tryz.ntmps116 fun O_ hO w0_ N0_ X_ h0_ f0_=> ?_
 refine acI 1 fun hi1=> ?_
 iterate 8 refine w_ ?_
 refine lpK cube.size (fun k=>∀j,j < k→∀c,cube.toList[j]? =some c→U5 c) (fun k=>⟨[(0,lf (dS cube)),(1,lI n),(5,lI (k:Int))],[]⟩) ((fun j hj=>absurd hj (bc j))) ?_ fun k hk2 hB=> ?_
 · exact Wk.of [] rfl ⟨rfl,rfl,rfl,trivial⟩ trivial rfl rfl
 iterate 4 refine w_ ?_
 refine alS 7 fun hl3=> ?_
 refine lc (QI (Qa rfl) rfl QR) ?_
 iterate 2 refine w_ ?_
 cases hb4:(decide ((k:Int) < (cube.size:Int)))
 ·have hb4':=ab hb4
  refine w_ ?_
  refine Qi ?_
  refine (?_:AC _ _ _ _ _)
  iterate 2 refine w_ ?_
  refine alS 28 fun hl5=> ?_
  refine lc (QI (Qa rfl) rfl QR) ?_
  iterate 3 refine w_ ?_
  cases hb6:(decide ((cube.size:Int)=n))
  ·have hb6':=ab hb6
   iterate 5 refine w_ ?_
   refine Qb<|fqB hO ?_
   exact QiM (by assumption)
  ·have hb6':=ae hb6
   refine w_ ?_
   refine lgy rfl rfl (dK (QX n 1 8) ZV) ?_
   iterate 3 refine w_ ?_
   refine Qb<|fqB hO ?_
   exact QeD hB (by omega) (by assumption)
 ·have hb4':=ae hb4
  iterate 7 refine w_ ?_
  obtain ⟨c7,hc8⟩:∃z,cube[((k:Int)).toNat]? =some z:=⟨_,b5 _ _ (by omega)⟩
  refine w_ ?_
  refine lc (QF (Qa rfl) (QK 48 rfl) rfl) ?_
  refine w_ ?_
  cases hb9:(!decide (c7=48))
  ·have hb9':(c7=48):=Qz hb9
   iterate 13 refine w_ ?_
   refine AC.skip ?_
   refine (?_:AC _ _ _ _ _)
   iterate 4 refine w_ ?_
   refine Qd ?_
   refine lK_ ((X7 hB (by assumption) (by first | exact .inl (by assumption) | exact .inr (.inl (by assumption)) | exact .inr (.inr (by assumption))))) ?_
   exact Wk.of [] rfl ⟨rfl,rfl,rfl,trivial⟩ trivial rfl rfl
  ·have hb9':¬(c7=48):=QN hb9
   iterate 3 refine w_ ?_
   refine lgy rfl rfl (QF (Qa rfl) (QK 49 rfl) rfl) ?_
   iterate 2 refine w_ ?_
   cases hb10:(!decide (c7=49))
   ·have hb10':(c7=49):=Qz hb10
    iterate 7 refine w_ ?_
    refine AC.skip ?_
    refine (?_:AC _ _ _ _ _)
    iterate 4 refine w_ ?_
    refine Qd ?_
    refine lK_ ((X7 hB (by assumption) (by first | exact .inl (by assumption) | exact .inr (.inl (by assumption)) | exact .inr (.inr (by assumption))))) ?_
    exact Wk.of [] rfl ⟨rfl,rfl,rfl,trivial⟩ trivial rfl rfl
   ·have hb10':¬(c7=49):=QN hb10
    iterate 3 refine w_ ?_
    refine lgy rfl rfl (QF (Qa rfl) (QK 45 rfl) rfl) ?_
    iterate 2 refine w_ ?_
    cases hb11:(!decide (c7=45))
    ·have hb11':(c7=45):=Qz hb11
     refine w_ ?_
     refine AC.skip ?_
     refine (?_:AC _ _ _ _ _)
     iterate 4 refine w_ ?_
     refine Qd ?_
     refine lK_ ((X7 hB (by assumption) (by first | exact .inl (by assumption) | exact .inr (.inl (by assumption)) | exact .inr (.inr (by assumption))))) ?_
     exact Wk.of [] rfl ⟨rfl,rfl,rfl,trivial⟩ trivial rfl rfl
    ·have hb11':¬(c7=45):=QN hb11
     iterate 4 refine w_ ?_
     refine Qb<|fqB hO ?_
     exact Qh6 (k:=k) (by assumption) (by assumption) (by assumption) (by assumption)
theorem Hi (s:ByteArray):FC Tryz.prog 119 [(false,[dS s])] [] 0 (QU (lB (decide (Q6 s (s.size:Int))))):=by
 refine Qj Tryz.func119 rfl rfl Tryz.ntmps119 fun O_ hO w0_ N0_ X_ h0_ f0_=> ?_
 iterate 8 refine w_ ?_
 refine lpK s.size (fun k=>∀j,j < k→∀c,s.toList[j]? =some c→U5 c) (fun k=>⟨[(0,lf (dS s)),(3,lI (k:Int))],[]⟩) ((fun j hj=>absurd hj (bc j))) ?_ fun k hk1 hB=> ?_
 · exact Wk.of [] rfl ⟨rfl,rfl,trivial⟩ trivial rfl rfl
 iterate 4 refine w_ ?_
 refine alS 5 fun hl2=> ?_
 refine lc (QI (Qa rfl) rfl QR) ?_
 iterate 2 refine w_ ?_
 cases hb3:(decide ((k:Int) < (s.size:Int)))
 ·have hb3':=ab hb3
  refine w_ ?_
  refine Qi ?_
  refine (?_:AC _ _ _ _ _)
  iterate 2 refine w_ ?_
  refine alS 26 fun hl4=> ?_
  refine lc (QI (Qa rfl) rfl QR) ?_
  refine lc (dK (Z7 (s.size:Int) 1 8) Yw) ?_
  iterate 2 refine w_ ?_
  refine Qb<|fqB hO ?_
  exact QeD hB (by omega) rfl
 ·have hb3':=ae hb3
  iterate 7 refine w_ ?_
  obtain ⟨c5,hc6⟩:∃z,s[((k:Int)).toNat]? =some z:=⟨_,b5 _ _ (by omega)⟩
  refine w_ ?_
  refine lc (QF (Qa rfl) (QK 48 rfl) rfl) ?_
  refine w_ ?_
  cases hb7:(!decide (c5=48))
  ·have hb7':(c5=48):=Qz hb7
   iterate 13 refine w_ ?_
   refine AC.skip ?_
   refine (?_:AC _ _ _ _ _)
   iterate 4 refine w_ ?_
   refine Qd ?_
   refine lK_ ((X7 hB (by assumption) (by first | exact .inl (by assumption) | exact .inr (.inl (by assumption)) | exact .inr (.inr (by assumption))))) ?_
   exact Wk.of [] rfl ⟨rfl,rfl,trivial⟩ trivial rfl rfl
  ·have hb7':¬(c5=48):=QN hb7
   iterate 3 refine w_ ?_
   refine lgy rfl rfl (QF (Qa rfl) (QK 49 rfl) rfl) ?_
   iterate 2 refine w_ ?_
   cases hb8:(!decide (c5=49))
   ·have hb8':(c5=49):=Qz hb8
    iterate 7 refine w_ ?_
    refine AC.skip ?_
    refine (?_:AC _ _ _ _ _)
    iterate 4 refine w_ ?_
    refine Qd ?_
    refine lK_ ((X7 hB (by assumption) (by first | exact .inl (by assumption) | exact .inr (.inl (by assumption)) | exact .inr (.inr (by assumption))))) ?_
    exact Wk.of [] rfl ⟨rfl,rfl,trivial⟩ trivial rfl rfl
   ·have hb8':¬(c5=49):=QN hb8
    iterate 3 refine w_ ?_
    refine lgy rfl rfl (QF (Qa rfl) (QK 45 rfl) rfl) ?_
    iterate 2 refine w_ ?_
    cases hb9:(!decide (c5=45))
    ·have hb9':(c5=45):=Qz hb9
     refine w_ ?_
     refine AC.skip ?_
     refine (?_:AC _ _ _ _ _)
     iterate 4 refine w_ ?_
     refine Qd ?_
     refine lK_ ((X7 hB (by assumption) (by first | exact .inl (by assumption) | exact .inr (.inl (by assumption)) | exact .inr (.inr (by assumption))))) ?_
     exact Wk.of [] rfl ⟨rfl,rfl,trivial⟩ trivial rfl rfl
    ·have hb9':¬(c5=45):=QN hb9
     iterate 4 refine w_ ?_
     refine Qb<|fqB hO ?_
     exact Qh6 (k:=k) (by assumption) (by assumption) (by assumption) (by assumption)
theorem Ug (code:ByteArray)(n:Int):FC Tryz.prog 76 [(false,[dS code]),(false,[dI n])] [] 0 (QU (lB (decide (WI code n)))):=by
 refine Qj Tryz.func76 rfl rfl Tryz.ntmps76 fun O_ hO w0_ N0_ X_ h0_ f0_=> ?_
 refine acI 1 fun hi1=> ?_
 iterate 6 refine w_ ?_
 refine lc (dK (VV code n) Qbm) ?_
 refine w_ ?_
 cases hb2:(decide (Q6 code n))
 ·have hb2':=ab hb2
  iterate 6 refine w_ ?_
  refine Qb<|fqB hO ?_
  exact Qmf (by assumption)
 ·have hb2':=ae hb2
  refine w_ ?_
  refine lgy rfl rfl (dK (UZ code (⟨#[45]⟩:ByteArray) rfl) Qgw) ?_
  iterate 4 refine w_ ?_
  refine Qb<|fqB hO ?_
  exact QlU (by assumption)
theorem Vx (cube:ByteArray)(n:Int):FC Tryz.prog 166 [(false,[dS cube]),(false,[.ptr 0 0])] [bx 0 3 [dI n]] 1 (Is (lB (!decide (Q6 cube n))) [bx 0 3 [dI n]]):=by
 refine Qj Tryz.func166 rfl rfl Tryz.ntmps166 fun O_ hO w0_ N0_ X_ h0_ f0_=> ?_
 iterate 6 refine w_ ?_
 refine alI 5 fun hi1=> ?_
 refine lc (dK (VV cube n) Qbm) ?_
 iterate 3 refine w_ ?_
 refine Qb ?_
 have e2:(!(decide (Q6 cube n)):Bool)=(!decide (Q6 cube n)):=by
  rfl
 exact fi_ [] hO ⟨rfl,trivial⟩ (h0:=(congrArg (fun z_=>lB z_) e2))
theorem Wu (l:List ByteArray)(n:Int):FC Tryz.prog 160 [(false,[.dat (.sl 9 .str) l]),(false,[.clo 166 [0]])] [bx 0 3 [dI n]] 1 (Is (lI (Zb (fun c=> !decide (Q6 c n)) l)) [bx 0 3 [dI n]]):=by
 refine Qj Tryz.func160 rfl rfl Tryz.ntmps160 fun O_ hO w0_ N0_ X_ h0_ f0_=> ?_
 iterate 6 refine w_ ?_
 refine alL 6 fun hl1=> ?_
 iterate 4 refine w_ ?_
 refine lpK l.length (fun k=>NoneTo (fun c=> !decide (Q6 c n)) l k) (fun k=>⟨[(0,lf (.dat (.sl 9 .str) l)),(1,lf (.clo 166 [0])),(7,lI (l.length:Int)),(8,lI (k:Int))],[bx 0 3 [dI n]]⟩) (NoneTo.zero) ?_ fun k hk2 hno=> ?_
 · exact Wk.of [] rfl ⟨rfl,rfl,rfl,rfl,trivial⟩ ⟨rfl,trivial⟩ rfl rfl
 iterate 4 refine w_ ?_
 cases hb3:(decide ((k:Int) < (l.length:Int)))
 ·have hb3':=ab hb3
  refine w_ ?_
  refine Qi ?_
  refine (?_:AC _ _ _ _ _)
  iterate 3 refine w_ ?_
  refine Qb ?_
  have e4:((-1):Int)=(Zb (fun c=> !decide (Q6 c n)) l):=by
   first | exact (hno.no (by omega)).symm
  exact fi_ [] hO ⟨rfl,trivial⟩ (h0:=(congrArg (fun z_=>lI z_) e4))
 ·have hb3':=ae hb3
  iterate 12 refine w_ ?_
  obtain ⟨x5,hx6⟩:∃z,l[k]? =some z:=⟨_,aa (by omega)⟩
  iterate 2 refine w_ ?_
  refine lc (Yb (args0:=[(false,[dS x5])]) (caps:=[0]) 1 [(0,0)] (Vx x5 n) Qg7 rfl (Qa rfl) rfl rfl ⟨_,_,rfl,(Qm rfl),rfl⟩ ⟨rfl,trivial⟩ rfl ⟨trivial,trivial⟩ (nlr rfl)) ?_
  refine w_ ?_
  cases hb7:(!decide (Q6 x5 n))
  ·have hb7':(Q6 x5 n):=Qz hb7
   refine w_ ?_
   refine AC.skip ?_
   refine (?_:AC _ _ _ _ _)
   iterate 3 refine w_ ?_
   refine Qd ?_
   refine lK_ (hno.step hx6 (by assumption)) ?_
   exact Wk.of [] rfl ⟨rfl,rfl,rfl,rfl,trivial⟩ ⟨rfl,trivial⟩ rfl rfl
  ·have hb7':¬(Q6 x5 n):=QN hb7
   iterate 5 refine w_ ?_
   refine Qb ?_
   have e8:((k:Int):Int)=(Zb (fun c=> !decide (Q6 c n)) l):=by
    exact (hno.at hx6 (by assumption)).symm
   exact fi_ [] hO ⟨rfl,trivial⟩ (h0:=(congrArg (fun z_=>lI z_) e8))
theorem XS (l:List ByteArray)(n:Int):FC Tryz.prog 72 [(false,[.dat (.sl 9 .str) l]),(false,[.clo 166 [0]])] [bx 0 3 [dI n]] 1 (Is (lB (l.any (fun c=> !decide (Q6 c n)))) [bx 0 3 [dI n]]):=by
 refine Qj Tryz.func72 rfl rfl Tryz.ntmps72 fun O_ hO w0_ N0_ X_ h0_ f0_=> ?_
 iterate 6 refine w_ ?_
 refine lc (dP 1 [] (Wu l n) Wi) ?_
 iterate 3 refine w_ ?_
 refine Qb ?_
 have e1:(decide (0≤(Zb (fun c=> !decide (Q6 c n)) l)):Bool)=(l.any (fun c=> !decide (Q6 c n))):=by
  exact Xz _ _
 exact fi_ [] hO ⟨rfl,trivial⟩ (h0:=(congrArg (fun z_=>lB z_) e1))
theorem XJ (n:Int)(l:List ByteArray):FC Tryz.prog 71 [(false,[dI n]),(false,[.dat (.sl 9 .str) l])] [] 0 (QU (lB (decide (Zp n l)))):=by
 refine Qj Tryz.func71 rfl rfl Tryz.ntmps71 fun O_ hO w0_ N0_ X_ h0_ f0_=> ?_
 refine acI 0 fun hi1=> ?_
 refine w_ ?_
 refine xbx 0 ?_
 iterate 4 refine w_ ?_
 refine lc (dK (QX n 1 8) ZV) ?_
 refine w_ ?_
 cases hb2:(decide (1≤n∧n≤8))
 ·have hb2':=ab hb2
  iterate 12 refine w_ ?_
  refine Qb<|fqB hO ?_
  exact Qh4 (by assumption)
 ·have hb2':=ae hb2
  refine w_ ?_
  refine alL 8 fun hl3=> ?_
  iterate 4 refine w_ ?_
  cases hb4:(decide ((l.length:Int)≤60))
  ·have hb4':=ab hb4
   iterate 7 refine w_ ?_
   refine Qb<|fqB hO ?_
   exact QmU (by assumption)
  ·have hb4':=ae hb4
   refine w_ ?_
   refine lgy rfl rfl (ZS ⟨_,_,rfl,(Qa rfl),rfl,rfl⟩ rfl) ?_
   refine lgy rfl rfl (dP 1 [] (XS l n) Us) ?_
   iterate 4 refine w_ ?_
   refine Qb<|fqB hO ?_
   exact Ql6 (by assumption) (by assumption)
theorem VH (n:Int)(l:List ByteArray):FC Tryz.prog 74 [(false,[dI n]),(false,[.dat (.sl 9 .str) l])] [] 0 (QU (lB (decide (Zp n l)))):=by
 refine Qj Tryz.func74 rfl rfl Tryz.ntmps74 fun O_ hO w0_ N0_ X_ h0_ f0_=> ?_
 refine acI 0 fun hi1=> ?_
 iterate 6 refine w_ ?_
 refine alL 7 fun hl2=> ?_
 iterate 4 refine w_ ?_
 refine lpK l.length (fun k=>∀j,j < k→∀x,l[j]? =some x→Q6 x n) (fun k=>⟨[(0,lI n),(1,lf (.dat (.sl 9 .str) l)),(7,lf (.dat (.sl 9 .str) l)),(8,lI (l.length:Int)),(9,lI (k:Int))],[]⟩) ((fun j hj=>absurd hj (bc j))) ?_ fun k hk3 hB=> ?_
 · exact Wk.of [] rfl ⟨rfl,rfl,rfl,rfl,rfl,trivial⟩ trivial rfl rfl
 iterate 4 refine w_ ?_
 cases hb4:(decide ((k:Int) < (l.length:Int)))
 ·have hb4':=ab hb4
  refine w_ ?_
  refine Qi ?_
  refine (?_:AC _ _ _ _ _)
  iterate 2 refine w_ ?_
  refine lc (dK (Z7 n 1 8) Yw) ?_
  refine w_ ?_
  cases hb5:(decide (1≤n∧n≤8))
  ·have hb5':=ab hb5
   iterate 6 refine w_ ?_
   refine Qb<|fqB hO ?_
   exact Qh4 (by assumption)
  ·have hb5':=ae hb5
   refine w_ ?_
   refine alL 26 fun hl6=> ?_
   iterate 5 refine w_ ?_
   refine Qb<|fqB hO ?_
   exact QmJ hB (by omega) (by assumption)
 ·have hb4':=ae hb4
  iterate 5 refine w_ ?_
  obtain ⟨x7,hx8⟩:∃z,l[k]? =some z:=⟨_,aa (by omega)⟩
  iterate 6 refine w_ ?_
  refine lc (dK (Hi x7) QgT) ?_
  iterate 2 refine w_ ?_
  cases hb9:(decide (Q6 x7 (x7.size:Int)))
  ·have hb9':=ab hb9
   iterate 10 refine w_ ?_
   refine Qb<|fqB hO ?_
   exact QmO hx8 (by assumption)
  ·have hb9':=ae hb9
   refine w_ ?_
   refine alS 17 fun hl10=> ?_
   refine lgy rfl rfl (QI (Qa rfl) rfl QR) ?_
   iterate 4 refine w_ ?_
   cases hb11:(!decide ((x7.size:Int)=n))
   ·have hb11':((x7.size:Int)=n):=Qz hb11
    refine w_ ?_
    refine AC.skip ?_
    refine (?_:AC _ _ _ _ _)
    iterate 3 refine w_ ?_
    refine Qd ?_
    refine lK_ ((Y5 hB hx8 (QmN (by assumption) (by assumption)))) ?_
    exact Wk.of [] rfl ⟨rfl,rfl,rfl,rfl,rfl,trivial⟩ trivial rfl rfl
   ·have hb11':¬((x7.size:Int)=n):=QN hb11
    iterate 4 refine w_ ?_
    refine Qb<|fqB hO ?_
    exact Qmt hx8 (by assumption)
theorem JP (cube:ByteArray)(code:ByteArray)(hl:cube.size≤code.size):FC Tryz.prog 170 [(false,[dS cube]),(false,[dS code])] [] 0 (QU (lB (YO cube code))):=by
 refine Qj Tryz.func170 rfl rfl Tryz.ntmps170 fun O_ hO w0_ N0_ X_ h0_ f0_=> ?_
 iterate 6 refine w_ ?_
 refine alS 6 fun hl1=> ?_
 refine lc (QI (Qa rfl) rfl QR) ?_
 iterate 3 refine w_ ?_
 refine lpK cube.size (fun k=>∀j,j < k→(bAt cube (j:Int)=45∨bAt cube (j:Int)=bAt code (j:Int))) (fun k=>⟨[(0,lf (dS cube)),(1,lf (dS code)),(7,lI (cube.size:Int)),(8,lI (k:Int))],[]⟩) ((fun j hj=>absurd hj (bc j))) ?_ fun k hk2 hB=> ?_
 · exact Wk.of [] rfl ⟨rfl,rfl,rfl,rfl,trivial⟩ trivial rfl rfl
 iterate 4 refine w_ ?_
 cases hb3:(decide ((k:Int) < (cube.size:Int)))
 ·have hb3':=ab hb3
  refine w_ ?_
  refine Qi ?_
  refine (?_:AC _ _ _ _ _)
  iterate 3 refine w_ ?_
  refine Qb<|fqB hO ?_
  exact Qib hB (by omega)
 ·have hb3':=ae hb3
  iterate 8 refine w_ ?_
  obtain ⟨c4,hc5⟩:∃z,cube[((k:Int)).toNat]? =some z:=⟨_,b5 _ _ (by omega)⟩
  cases hb6:(!decide (c4=45))
  ·have hb6':(c4=45):=Qz hb6
   apply dW (i3 11 _ _ _ (io 14 (lB false) :: i9 15 _ _ _ _ _ _ _ _ _ [])) [0,1,0,0,0,0,32,0,224,480,224,0,0]
   iterate 3 refine z_ ?_
   refine zz (fun _ h_=>ac (QA (QaB (QeC hb6)) (QF (h_.v rfl) (QK 45 rfl) rfl)) rfl) ?_
   iterate 9 refine z_ ?_
   exact zN
   refine w_ ?_
   refine AC.skip ?_
   refine (?_:AC _ _ _ _ _)
   iterate 3 refine w_ ?_
   refine Qd ?_
   refine lK_ ((Jp hB (by first | exact .inl ((Q3 (by assumption)).trans (by assumption)) | exact .inr ((Q3 (by assumption)).trans ((‹(_:UInt8)=_›).trans (Q3 (by assumption)).symm))))) ?_
   exact Wk.of [] rfl ⟨rfl,rfl,rfl,rfl,trivial⟩ trivial rfl rfl
  ·have hb6':¬(c4=45):=QN hb6
   obtain ⟨c7,hc8⟩:∃z,code[((k:Int)).toNat]? =some z:=⟨_,b5 _ _ (by omega)⟩
   apply dW (i3 11 _ _ _ (io 14 (lB true) :: i9 15 _ _ _ _ _ _ _ _ _ [])) [0,1,0,0,0,0,32,0,224,480,224,0,0]
   iterate 3 refine z_ ?_
   refine zz (fun _ h_=>ac (QA (QaB (QeC hb6)) (QF (h_.v rfl) (QK 45 rfl) rfl)) rfl) ?_
   iterate 9 refine z_ ?_
   exact zN
   cases hb9:(!decide (c4=c7))
   ·have hb9':(c4=c7):=Qz hb9
    refine w_ ?_
    refine AC.skip ?_
    refine (?_:AC _ _ _ _ _)
    iterate 3 refine w_ ?_
    refine Qd ?_
    refine lK_ ((Jp hB (by first | exact .inl ((Q3 (by assumption)).trans (by assumption)) | exact .inr ((Q3 (by assumption)).trans ((‹(_:UInt8)=_›).trans (Q3 (by assumption)).symm))))) ?_
    exact Wk.of [] rfl ⟨rfl,rfl,rfl,rfl,trivial⟩ trivial rfl rfl
   ·have hb9':¬(c4=c7):=QN hb9
    iterate 4 refine w_ ?_
    refine Qb<|fqB hO ?_
    exact Qk0 (k:=k) (by omega) (by assumption) (by assumption) (by assumption) (by assumption)
theorem Qa6 (cube:ByteArray)(code:ByteArray)(hl:cube.size≤code.size):FC Tryz.prog 211 [(false,[dS cube]),(false,[dS code])] [] 0 (QU (lB (YO cube code))):=by
 refine Qj Tryz.func211 rfl rfl Tryz.ntmps211 fun O_ hO w0_ N0_ X_ h0_ f0_=> ?_
 iterate 8 refine w_ ?_
 refine lpK cube.size (fun k=>∀j,j < k→(bAt cube (j:Int)=45∨bAt cube (j:Int)=bAt code (j:Int))) (fun k=>⟨[(0,lf (dS cube)),(1,lf (dS code)),(5,lI (k:Int))],[]⟩) ((fun j hj=>absurd hj (bc j))) ?_ fun k hk1 hB=> ?_
 · exact Wk.of [] rfl ⟨rfl,rfl,rfl,trivial⟩ trivial rfl rfl
 iterate 4 refine w_ ?_
 refine alS 7 fun hl2=> ?_
 refine lc (QI (Qa rfl) rfl QR) ?_
 iterate 2 refine w_ ?_
 cases hb3:(decide ((k:Int) < (cube.size:Int)))
 ·have hb3':=ab hb3
  refine w_ ?_
  refine Qi ?_
  refine (?_:AC _ _ _ _ _)
  iterate 3 refine w_ ?_
  refine Qb<|fqB hO ?_
  exact Qib hB (by omega)
 ·have hb3':=ae hb3
  iterate 4 refine w_ ?_
  obtain ⟨c4,hc5⟩:∃z,cube[((k:Int)).toNat]? =some z:=⟨_,b5 _ _ (by omega)⟩
  cases hb6:(!decide (c4=45))
  ·have hb6':(c4=45):=Qz hb6
   apply dW (i3 12 _ _ _ (io 15 (lB false) :: i9 16 _ _ _ _ _ _ _ _ _ [])) [0,1,0,0,0,0,32,0,224,480,224,0,0]
   iterate 3 refine z_ ?_
   refine zz (fun _ h_=>ac (QA (QaB (QeC hb6)) (QF (h_.v rfl) (QK 45 rfl) rfl)) rfl) ?_
   iterate 9 refine z_ ?_
   exact zN
   refine w_ ?_
   refine AC.skip ?_
   refine (?_:AC _ _ _ _ _)
   iterate 4 refine w_ ?_
   refine Qd ?_
   refine lK_ ((Jp hB (by first | exact .inl ((Q3 (by assumption)).trans (by assumption)) | exact .inr ((Q3 (by assumption)).trans ((‹(_:UInt8)=_›).trans (Q3 (by assumption)).symm))))) ?_
   exact Wk.of [] rfl ⟨rfl,rfl,rfl,trivial⟩ trivial rfl rfl
  ·have hb6':¬(c4=45):=QN hb6
   obtain ⟨c7,hc8⟩:∃z,code[((k:Int)).toNat]? =some z:=⟨_,b5 _ _ (by omega)⟩
   apply dW (i3 12 _ _ _ (io 15 (lB true) :: i9 16 _ _ _ _ _ _ _ _ _ [])) [0,1,0,0,0,0,32,0,224,480,224,0,0]
   iterate 3 refine z_ ?_
   refine zz (fun _ h_=>ac (QA (QaB (QeC hb6)) (QF (h_.v rfl) (QK 45 rfl) rfl)) rfl) ?_
   iterate 9 refine z_ ?_
   exact zN
   cases hb9:(!decide (c4=c7))
   ·have hb9':(c4=c7):=Qz hb9
    refine w_ ?_
    refine AC.skip ?_
    refine (?_:AC _ _ _ _ _)
    iterate 4 refine w_ ?_
    refine Qd ?_
    refine lK_ ((Jp hB (by first | exact .inl ((Q3 (by assumption)).trans (by assumption)) | exact .inr ((Q3 (by assumption)).trans ((‹(_:UInt8)=_›).trans (Q3 (by assumption)).symm))))) ?_
    exact Wk.of [] rfl ⟨rfl,rfl,rfl,trivial⟩ trivial rfl rfl
   ·have hb9':¬(c4=c7):=QN hb9
    iterate 4 refine w_ ?_
    refine Qb<|fqB hO ?_
    exact Qk0 (k:=k) (by omega) (by assumption) (by assumption) (by assumption) (by assumption)
theorem JG (cube:ByteArray)(code:ByteArray)(hl:cube.size≤code.size):FC Tryz.prog 169 [(false,[dS cube]),(false,[.ptr 0 0])] [bx 0 9 [dS code]] 1 (Is (lB (YO cube code)) [bx 0 9 [dS code]]):=by
 refine Qj Tryz.func169 rfl rfl Tryz.ntmps169 fun O_ hO w0_ N0_ X_ h0_ f0_=> ?_
 iterate 6 refine w_ ?_
 refine lc (dK (JP cube code hl) Qf2) ?_
 iterate 2 refine w_ ?_
 refine Qb ?_
 exact fi_ [] hO ⟨rfl,trivial⟩
theorem WV (l:List ByteArray)(code:ByteArray)(hl:∀c∈l,c.size≤code.size):FC Tryz.prog 160 [(false,[.dat (.sl 9 .str) l]),(false,[.clo 169 [0]])] [bx 0 9 [dS code]] 1 (Is (lI (Zb (fun c=>YO c code) l)) [bx 0 9 [dS code]]):=by
 refine Qj Tryz.func160 rfl rfl Tryz.ntmps160 fun O_ hO w0_ N0_ X_ h0_ f0_=> ?_
 iterate 6 refine w_ ?_
 refine alL 6 fun hl1=> ?_
 iterate 4 refine w_ ?_
 refine lpK l.length (fun k=>NoneTo (fun c=>YO c code) l k) (fun k=>⟨[(0,lf (.dat (.sl 9 .str) l)),(1,lf (.clo 169 [0])),(7,lI (l.length:Int)),(8,lI (k:Int))],[bx 0 9 [dS code]]⟩) (NoneTo.zero) ?_ fun k hk2 hno=> ?_
 · exact Wk.of [] rfl ⟨rfl,rfl,rfl,rfl,trivial⟩ ⟨rfl,trivial⟩ rfl rfl
 iterate 4 refine w_ ?_
 cases hb3:(decide ((k:Int) < (l.length:Int)))
 ·have hb3':=ab hb3
  refine w_ ?_
  refine Qi ?_
  refine (?_:AC _ _ _ _ _)
  iterate 3 refine w_ ?_
  refine Qb ?_
  have e4:((-1):Int)=(Zb (fun c=>YO c code) l):=by
   first | exact (hno.no (by omega)).symm
  exact fi_ [] hO ⟨rfl,trivial⟩ (h0:=(congrArg (fun z_=>lI z_) e4))
 ·have hb3':=ae hb3
  iterate 12 refine w_ ?_
  obtain ⟨x5,hx6⟩:∃z,l[k]? =some z:=⟨_,aa (by omega)⟩
  iterate 2 refine w_ ?_
  refine lc (Yb (args0:=[(false,[dS x5])]) (caps:=[0]) 1 [(0,0)] (JG x5 code (hl _ (ao hx6))) QgM rfl (Qa rfl) rfl rfl ⟨_,_,rfl,(Qm rfl),rfl⟩ ⟨rfl,trivial⟩ rfl ⟨trivial,trivial⟩ (nlr rfl)) ?_
  refine w_ ?_
  cases hb7:(YO x5 code)
  ·refine w_ ?_
   refine AC.skip ?_
   refine (?_:AC _ _ _ _ _)
   iterate 3 refine w_ ?_
   refine Qd ?_
   refine lK_ (hno.step hx6 (by assumption)) ?_
   exact Wk.of [] rfl ⟨rfl,rfl,rfl,rfl,trivial⟩ ⟨rfl,trivial⟩ rfl rfl
  ·iterate 5 refine w_ ?_
   refine Qb ?_
   have e8:((k:Int):Int)=(Zb (fun c=>YO c code) l):=by
    exact (hno.at hx6 (by assumption)).symm
   exact fi_ [] hO ⟨rfl,trivial⟩ (h0:=(congrArg (fun z_=>lI z_) e8))
theorem X8 (l:List ByteArray)(code:ByteArray)(hl:∀c∈l,c.size≤code.size):FC Tryz.prog 72 [(false,[.dat (.sl 9 .str) l]),(false,[.clo 169 [0]])] [bx 0 9 [dS code]] 1 (Is (lB (l.any (fun c=>YO c code))) [bx 0 9 [dS code]]):=by
 refine Qj Tryz.func72 rfl rfl Tryz.ntmps72 fun O_ hO w0_ N0_ X_ h0_ f0_=> ?_
 iterate 6 refine w_ ?_
 refine lc (dP 1 [] (WV l code hl) Wi) ?_
 iterate 3 refine w_ ?_
 refine Qb ?_
 have e1:(decide (0≤(Zb (fun c=>YO c code) l)):Bool)=(l.any (fun c=>YO c code)):=by
  exact Xz _ _
 exact fi_ [] hO ⟨rfl,trivial⟩ (h0:=(congrArg (fun z_=>lB z_) e1))
theorem Qa8 (l:List ByteArray)(code:ByteArray)(hl:∀c∈l,c.size≤code.size):FC Tryz.prog 77 [(false,[.dat (.sl 9 .str) l]),(false,[dS code])] [] 0 (QU (lB (l.any (fun c=>YO c code)))):=by
 refine Qj Tryz.func77 rfl rfl Tryz.ntmps77 fun O_ hO w0_ N0_ X_ h0_ f0_=> ?_
 refine w_ ?_
 refine xbx 0 ?_
 iterate 4 refine w_ ?_
 refine lc (ZS ⟨_,_,rfl,(Qa rfl),rfl,rfl⟩ rfl) ?_
 refine lc (dP 1 [] (X8 l code hl) Us) ?_
 iterate 2 refine w_ ?_
 refine Qb ?_
 exact fe_ hO
theorem QbK (l:List ByteArray)(code:ByteArray)(hl:∀c∈l,c.size≤code.size):FC Tryz.prog 167 [(false,[.dat (.sl 9 .str) l]),(false,[dS code])] [] 0 (QU (lB (l.any (fun c=>YO c code)))):=by
 refine Qj Tryz.func167 rfl rfl Tryz.ntmps167 fun O_ hO w0_ N0_ X_ h0_ f0_=> ?_
 iterate 6 refine w_ ?_
 refine alL 7 fun hl1=> ?_
 iterate 4 refine w_ ?_
 refine lpK l.length (fun k=>NoneTo (fun c=>YO c code) l k) (fun k=>⟨[(1,lf (dS code)),(7,lf (.dat (.sl 9 .str) l)),(8,lI (l.length:Int)),(9,lI (k:Int))],[]⟩) (NoneTo.zero) ?_ fun k hk2 hno=> ?_
 · exact Wk.of [] rfl ⟨rfl,rfl,rfl,rfl,trivial⟩ trivial rfl rfl
 iterate 4 refine w_ ?_
 cases hb3:(decide ((k:Int) < (l.length:Int)))
 ·have hb3':=ab hb3
  refine w_ ?_
  refine Qi ?_
  refine (?_:AC _ _ _ _ _)
  iterate 3 refine w_ ?_
  refine Qb<|fqB hO ?_
  first | exact (hno.any_no (by omega)).symm
 ·have hb3':=ae hb3
  iterate 5 refine w_ ?_
  obtain ⟨x4,hx5⟩:∃z,l[k]? =some z:=⟨_,aa (by omega)⟩
  iterate 7 refine w_ ?_
  refine lc (dK (Qa6 x4 code (hl _ (ao hx5))) QfP) ?_
  refine w_ ?_
  cases hb6:(YO x4 code)
  ·refine w_ ?_
   refine AC.skip ?_
   refine (?_:AC _ _ _ _ _)
   iterate 3 refine w_ ?_
   refine Qd ?_
   refine lK_ (hno.step hx5 (by assumption)) ?_
   exact Wk.of [] rfl ⟨rfl,rfl,rfl,rfl,trivial⟩ trivial rfl rfl
  ·iterate 4 refine w_ ?_
   refine Qb<|fqB hO ?_
   exact (bR.2 ⟨_,ao hx5,by assumption⟩).symm
end Go.Proofs.YtfkmmpfdncopdaaGreat
