/- Walks over abstract states: cubes, codes and covers, both sides. -/
import Derived.Test.YtgpdhgadmjfokaaGreatHHx
import Derived.Test.YtgpdhgadmjfokaaGreatHWz
import Derived.Test.YtgpdhgadmjfokaaGreatHWk
set_option linter.unusedSimpArgs false
set_option linter.unusedVariables false
set_option linter.unusedSectionVars false
namespace Go.Proofs.YtgpdhgadmjfokaaGreat
open Go.RowKit
set_option maxRecDepth 100000
set_option maxHeartbeats 4000000
def U6 (u:UInt8):Prop:=u=48∨u=49∨u=45
instance (u:UInt8):Decidable (U6 u):=inferInstanceAs (Decidable (_∨_))
def Zb (s:ByteArray)(n:Int):Prop:=(∀u∈s.toList,U6 u)∧(s.size:Int)=n∧(1≤n∧n≤8)
instance (s:ByteArray) (n:Int):Decidable (Zb s n):=inferInstanceAs (Decidable (_∧_))
def WM (s:ByteArray)(n:Int):Prop:=ZN s n∧(1≤n∧n≤8)
instance (s:ByteArray) (n:Int):Decidable (WM s n):=inferInstanceAs (Decidable (_∧_))
def Zr (n:Int)(l:List ByteArray):Prop:=(1≤n∧n≤8)∧l.length≤60∧∀c∈l,Zb c n
instance (n:Int) (l:List ByteArray):Decidable (Zr n l):=inferInstanceAs (Decidable (_∧_))
def YQ (cube code:ByteArray):Bool:=(List.range cube.size).all fun i=>decide (bAt cube (i:Int)=45)||decide (bAt cube (i:Int)=bAt code (i:Int))
section
variable {s t cube code c:ByteArray}{n:Int}{k j:Nat}{u v:UInt8}{l:List ByteArray}
theorem X6 (hB:∀j,j < k→∀c,s.toList[j]? =some c→U6 c)(hx:s[((k:Int)).toNat]? =some u)(h:U6 u):∀j,j < k+1→∀c,s.toList[j]? =some c→U6 c:=fun j hj d hd=>by
  by_cases e:j=k
  · subst e; rw[Jt hx] at hd; cases hd; exact h
  · exact hB j (by omega) d hd
theorem K9 (hx:s[((k:Int)).toNat]? =some u)(h1:¬u=48)(h2:¬u=49)(h3:¬u=45):false=decide (Zb s n):=(az fun h=>by
  rcases h.1 u (ao (Jt hx)) with h | h | h
  · exact h1 h
  · exact h2 h
  · exact h3 h).symm
theorem QlH (hB:∀j,j < k→∀c,s.toList[j]? =some c→U6 c)(hk:s.size≤k):∀u∈s.toList,U6 u:=fun c hc=>by
  obtain ⟨j,hj⟩:=aM.1 hc
  have:=(aj.1 hj).1
  rw[YW] at this
  exact hB j (by omega) c hj
theorem V4 (hB:∀j,j < k→∀c,s.toList[j]? =some c→U6 c)(hk:s.size≤k)(h:(s.size:Int)=n):decide (1≤n∧n≤8)=decide (Zb s n):=bQ.2 ⟨fun g=>⟨QlH hB hk,h,g⟩,fun g=>g.2.2⟩
theorem JZ (h:¬(s.size:Int)=n):false=decide (Zb s n):=(az fun g=>h g.2.1).symm
theorem Qfv (h:s.size=1):ibV s (bAt s 0)=0:=by
  have h1:=QhX (s:=s) (c:=bAt s 0)
  have h2:bAt s 0∈s.toList:=by
    have:s[(0:Nat)]? =some s[0]:=b6 s 0 (by omega)
    have e:bAt s 0=s[0]:=Q3 this
    rw[e]
    exact ao (Jt (k:=0) this)
  have h3:=Qh1.2 h2
  unfold ibV at*
  have:s.data.toList=[bAt s 0]:=by
    obtain ⟨⟨l⟩⟩:=s
    have hl:l.length=1:=h
    match l,hl with
    | [x],_=>rfl
  rw[this]; simp[Lib.indexByte]
theorem QeI (h:Zb code n):(!decide (0≤ibV code (bAt ⟨#[45]⟩ 0)))=decide (WM code n):=by
  have e:bAt ⟨#[45]⟩ 0=45:=rfl
  rw[e,bu,bG,decide_eq_false_iff_not,Qh1,decide_eq_true_iff]
  constructor
  · intro g
    refine ⟨⟨fun u hu=> ?_,h.2.1⟩,h.2.2⟩
    rcases h.1 u hu with h1 | h1 | h1
    · exact .inl h1
    · exact .inr h1
    · subst h1; exact absurd hu g
  · intro g hu
    rcases g.1.1 _ hu with h1 | h1 <;> exact absurd h1 (by decide)
theorem QhZ (h:¬Zb code n):false=decide (WM code n):=(az fun g=>h ⟨fun u hu=>(g.1.1 u hu).elim .inl fun h=> .inr (.inl h),g.1.2,g.2⟩).symm
theorem VD (h:¬(1≤n∧n≤8)):false=decide (Zr n l):=(az fun g=>h g.1).symm
theorem QdY (h:¬(l.length:Int)≤60):false=decide (Zr n l):=(az fun g=>h (by have:=g.2.1; omega)).symm
theorem Qiq (hx:l[k]? =some c)(h:¬Zb c n):false=decide (Zr n l):=(az fun g=>h (g.2.2 c (ao hx))).symm
theorem Qkc (g:Zb c n):Zb c (c.size:Int):=⟨g.1,rfl,by have h1:=g.2.1; have h2:=g.2.2; omega⟩
theorem Qnw (g:Zb c (c.size:Int))(e:(c.size:Int)=n):Zb c n:=⟨g.1,e,by have h2:=g.2.2; omega⟩
theorem QiN (hx:l[k]? =some c)(h:¬Zb c (c.size:Int)):false=decide (Zr n l):=Qiq hx fun g=>h (Qkc g)
theorem QhT (hx:l[k]? =some c)(h:¬(c.size:Int)=n):false=decide (Zr n l):=Qiq hx fun g=>h g.2.1
theorem Qm7 (hB:∀j,j < k→∀x,l[j]? =some x→Zb x n)(hk:l.length≤k):∀c∈l,Zb c n:=fun c hc=>by
  obtain ⟨j,hj⟩:=aM.1 hc
  exact hB j (bf (aj.1 hj).1 hk) c hj
theorem QdL (h1:1≤n∧n≤8)(h2:(l.length:Int)≤60):(!(l.any fun c=> !decide (Zb c n)))=decide (Zr n l):=by
  rw[bu,bG,ce,decide_eq_true_iff]
  exact ⟨fun g=>⟨h1,by omega,fun c hc=>by simpa using g c hc⟩,fun g c hc=>by simpa using g.2.2 c hc⟩
theorem HO (hB:∀j,j < k→∀x,l[j]? =some x→Zb x n)(hk:l.length≤k)(h1:1≤n∧n≤8):decide ((l.length:Int)≤60)=decide (Zr n l):=bQ.2 ⟨fun g=>⟨h1,by omega,Qm7 hB hk⟩,fun g=>by have:=g.2.1; omega⟩
theorem QdE (hk:k < cube.size)(h1:cube[((k:Int)).toNat]? =some u)(h2:code[((k:Int)).toNat]? =some v)(h3:¬u=45)(h4:¬u=v):false=YQ cube code:=by
  symm
  unfold YQ
  rw[List.all_eq_false]
  exact ⟨k,cv.2 hk,by rw[Q3 h1,Q3 h2]; simp[h3,h4]⟩
theorem Qac (hB:∀j,j < k→(bAt cube (j:Int)=45∨bAt cube (j:Int)=bAt code (j:Int)))(hk:cube.size≤k):true=YQ cube code:=by
  symm
  unfold YQ
  rw[aw]
  intro j hj
  have:=hB j (bf (cv.1 hj) hk)
  simpa using this
theorem KP (hB:∀j,j < k→(bAt cube (j:Int)=45∨bAt cube (j:Int)=bAt code (j:Int)))(h:bAt cube (k:Int)=45∨bAt cube (k:Int)=bAt code (k:Int)):∀j,j < k+1→(bAt cube (j:Int)=45∨bAt cube (j:Int)=bAt code (j:Int)):=fun j hj=>by
  by_cases e:j=k
  · subst e; exact h
  · exact hB j (by omega)
end
theorem XB (s:ByteArray)(substr:ByteArray)(h1:substr.size=1):FC Tryz.prog 441 [(false,[dS s]),(false,[dS substr])] [] 0 (QV (lI (ibV s (bAt substr 0)))):=by
 refine Qj Tryz.func441 rfl rfl Tryz.ntmps441 fun O_ hO w0_ N0_ X_ h0_ f0_=> ?_
 iterate 5 refine w_ ?_
 refine alS 14 fun hl1=> ?_
 refine lc (QJ (Qa rfl) rfl QT) ?_
 iterate 8 refine w_ ?_
 cases hb2:(decide ((substr.size:Int)=0))
 ·have hb2':=ab hb2
  iterate 6 refine w_ ?_
  refine cd_ (fun hb3 hb3'=> ?_) fun hb3 hb3'=> ?_
  ·iterate 5 refine w_ ?_
   cases hb4:(decide ((substr.size:Int)=1))
   · exact absurd (hb4.symm.trans (show (decide ((substr.size:Int)=1))=true from aJ (by omega))) (by decide)
   ·have hb4':=ae hb4
    iterate 4 refine w_ ?_
    obtain ⟨c5,hc6⟩:∃z,substr[(0:Int).toNat]? =some z:=⟨_,b6 _ _ (by omega)⟩
    refine w_ ?_
    refine lc (dK (Qqg s c5) Qgk) ?_
    iterate 2 refine w_ ?_
    refine Qb<|fqI hO ?_
    first | (subst_vars; exact (Qfv h1).symm) | (rw[Q3 (by assumption)]) | rfl
  ·iterate 3 refine w_ ?_
   refine Qb<|fqI hO ?_
   first | (subst_vars; exact (Qfv h1).symm) | (rw[Q3 (by assumption)]) | rfl
 · exact absurd (hb2.symm.trans (show (decide ((substr.size:Int)=0))=false from az (by omega))) (by decide)
theorem JQ (s:ByteArray)(substr:ByteArray)(h1:substr.size=1):FC Tryz.prog 387 [(false,[dS s]),(false,[dS substr])] [] 0 (QV (lI (ibV s (bAt substr 0)))):=by
 refine Qj Tryz.func387 rfl rfl Tryz.ntmps387 fun O_ hO w0_ N0_ X_ h0_ f0_=> ?_
 iterate 6 refine w_ ?_
 refine lc (dK (XB s substr h1) QgV) ?_
 iterate 2 refine w_ ?_
 refine Qb ?_
 exact fe_ hO
theorem UW (s:ByteArray)(substr:ByteArray)(h1:substr.size=1):FC Tryz.prog 292 [(false,[dS s]),(false,[dS substr])] [] 0 (QV (lB (decide (0≤ibV s (bAt substr 0))))):=by
 refine Qj Tryz.func292 rfl rfl Tryz.ntmps292 fun O_ hO w0_ N0_ X_ h0_ f0_=> ?_
 iterate 6 refine w_ ?_
 refine lc (dK (JQ s substr h1) QgN) ?_
 iterate 3 refine w_ ?_
 refine Qb<|fqB hO ?_
 first | rfl | (simp_all; done) | (rw[bu]; simp; omega) | (simp_all; omega) | (rw[bu]; simp_all; omega)
theorem Uf (cube:ByteArray)(n:Int):FC Tryz.prog 289 [(false,[dS cube]),(false,[dI n])] [] 0 (QV (lB (decide (Zb cube n)))):=by
 refine Qj Tryz.func289 rfl rfl Tryz.ntmps289 fun O_ hO w0_ N0_ X_ h0_ f0_=> ?_
 refine acI 1 fun hi1=> ?_
 iterate 8 refine w_ ?_
 refine lpK cube.size (fun k=>∀j,j < k→∀c,cube.toList[j]? =some c→U6 c) (fun k=>⟨[(0,lf (dS cube)),(1,lI n),(5,lI (k:Int))],[]⟩) ((fun j hj=>absurd hj (bc j))) ?_ fun k hk2 hB=> ?_
 · exact Wk.of [] rfl ⟨rfl,rfl,rfl,trivial⟩ trivial rfl rfl
 iterate 4 refine w_ ?_
 refine alS 7 fun hl3=> ?_
 refine lc (QJ (Qa rfl) rfl QT) ?_
 iterate 2 refine w_ ?_
 cases hb4:(decide ((k:Int) < (cube.size:Int)))
 ·have hb4':=ab hb4
  refine w_ ?_
  refine Qi ?_
  refine (?_:AC _ _ _ _ _)
  iterate 2 refine w_ ?_
  refine alS 28 fun hl5=> ?_
  refine lc (QJ (Qa rfl) rfl QT) ?_
  iterate 3 refine w_ ?_
  cases hb6:(decide ((cube.size:Int)=n))
  ·have hb6':=ab hb6
   iterate 5 refine w_ ?_
   refine Qb<|fqB hO ?_
   first | exact K9 (k:=k) (by assumption) (by assumption) (by assumption) (by assumption) | exact V4 hB (by omega) (by assumption) | exact JZ (by assumption)
  ·have hb6':=ae hb6
   refine w_ ?_
   refine lgy rfl rfl (dK (QZ n 1 8) ZE) ?_
   iterate 3 refine w_ ?_
   refine Qb<|fqB hO ?_
   first | exact K9 (k:=k) (by assumption) (by assumption) (by assumption) (by assumption) | exact V4 hB (by omega) (by assumption) | exact JZ (by assumption)
 ·have hb4':=ae hb4
  iterate 7 refine w_ ?_
  obtain ⟨c7,hc8⟩:∃z,cube[((k:Int)).toNat]? =some z:=⟨_,b6 _ _ (by omega)⟩
  refine w_ ?_
  refine lc (QH (Qa rfl) (QM 48 rfl) rfl) ?_
  refine w_ ?_
  cases hb9:(!decide (c7=48))
  ·have hb9':(c7=48):=QA hb9
   iterate 13 refine w_ ?_
   refine AC.skip ?_
   refine (?_:AC _ _ _ _ _)
   iterate 4 refine w_ ?_
   refine Qd ?_
   refine lK_ ((X6 hB (by assumption) (by first | exact .inl (by assumption) | exact .inr (.inl (by assumption)) | exact .inr (.inr (by assumption))))) ?_
   exact Wk.of [] rfl ⟨rfl,rfl,rfl,trivial⟩ trivial rfl rfl
  ·have hb9':¬(c7=48):=QP hb9
   iterate 3 refine w_ ?_
   refine lgy rfl rfl (QH (Qa rfl) (QM 49 rfl) rfl) ?_
   iterate 2 refine w_ ?_
   cases hb10:(!decide (c7=49))
   ·have hb10':(c7=49):=QA hb10
    iterate 7 refine w_ ?_
    refine AC.skip ?_
    refine (?_:AC _ _ _ _ _)
    iterate 4 refine w_ ?_
    refine Qd ?_
    refine lK_ ((X6 hB (by assumption) (by first | exact .inl (by assumption) | exact .inr (.inl (by assumption)) | exact .inr (.inr (by assumption))))) ?_
    exact Wk.of [] rfl ⟨rfl,rfl,rfl,trivial⟩ trivial rfl rfl
   ·have hb10':¬(c7=49):=QP hb10
    iterate 3 refine w_ ?_
    refine lgy rfl rfl (QH (Qa rfl) (QM 45 rfl) rfl) ?_
    iterate 2 refine w_ ?_
    cases hb11:(!decide (c7=45))
    ·have hb11':(c7=45):=QA hb11
     refine w_ ?_
     refine AC.skip ?_
     refine (?_:AC _ _ _ _ _)
     iterate 4 refine w_ ?_
     refine Qd ?_
     refine lK_ ((X6 hB (by assumption) (by first | exact .inl (by assumption) | exact .inr (.inl (by assumption)) | exact .inr (.inr (by assumption))))) ?_
     exact Wk.of [] rfl ⟨rfl,rfl,rfl,trivial⟩ trivial rfl rfl
    ·have hb11':¬(c7=45):=QP hb11
     iterate 4 refine w_ ?_
     refine Qb<|fqB hO ?_
     first | exact K9 (k:=k) (by assumption) (by assumption) (by assumption) (by assumption) | exact V4 hB (by omega) (by assumption) | exact JZ (by assumption)
theorem Hu (s:ByteArray):FC Tryz.prog 290 [(false,[dS s])] [] 0 (QV (lB (decide (Zb s (s.size:Int))))):=by
 refine Qj Tryz.func290 rfl rfl Tryz.ntmps290 fun O_ hO w0_ N0_ X_ h0_ f0_=> ?_
 iterate 8 refine w_ ?_
 refine lpK s.size (fun k=>∀j,j < k→∀c,s.toList[j]? =some c→U6 c) (fun k=>⟨[(0,lf (dS s)),(3,lI (k:Int))],[]⟩) ((fun j hj=>absurd hj (bc j))) ?_ fun k hk1 hB=> ?_
 · exact Wk.of [] rfl ⟨rfl,rfl,trivial⟩ trivial rfl rfl
 iterate 4 refine w_ ?_
 refine alS 5 fun hl2=> ?_
 refine lc (QJ (Qa rfl) rfl QT) ?_
 iterate 2 refine w_ ?_
 cases hb3:(decide ((k:Int) < (s.size:Int)))
 ·have hb3':=ab hb3
  refine w_ ?_
  refine Qi ?_
  refine (?_:AC _ _ _ _ _)
  iterate 2 refine w_ ?_
  refine alS 26 fun hl4=> ?_
  refine lc (QJ (Qa rfl) rfl QT) ?_
  refine lc (dK (Z8 (s.size:Int) 1 8) YB) ?_
  iterate 2 refine w_ ?_
  refine Qb<|fqB hO ?_
  first | exact K9 (k:=k) (by assumption) (by assumption) (by assumption) (by assumption) | exact V4 hB (by omega) rfl
 ·have hb3':=ae hb3
  iterate 7 refine w_ ?_
  obtain ⟨c5,hc6⟩:∃z,s[((k:Int)).toNat]? =some z:=⟨_,b6 _ _ (by omega)⟩
  refine w_ ?_
  refine lc (QH (Qa rfl) (QM 48 rfl) rfl) ?_
  refine w_ ?_
  cases hb7:(!decide (c5=48))
  ·have hb7':(c5=48):=QA hb7
   iterate 13 refine w_ ?_
   refine AC.skip ?_
   refine (?_:AC _ _ _ _ _)
   iterate 4 refine w_ ?_
   refine Qd ?_
   refine lK_ ((X6 hB (by assumption) (by first | exact .inl (by assumption) | exact .inr (.inl (by assumption)) | exact .inr (.inr (by assumption))))) ?_
   exact Wk.of [] rfl ⟨rfl,rfl,trivial⟩ trivial rfl rfl
  ·have hb7':¬(c5=48):=QP hb7
   iterate 3 refine w_ ?_
   refine lgy rfl rfl (QH (Qa rfl) (QM 49 rfl) rfl) ?_
   iterate 2 refine w_ ?_
   cases hb8:(!decide (c5=49))
   ·have hb8':(c5=49):=QA hb8
    iterate 7 refine w_ ?_
    refine AC.skip ?_
    refine (?_:AC _ _ _ _ _)
    iterate 4 refine w_ ?_
    refine Qd ?_
    refine lK_ ((X6 hB (by assumption) (by first | exact .inl (by assumption) | exact .inr (.inl (by assumption)) | exact .inr (.inr (by assumption))))) ?_
    exact Wk.of [] rfl ⟨rfl,rfl,trivial⟩ trivial rfl rfl
   ·have hb8':¬(c5=49):=QP hb8
    iterate 3 refine w_ ?_
    refine lgy rfl rfl (QH (Qa rfl) (QM 45 rfl) rfl) ?_
    iterate 2 refine w_ ?_
    cases hb9:(!decide (c5=45))
    ·have hb9':(c5=45):=QA hb9
     refine w_ ?_
     refine AC.skip ?_
     refine (?_:AC _ _ _ _ _)
     iterate 4 refine w_ ?_
     refine Qd ?_
     refine lK_ ((X6 hB (by assumption) (by first | exact .inl (by assumption) | exact .inr (.inl (by assumption)) | exact .inr (.inr (by assumption))))) ?_
     exact Wk.of [] rfl ⟨rfl,rfl,trivial⟩ trivial rfl rfl
    ·have hb9':¬(c5=45):=QP hb9
     iterate 4 refine w_ ?_
     refine Qb<|fqB hO ?_
     first | exact K9 (k:=k) (by assumption) (by assumption) (by assumption) (by assumption) | exact V4 hB (by omega) rfl
theorem Ue (code:ByteArray)(n:Int):FC Tryz.prog 174 [(false,[dS code]),(false,[dI n])] [] 0 (QV (lB (decide (WM code n)))):=by
 refine Qj Tryz.func174 rfl rfl Tryz.ntmps174 fun O_ hO w0_ N0_ X_ h0_ f0_=> ?_
 refine acI 1 fun hi1=> ?_
 iterate 6 refine w_ ?_
 refine lc (dK (Uf code n) Qbl) ?_
 refine w_ ?_
 cases hb2:(decide (Zb code n))
 ·have hb2':=ab hb2
  iterate 6 refine w_ ?_
  refine Qb<|fqB hO ?_
  first | exact QeI (by assumption) | exact QhZ (by assumption)
 ·have hb2':=ae hb2
  refine w_ ?_
  refine lgy rfl rfl (dK (UW code (⟨#[45]⟩:ByteArray) rfl) QgZ) ?_
  iterate 4 refine w_ ?_
  refine Qb<|fqB hO ?_
  first | exact QeI (by assumption) | exact QhZ (by assumption)
theorem Vp (cube:ByteArray)(n:Int):FC Tryz.prog 288 [(false,[dS cube]),(false,[.ptr 0 0])] [bx 0 3 [dI n]] 1 (Is (lB (!decide (Zb cube n))) [bx 0 3 [dI n]]):=by
 refine Qj Tryz.func288 rfl rfl Tryz.ntmps288 fun O_ hO w0_ N0_ X_ h0_ f0_=> ?_
 iterate 6 refine w_ ?_
 refine alI 5 fun hi1=> ?_
 refine lc (dK (Uf cube n) Qbl) ?_
 iterate 3 refine w_ ?_
 refine Qb ?_
 have e2:(!(decide (Zb cube n)):Bool)=(!decide (Zb cube n)):=by
  first | rfl | (simp_all; done) | (rw[bu]; simp; omega) | (simp_all; omega) | (rw[bu]; simp_all; omega)
 exact fi_ [] hO ⟨rfl,trivial⟩ (h0:=(congrArg (fun z_=>lB z_) e2))
theorem Ww (l:List ByteArray)(n:Int):FC Tryz.prog 261 [(false,[.dat (.sl 9 .str) l]),(false,[.clo 288 [0]])] [bx 0 3 [dI n]] 1 (Is (lI (Ze (fun c=> !decide (Zb c n)) l)) [bx 0 3 [dI n]]):=by
 refine Qj Tryz.func261 rfl rfl Tryz.ntmps261 fun O_ hO w0_ N0_ X_ h0_ f0_=> ?_
 iterate 6 refine w_ ?_
 refine alL 6 fun hl1=> ?_
 iterate 4 refine w_ ?_
 refine lpK l.length (fun k=>NoneTo (fun c=> !decide (Zb c n)) l k) (fun k=>⟨[(0,lf (.dat (.sl 9 .str) l)),(1,lf (.clo 288 [0])),(7,lI (l.length:Int)),(8,lI (k:Int))],[bx 0 3 [dI n]]⟩) (NoneTo.zero) ?_ fun k hk2 hno=> ?_
 · exact Wk.of [] rfl ⟨rfl,rfl,rfl,rfl,trivial⟩ ⟨rfl,trivial⟩ rfl rfl
 iterate 4 refine w_ ?_
 cases hb3:(decide ((k:Int) < (l.length:Int)))
 ·have hb3':=ab hb3
  refine w_ ?_
  refine Qi ?_
  refine (?_:AC _ _ _ _ _)
  iterate 3 refine w_ ?_
  refine Qb ?_
  have e4:((-1):Int)=(Ze (fun c=> !decide (Zb c n)) l):=by
   first | exact (hno.no (by omega)).symm
  exact fi_ [] hO ⟨rfl,trivial⟩ (h0:=(congrArg (fun z_=>lI z_) e4))
 ·have hb3':=ae hb3
  iterate 12 refine w_ ?_
  obtain ⟨x5,hx6⟩:∃z,l[k]? =some z:=⟨_,aa (by omega)⟩
  iterate 2 refine w_ ?_
  refine lc (Yc (args0:=[(false,[dS x5])]) (caps:=[0]) 1 [(0,0)] (Vp x5 n) Qhq rfl (Qa rfl) rfl rfl ⟨_,_,rfl,(Qm rfl),rfl⟩ ⟨rfl,trivial⟩ rfl ⟨trivial,trivial⟩ (nlr rfl)) ?_
  refine w_ ?_
  cases hb7:(!decide (Zb x5 n))
  ·have hb7':(Zb x5 n):=QA hb7
   refine w_ ?_
   refine AC.skip ?_
   refine (?_:AC _ _ _ _ _)
   iterate 3 refine w_ ?_
   refine Qd ?_
   refine lK_ (hno.step hx6 (by assumption)) ?_
   exact Wk.of [] rfl ⟨rfl,rfl,rfl,rfl,trivial⟩ ⟨rfl,trivial⟩ rfl rfl
  ·have hb7':¬(Zb x5 n):=QP hb7
   iterate 5 refine w_ ?_
   refine Qb ?_
   have e8:((k:Int):Int)=(Ze (fun c=> !decide (Zb c n)) l):=by
    first | exact (hno.at hx6 (by assumption)).symm | exact (hno.no (by omega)).symm
   exact fi_ [] hO ⟨rfl,trivial⟩ (h0:=(congrArg (fun z_=>lI z_) e8))
theorem XN (l:List ByteArray)(n:Int):FC Tryz.prog 140 [(false,[.dat (.sl 9 .str) l]),(false,[.clo 288 [0]])] [bx 0 3 [dI n]] 1 (Is (lB (l.any (fun c=> !decide (Zb c n)))) [bx 0 3 [dI n]]):=by
 refine Qj Tryz.func140 rfl rfl Tryz.ntmps140 fun O_ hO w0_ N0_ X_ h0_ f0_=> ?_
 iterate 6 refine w_ ?_
 refine lc (dP 1 [] (Ww l n) Wa) ?_
 iterate 3 refine w_ ?_
 refine Qb ?_
 have e1:(decide (0≤(Ze (fun c=> !decide (Zb c n)) l)):Bool)=(l.any (fun c=> !decide (Zb c n))):=by
  exact XD _ _
 exact fi_ [] hO ⟨rfl,trivial⟩ (h0:=(congrArg (fun z_=>lB z_) e1))
theorem XC (n:Int)(l:List ByteArray):FC Tryz.prog 170 [(false,[dI n]),(false,[.dat (.sl 9 .str) l])] [] 0 (QV (lB (decide (Zr n l)))):=by
 refine Qj Tryz.func170 rfl rfl Tryz.ntmps170 fun O_ hO w0_ N0_ X_ h0_ f0_=> ?_
 refine acI 0 fun hi1=> ?_
 refine w_ ?_
 refine xbx 0 ?_
 iterate 4 refine w_ ?_
 refine lc (dK (QZ n 1 8) ZE) ?_
 refine w_ ?_
 cases hb2:(decide (1≤n∧n≤8))
 ·have hb2':=ab hb2
  iterate 12 refine w_ ?_
  refine Qb<|fqB hO ?_
  first | exact VD (by assumption) | exact QdY (by assumption) | exact QdL (by assumption) (by assumption)
 ·have hb2':=ae hb2
  refine w_ ?_
  refine alL 8 fun hl3=> ?_
  iterate 4 refine w_ ?_
  cases hb4:(decide ((l.length:Int)≤60))
  ·have hb4':=ab hb4
   iterate 7 refine w_ ?_
   refine Qb<|fqB hO ?_
   first | exact VD (by assumption) | exact QdY (by assumption) | exact QdL (by assumption) (by assumption)
  ·have hb4':=ae hb4
   refine w_ ?_
   refine lgy rfl rfl (ZV ⟨_,_,rfl,(Qa rfl),rfl,rfl⟩ rfl) ?_
   refine lgy rfl rfl (dP 1 [] (XN l n) Vr) ?_
   iterate 4 refine w_ ?_
   refine Qb<|fqB hO ?_
   first | exact VD (by assumption) | exact QdY (by assumption) | exact QdL (by assumption) (by assumption)
theorem VL (n:Int)(l:List ByteArray):FC Tryz.prog 172 [(false,[dI n]),(false,[.dat (.sl 9 .str) l])] [] 0 (QV (lB (decide (Zr n l)))):=by
 refine Qj Tryz.func172 rfl rfl Tryz.ntmps172 fun O_ hO w0_ N0_ X_ h0_ f0_=> ?_
 refine acI 0 fun hi1=> ?_
 iterate 6 refine w_ ?_
 refine alL 7 fun hl2=> ?_
 iterate 4 refine w_ ?_
 refine lpK l.length (fun k=>∀j,j < k→∀x,l[j]? =some x→Zb x n) (fun k=>⟨[(0,lI n),(1,lf (.dat (.sl 9 .str) l)),(7,lf (.dat (.sl 9 .str) l)),(8,lI (l.length:Int)),(9,lI (k:Int))],[]⟩) ((fun j hj=>absurd hj (bc j))) ?_ fun k hk3 hB=> ?_
 · exact Wk.of [] rfl ⟨rfl,rfl,rfl,rfl,rfl,trivial⟩ trivial rfl rfl
 iterate 4 refine w_ ?_
 cases hb4:(decide ((k:Int) < (l.length:Int)))
 ·have hb4':=ab hb4
  refine w_ ?_
  refine Qi ?_
  refine (?_:AC _ _ _ _ _)
  iterate 2 refine w_ ?_
  refine lc (dK (Z8 n 1 8) YB) ?_
  refine w_ ?_
  cases hb5:(decide (1≤n∧n≤8))
  ·have hb5':=ab hb5
   iterate 6 refine w_ ?_
   refine Qb<|fqB hO ?_
   first | exact HO hB (by omega) (by assumption) | exact VD (by assumption)
  ·have hb5':=ae hb5
   refine w_ ?_
   refine alL 26 fun hl6=> ?_
   iterate 5 refine w_ ?_
   refine Qb<|fqB hO ?_
   first | exact HO hB (by omega) (by assumption) | exact VD (by assumption)
 ·have hb4':=ae hb4
  iterate 5 refine w_ ?_
  obtain ⟨x7,hx8⟩:∃z,l[k]? =some z:=⟨_,aa (by omega)⟩
  iterate 6 refine w_ ?_
  refine lc (dK (Hu x7) Qf9) ?_
  iterate 2 refine w_ ?_
  cases hb9:(decide (Zb x7 (x7.size:Int)))
  ·have hb9':=ab hb9
   iterate 10 refine w_ ?_
   refine Qb<|fqB hO ?_
   first | exact QiN hx8 (by assumption) | exact QhT hx8 (by assumption) | exact HO hB (by omega) (by assumption) | exact VD (by assumption)
  ·have hb9':=ae hb9
   refine w_ ?_
   refine alS 17 fun hl10=> ?_
   refine lgy rfl rfl (QJ (Qa rfl) rfl QT) ?_
   iterate 4 refine w_ ?_
   cases hb11:(!decide ((x7.size:Int)=n))
   ·have hb11':((x7.size:Int)=n):=QA hb11
    refine w_ ?_
    refine AC.skip ?_
    refine (?_:AC _ _ _ _ _)
    iterate 3 refine w_ ?_
    refine Qd ?_
    refine lK_ ((Y5 hB hx8 (Qnw (by assumption) (by assumption)))) ?_
    exact Wk.of [] rfl ⟨rfl,rfl,rfl,rfl,rfl,trivial⟩ trivial rfl rfl
   ·have hb11':¬((x7.size:Int)=n):=QP hb11
    iterate 4 refine w_ ?_
    refine Qb<|fqB hO ?_
    first | exact QiN hx8 (by assumption) | exact QhT hx8 (by assumption) | exact HO hB (by omega) (by assumption) | exact VD (by assumption)
theorem JJ (cube:ByteArray)(code:ByteArray)(hl:cube.size≤code.size):FC Tryz.prog 294 [(false,[dS cube]),(false,[dS code])] [] 0 (QV (lB (YQ cube code))):=by
 refine Qj Tryz.func294 rfl rfl Tryz.ntmps294 fun O_ hO w0_ N0_ X_ h0_ f0_=> ?_
 iterate 6 refine w_ ?_
 refine alS 6 fun hl1=> ?_
 refine lc (QJ (Qa rfl) rfl QT) ?_
 iterate 3 refine w_ ?_
 refine lpK cube.size (fun k=>∀j,j < k→(bAt cube (j:Int)=45∨bAt cube (j:Int)=bAt code (j:Int))) (fun k=>⟨[(0,lf (dS cube)),(1,lf (dS code)),(7,lI (cube.size:Int)),(8,lI (k:Int))],[]⟩) ((fun j hj=>absurd hj (bc j))) ?_ fun k hk2 hB=> ?_
 · exact Wk.of [] rfl ⟨rfl,rfl,rfl,rfl,trivial⟩ trivial rfl rfl
 iterate 4 refine w_ ?_
 cases hb3:(decide ((k:Int) < (cube.size:Int)))
 ·have hb3':=ab hb3
  refine w_ ?_
  refine Qi ?_
  refine (?_:AC _ _ _ _ _)
  iterate 3 refine w_ ?_
  refine Qb<|fqB hO ?_
  first | exact QdE (k:=k) (by omega) (by assumption) (by assumption) (by assumption) (by assumption) | exact Qac hB (by omega)
 ·have hb3':=ae hb3
  iterate 8 refine w_ ?_
  obtain ⟨c4,hc5⟩:∃z,cube[((k:Int)).toNat]? =some z:=⟨_,b6 _ _ (by omega)⟩
  cases hb6:(!decide (c4=45))
  ·have hb6':(c4=45):=QA hb6
   apply dW (i3 11 _ _ _ (io 14 (lB false) :: i9 15 _ _ _ _ _ _ _ _ _ [])) [0,1,0,0,0,0,32,0,224,480,224,0,0]
   iterate 3 refine z_ ?_
   refine zz (fun _ h_=>ac (QB (Qb3 (Qfb hb6)) (QH (h_.v rfl) (QM 45 rfl) rfl)) rfl) ?_
   iterate 9 refine z_ ?_
   exact zN
   refine w_ ?_
   refine AC.skip ?_
   refine (?_:AC _ _ _ _ _)
   iterate 3 refine w_ ?_
   refine Qd ?_
   refine lK_ ((KP hB (by first | exact .inl ((Q3 (by assumption)).trans (by assumption)) | exact .inr ((Q3 (by assumption)).trans ((‹(_:UInt8)=_›).trans (Q3 (by assumption)).symm))))) ?_
   exact Wk.of [] rfl ⟨rfl,rfl,rfl,rfl,trivial⟩ trivial rfl rfl
  ·have hb6':¬(c4=45):=QP hb6
   obtain ⟨c7,hc8⟩:∃z,code[((k:Int)).toNat]? =some z:=⟨_,b6 _ _ (by omega)⟩
   apply dW (i3 11 _ _ _ (io 14 (lB true) :: i9 15 _ _ _ _ _ _ _ _ _ [])) [0,1,0,0,0,0,32,0,224,480,224,0,0]
   iterate 3 refine z_ ?_
   refine zz (fun _ h_=>ac (QB (Qb3 (Qfb hb6)) (QH (h_.v rfl) (QM 45 rfl) rfl)) rfl) ?_
   iterate 9 refine z_ ?_
   exact zN
   cases hb9:(!decide (c4=c7))
   ·have hb9':(c4=c7):=QA hb9
    refine w_ ?_
    refine AC.skip ?_
    refine (?_:AC _ _ _ _ _)
    iterate 3 refine w_ ?_
    refine Qd ?_
    refine lK_ ((KP hB (by first | exact .inl ((Q3 (by assumption)).trans (by assumption)) | exact .inr ((Q3 (by assumption)).trans ((‹(_:UInt8)=_›).trans (Q3 (by assumption)).symm))))) ?_
    exact Wk.of [] rfl ⟨rfl,rfl,rfl,rfl,trivial⟩ trivial rfl rfl
   ·have hb9':¬(c4=c7):=QP hb9
    iterate 4 refine w_ ?_
    refine Qb<|fqB hO ?_
    first | exact QdE (k:=k) (by omega) (by assumption) (by assumption) (by assumption) (by assumption) | exact Qac hB (by omega)
theorem QaB (cube:ByteArray)(code:ByteArray)(hl:cube.size≤code.size):FC Tryz.prog 386 [(false,[dS cube]),(false,[dS code])] [] 0 (QV (lB (YQ cube code))):=by
 refine Qj Tryz.func386 rfl rfl Tryz.ntmps386 fun O_ hO w0_ N0_ X_ h0_ f0_=> ?_
 iterate 8 refine w_ ?_
 refine lpK cube.size (fun k=>∀j,j < k→(bAt cube (j:Int)=45∨bAt cube (j:Int)=bAt code (j:Int))) (fun k=>⟨[(0,lf (dS cube)),(1,lf (dS code)),(5,lI (k:Int))],[]⟩) ((fun j hj=>absurd hj (bc j))) ?_ fun k hk1 hB=> ?_
 · exact Wk.of [] rfl ⟨rfl,rfl,rfl,trivial⟩ trivial rfl rfl
 iterate 4 refine w_ ?_
 refine alS 7 fun hl2=> ?_
 refine lc (QJ (Qa rfl) rfl QT) ?_
 iterate 2 refine w_ ?_
 cases hb3:(decide ((k:Int) < (cube.size:Int)))
 ·have hb3':=ab hb3
  refine w_ ?_
  refine Qi ?_
  refine (?_:AC _ _ _ _ _)
  iterate 3 refine w_ ?_
  refine Qb<|fqB hO ?_
  first | exact QdE (k:=k) (by omega) (by assumption) (by assumption) (by assumption) (by assumption) | exact Qac hB (by omega)
 ·have hb3':=ae hb3
  iterate 4 refine w_ ?_
  obtain ⟨c4,hc5⟩:∃z,cube[((k:Int)).toNat]? =some z:=⟨_,b6 _ _ (by omega)⟩
  cases hb6:(!decide (c4=45))
  ·have hb6':(c4=45):=QA hb6
   apply dW (i3 12 _ _ _ (io 15 (lB false) :: i9 16 _ _ _ _ _ _ _ _ _ [])) [0,1,0,0,0,0,32,0,224,480,224,0,0]
   iterate 3 refine z_ ?_
   refine zz (fun _ h_=>ac (QB (Qb3 (Qfb hb6)) (QH (h_.v rfl) (QM 45 rfl) rfl)) rfl) ?_
   iterate 9 refine z_ ?_
   exact zN
   refine w_ ?_
   refine AC.skip ?_
   refine (?_:AC _ _ _ _ _)
   iterate 4 refine w_ ?_
   refine Qd ?_
   refine lK_ ((KP hB (by first | exact .inl ((Q3 (by assumption)).trans (by assumption)) | exact .inr ((Q3 (by assumption)).trans ((‹(_:UInt8)=_›).trans (Q3 (by assumption)).symm))))) ?_
   exact Wk.of [] rfl ⟨rfl,rfl,rfl,trivial⟩ trivial rfl rfl
  ·have hb6':¬(c4=45):=QP hb6
   obtain ⟨c7,hc8⟩:∃z,code[((k:Int)).toNat]? =some z:=⟨_,b6 _ _ (by omega)⟩
   apply dW (i3 12 _ _ _ (io 15 (lB true) :: i9 16 _ _ _ _ _ _ _ _ _ [])) [0,1,0,0,0,0,32,0,224,480,224,0,0]
   iterate 3 refine z_ ?_
   refine zz (fun _ h_=>ac (QB (Qb3 (Qfb hb6)) (QH (h_.v rfl) (QM 45 rfl) rfl)) rfl) ?_
   iterate 9 refine z_ ?_
   exact zN
   cases hb9:(!decide (c4=c7))
   ·have hb9':(c4=c7):=QA hb9
    refine w_ ?_
    refine AC.skip ?_
    refine (?_:AC _ _ _ _ _)
    iterate 4 refine w_ ?_
    refine Qd ?_
    refine lK_ ((KP hB (by first | exact .inl ((Q3 (by assumption)).trans (by assumption)) | exact .inr ((Q3 (by assumption)).trans ((‹(_:UInt8)=_›).trans (Q3 (by assumption)).symm))))) ?_
    exact Wk.of [] rfl ⟨rfl,rfl,rfl,trivial⟩ trivial rfl rfl
   ·have hb9':¬(c4=c7):=QP hb9
    iterate 4 refine w_ ?_
    refine Qb<|fqB hO ?_
    first | exact QdE (k:=k) (by omega) (by assumption) (by assumption) (by assumption) (by assumption) | exact Qac hB (by omega)
theorem JG (cube:ByteArray)(code:ByteArray)(hl:cube.size≤code.size):FC Tryz.prog 293 [(false,[dS cube]),(false,[.ptr 0 0])] [bx 0 9 [dS code]] 1 (Is (lB (YQ cube code)) [bx 0 9 [dS code]]):=by
 refine Qj Tryz.func293 rfl rfl Tryz.ntmps293 fun O_ hO w0_ N0_ X_ h0_ f0_=> ?_
 iterate 6 refine w_ ?_
 refine lc (dK (JJ cube code hl) Qf6) ?_
 iterate 2 refine w_ ?_
 refine Qb ?_
 exact fi_ [] hO ⟨rfl,trivial⟩
theorem W3 (l:List ByteArray)(code:ByteArray)(hl:∀c∈l,c.size≤code.size):FC Tryz.prog 261 [(false,[.dat (.sl 9 .str) l]),(false,[.clo 293 [0]])] [bx 0 9 [dS code]] 1 (Is (lI (Ze (fun c=>YQ c code) l)) [bx 0 9 [dS code]]):=by
 refine Qj Tryz.func261 rfl rfl Tryz.ntmps261 fun O_ hO w0_ N0_ X_ h0_ f0_=> ?_
 iterate 6 refine w_ ?_
 refine alL 6 fun hl1=> ?_
 iterate 4 refine w_ ?_
 refine lpK l.length (fun k=>NoneTo (fun c=>YQ c code) l k) (fun k=>⟨[(0,lf (.dat (.sl 9 .str) l)),(1,lf (.clo 293 [0])),(7,lI (l.length:Int)),(8,lI (k:Int))],[bx 0 9 [dS code]]⟩) (NoneTo.zero) ?_ fun k hk2 hno=> ?_
 · exact Wk.of [] rfl ⟨rfl,rfl,rfl,rfl,trivial⟩ ⟨rfl,trivial⟩ rfl rfl
 iterate 4 refine w_ ?_
 cases hb3:(decide ((k:Int) < (l.length:Int)))
 ·have hb3':=ab hb3
  refine w_ ?_
  refine Qi ?_
  refine (?_:AC _ _ _ _ _)
  iterate 3 refine w_ ?_
  refine Qb ?_
  have e4:((-1):Int)=(Ze (fun c=>YQ c code) l):=by
   first | exact (hno.no (by omega)).symm
  exact fi_ [] hO ⟨rfl,trivial⟩ (h0:=(congrArg (fun z_=>lI z_) e4))
 ·have hb3':=ae hb3
  iterate 12 refine w_ ?_
  obtain ⟨x5,hx6⟩:∃z,l[k]? =some z:=⟨_,aa (by omega)⟩
  iterate 2 refine w_ ?_
  refine lc (Yc (args0:=[(false,[dS x5])]) (caps:=[0]) 1 [(0,0)] (JG x5 code (hl _ (ao hx6))) Qgs rfl (Qa rfl) rfl rfl ⟨_,_,rfl,(Qm rfl),rfl⟩ ⟨rfl,trivial⟩ rfl ⟨trivial,trivial⟩ (nlr rfl)) ?_
  refine w_ ?_
  cases hb7:(YQ x5 code)
  ·refine w_ ?_
   refine AC.skip ?_
   refine (?_:AC _ _ _ _ _)
   iterate 3 refine w_ ?_
   refine Qd ?_
   refine lK_ (hno.step hx6 (by assumption)) ?_
   exact Wk.of [] rfl ⟨rfl,rfl,rfl,rfl,trivial⟩ ⟨rfl,trivial⟩ rfl rfl
  ·iterate 5 refine w_ ?_
   refine Qb ?_
   have e8:((k:Int):Int)=(Ze (fun c=>YQ c code) l):=by
    first | exact (hno.at hx6 (by assumption)).symm | exact (hno.no (by omega)).symm
   exact fi_ [] hO ⟨rfl,trivial⟩ (h0:=(congrArg (fun z_=>lI z_) e8))
theorem Wh (l:List ByteArray)(code:ByteArray)(hl:∀c∈l,c.size≤code.size):FC Tryz.prog 140 [(false,[.dat (.sl 9 .str) l]),(false,[.clo 293 [0]])] [bx 0 9 [dS code]] 1 (Is (lB (l.any (fun c=>YQ c code))) [bx 0 9 [dS code]]):=by
 refine Qj Tryz.func140 rfl rfl Tryz.ntmps140 fun O_ hO w0_ N0_ X_ h0_ f0_=> ?_
 iterate 6 refine w_ ?_
 refine lc (dP 1 [] (W3 l code hl) Wa) ?_
 iterate 3 refine w_ ?_
 refine Qb ?_
 have e1:(decide (0≤(Ze (fun c=>YQ c code) l)):Bool)=(l.any (fun c=>YQ c code)):=by
  exact XD _ _
 exact fi_ [] hO ⟨rfl,trivial⟩ (h0:=(congrArg (fun z_=>lB z_) e1))
theorem Qbv (l:List ByteArray)(code:ByteArray)(hl:∀c∈l,c.size≤code.size):FC Tryz.prog 175 [(false,[.dat (.sl 9 .str) l]),(false,[dS code])] [] 0 (QV (lB (l.any (fun c=>YQ c code)))):=by
 refine Qj Tryz.func175 rfl rfl Tryz.ntmps175 fun O_ hO w0_ N0_ X_ h0_ f0_=> ?_
 refine w_ ?_
 refine xbx 0 ?_
 iterate 4 refine w_ ?_
 refine lc (ZV ⟨_,_,rfl,(Qa rfl),rfl,rfl⟩ rfl) ?_
 refine lc (dP 1 [] (Wh l code hl) Vr) ?_
 iterate 2 refine w_ ?_
 refine Qb ?_
 exact fe_ hO
theorem Qcc (l:List ByteArray)(code:ByteArray)(hl:∀c∈l,c.size≤code.size):FC Tryz.prog 291 [(false,[.dat (.sl 9 .str) l]),(false,[dS code])] [] 0 (QV (lB (l.any (fun c=>YQ c code)))):=by
 refine Qj Tryz.func291 rfl rfl Tryz.ntmps291 fun O_ hO w0_ N0_ X_ h0_ f0_=> ?_
 iterate 6 refine w_ ?_
 refine alL 7 fun hl1=> ?_
 iterate 4 refine w_ ?_
 refine lpK l.length (fun k=>NoneTo (fun c=>YQ c code) l k) (fun k=>⟨[(1,lf (dS code)),(7,lf (.dat (.sl 9 .str) l)),(8,lI (l.length:Int)),(9,lI (k:Int))],[]⟩) (NoneTo.zero) ?_ fun k hk2 hno=> ?_
 · exact Wk.of [] rfl ⟨rfl,rfl,rfl,rfl,trivial⟩ trivial rfl rfl
 iterate 4 refine w_ ?_
 cases hb3:(decide ((k:Int) < (l.length:Int)))
 ·have hb3':=ab hb3
  refine w_ ?_
  refine Qi ?_
  refine (?_:AC _ _ _ _ _)
  iterate 3 refine w_ ?_
  refine Qb<|fqB hO ?_
  first | exact (hno.any_no (by omega)).symm
 ·have hb3':=ae hb3
  iterate 5 refine w_ ?_
  obtain ⟨x4,hx5⟩:∃z,l[k]? =some z:=⟨_,aa (by omega)⟩
  iterate 7 refine w_ ?_
  refine lc (dK (QaB x4 code (hl _ (ao hx5))) Qgq) ?_
  refine w_ ?_
  cases hb6:(YQ x4 code)
  ·refine w_ ?_
   refine AC.skip ?_
   refine (?_:AC _ _ _ _ _)
   iterate 3 refine w_ ?_
   refine Qd ?_
   refine lK_ (hno.step hx5 (by assumption)) ?_
   exact Wk.of [] rfl ⟨rfl,rfl,rfl,rfl,trivial⟩ trivial rfl rfl
  ·iterate 4 refine w_ ?_
   refine Qb<|fqB hO ?_
   first | exact (bR.2 ⟨_,ao hx5,by assumption⟩).symm | exact (hno.any_no (by omega)).symm
end Go.Proofs.YtgpdhgadmjfokaaGreat
