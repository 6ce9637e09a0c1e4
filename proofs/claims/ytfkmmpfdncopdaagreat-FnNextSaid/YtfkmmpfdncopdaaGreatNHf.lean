/- Walks over abstract states: increasing lists of codes, valid functions, equal lists of texts, both sides. -/
import Derived.Test.YtfkmmpfdncopdaaGreatNHc
import Derived.Test.YtfkmmpfdncopdaaGreatNWj
import Derived.Test.YtfkmmpfdncopdaaGreatNHx
import Derived.Test.YtfkmmpfdncopdaaGreatNDf
set_option linter.unusedSimpArgs false
set_option linter.unusedVariables false
set_option linter.unusedSectionVars false
namespace Go.Proofs.YtfkmmpfdncopdaaGreat
open Go.RowKit
set_option maxRecDepth 100000
set_option maxHeartbeats 4000000
def Xy (n:Int)(l:List ByteArray):Prop:=(∀c∈l,ZQ c n)∧l.Pairwise fun x y=>ltB x y=true
instance (n:Int) (l:List ByteArray):Decidable (Xy n l):=inferInstanceAs (Decidable (_∧_))
def OOk (n:Int)(on off:List ByteArray):Prop:=(1≤n∧n≤8)∧(Xy n on∧(on.length:Int)≤64)∧(Xy n off∧(off.length:Int)≤256)∧(on.any fun c=>off.any fun y=>decide (c=y))=false
instance (n:Int) (on off:List ByteArray):Decidable (OOk n on off):=inferInstanceAs (Decidable (_∧_))
def Qgj (n:Int)(l:List ByteArray)(j:Nat):Prop:=(∀c,l[j]? =some c→ZQ c n)∧∀b c,0 < j→l[j - 1]? =some b→l[j]? =some c→ltB b c=true
section
variable {n:Int}{l a b on off:List ByteArray}{c x y:ByteArray}{k j:Nat}
theorem Qjp (hP:∀j,j < k→Qgj n l j)(hk:l.length≤k):Xy n l:=by
  refine ⟨fun c hc=> ?_, ?_⟩
  · obtain ⟨j, hj⟩ := aM.1 hc
    exact (hP j (bh (ah.1 hj).1 hk)).1 c hj
  · rw [List.pairwise_iff_getElem]
    have key:∀d i (hi:i < l.length) (hj:i+d+1 < l.length),ltB l[i] l[i+d+1]=true:=fun d=>by
      induction d with
      | zero=>intro i hi hj; exact (hP (i+1) (by omega)).2 _ _ (by omega) (by rw[Nat.add_sub_cancel]; exact aa hi) (aa hj)
      | succ d ih=>
        intro i hi hj
        have h1:=ih i hi (by omega)
        exact QO.tr _ _ _ h1 ((hP (i+(d+1)+1) (by omega)).2 _ _ (by omega) (by rw[Nat.add_sub_cancel]; exact aa (by omega)) (aa hj))
    intro i j hi hj hij
    have:=key (j - i - 1) i hi (by omega)
    have e:i+(j - i - 1)+1=j:=by omega
    simpa only[e] using this
theorem QiI (hx:l[k]? =some c)(h:¬ZQ c n):¬Xy n l:=fun g=>h (g.1 c (ap hx))
theorem QiL (hk:(0:Int) < (k:Int))(hb:l[((k:Int) - 1).toNat]? =some x)(hx:l[k]? =some y)(h:Op.bytesLess x.toList y.toList=false):¬Xy n l:=fun g=>by
  obtain ⟨h1,e1⟩:=ah.1 hb
  obtain ⟨h2,e2⟩:=ah.1 hx
  have:=List.pairwise_iff_getElem.1 g.2 _ _ h1 h2 (by omega)
  rw[e1,e2] at this
  unfold ltB at this
  rw[this] at h; cases h
theorem JC (hP:∀j,j < k→Qgj n l j)(h:Qgj n l k):∀j,j < k+1→Qgj n l j:=fun j hj=>by
  by_cases e:j=k
  · subst e; exact h
  · exact hP j (by omega)
theorem QaJ (hx:l[k]? =some c)(h:ZQ c n)(hk:¬(0:Int) < (k:Int)):Qgj n l k:=⟨fun d hd=>by rw[hx] at hd; cases hd; exact h,fun _ _ h0=>absurd h0 (by omega)⟩
theorem QaF (hx:l[k]? =some y)(h:ZQ y n)(hk:(0:Int) < (k:Int))(hb:l[((k:Int) - 1).toNat]? =some x)(hl:Op.bytesLess x.toList y.toList=true):Qgj n l k:=⟨fun d hd=>by rw[hx] at hd; cases hd; exact h,fun b d _ h1 h2=>by
  rw[show ((k:Int) - 1).toNat=k - 1 by omega] at hb
  rw[hb] at h1; rw[hx] at h2; cases h1; cases h2
  exact hl⟩
theorem Qa1 (h:WU c n):ZQ c n:=h.1
theorem QnK (hn:1≤n∧n≤8)(h:¬WU c n):¬ZQ c n:=fun g=>h ⟨g,hn⟩
theorem Qpk (h:¬(1≤n∧n≤8)):false=decide (OOk n on off):=(ay fun g=>h g.1).symm
theorem QlT (h:¬(Xy n on∧(on.length:Int)≤64)):false=decide (OOk n on off):=(ay fun g=>h g.2.1).symm
theorem QlM (h:¬(Xy n off∧(off.length:Int)≤256)):false=decide (OOk n on off):=(ay fun g=>h g.2.2.1).symm
theorem Qtf (h1:1≤n∧n≤8)(h2:Xy n on∧(on.length:Int)≤64)(h3:Xy n off∧(off.length:Int)≤256):(!(on.any fun c=>off.any fun y=>decide (c=y)))=decide (OOk n on off):=by
  cases h:(on.any fun c=>off.any fun y=>decide (c=y)) with
  | false=>exact (aJ ⟨h1,h2,h3,h⟩).symm
  | true=>exact (ay fun g=>by rw[g.2.2.2] at h; cases h).symm
theorem QqJ (hx:on[k]? =some c)(h:Yq off c=true):false=decide (OOk n on off):=(ay fun g=>by
  have:=g.2.2.2
  rw[cq] at this
  exact this c (ap hx) h).symm
theorem Qqv (h1:1≤n∧n≤8)(h2:Xy n on)(h2':¬(64:Int) < (on.length:Int))(h3:Xy n off)(h3':¬(256:Int) < (off.length:Int))(hn:NoneTo (fun c=>Yq off c) on k)(hk:on.length≤k):true=decide (OOk n on off):=(aJ ⟨h1,⟨h2,by omega⟩,⟨h3,by omega⟩,hn.any_no hk⟩).symm
theorem Qsz (h:¬(a.length:Int)=(b.length:Int)):false=decide (a=b):=(ay fun e=>h (by rw[e])).symm
theorem QrT (h1:a[k]? =some x)(h2:b[k]? =some y)(h:¬x=y):false=decide (a=b):=(ay fun e=>h (by subst e; rw[h1] at h2; cases h2; rfl)).symm
theorem Qqm (hE:∀j,j < k→a[j]? =b[j]?)(h:(a.length:Int)=(b.length:Int))(hk:a.length≤k):true=decide (a=b):=(aJ (bA fun j=>by
  by_cases g:j < k
  · exact hE j g
  · rw[bp (by omega),bp (by omega)])).symm
theorem Qop (hE:∀j,j < k→a[j]? =b[j]?)(h1:a[k]? =some x)(h2:b[k]? =some y)(h:x=y):∀j,j < k+1→a[j]? =b[j]? :=fun j hj=>by
  by_cases e:j=k
  · subst e; rw[h1,h2,h]
  · exact hE j (by omega)
end
theorem Vx (n:Int)(l:List ByteArray)(most:Int)(hn:1≤n∧n≤8):FC Tryz.prog 250 [(false,[dI n]),(false,[.dat (.sl 9 .str) l]),(false,[dI most])] [] 0 (QH (lB (decide (Xy n l∧(l.length:Int)≤most)))):=by
 refine Ql Tryz.func250 rfl rfl Tryz.ntmps250 fun O_ hO w0_ N0_ X_ h0_ f0_=> ?_
 refine acI 0 fun hi1=> ?_
 refine acI 2 fun hi2=> ?_
 iterate 6 refine w_ ?_
 refine alL 9 fun hl3=> ?_
 iterate 4 refine w_ ?_
 refine lpK l.length (fun k=>∀j,j < k→Qgj n l j) (fun k=>⟨[(0,lI n),(1,lf (.dat (.sl 9 .str) l)),(2,lI most),(9,lf (.dat (.sl 9 .str) l)),(10,lI (l.length:Int)),(11,lI (k:Int))],[]⟩) ((fun j hj=>absurd hj (b8 j))) ?_ fun k hk4 hP=> ?_
 · exact Wk.of [] rfl ⟨rfl,rfl,rfl,rfl,rfl,rfl,trivial⟩ trivial rfl rfl
 iterate 4 refine w_ ?_
 cases hb5:(decide ((k:Int) < (l.length:Int)))
 ·have hb5':=ab hb5
  refine w_ ?_
  refine Qj ?_
  refine (?_:AC _ _ _ _ _)
  iterate 2 refine w_ ?_
  refine alL 34 fun hl6=> ?_
  iterate 5 refine w_ ?_
  refine Qb<|fqB hO ?_
  exact bL.2 ⟨fun g=>⟨Qjp hP (by omega),g⟩,fun g=>g.2⟩
 ·have hb5':=ae hb5
  iterate 6 refine w_ ?_
  obtain ⟨x7,hx8⟩:∃z,l[k]? =some z:=⟨_,aa (by omega)⟩
  iterate 8 refine w_ ?_
  refine lc (dK (Uw x7 n) QdC) ?_
  iterate 2 refine w_ ?_
  cases hb9:(decide (WU x7 n))
  ·have hb9':=ab hb9
   iterate 3 refine w_ ?_
   refine Qf rfl rfl rfl ?_ rfl
   refine Qf rfl rfl rfl ?_ rfl
   refine Qf rfl rfl rfl ?_ rfl
   refine Qf rfl rfl rfl ?_ rfl
   refine Qf rfl rfl rfl ?_ rfl
   refine Qf rfl rfl rfl ?_ rfl
   refine Qf rfl rfl rfl ?_ rfl
   iterate 7 refine w_ ?_
   refine Qb<|fqB hO ?_
   exact (ay fun g=>QiI hx8 (QnK hn (by assumption)) g.1).symm
  ·have hb9':=ae hb9
   iterate 3 refine w_ ?_
   cases hb10:(decide (0 < (k:Int)))
   ·have hb10':=ab hb10
    iterate 11 refine w_ ?_
    refine AC.skip ?_
    refine (?_:AC _ _ _ _ _)
    iterate 3 refine w_ ?_
    refine Qd ?_
    refine lK_ ((JC hP (by first | exact QaF hx8 (Qa1 (by assumption)) (by assumption) (by assumption) (by assumption) | exact QaJ hx8 (Qa1 (by assumption)) (by assumption)))) ?_
    exact Wk.of [] rfl ⟨rfl,rfl,rfl,rfl,rfl,rfl,trivial⟩ trivial rfl rfl
   ·have hb10':=ae hb10
    iterate 3 refine w_ ?_
    obtain ⟨x11,hx12⟩:∃z,l[((k:Int) - 1).toNat]? =some z:=⟨_,aa (by omega)⟩
    iterate 3 refine w_ ?_
    refine lgy rfl rfl (QdN (Qa rfl) (Qa rfl) rfl) ?_
    iterate 3 refine w_ ?_
    cases hb13:(Op.bytesLess x11.toList x7.toList)
    ·iterate 4 refine w_ ?_
     refine Qb<|fqB hO ?_
     exact (ay fun g=>QiL (by assumption) (by assumption) (by assumption) (by assumption) g.1).symm
    ·refine w_ ?_
     refine AC.skip ?_
     refine (?_:AC _ _ _ _ _)
     iterate 3 refine w_ ?_
     refine Qd ?_
     refine lK_ ((JC hP (by first | exact QaF hx8 (Qa1 (by assumption)) (by assumption) (by assumption) (by assumption) | exact QaJ hx8 (Qa1 (by assumption)) (by assumption)))) ?_
     exact Wk.of [] rfl ⟨rfl,rfl,rfl,rfl,rfl,rfl,trivial⟩ trivial rfl rfl
theorem Vw (n:Int)(l:List ByteArray):FC Tryz.prog 253 [(false,[dI n]),(false,[.dat (.sl 9 .str) l])] [] 0 (QH (lB (decide (Xy n l)))):=by
 refine Ql Tryz.func253 rfl rfl Tryz.ntmps253 fun O_ hO w0_ N0_ X_ h0_ f0_=> ?_
 refine acI 0 fun hi1=> ?_
 iterate 6 refine w_ ?_
 refine alL 7 fun hl2=> ?_
 iterate 4 refine w_ ?_
 refine lpK l.length (fun k=>∀j,j < k→Qgj n l j) (fun k=>⟨[(0,lI n),(1,lf (.dat (.sl 9 .str) l)),(7,lf (.dat (.sl 9 .str) l)),(8,lI (l.length:Int)),(9,lI (k:Int))],[]⟩) ((fun j hj=>absurd hj (b8 j))) ?_ fun k hk3 hP=> ?_
 · exact Wk.of [] rfl ⟨rfl,rfl,rfl,rfl,rfl,trivial⟩ trivial rfl rfl
 iterate 4 refine w_ ?_
 cases hb4:(decide ((k:Int) < (l.length:Int)))
 ·have hb4':=ab hb4
  refine w_ ?_
  refine Qj ?_
  refine (?_:AC _ _ _ _ _)
  iterate 3 refine w_ ?_
  refine Qb<|fqB hO ?_
  exact (aJ (Qjp hP (by omega))).symm
 ·have hb4':=ae hb4
  iterate 6 refine w_ ?_
  obtain ⟨x5,hx6⟩:∃z,l[k]? =some z:=⟨_,aa (by omega)⟩
  iterate 8 refine w_ ?_
  refine lc (dK (UQ x5 n) Qcn) ?_
  iterate 2 refine w_ ?_
  cases hb7:(decide (ZQ x5 n))
  ·have hb7':=ab hb7
   iterate 3 refine w_ ?_
   refine Qf rfl rfl rfl ?_ rfl
   refine Qf rfl rfl rfl ?_ rfl
   refine Qf rfl rfl rfl ?_ rfl
   refine Qf rfl rfl rfl ?_ rfl
   refine Qf rfl rfl rfl ?_ rfl
   refine Qf rfl rfl rfl ?_ rfl
   refine Qf rfl rfl rfl ?_ rfl
   iterate 7 refine w_ ?_
   refine Qb<|fqB hO ?_
   exact (ay (QiI hx6 (by assumption))).symm
  ·have hb7':=ae hb7
   iterate 3 refine w_ ?_
   cases hb8:(decide (0 < (k:Int)))
   ·have hb8':=ab hb8
    iterate 11 refine w_ ?_
    refine AC.skip ?_
    refine (?_:AC _ _ _ _ _)
    iterate 3 refine w_ ?_
    refine Qd ?_
    refine lK_ ((JC hP (by first | exact QaF hx6 (by assumption) (by assumption) (by assumption) (by assumption) | exact QaJ hx6 (by assumption) (by assumption)))) ?_
    exact Wk.of [] rfl ⟨rfl,rfl,rfl,rfl,rfl,trivial⟩ trivial rfl rfl
   ·have hb8':=ae hb8
    iterate 3 refine w_ ?_
    obtain ⟨x9,hx10⟩:∃z,l[((k:Int) - 1).toNat]? =some z:=⟨_,aa (by omega)⟩
    iterate 3 refine w_ ?_
    refine lgy rfl rfl (QdN (Qa rfl) (Qa rfl) rfl) ?_
    iterate 3 refine w_ ?_
    cases hb11:(Op.bytesLess x9.toList x5.toList)
    ·iterate 4 refine w_ ?_
     refine Qb<|fqB hO ?_
     exact (ay (QiL (by assumption) (by assumption) (by assumption) (by assumption))).symm
    ·refine w_ ?_
     refine AC.skip ?_
     refine (?_:AC _ _ _ _ _)
     iterate 3 refine w_ ?_
     refine Qd ?_
     refine lK_ ((JC hP (by first | exact QaF hx6 (by assumption) (by assumption) (by assumption) (by assumption) | exact QaJ hx6 (by assumption) (by assumption)))) ?_
     exact Wk.of [] rfl ⟨rfl,rfl,rfl,rfl,rfl,trivial⟩ trivial rfl rfl
theorem VJ (code:ByteArray)(off:List ByteArray):FC Tryz.prog 251 [(false,[dS code]),(false,[.ptr 0 0])] [bx 0 25 [.dat (.sl 9 .str) off]] 1 (Is (lB (off.any (fun y=>decide (code=y)))) [bx 0 25 [.dat (.sl 9 .str) off]]):=by
 refine Ql Tryz.func251 rfl rfl Tryz.ntmps251 fun O_ hO w0_ N0_ X_ h0_ f0_=> ?_
 iterate 6 refine w_ ?_
 refine lc (dK (Zv off code) Hj) ?_
 iterate 2 refine w_ ?_
 refine Qb ?_
 exact fi_ [] hO ⟨rfl,trivial⟩
theorem WI (l:List ByteArray)(off:List ByteArray):FC Tryz.prog 160 [(false,[.dat (.sl 9 .str) l]),(false,[.clo 251 [0]])] [bx 0 25 [.dat (.sl 9 .str) off]] 1 (Is (lI (Q4 (fun c=>off.any (fun y=>decide (c=y))) l)) [bx 0 25 [.dat (.sl 9 .str) off]]):=by
 refine Ql Tryz.func160 rfl rfl Tryz.ntmps160 fun O_ hO w0_ N0_ X_ h0_ f0_=> ?_
 iterate 6 refine w_ ?_
 refine alL 6 fun hl1=> ?_
 iterate 4 refine w_ ?_
 refine lpK l.length (fun k=>NoneTo (fun c=>off.any (fun y=>decide (c=y))) l k) (fun k=>⟨[(0,lf (.dat (.sl 9 .str) l)),(1,lf (.clo 251 [0])),(7,lI (l.length:Int)),(8,lI (k:Int))],[bx 0 25 [.dat (.sl 9 .str) off]]⟩) (NoneTo.zero) ?_ fun k hk2 hno=> ?_
 · exact Wk.of [] rfl ⟨rfl,rfl,rfl,rfl,trivial⟩ ⟨rfl,trivial⟩ rfl rfl
 iterate 4 refine w_ ?_
 cases hb3:(decide ((k:Int) < (l.length:Int)))
 ·have hb3':=ab hb3
  refine w_ ?_
  refine Qj ?_
  refine (?_:AC _ _ _ _ _)
  iterate 3 refine w_ ?_
  refine Qb ?_
  have e4:((-1):Int)=(Q4 (fun c=>off.any (fun y=>decide (c=y))) l):=by
   first | exact (hno.no (by omega)).symm
  exact fi_ [] hO ⟨rfl,trivial⟩ (h0:=(congrArg (fun z_=>lI z_) e4))
 ·have hb3':=ae hb3
  iterate 12 refine w_ ?_
  obtain ⟨x5,hx6⟩:∃z,l[k]? =some z:=⟨_,aa (by omega)⟩
  iterate 2 refine w_ ?_
  refine lc (Zk (args0:=[(false,[dS x5])]) (caps:=[0]) 1 [(0,0)] (VJ x5 off) Qh0 rfl (Qa rfl) rfl rfl ⟨_,_,rfl,(Qm rfl),rfl⟩ ⟨rfl,trivial⟩ rfl ⟨trivial,trivial⟩ (nlr rfl)) ?_
  refine w_ ?_
  cases hb7:(off.any (fun y=>decide (x5=y)))
  ·refine w_ ?_
   refine AC.skip ?_
   refine (?_:AC _ _ _ _ _)
   iterate 3 refine w_ ?_
   refine Qd ?_
   refine lK_ (hno.step hx6 (by assumption)) ?_
   exact Wk.of [] rfl ⟨rfl,rfl,rfl,rfl,trivial⟩ ⟨rfl,trivial⟩ rfl rfl
  ·iterate 5 refine w_ ?_
   refine Qb ?_
   have e8:((k:Int):Int)=(Q4 (fun c=>off.any (fun y=>decide (c=y))) l):=by
    exact (hno.at hx6 (by assumption)).symm
   exact fi_ [] hO ⟨rfl,trivial⟩ (h0:=(congrArg (fun z_=>lI z_) e8))
theorem X4 (l:List ByteArray)(off:List ByteArray):FC Tryz.prog 72 [(false,[.dat (.sl 9 .str) l]),(false,[.clo 251 [0]])] [bx 0 25 [.dat (.sl 9 .str) off]] 1 (Is (lB (l.any (fun c=>off.any (fun y=>decide (c=y))))) [bx 0 25 [.dat (.sl 9 .str) off]]):=by
 refine Ql Tryz.func72 rfl rfl Tryz.ntmps72 fun O_ hO w0_ N0_ X_ h0_ f0_=> ?_
 iterate 6 refine w_ ?_
 refine lc (dP 1 [] (WI l off) XE) ?_
 iterate 3 refine w_ ?_
 refine Qb ?_
 have e1:(decide (0≤(Q4 (fun c=>off.any (fun y=>decide (c=y))) l)):Bool)=(l.any (fun c=>off.any (fun y=>decide (c=y)))):=by
  exact XL _ _
 exact fi_ [] hO ⟨rfl,trivial⟩ (h0:=(congrArg (fun z_=>lB z_) e1))
theorem YL (n:Int)(on:List ByteArray)(off:List ByteArray):FC Tryz.prog 175 [(false,[dI n]),(false,[.dat (.sl 9 .str) on]),(false,[.dat (.sl 9 .str) off])] [] 0 (QH (lB (decide (OOk n on off)))):=by
 refine Ql Tryz.func175 rfl rfl Tryz.ntmps175 fun O_ hO w0_ N0_ X_ h0_ f0_=> ?_
 refine acI 0 fun hi1=> ?_
 refine w_ ?_
 refine xbx 0 ?_
 iterate 4 refine w_ ?_
 refine lc (dK (QM n 1 8) ZG) ?_
 refine w_ ?_
 cases hb2:(decide (1≤n∧n≤8))
 ·have hb2':=ab hb2
  iterate 17 refine w_ ?_
  refine Qb<|fqB hO ?_
  exact Qpk (by assumption)
 ·have hb2':=ae hb2
  iterate 2 refine w_ ?_
  refine lgy rfl rfl (dK (Vx n on 64 (by assumption)) QbK) ?_
  iterate 2 refine w_ ?_
  cases hb3:(decide (Xy n on∧(on.length:Int)≤64))
  ·have hb3':=ab hb3
   iterate 12 refine w_ ?_
   refine Qb<|fqB hO ?_
   exact QlT (by assumption)
  ·have hb3':=ae hb3
   iterate 2 refine w_ ?_
   refine lgy rfl rfl (dK (Vx n off 256 (by assumption)) QbK) ?_
   iterate 2 refine w_ ?_
   cases hb4:(decide (Xy n off∧(off.length:Int)≤256))
   ·have hb4':=ab hb4
    iterate 7 refine w_ ?_
    refine Qb<|fqB hO ?_
    exact QlM (by assumption)
   ·have hb4':=ae hb4
    refine w_ ?_
    refine lgy rfl rfl (Zj ⟨_,_,rfl,(Qa rfl),rfl,rfl⟩ rfl) ?_
    refine lgy rfl rfl (dP 1 [] (X4 on off) UY) ?_
    iterate 4 refine w_ ?_
    refine Qb<|fqB hO ?_
    exact Qtf (by assumption) (by assumption) (by assumption)
theorem Ud (n:Int)(on:List ByteArray)(off:List ByteArray):FC Tryz.prog 178 [(false,[dI n]),(false,[.dat (.sl 9 .str) on]),(false,[.dat (.sl 9 .str) off])] [] 0 (QH (lB (decide (OOk n on off)))):=by
 refine Ql Tryz.func178 rfl rfl Tryz.ntmps178 fun O_ hO w0_ N0_ X_ h0_ f0_=> ?_
 refine acI 0 fun hi1=> ?_
 iterate 6 refine w_ ?_
 refine lc (dK (YT n 1 8) XG) ?_
 iterate 2 refine w_ ?_
 cases hb2:(decide (1≤n∧n≤8))
 ·have hb2':=ab hb2
  iterate 26 refine w_ ?_
  refine Qb<|fqB hO ?_
  exact Qpk (by assumption)
 ·have hb2':=ae hb2
  refine w_ ?_
  refine alL 13 fun hl3=> ?_
  iterate 4 refine w_ ?_
  cases hb4:(decide (64 < (on.length:Int)))
  ·have hb4':=ab hb4
   refine w_ ?_
   refine alL 18 fun hl5=> ?_
   iterate 4 refine w_ ?_
   cases hb6:(decide (256 < (off.length:Int)))
   ·have hb6':=ab hb6
    iterate 2 refine w_ ?_
    refine lgy rfl rfl (dK (Vw n on) Qcg) ?_
    iterate 3 refine w_ ?_
    cases hb7:(decide (Xy n on))
    ·have hb7':=ab hb7
     iterate 10 refine w_ ?_
     refine Qb<|fqB hO ?_
     exact QlT (fun g=>absurd g.1 (by assumption))
    ·have hb7':=ae hb7
     iterate 2 refine w_ ?_
     refine lgy rfl rfl (dK (Vw n off) Qcg) ?_
     iterate 3 refine w_ ?_
     cases hb8:(decide (Xy n off))
     ·have hb8':=ab hb8
      iterate 4 refine w_ ?_
      refine Qb<|fqB hO ?_
      exact QlM (fun g=>absurd g.1 (by assumption))
     ·have hb8':=ae hb8
      iterate 5 refine w_ ?_
      refine alL 34 fun hl9=> ?_
      iterate 4 refine w_ ?_
      refine lpK on.length (fun k=>NoneTo (fun c=>Yq off c) on k) (fun k=>⟨[(2,lf (.dat (.sl 9 .str) off)),(34,lf (.dat (.sl 9 .str) on)),(35,lI (on.length:Int)),(36,lI (k:Int))],[]⟩) (NoneTo.zero) ?_ fun k hk10 hno=> ?_
      · exact Wk.of [] rfl ⟨rfl,rfl,rfl,rfl,trivial⟩ trivial rfl rfl
      iterate 4 refine w_ ?_
      cases hb11:(decide ((k:Int) < (on.length:Int)))
      ·have hb11':=ab hb11
       refine w_ ?_
       refine Qj ?_
       refine (?_:AC _ _ _ _ _)
       iterate 3 refine w_ ?_
       refine Qb<|fqB hO ?_
       exact Qqv (by assumption) (by assumption) (by omega) (by assumption) (by omega) hno (by omega)
      ·have hb11':=ae hb11
       iterate 5 refine w_ ?_
       obtain ⟨x12,hx13⟩:∃z,on[k]? =some z:=⟨_,aa (by omega)⟩
       iterate 7 refine w_ ?_
       refine lc (dK (Up off x12) Qc1) ?_
       refine w_ ?_
       cases hb14:(Yq off x12)
       ·refine w_ ?_
        refine AC.skip ?_
        refine (?_:AC _ _ _ _ _)
        iterate 3 refine w_ ?_
        refine Qd ?_
        refine lK_ (hno.step hx13 (by assumption)) ?_
        exact Wk.of [] rfl ⟨rfl,rfl,rfl,rfl,trivial⟩ trivial rfl rfl
       ·iterate 4 refine w_ ?_
        refine Qb<|fqB hO ?_
        exact QqJ hx13 (by assumption)
   ·have hb6':=ae hb6
    iterate 16 refine w_ ?_
    refine Qb<|fqB hO ?_
    exact QlM (fun g=>by have:=g.2; omega)
  ·have hb4':=ae hb4
   iterate 21 refine w_ ?_
   refine Qb<|fqB hO ?_
   exact QlT (fun g=>by have:=g.2; omega)
theorem JE (a:List ByteArray)(b:List ByteArray):FC Tryz.prog 84 [(false,[.dat (.sl 9 .str) a]),(false,[.dat (.sl 9 .str) b])] [] 0 (QH (lB (decide (a=b)))):=by
 refine Ql Tryz.func84 rfl rfl Tryz.ntmps84 fun O_ hO w0_ N0_ X_ h0_ f0_=> ?_
 iterate 6 refine w_ ?_
 refine alL 6 fun hl1=> ?_
 iterate 2 refine w_ ?_
 refine alL 8 fun hl2=> ?_
 iterate 3 refine w_ ?_
 refine cn_ (fun hb3 hb3'=> ?_) fun hb3 hb3'=> ?_
 ·iterate 4 refine w_ ?_
  refine alL 11 fun hl4=> ?_
  iterate 4 refine w_ ?_
  refine lpK a.length (fun k=>∀j,j < k→a[j]? =b[j]?) (fun k=>⟨[(0,lf (.dat (.sl 9 .str) a)),(1,lf (.dat (.sl 9 .str) b)),(12,lI (a.length:Int)),(13,lI (k:Int))],[]⟩) ((fun j hj=>absurd hj (b8 j))) ?_ fun k hk5 hE=> ?_
  · exact Wk.of [] rfl ⟨rfl,rfl,rfl,rfl,trivial⟩ trivial rfl rfl
  iterate 4 refine w_ ?_
  cases hb6:(decide ((k:Int) < (a.length:Int)))
  ·have hb6':=ab hb6
   refine w_ ?_
   refine Qj ?_
   refine (?_:AC _ _ _ _ _)
   iterate 3 refine w_ ?_
   refine Qb<|fqB hO ?_
   exact Qqm hE (by assumption) (by omega)
  ·have hb6':=ae hb6
   iterate 8 refine w_ ?_
   obtain ⟨x7,hx8⟩:∃z,a[k]? =some z:=⟨_,aa (by omega)⟩
   obtain ⟨x9,hx10⟩:∃z,b[k]? =some z:=⟨_,aa (by omega)⟩
   apply dW (i9 16 _ _ _ _ _ _ _ _ _ []) [0,1,0,0,15,31,15,15,0]
   iterate 9 refine z_ ?_
   exact zN
   cases hb11:(!decide (x7=x9))
   ·have hb11':(x7=x9):=QA hb11
    refine w_ ?_
    refine AC.skip ?_
    refine (?_:AC _ _ _ _ _)
    iterate 3 refine w_ ?_
    refine Qd ?_
    refine lK_ ((Qop hE hx8 hx10 (by assumption))) ?_
    exact Wk.of [] rfl ⟨rfl,rfl,rfl,rfl,trivial⟩ trivial rfl rfl
   ·have hb11':¬(x7=x9):=QS hb11
    iterate 4 refine w_ ?_
    refine Qb<|fqB hO ?_
    exact QrT hx8 hx10 (by assumption)
 ·iterate 3 refine w_ ?_
  refine Qb<|fqB hO ?_
  exact Qsz (by assumption)
end Go.Proofs.YtfkmmpfdncopdaaGreat
namespace Go.Proofs.YtfkmmpfdncopdaaGreat
open Go.RowKit
set_option maxRecDepth 100000
set_option maxHeartbeats 4000000
abbrev DOn:=List ByteArray×List ByteArray
def nsB (c:DSg)(sig k:Int):Bool:= !(decide (bAt (Z8 c k) sig=49)==ZD c k sig)
def pkF (c:DSg)(f:Int→Bool)(i:Nat):Option ByteArray:=if f (i:Int)=true then some (cdA c i) else none
def pkL (c:DSg)(f:Int→Bool)(k:Nat):List ByteArray:=rg (pkF c f) k
def Uh (c:DSg)(f g:Int→Bool):DOn:=(ofG ltB (pkL c f c.2.1.length),ofG ltB (pkL c g c.2.1.length))
def ZU (c:DSg)(f g:Int→Bool):Prop:=OOk (c.1.length:Int) (Uh c f g).1 (Uh c f g).2
instance (c:DSg) (f g:Int→Bool):Decidable (ZU c f g):=inferInstanceAs (Decidable (OOk _ _ _))
def KN (c:DSg)(f g:Int→Bool):DOn:=if ZU c f g then Uh c f g else ([],[])
section
variable {c:DSg}{f g:Int→Bool}{k j:Nat}{w x:ByteArray}{u:UInt8}{sig q:Int}{l:List ByteArray}
theorem Qps (h:c.2.1[q.toNat]? =some w)(hx:w[sig.toNat]? =some u):(!(decide (u=49)==ZD c q sig))=nsB c sig q:=by unfold nsB; rw[Xo h,Q2 hx]
theorem QgJ (h:c.2.1[k]? =some w):cdA c k=w:=by unfold cdA; rw[h]; rfl
theorem Hq (h:c.2.1[k]? =some w)(hf:f (k:Int)=true):pkL c f k++[w]=pkL c f (k+1):=rgN (by unfold pkF; rw[if_pos hf,QgJ h])
theorem Hr (hf:f (k:Int)=false):pkL c f k=pkL c f (k+1):=QrF (by unfold pkF; rw[if_neg (by rw[hf]; decide)])
theorem Qbu:(pkL c f k).length≤k:=QpJ
theorem Qf4 (xs:List ByteArray):Q7 (QY xs)=ofG ltB xs:=QeG QO (VT xs) fun _=>(YG xs).mem_iff
theorem Qnn (hk:c.2.1.length≤k)(hk2:k≤c.2.1.length):Q7 (QY (pkL c f k))=(Uh c f g).1:=by
  obtain rfl:k=c.2.1.length:=by omega
  exact Qf4 _
theorem Ql4 (hk:c.2.1.length≤k)(hk2:k≤c.2.1.length):Q7 (QY (pkL c g k))=(Uh c f g).2:=by
  obtain rfl:k=c.2.1.length:=by omega
  exact Qf4 _
theorem QmB (h:ZU c f g):KN c f g=Uh c f g:=if_pos h
theorem Qe4 (h:¬ZU c f g):KN c f g=([],[]):=if_neg h
theorem QdX {a b:List ByteArray}{m:Nat}(h:OOk (m:Int) (Q7 (QY a)) (Q7 (QY b)))(hm:m=c.1.length)(ha:a=pkL c f k)(hb:b=pkL c g k)(hk:c.2.1.length≤k)(hk2:k≤c.2.1.length):ZU c f g:=by
  rw[ha,hb,Qnn (g:=g) hk hk2,Ql4 (f:=f) hk hk2,hm] at h; exact h
theorem Qdm {a b:List ByteArray}{m:Nat}(h:¬OOk (m:Int) (Q7 (QY a)) (Q7 (QY b)))(hm:m=c.1.length)(ha:a=pkL c f k)(hb:b=pkL c g k)(hk:c.2.1.length≤k)(hk2:k≤c.2.1.length):¬ZU c f g:=by
  rw[ha,hb,Qnn (g:=g) hk hk2,Ql4 (f:=f) hk hk2,hm] at h; exact h
theorem Qsu {a:List ByteArray}(h:ZU c f g)(ha:a=pkL c f k)(hk:c.2.1.length≤k)(hk2:k≤c.2.1.length):Q7 (QY a)=(KN c f g).1:=by rw[ha,Qnn (g:=g) hk hk2,QmB h]
theorem QrY {b:List ByteArray}(h:ZU c f g)(hb:b=pkL c g k)(hk:c.2.1.length≤k)(hk2:k≤c.2.1.length):Q7 (QY b)=(KN c f g).2:=by rw[hb,Ql4 (f:=f) hk hk2,QmB h]
end
theorem WQ (c:(List (ByteArray×Int))×List ByteArray×(List (Int×Int×Bool×Int)))(k:Int)(sig:Int)(hs:SgOk c)(hg:0≤sig∧sig≤(c.1.length:Int) - 1)(hk:0≤k∧k < (c.2.1.length:Int)):FC Tryz.prog 89 [(true,[.dat (.sl 203 (.pr .str .int)) c.1, .dat (.sl 9 .str) c.2.1, .dat (.sl 136 (.pr .int (.pr .int (.pr .bool .int)))) c.2.2]),(false,[dI k]),(false,[dI sig])] [] 0 (QH (lB (nsB c sig k))):=by
 have hn3:=hs.some_
 have hfw:=hs.few
 have h8:=hs.sigs.2.2
 refine Ql Tryz.func89 rfl rfl Tryz.ntmps89 fun O_ hO w0_ N0_ X_ h0_ f0_=> ?_
 refine acI 1 fun hi1=> ?_
 refine acI 2 fun hi2=> ?_
 refine w_ ?_
 refine xbx 0 ?_
 iterate 2 refine w_ ?_
 obtain ⟨w,hx4⟩:∃z,c.2.1[(k).toNat]? =some z:=⟨_,aa (by omega)⟩
 have hw:=hx4
 have hws:=(hs.codes _ (ap hx4)).2
 obtain ⟨c5,hc6⟩:∃z,w[(sig).toNat]? =some z:=⟨_,aY _ _ (by omega)⟩
 apply dW (i7 7 _ _ _ _ _ _ _ (io 14 (lB (decide (c5=49))) :: i3 15 _ _ _ [io 18 (lB (ZD c k sig)),io 19 (lB (!((decide (c5=49))==(ZD c k sig)))),io 6 _])) [0,0,3,0,0,31,0,0,255,511,1023,255,0,0]
 iterate 7 refine z_ ?_
 refine zz (fun _ h_=>ac (Zm (h_.v rfl) (QG 49 rfl) rfl) rfl) ?_
 iterate 3 refine z_ ?_
 refine zz (fun _ h_=>ac (dK (Yz c k sig) U9) rfl) ?_
 refine zz (fun _ h_=>ac (ZA (h_.v rfl) (h_.v rfl) rfl Yc) rfl) ?_
 refine z_ ?_
 exact zN
 refine Qb<|fqB hO ?_
 first | exact Qps hw (by assumption)
theorem Vg (k:Int)(c:(List (ByteArray×Int))×List ByteArray×(List (Int×Int×Bool×Int)))(sig:Int)(hs:SgOk c)(hg:0≤sig∧sig≤(c.1.length:Int) - 1)(hk:0≤k∧k < (c.2.1.length:Int)):FC Tryz.prog 88 [(false,[dI k]),(false,[.ptr 0 0]),(false,[.ptr 1 0])] [bx 0 28 [.dat (.sl 203 (.pr .str .int)) c.1, .dat (.sl 9 .str) c.2.1, .dat (.sl 136 (.pr .int (.pr .int (.pr .bool .int)))) c.2.2],bx 1 3 [dI sig]] 2 (Is (lB (nsB c sig k)) [bx 0 28 [.dat (.sl 203 (.pr .str .int)) c.1, .dat (.sl 9 .str) c.2.1, .dat (.sl 136 (.pr .int (.pr .int (.pr .bool .int)))) c.2.2],bx 1 3 [dI sig]]):=by
 refine Ql Tryz.func88 rfl rfl Tryz.ntmps88 fun O_ hO w0_ N0_ X_ h0_ f0_=> ?_
 refine acI 0 fun hi1=> ?_
 iterate 7 refine w_ ?_
 refine alI 7 fun hi2=> ?_
 refine lc (dK (WQ c k sig hs hg hk) Qc5) ?_
 iterate 2 refine w_ ?_
 refine Qb ?_
 exact fi_ [] hO ⟨rfl,rfl,trivial⟩
theorem Xl (k:Int)(c:(List (ByteArray×Int))×List ByteArray×(List (Int×Int×Bool×Int)))(sig:Int)(hs:SgOk c)(hg:0≤sig∧sig≤(c.1.length:Int) - 1)(hk:0≤k∧k < (c.2.1.length:Int)):FC Tryz.prog 90 [(false,[dI k]),(false,[.ptr 0 0]),(false,[.ptr 1 0])] [bx 0 28 [.dat (.sl 203 (.pr .str .int)) c.1, .dat (.sl 9 .str) c.2.1, .dat (.sl 136 (.pr .int (.pr .int (.pr .bool .int)))) c.2.2],bx 1 3 [dI sig]] 2 (Is (lB (!(nsB c sig k))) [bx 0 28 [.dat (.sl 203 (.pr .str .int)) c.1, .dat (.sl 9 .str) c.2.1, .dat (.sl 136 (.pr .int (.pr .int (.pr .bool .int)))) c.2.2],bx 1 3 [dI sig]]):=by
 refine Ql Tryz.func90 rfl rfl Tryz.ntmps90 fun O_ hO w0_ N0_ X_ h0_ f0_=> ?_
 refine acI 0 fun hi1=> ?_
 iterate 7 refine w_ ?_
 refine alI 7 fun hi2=> ?_
 refine lc (dK (WQ c k sig hs hg hk) Qc5) ?_
 iterate 3 refine w_ ?_
 refine Qb ?_
 exact fi_ [] hO ⟨rfl,rfl,trivial⟩
theorem QbZ (g:(List (ByteArray×Int))×List ByteArray×(List (Int×Int×Bool×Int)))(c:(List (ByteArray×Int))×List ByteArray×(List (Int×Int×Bool×Int)))(sig:Int)(hs:SgOk c)(hg:0≤sig∧sig≤(c.1.length:Int) - 1)(hgc:g=c):FC Tryz.prog 87 [(true,[.dat (.sl 203 (.pr .str .int)) g.1, .dat (.sl 9 .str) g.2.1, .dat (.sl 136 (.pr .int (.pr .int (.pr .bool .int)))) g.2.2]),(false,[.clo 88 [0,1]]),(false,[.clo 90 [0,1]])] [bx 0 28 [.dat (.sl 203 (.pr .str .int)) c.1, .dat (.sl 9 .str) c.2.1, .dat (.sl 136 (.pr .int (.pr .int (.pr .bool .int)))) c.2.2],bx 1 3 [dI sig]] 2 (Is (PV.tup [(true,[.ref 2, .ref 3]),(false,[dB (decide (ZU c (fun q=>nsB c sig q) (fun q=> !(nsB c sig q))))])]) [bx 0 28 [.dat (.sl 203 (.pr .str .int)) c.1, .dat (.sl 9 .str) c.2.1, .dat (.sl 136 (.pr .int (.pr .int (.pr .bool .int)))) c.2.2],bx 1 3 [dI sig],ar 2 9 .str ((KN c (fun q=>nsB c sig q) (fun q=> !(nsB c sig q))).1),ar 3 9 .str ((KN c (fun q=>nsB c sig q) (fun q=> !(nsB c sig q))).2)]):=by
 have hn3:=hs.some_
 have hfw:=hs.few
 have h8:=hs.sigs.2.2
 have hgl:g.2.1.length=c.2.1.length:=by rw[hgc]
 have hg1:g.1.length=c.1.length:=by rw[hgc]
 refine Ql Tryz.func87 rfl rfl Tryz.ntmps87 fun O_ hO w0_ N0_ X_ h0_ f0_=> ?_
 refine w_ ?_
 refine xbx 2 ?_
 refine lc (xal 3 (.pr (.sl 9 .str) (.sl 9 .str)) Ze) ?_
 iterate 3 refine w_ ?_
 refine lc (Qp UO rfl (aB.1 rfl) rfl rfl)<|lc (xal 4 (.pr (.sl 9 .str) (.sl 9 .str)) Ze) ?_
 iterate 6 refine w_ ?_
 refine alL 13 fun hl1=> ?_
 iterate 4 refine w_ ?_
 refine AC.wk (Qu 5 (p:=4) (off:=0) 9 .str rfl rfl (Fresh.of rfl) (nlr rfl))<|AC.wk (Qu 7 (p:=4) (off:=1) 9 .str rfl rfl (Fresh.of rfl) (nlr rfl)) ?_
 refine Qy (fun m_ s_=>∃(k:Nat) (on_:List ByteArray) (of_:List ByteArray),k≤g.2.1.length∧m_=g.2.1.length - k∧(on_=pkL c (fun q=>nsB c sig q) k)∧(of_=pkL c (fun q=> !(nsB c sig q)) k)∧s_=⟨[(1,lf (.clo 88 [0,1])),(2,lf (.clo 90 [0,1])),(3,lP 2 0),(6,lP 3 0),(7,lB false),(8,lP 4 0),(13,lf (.dat (.sl 9 .str) g.2.1)),(14,lI (g.2.1.length:Int)),(15,lI (k:Int))],[bx 0 28 [.dat (.sl 203 (.pr .str .int)) c.1, .dat (.sl 9 .str) c.2.1, .dat (.sl 136 (.pr .int (.pr .int (.pr .bool .int)))) c.2.2],bx 1 3 [dI sig],bx 2 28 [.dat (.sl 203 (.pr .str .int)) g.1, .dat (.sl 9 .str) g.2.1, .dat (.sl 136 (.pr .int (.pr .int (.pr .bool .int)))) g.2.2],bx 3 47 [.val (.slice none 0 0), .val (.slice none 0 0)],bx 4 47 [.ref 6, .ref 8],ar 6 9 .str on_,ar 8 9 .str of_]⟩) ⟨0,([]:((.sl 9 .str):Ty).Den),([]:((.sl 9 .str):Ty).Den),aR _,rfl,rfl,rfl,rfl⟩ ?_ ?_
 · exact Wk.of [(6,5),(8,7)] rfl ⟨rfl,rfl,rfl,rfl,rfl,rfl,rfl,rfl,rfl,trivial⟩ ⟨rfl,rfl,rfl,rfl,rfl,(Qn (by first | rfl | simp)),(Qn (by first | rfl | simp)),trivial⟩ rfl rfl
 rintro m_ s_ ⟨k,on_,of_,hk2,hm3,hO1,hO2,rfl⟩
 have hol:on_.length≤k:=by rw[hO1]; exact Qbu
 have hfl:of_.length≤k:=by rw[hO2]; exact Qbu
 iterate 4 refine w_ ?_
 cases hb4:(decide ((k:Int) < (g.2.1.length:Int)))
 ·have hb4':=ab hb4
  refine w_ ?_
  refine Qj ?_
  refine (?_:AC _ _ _ _ _)
  iterate 3 refine w_ ?_
  refine lc (dP 9 [(0,6)] (Uq on_ (by omega)) Wm) ?_
  iterate 4 refine w_ ?_
  refine lc (dP 10 [(0,8)] (Uq of_ (by omega)) Wm) ?_
  refine w_ ?_
  apply dW (i2 45 _ _ [⟨some 47,lR 11,[ar 11 9 .str (Q7 (QY on_)),(6,none)]⟩,io 48 (lP 4 1),io 49 (lR 8),⟨some 50,lR 12,[ar 12 9 .str (Q7 (QY of_)),(8,none)]⟩,io 51 (lP 4 0),⟨none,lf (.val undef),[bx 4 47 [.ref 11, .ref 8]]⟩,io 52 _,⟨none,lf (.val undef),[bx 4 47 [.ref 11, .ref 12]]⟩]) [0,0,0,7,7,0,32,0,0,0]
  iterate 2 refine z_ ?_
  refine zz (fun _ h_=>ac (dP 11 [(0,6)] (QU (QY on_) (by rw[ZM]; omega)) Wz) rfl) ?_
  iterate 2 refine z_ ?_
  refine zz (fun _ h_=>ac (dP 12 [(0,8)] (QU (QY of_) (by rw[ZM]; omega)) Wz) rfl) ?_
  refine z_ ?_
  refine zz (fun _ h_=>ac (Zf (h_.v rfl) (h_.en 4 rfl) (h_.w rfl) (by simp only[Q6,Vb,bm,bJ]; rw[(h_.en 11 rfl)]; rfl) Qcr rfl) rfl) ?_
  refine z_ ?_
  refine zz (fun _ h_=>ac (Zf (h_.v rfl) (h_.en 4 rfl) (h_.w rfl) (by simp only[Q6,Vb,bm,bJ]; rw[(h_.en 12 rfl)]; rfl) Qcr rfl) rfl) ?_
  exact zN
  iterate 4 refine w_ ?_
  refine alL 54 fun hl5=> ?_
  iterate 5 refine w_ ?_
  refine lc (dB_ (YL (g.1.length:Int) (Q7 (QY on_)) (Q7 (QY of_))) K0) ?_
  iterate 2 refine w_ ?_
  cases hb6:(decide (OOk (g.1.length:Int) (Q7 (QY on_)) (Q7 (QY of_))))
  ·have hb6':=ab hb6
   iterate 2 refine w_ ?_
   refine lc (Qp UO rfl (aB.1 rfl) rfl rfl) ?_
   iterate 3 refine w_ ?_
   refine AC.wk (Qu 13 (p:=3) (off:=0) 9 .str rfl rfl (Fresh.of rfl) (nlr rfl))<|AC.wk (Qu 14 (p:=3) (off:=1) 9 .str rfl rfl (Fresh.of rfl) (nlr rfl))<|Qb ?_
   have e7:(false:Bool)=(decide (ZU c (fun q=>nsB c sig q) (fun q=> !(nsB c sig q)))):=by
    exact (ay (Qdm (by assumption) hg1 hO1 hO2 (by omega) (by omega))).symm
   exact fi_ [(2,13),(3,14)] hO ⟨rfl,rfl,(Qn (by (rw[Qe4 (Qdm (by assumption) hg1 hO1 hO2 (by omega) (by omega))]; done))),(Qn (by (rw[Qe4 (Qdm (by assumption) hg1 hO1 hO2 (by omega) (by omega))]; done))),trivial⟩ (h0:=(congrArg (fun z_=>PV.tup [(true,[.ref 13, .ref 14]),(false,[dB z_])]) e7))
  ·have hb6':=ae hb6
   iterate 7 refine w_ ?_
   refine Qb ?_
   have e8:(true:Bool)=(decide (ZU c (fun q=>nsB c sig q) (fun q=> !(nsB c sig q)))):=by
    exact (aJ (QdX (by assumption) hg1 hO1 hO2 (by omega) (by omega))).symm
   exact fi_ [(2,11),(3,12)] hO ⟨rfl,rfl,(Qn (by exact Qsu (QdX (by assumption) hg1 hO1 hO2 (by omega) (by omega)) hO1 (by omega) (by omega))),(Qn (by exact QrY (QdX (by assumption) hg1 hO1 hO2 (by omega) (by omega)) hO2 (by omega) (by omega))),trivial⟩ (h0:=(congrArg (fun z_=>PV.tup [(true,[.ref 11, .ref 12]),(false,[dB z_])]) e8))
 ·have hb4':=ae hb4
  iterate 6 refine w_ ?_
  obtain ⟨w,hx10⟩:∃z,g.2.1[k]? =some z:=⟨_,aa (by omega)⟩
  have hw:c.2.1[k]? =some w:=by rw[← hgc]; exact hx10
  iterate 9 refine w_ ?_
  refine lc (Zk (args0:=[(false,[dI (k:Int)])]) (caps:=[0,1]) 15 [(0,0),(1,1)] (Vg (k:Int) c sig hs hg (by omega)) QjP rfl (Qa rfl) rfl rfl ⟨_,_,rfl,(Qm rfl),rfl⟩ ⟨rfl,rfl,trivial⟩ rfl ⟨trivial,trivial,trivial⟩ (nlr rfl)) ?_
  refine w_ ?_
  cases hb11:(nsB c sig (k:Int))
  ·iterate 5 refine w_ ?_
   refine lc (Zk (args0:=[(false,[dI (k:Int)])]) (caps:=[0,1]) 17 [(0,0),(1,1)] (Xl (k:Int) c sig hs hg (by omega)) Qdt rfl (Qa rfl) rfl rfl ⟨_,_,rfl,(Qm rfl),rfl⟩ ⟨rfl,rfl,trivial⟩ rfl ⟨trivial,trivial,trivial⟩ (nlr rfl)) ?_
   refine w_ ?_
   have hb12:(nsB c sig (k:Int))=false:=hb11
   try rw[hb12]
   iterate 5 refine w_ ?_
   refine lc (dBs 19 (e:= .str) Yb) ?_
   refine lc (dA 20 Y6) ?_
   iterate 2 refine w_ ?_
   refine Qd ?_
   refine (?_:AC _ _ _ _ _)
   iterate 3 refine w_ ?_
   refine Qd<|Q0 ⟨k+1,on_,(of_++([w])),by omega,rfl,(by rw[hO1]; first | exact Hq hw (by assumption) | exact Hr (by assumption)),(by rw[hO2]; first | exact Hq hw (by simp[*]) | exact Hr (by simp[*])),rfl⟩ (by omega) ?_
   exact Wk.of [(8,20)] rfl ⟨rfl,rfl,rfl,rfl,rfl,rfl,rfl,rfl,rfl,trivial⟩ ⟨rfl,rfl,rfl,rfl,rfl,rfl,(Qn (by first | rfl | simp)),trivial⟩ rfl rfl
  ·iterate 5 refine w_ ?_
   refine lc (dBs 21 (e:= .str) Yb) ?_
   refine lc (dA 22 Y6) ?_
   iterate 6 refine w_ ?_
   refine lc (Zk (args0:=[(false,[dI (k:Int)])]) (caps:=[0,1]) 23 [(0,0),(1,1)] (Xl (k:Int) c sig hs hg (by omega)) Qdt rfl (Qa rfl) rfl rfl ⟨_,_,rfl,(Qm rfl),rfl⟩ ⟨rfl,rfl,trivial⟩ rfl ⟨trivial,trivial,trivial⟩ (nlr rfl)) ?_
   refine w_ ?_
   have hb13:(nsB c sig (k:Int))=true:=hb11
   try rw[hb13]
   refine w_ ?_
   refine AC.skip ?_
   refine (?_:AC _ _ _ _ _)
   iterate 3 refine w_ ?_
   refine Qd<|Q0 ⟨k+1,(on_++([w])),of_,by omega,rfl,(by rw[hO1]; first | exact Hq hw (by assumption) | exact Hr (by assumption)),(by rw[hO2]; first | exact Hq hw (by simp[*]) | exact Hr (by simp[*])),rfl⟩ (by omega) ?_
   exact Wk.of [(6,22)] rfl ⟨rfl,rfl,rfl,rfl,rfl,rfl,rfl,rfl,rfl,trivial⟩ ⟨rfl,rfl,rfl,rfl,rfl,(Qn (by first | rfl | simp)),rfl,trivial⟩ rfl rfl
end Go.Proofs.YtfkmmpfdncopdaaGreat
namespace Go.Proofs.YtfkmmpfdncopdaaGreat
open Go.RowKit
set_option maxRecDepth 100000
set_option maxHeartbeats 4000000
def W6 (c:DSg)(sig:Int)(way:ByteArray)(k:Int):Bool×Bool:=
  if way=⟨#[100,111,119,110]⟩ then (ZD c k sig&&decide (bAt (Z8 c k) sig=49), !(ZD c k sig==decide (bAt (Z8 c k) sig=49)))
  else if way=⟨#[117,112]⟩ then (ZD c k sig&& !decide (bAt (Z8 c k) sig=49),ZD c k sig==decide (bAt (Z8 c k) sig=49))
  else (!(ZD c k sig==decide (bAt (Z8 c k) sig=49)),ZD c k sig==decide (bAt (Z8 c k) sig=49))
abbrev wOn (c:DSg)(sig:Int)(way:ByteArray)(k:Int):Bool:=(W6 c sig way k).1
abbrev wOf (c:DSg)(sig:Int)(way:ByteArray)(k:Int):Bool:=(W6 c sig way k).2
section
variable {c:DSg}{f g:Int→Bool}{k j:Nat}{w x s way:ByteArray}{u:UInt8}{sig q m:Int}{l o:List ByteArray}
theorem Qlo (h:Yq l x=true):l.Pairwise (fun a b=>ltB a b=true)→l=QN ltB x l:=fun hs=>by
  obtain ⟨i,hi⟩:=aM.1 (Yt.1 h)
  refine (J6 (k:=i) (fun j hj y hy=> ?_) hi (QO.irr x)).symm
  obtain ⟨h1,e1⟩:=ah.1 hy
  obtain ⟨h2,e2⟩:=ah.1 hi
  rw[← e1,← e2]
  exact List.pairwise_iff_getElem.1 hs _ _ h1 h2 hj
theorem Qm7 (hx:Yq l x=false)(hP:∀j:Nat,(j:Int) < m→∀y,l[j]? =some y→ltB y x=true)(h0:0≤m)(h1:m≤(l.length:Int))(h:∀y,l[m.toNat]? =some y→ltB y x=false):l.take m.toNat++[x]++l.drop m.toNat=QN ltB x l:=
  Qsk hP h0 h1 fun y hy=>⟨h y hy,fun e=>by subst e; rw[Yt.2 (ap hy)] at hx; cases hx⟩
theorem Zs (h:c.2.1[k]? =some w)(hf:f (k:Int)=true):QN ltB w (ofG ltB (pkL c f k))=ofG ltB (pkL c f (k+1)):=by rw[← Hq h hf]; exact QfI
theorem Zt (hf:f (k:Int)=false):ofG ltB (pkL c f k)=ofG ltB (pkL c f (k+1)):=by rw[Hr hf]
theorem QiC:(ofG ltB (pkL c f k)).length≤k:=by
  have h1:(ofG ltB (pkL c f k)).Nodup:=(Q1 QO _).imp fun h e=>by subst e; rw[QO.irr] at h; cases h
  have h2:=H0 h1 fun x hx=>(XI QO _).1 hx
  exact bw h2 Qbu
end
theorem Um (l:List ByteArray)(x:ByteArray)(hl:l.length≤900000000)(hx:Yq l x=false):FC Tryz.prog 307 [(false,[.dat (.sl 9 .str) l]),(false,[dS x])] [] 0 (QH (lf (.dat (.sl 9 .str) (QN ltB x l)))):=by
 refine Ql Tryz.func307 rfl rfl Tryz.ntmps307 fun O_ hO w0_ N0_ X_ h0_ f0_=> ?_
 iterate 8 refine w_ ?_
 refine Qy (fun m_ s_=>∃(m:Int),m_=((l.length:Int) - m).toNat∧(0≤m∧m≤(l.length:Int))∧(∀j:Nat,(j:Int) < m→∀y,l[j]? =some y→ltB y x=true)∧s_=⟨[(0,lf (.dat (.sl 9 .str) l)),(1,lf (dS x)),(4,lf (.val (.slice none 0 0))),(5,lI m)],[]⟩) ⟨0,rfl,(by omega),(fun j hj=>by omega),rfl⟩ ?_ ?_
 · exact Wk.of [] rfl ⟨rfl,rfl,rfl,rfl,trivial⟩ trivial rfl rfl
 rintro m_ s_ ⟨m,hm2,hm,hP,rfl⟩
 iterate 4 refine w_ ?_
 refine alL 7 fun hl3=> ?_
 iterate 3 refine w_ ?_
 cases hb4:(decide (m < (l.length:Int)))
 ·have hb4':=ab hb4
  iterate 9 refine w_ ?_
  refine Qj ?_
  refine (?_:AC _ _ _ _ _)
  apply dW (i2 20 _ _ [io 22 (lf (.dat (.sl 9 .str) ((l.take (m).toNat).drop 0))),⟨some 23,lR 0,[ar 0 9 .str ((l.take (m).toNat).drop 0)]⟩,io 24 (lf (dS x)),⟨some 25,lR 1,[ar 1 9 .str ([x])]⟩,⟨some 26,lR 2,[ar 2 9 .str (((l.take (m).toNat).drop 0)++([x])),(0,none),(1,none)]⟩,io 27 (lf (.dat (.sl 9 .str) l)),io 28 (lI m),io 29 (lf (.dat (.sl 9 .str) ((l.take l.length).drop (m).toNat))),⟨some 30,lR 3,[ar 3 9 .str ((((l.take (m).toNat).drop 0)++([x]))++((l.take l.length).drop (m).toNat)),(2,none)]⟩,io 4 _]) [0,1,0,0,15,15,0,127,255,127,0,0]
  iterate 2 refine z_ ?_
  refine zz (fun _ h_=>ac (WP (l:=none) (h:=(some m)) (h_.v rfl) (by exact trivial) (by exact (h_.v rfl)) Zd ZH rfl (by simp only[ak,aj]; omega) (by simp only[ak,aj]; omega) (by simp only[ak,aj]; omega)) rfl) ?_
  refine zz (fun _ h_=>ac (dO 0 (Us ((l.take (m).toNat).drop 0) (by simp only[aq,bd]; omega)) Qdz) rfl) ?_
  refine z_ ?_
  refine zz (fun _ h_=>ac (dBs 1 (e:= .str) Yb) rfl) ?_
  refine zz (fun _ h_=>ac (dA 2 Y6 (hb:=by (simp only[ai,aq,bd,au,aF]; omega))) rfl) ?_
  iterate 2 refine z_ ?_
  refine zz (fun _ h_=>ac (WP (l:=(some m)) (h:=none) (h_.v rfl) (by exact (h_.v rfl)) (by exact trivial) Zd ZH rfl (by simp only[ak,aj]; omega) (by simp only[ak,aj]; omega) (by simp only[ak,aj]; omega)) rfl)<|zz (fun _ h_=>ac (Za 3 (h_.v rfl) (h_.en 2 rfl) (Evl.rep (h_.v rfl)) rfl Zd Y6 (by (simp only[ai,aq,bd,au,aF]; omega)) rfl (h_.fr 3 rfl) (nlr rfl)) rfl) ?_
  refine z_ ?_
  exact zN
  refine AC.wk (Wk.freeze (i:=4) (q:=3) rfl rfl)<|Qb<|fq_ hO ?_
  (rw[dp,db]; exact Qm7 hx hP (by omega) (by omega) (fun z hz=>by rw[bp (by omega)] at hz; cases hz))
 ·have hb4':=ae hb4
  iterate 2 refine w_ ?_
  obtain ⟨y,hx6⟩:∃z,l[(m).toNat]? =some z:=⟨_,aa (by omega)⟩
  have yh:=hx6
  iterate 3 refine w_ ?_
  refine lgy rfl rfl (HD (Qa rfl) (Qa rfl) rfl) ?_
  iterate 2 refine w_ ?_
  cases hb7:(Op.bytesLess y.toList x.toList)
  ·refine w_ ?_
   refine Qj ?_
   refine (?_:AC _ _ _ _ _)
   apply dW (i2 20 _ _ [io 22 (lf (.dat (.sl 9 .str) ((l.take (m).toNat).drop 0))),⟨some 23,lR 4,[ar 4 9 .str ((l.take (m).toNat).drop 0)]⟩,io 24 (lf (dS x)),⟨some 25,lR 5,[ar 5 9 .str ([x])]⟩,⟨some 26,lR 6,[ar 6 9 .str (((l.take (m).toNat).drop 0)++([x])),(4,none),(5,none)]⟩,io 27 (lf (.dat (.sl 9 .str) l)),io 28 (lI m),io 29 (lf (.dat (.sl 9 .str) ((l.take l.length).drop (m).toNat))),⟨some 30,lR 7,[ar 7 9 .str ((((l.take (m).toNat).drop 0)++([x]))++((l.take l.length).drop (m).toNat)),(6,none)]⟩,io 4 _]) [0,1,0,0,15,15,0,127,255,127,0,0]
   iterate 2 refine z_ ?_
   refine zz (fun _ h_=>ac (WP (l:=none) (h:=(some m)) (h_.v rfl) (by exact trivial) (by exact (h_.v rfl)) Zd ZH rfl (by simp only[ak,aj]; omega) (by simp only[ak,aj]; omega) (by simp only[ak,aj]; omega)) rfl) ?_
   refine zz (fun _ h_=>ac (dO 4 (Us ((l.take (m).toNat).drop 0) (by simp only[aq,bd]; omega)) Qdz) rfl) ?_
   refine z_ ?_
   refine zz (fun _ h_=>ac (dBs 5 (e:= .str) Yb) rfl) ?_
   refine zz (fun _ h_=>ac (dA 6 Y6 (hb:=by (simp only[ai,aq,bd,au,aF]; omega))) rfl) ?_
   iterate 2 refine z_ ?_
   refine zz (fun _ h_=>ac (WP (l:=(some m)) (h:=none) (h_.v rfl) (by exact (h_.v rfl)) (by exact trivial) Zd ZH rfl (by simp only[ak,aj]; omega) (by simp only[ak,aj]; omega) (by simp only[ak,aj]; omega)) rfl)<|zz (fun _ h_=>ac (Za 7 (h_.v rfl) (h_.en 6 rfl) (Evl.rep (h_.v rfl)) rfl Zd Y6 (by (simp only[ai,aq,bd,au,aF]; omega)) rfl (h_.fr 7 rfl) (nlr rfl)) rfl) ?_
   refine z_ ?_
   exact zN
   refine AC.wk (Wk.freeze (i:=4) (q:=7) rfl rfl)<|Qb<|fq_ hO ?_
   (rw[dp,db]; exact Qm7 hx hP (by omega) (by omega) (fun z hz=>by rw[yh] at hz; cases hz; assumption))
  ·iterate 7 refine w_ ?_
   refine Qd<|Q0 ⟨(m+1),rfl,(by omega),(Qn9 hP yh (by assumption)),rfl⟩ (by omega) ?_
   exact Wk.of [] rfl ⟨rfl,rfl,rfl,rfl,trivial⟩ trivial rfl rfl
theorem QR (l:List ByteArray)(x:ByteArray)(hl:l.length≤900000000)(hs:l.Pairwise fun a b=>ltB a b=true):FC Tryz.prog 252 [(false,[.dat (.sl 9 .str) l]),(false,[dS x])] [] 0 (QH (lf (.dat (.sl 9 .str) (QN ltB x l)))):=by
 refine Ql Tryz.func252 rfl rfl Tryz.ntmps252 fun O_ hO w0_ N0_ X_ h0_ f0_=> ?_
 iterate 7 refine w_ ?_
 refine lc (dK (Up l x) Qc1) ?_
 refine w_ ?_
 refine cb_ (fun hb1=> ?_) fun hb1=> ?_
 ·iterate 4 refine w_ ?_
  refine lc (dK (Um l x (by omega) (by assumption)) Qbg) ?_
  iterate 2 refine w_ ?_
  refine Qb ?_
  exact fe_ hO
 ·iterate 4 refine w_ ?_
  refine Qb<|fq_ hO ?_
  exact Qlo (by assumption) hs
end Go.Proofs.YtfkmmpfdncopdaaGreat
