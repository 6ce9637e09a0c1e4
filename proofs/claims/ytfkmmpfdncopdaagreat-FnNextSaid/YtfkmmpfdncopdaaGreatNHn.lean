/- Walks over abstract states: covers at a code, the codes of a cover; small functions of the laws. -/
import Derived.Test.YtfkmmpfdncopdaaGreatNHh
import Derived.Test.YtfkmmpfdncopdaaGreatNHx
import Derived.Test.YtfkmmpfdncopdaaGreatNDf
set_option linter.unusedSimpArgs false
set_option linter.unusedVariables false
set_option linter.unusedSectionVars false
namespace Go.Proofs.YtfkmmpfdncopdaaGreat
open Go.RowKit
set_option maxRecDepth 100000
set_option maxHeartbeats 4000000
def ccP (l:List ByteArray)(code:ByteArray):Prop:=Ub (code.size:Int) l∧WU code (code.size:Int)
instance (l:List ByteArray) (code:ByteArray):Decidable (ccP l code):=inferInstanceAs (Decidable (_∧_))
def ccV (l:List ByteArray)(code:ByteArray):Bool:=decide (ccP l code)&&l.any fun c=>QV c code
def Qt8 (n:Int)(l:List ByteArray):List ByteArray:=(Qby n.toNat).filter fun x=>l.any fun c=>QV c x
def cdK (n:Int)(l:List ByteArray)(k:Nat):List ByteArray:=((Qby n.toNat).take k).filter fun x=>l.any fun c=>QV c x
section
variable {l:List ByteArray}{c x code:ByteArray}{n:Int}{k:Nat}
theorem Qsr (h1:Ub (code.size:Int) l)(h2:WU code (code.size:Int)):ccV l code=(l.any fun c=>QV c code)∧decide (ccP l code)=true:=by
  have:decide (ccP l code)=true:=aJ ⟨h1,h2⟩
  exact ⟨by unfold ccV; rw[this]; rfl,this⟩
theorem QoI (h:¬ccP l code):ccV l code=false∧decide (ccP l code)=false:=by
  have:decide (ccP l code)=false:=ay h
  exact ⟨by unfold ccV; rw[this]; rfl,this⟩
end
theorem Xw (l:List ByteArray)(code:ByteArray):FC Tryz.prog 18 [(false,[.dat (.sl 9 .str) l]),(false,[dS code])] [] 0 (QH (PV.tup [(false,[dB (ccV l code)]),(false,[dB (decide (ccP l code))])])):=by
 refine Ql Tryz.func18 rfl rfl Tryz.ntmps18 fun O_ hO w0_ N0_ X_ h0_ f0_=> ?_
 iterate 7 refine w_ ?_
 refine alS 6 fun hl1=> ?_
 refine lc (QZ (Qa rfl) rfl Zc) ?_
 refine w_ ?_
 refine lc (dK (Uu (code.size:Int) l) QkS) ?_
 iterate 2 refine w_ ?_
 cases hb2:(decide (Ub (code.size:Int) l))
 ·have hb2':=ab hb2
  iterate 12 refine w_ ?_
  refine Qb ?_
  have e3:(false:Bool)=(ccV l code):=by
   exact (QoI (fun g=>absurd g.1 (by assumption))).1.symm
  have e4:(false:Bool)=(decide (ccP l code)):=by
   exact (QoI (fun g=>absurd g.1 (by assumption))).2.symm
  exact fr_ hO (e:=((congrArg (fun z_=>PV.tup [(false,[dB z_]),(false,[dB false])]) e3)).trans (congrArg (fun z_=>PV.tup [(false,[dB (ccV l code)]),(false,[dB z_])]) e4))
 ·have hb2':=ae hb2
  iterate 2 refine w_ ?_
  refine alS 13 fun hl5=> ?_
  refine lgy rfl rfl (QZ (Qa rfl) rfl Zc) ?_
  refine lgy rfl rfl (dK (Uw code (code.size:Int)) QdC) ?_
  iterate 3 refine w_ ?_
  cases hb6:(decide (WU code (code.size:Int)))
  ·have hb6':=ab hb6
   iterate 5 refine w_ ?_
   refine Qb ?_
   have e7:(false:Bool)=(ccV l code):=by
    exact (QoI (fun g=>absurd g.2 (by assumption))).1.symm
   have e8:(false:Bool)=(decide (ccP l code)):=by
    exact (QoI (fun g=>absurd g.2 (by assumption))).2.symm
   exact fr_ hO (e:=((congrArg (fun z_=>PV.tup [(false,[dB z_]),(false,[dB false])]) e7)).trans (congrArg (fun z_=>PV.tup [(false,[dB (ccV l code)]),(false,[dB z_])]) e8))
  ·have hb6':=ae hb6
   iterate 5 refine w_ ?_
   refine lc (dK (Qba l code (fun c hc=>by have:=Qqg (by assumption:Ub (code.size:Int) l) hc; omega)) QkC) ?_
   iterate 3 refine w_ ?_
   refine Qb ?_
   have e9:(l.any (fun c=>QV c code):Bool)=(ccV l code):=by
    exact (Qsr (by assumption) (by assumption)).1.symm
   have e10:(true:Bool)=(decide (ccP l code)):=by
    exact (Qsr (by assumption) (by assumption)).2.symm
   exact fr_ hO (e:=((congrArg (fun z_=>PV.tup [(false,[dB z_]),(false,[dB true])]) e9)).trans (congrArg (fun z_=>PV.tup [(false,[dB (ccV l code)]),(false,[dB z_])]) e10))
theorem Zx (a:List ByteArray×List ByteArray)(b:List ByteArray×List ByteArray):FC Tryz.prog 24 [(true,[.dat (.sl 9 .str) a.1, .dat (.sl 9 .str) a.2]),(true,[.dat (.sl 9 .str) b.1, .dat (.sl 9 .str) b.2])] [] 0 (QH (lB (decide (a.1=b.1∧a.2=b.2)))):=by
 refine Ql Tryz.func24 rfl rfl Tryz.ntmps24 fun O_ hO w0_ N0_ X_ h0_ f0_=> ?_
 refine w_ ?_
 refine xbx 0 ?_
 refine xbx 1 ?_
 iterate 7 refine w_ ?_
 refine lc (dK (JE a.1 b.1) Qd2) ?_
 refine w_ ?_
 cases hb1:(decide (a.1=b.1))
 ·have hb1':=ab hb1
  iterate 8 refine w_ ?_
  refine Qb<|fqB hO ?_
  exact (ay fun g=>absurd g.1 (by assumption)).symm
 ·have hb1':=ae hb1
  iterate 4 refine w_ ?_
  refine lgy rfl rfl (dK (JE a.2 b.2) Qd2) ?_
  iterate 3 refine w_ ?_
  refine Qb<|fqB hO ?_
  exact bL.2 ⟨fun g=>⟨by assumption,g⟩,fun g=>g.2⟩
theorem WJ (a:List ByteArray)(b:List ByteArray)(h:a=b):FC Tryz.prog 11 [(false,[.dat (.sl 9 .str) a]),(false,[.dat (.sl 9 .str) b])] [] 0 (QH (lB true)):=by
 have hlx:a.length=b.length:=by rw[h]
 refine Ql Tryz.func11 rfl rfl Tryz.ntmps11 fun O_ hO w0_ N0_ X_ h0_ f0_=> ?_
 iterate 6 refine w_ ?_
 refine alL 6 fun hl1=> ?_
 iterate 2 refine w_ ?_
 refine alL 8 fun hl2=> ?_
 iterate 3 refine w_ ?_
 refine cn_ (fun hb3 hb3'=> ?_) fun hb3 hb3'=> ?_
 ·iterate 4 refine w_ ?_
  refine alL 11 fun hl4=> ?_
  iterate 4 refine w_ ?_
  refine lp0 a.length (fun k=>⟨[(0,lf (.dat (.sl 9 .str) a)),(1,lf (.dat (.sl 9 .str) b)),(12,lI (a.length:Int)),(13,lI (k:Int))],[]⟩) ?_ fun k hk5=> ?_
  · exact Wk.of [] rfl ⟨rfl,rfl,rfl,rfl,trivial⟩ trivial rfl rfl
  iterate 4 refine w_ ?_
  cases hb6:(decide ((k:Int) < (a.length:Int)))
  ·have hb6':=ab hb6
   refine w_ ?_
   refine Qj ?_
   refine (?_:AC _ _ _ _ _)
   iterate 3 refine w_ ?_
   refine Qb ?_
   exact fe_ hO
  ·have hb6':=ae hb6
   iterate 8 refine w_ ?_
   obtain ⟨x7,hx8⟩:∃z,a[k]? =some z:=⟨_,aa (by omega)⟩
   obtain ⟨x9,hx10⟩:∃z,b[k]? =some z:=⟨_,aa (by omega)⟩
   apply dW (i9 16 _ _ _ _ _ _ _ _ _ []) [0,1,0,0,15,31,15,15,0]
   iterate 9 refine z_ ?_
   exact zN
   cases hb11:(!decide (x7=x9))
   ·have hb11':(x7=x9):=QA hb11
    refine w_ ?_
    refine AC.skip ?_
    refine (?_:AC _ _ _ _ _)
    iterate 3 refine w_ ?_
    refine Qd ?_
    refine l0_ ?_
    exact Wk.of [] rfl ⟨rfl,rfl,rfl,rfl,trivial⟩ trivial rfl rfl
   ·have hb11':¬(x7=x9):=QS hb11
    iterate 4 refine w_ ?_
    refine Qb<|fqB hO ?_
    (subst h; exfalso; simp_all; done)
 ·iterate 3 refine w_ ?_
  refine Qb<|fqB hO ?_
  (subst h; exfalso; simp_all; done)
theorem X0 (l:List ByteArray)(s:ByteArray):FC Tryz.prog 12 [(false,[.dat (.sl 9 .str) l]),(false,[dS s])] [] 0 (QH (lI (Q4 (fun y=>decide (y=s)) l))):=by
 refine Ql Tryz.func12 rfl rfl Tryz.ntmps12 fun O_ hO w0_ N0_ X_ h0_ f0_=> ?_
 iterate 6 refine w_ ?_
 refine alL 7 fun hl1=> ?_
 iterate 4 refine w_ ?_
 refine lpK l.length (fun k=>NoneTo (fun y=>decide (y=s)) l k) (fun k=>⟨[(1,lf (dS s)),(7,lf (.dat (.sl 9 .str) l)),(8,lI (l.length:Int)),(9,lI (k:Int))],[]⟩) (NoneTo.zero) ?_ fun k hk2 hno=> ?_
 · exact Wk.of [] rfl ⟨rfl,rfl,rfl,rfl,trivial⟩ trivial rfl rfl
 iterate 4 refine w_ ?_
 cases hb3:(decide ((k:Int) < (l.length:Int)))
 ·have hb3':=ab hb3
  refine w_ ?_
  refine Qj ?_
  refine (?_:AC _ _ _ _ _)
  iterate 3 refine w_ ?_
  refine Qb<|fqI hO ?_
  first | exact (hno.no (by omega)).symm
 ·have hb3':=ae hb3
  iterate 6 refine w_ ?_
  obtain ⟨x4,hx5⟩:∃z,l[k]? =some z:=⟨_,aa (by omega)⟩
  iterate 10 refine w_ ?_
  cases hb6:(decide (x4=s))
  ·have hb6':=ab hb6
   refine w_ ?_
   refine AC.skip ?_
   refine (?_:AC _ _ _ _ _)
   iterate 3 refine w_ ?_
   refine Qd ?_
   refine lK_ (hno.step hx5 (ay (by assumption))) ?_
   exact Wk.of [] rfl ⟨rfl,rfl,rfl,rfl,trivial⟩ trivial rfl rfl
  ·have hb6':=ae hb6
   iterate 5 refine w_ ?_
   refine Qb<|fqI hO ?_
   exact (hno.at hx5 (aJ (by assumption))).symm
end Go.Proofs.YtfkmmpfdncopdaaGreat
namespace Go.Proofs.YtfkmmpfdncopdaaGreat
open Go.RowKit
set_option maxRecDepth 100000
set_option maxHeartbeats 4000000
abbrev B01:List ByteArray:=[⟨#[48]⟩,⟨#[49]⟩]
def c1G (code:List UInt8):Nat→ByteArray×Int×Int→ByteArray×Int×Int
  | 0,st=>st
  | k+1,st=>c1G code k (st.1++(B01[(pkV code st.2.1 st.2.2 (B01.length:Int)).toNat]?).getD ByteArray.empty,pkA (B01.length:Int) st.2.1,pkS code st.2.1 st.2.2 (B01.length:Int))
def c1V (code:List UInt8)(n at_ sd:Int):ByteArray×Int×Int:=c1G code n.toNat (⟨#[]⟩,at_,sd)
end Go.Proofs.YtfkmmpfdncopdaaGreat
namespace Go.Proofs.YtfkmmpfdncopdaaGreat
open Go.RowKit
set_option maxRecDepth 100000
set_option maxHeartbeats 4000000
theorem Kl (code:List UInt8)(at_:Int)(sd:Int)[∀s,Decidable (StgOk s)][∀s,Decidable (Y1 s)](ha:0≤at_∧at_≤600000000):FC Tryz.prog 78 [(false,[.ptr 0 0])] [bx 0 93 [.dat (.sl 5 .u8) code,dI at_, .val (.int .u64 sd)]] 1 (Ex (fun x:(DSg×Int)×Int×Int=>x.1.1.1.length≤8∧(1≤x.1.1.2.1.length∧x.1.1.2.1.length≤301)∧(at_≤x.2.1∧x.2.1≤at_+130)) (fun x:(DSg×Int)×Int×Int=>PV.tup [(true,[.dat (.sl 203 (.pr .str .int)) x.1.1.1, .dat (.sl 9 .str) x.1.1.2.1, .dat (.sl 136 (.pr .int (.pr .int (.pr .bool .int)))) x.1.1.2.2]),(false,[dI x.1.2])]) (fun x:(DSg×Int)×Int×Int=>[bx 0 93 [.dat (.sl 5 .u8) code,dI x.2.1, .val (.int .u64 x.2.2)]])):=by
 refine Ql Tryz.func78 rfl rfl Tryz.ntmps78 fun O_ hO w0_ N0_ X_ h0_ f0_=> ?_
 refine w_ ?_
 refine lc (xal 1 (.pr (.sl 203 (.pr .str .int)) (.pr (.sl 9 .str) (.sl 136 (.pr .int (.pr .int (.pr .bool .int)))))) Xe) ?_
 iterate 4 refine w_ ?_
 refine Yv 2 [(0,0)] (VV code at_ sd (by omega)) Qkj e1_ ⟨rfl,trivial⟩ rfl (fun _=>rfl) (fun _=>⟨trivial,trivial⟩) (nlr rfl) fun x1 hx2=>lc (xal 3 (.pr (.sl 203 (.pr .str .int)) (.pr (.sl 9 .str) (.sl 136 (.pr .int (.pr .int (.pr .bool .int)))))) Xe) ?_
 iterate 4 refine w_ ?_
 refine lc (dK (Qaz x1.1 (by have h_:=‹_≤8∧_›; omega)).frozen QgD) ?_
 iterate 5 refine w_ ?_
 refine alL 10 fun hl3=> ?_
 iterate 3 refine w_ ?_
 cases hb4:(decide (0 < ((Yn x1.1.1 x1.1.1.length).length:Int)))
 ·have hb4':=ab hb4
  iterate 7 refine w_ ?_
  have hp5:=YN code x1.2.1 x1.2.2 5
  apply dW (i2 26 _ _ [⟨some 28,lI (pkV code x1.2.1 x1.2.2 5),[bx 0 93 [.dat (.sl 5 .u8) code,dI (pkA 5 x1.2.1), .val (.int .u64 (pkS code x1.2.1 x1.2.2 5))],(0,none)]⟩,io 29 _,⟨none,lf (.val undef),[bx 1 28 [.dat (.sl 203 (.pr .str .int)) x1.1.1, .dat (.sl 9 .str) x1.1.2.1, .dat (.sl 136 (.pr .int (.pr .int (.pr .bool .int)))) x1.1.2.2]]⟩,io 3 _]) [0,1,1,1,8,0]
  iterate 2 refine z_ ?_
  refine zz (fun _ h_=>ac (dP 4 [] (QF code x1.2.1 x1.2.2 5 (by omega)) Z4) rfl) ?_
  iterate 3 refine z_ ?_
  exact zN
  refine Qb ?_
  subst hO
  refine Q5 (x:=(((x1.1.1,(x1.1.2.1,x1.1.2.2)),(pkV code x1.2.1 x1.2.2 5) - 1),((pkA 5 x1.2.1),(pkS code x1.2.1 x1.2.2 5)))) [(0,0)] ?_ (Ys rfl (QK rfl rfl Xb rfl) (Xd rfl)) rfl ⟨rfl,trivial⟩ rfl rfl
  (dsimp only; have h_:=‹_≤8∧_›; omega)
 ·have hb4':=ae hb4
  refine w_ ?_
  have hp6:=YN code x1.2.1 x1.2.2 8
  refine lgy rfl rfl (dP 5 [] (JG code x1.2.1 x1.2.2 8 (by omega)) Qk2) ?_
  iterate 3 refine w_ ?_
  cases hb7:(decide (pkV code x1.2.1 x1.2.2 8=0))
  ·have hb7':=ab hb7
   refine w_ ?_
   have hp8:=YN code (pkA 8 x1.2.1) (pkS code x1.2.1 x1.2.2 8) ((Yn x1.1.1 x1.1.1.length).length:Int)
   obtain ⟨x9,hx10⟩:∃z,(Yn x1.1.1 x1.1.1.length)[(pkV code (pkA 8 x1.2.1) (pkS code x1.2.1 x1.2.2 8) ((Yn x1.1.1 x1.1.1.length).length:Int)).toNat]? =some z:=⟨_,aa (by omega)⟩
   apply dW (i5 18 _ _ _ _ _ (⟨some 23,lI (pkV code (pkA 8 x1.2.1) (pkS code x1.2.1 x1.2.2 8) ((Yn x1.1.1 x1.1.1.length).length:Int)),[bx 0 93 [.dat (.sl 5 .u8) code,dI (pkA ((Yn x1.1.1 x1.1.1.length).length:Int) (pkA 8 x1.2.1)), .val (.int .u64 (pkS code (pkA 8 x1.2.1) (pkS code x1.2.1 x1.2.2 8) ((Yn x1.1.1 x1.1.1.length).length:Int)))],(0,none)]⟩ :: i2 24 _ _ [⟨none,lf (.val undef),[bx 1 28 [.dat (.sl 203 (.pr .str .int)) x1.1.1, .dat (.sl 9 .str) x1.1.2.1, .dat (.sl 136 (.pr .int (.pr .int (.pr .bool .int)))) x1.1.2.2]]⟩,io 3 _])) [0,1,3,7,7,3,1,1,194,0]
   iterate 5 refine z_ ?_
   refine zz (fun _ h_=>ac (dP 6 [] (QF code (pkA 8 x1.2.1) (pkS code x1.2.1 x1.2.2 8) ((Yn x1.1.1 x1.1.1.length).length:Int) (by omega)) Z4) rfl) ?_
   iterate 4 refine z_ ?_
   exact zN
   refine Qb ?_
   subst hO
   refine Q5 (x:=(((x1.1.1,(x1.1.2.1,x1.1.2.2)),x9),((pkA ((Yn x1.1.1 x1.1.1.length).length:Int) (pkA 8 x1.2.1)),(pkS code (pkA 8 x1.2.1) (pkS code x1.2.1 x1.2.2 8) ((Yn x1.1.1 x1.1.1.length).length:Int))))) [(0,0)] ?_ (Ys rfl (QK rfl rfl Xb rfl) (Xd rfl)) rfl ⟨rfl,trivial⟩ rfl rfl
   (dsimp only; have h_:=‹_≤8∧_›; omega)
  ·have hb7':=ae hb7
   iterate 2 refine w_ ?_
   have hp11:=YN code (pkA 8 x1.2.1) (pkS code x1.2.1 x1.2.2 8) 5
   apply dW (i2 26 _ _ [⟨some 28,lI (pkV code (pkA 8 x1.2.1) (pkS code x1.2.1 x1.2.2 8) 5),[bx 0 93 [.dat (.sl 5 .u8) code,dI (pkA 5 (pkA 8 x1.2.1)), .val (.int .u64 (pkS code (pkA 8 x1.2.1) (pkS code x1.2.1 x1.2.2 8) 5))],(0,none)]⟩,io 29 _,⟨none,lf (.val undef),[bx 1 28 [.dat (.sl 203 (.pr .str .int)) x1.1.1, .dat (.sl 9 .str) x1.1.2.1, .dat (.sl 136 (.pr .int (.pr .int (.pr .bool .int)))) x1.1.2.2]]⟩,io 3 _]) [0,1,1,1,8,0]
   iterate 2 refine z_ ?_
   refine zz (fun _ h_=>ac (dP 7 [] (QF code (pkA 8 x1.2.1) (pkS code x1.2.1 x1.2.2 8) 5 (by omega)) Z4) rfl) ?_
   iterate 3 refine z_ ?_
   exact zN
   refine Qb ?_
   subst hO
   refine Q5 (x:=(((x1.1.1,(x1.1.2.1,x1.1.2.2)),(pkV code (pkA 8 x1.2.1) (pkS code x1.2.1 x1.2.2 8) 5) - 1),((pkA 5 (pkA 8 x1.2.1)),(pkS code (pkA 8 x1.2.1) (pkS code x1.2.1 x1.2.2 8) 5)))) [(0,0)] ?_ (Ys rfl (QK rfl rfl Xb rfl) (Xd rfl)) rfl ⟨rfl,trivial⟩ rfl rfl
   (dsimp only; have h_:=‹_≤8∧_›; omega)
end Go.Proofs.YtfkmmpfdncopdaaGreat
namespace Go.Proofs.YtfkmmpfdncopdaaGreat
open Go.RowKit
set_option maxRecDepth 100000
set_option maxHeartbeats 4000000
def Qt6 (x b:ByteArray)(i:Int):ByteArray:=(x.extract 0 i.toNat++b)++x.extract (i+1).toNat x.size
abbrev QtX:ByteArray:=⟨#[45,45,45,45,45,45,45,45]⟩
section
variable {l:List ByteArray}{c x y b c0:ByteArray}{n i:Int}{m k j:Nat}
end
end Go.Proofs.YtfkmmpfdncopdaaGreat
namespace Go.Proofs.YtfkmmpfdncopdaaGreat
open Go.RowKit
set_option maxRecDepth 100000
set_option maxHeartbeats 4000000
abbrev upT:ByteArray:=⟨#[117,112]⟩
abbrev Zp:ByteArray:=⟨#[100,111,119,110]⟩
def mOn (c:DSg)(sig:Int)(fr:UInt8)(k:Int):Bool:=decide (bAt (Z8 c k) sig=fr)&&ZD c k sig
def mOf (c:DSg)(sig:Int)(fr:UInt8)(k:Int):Bool:= !(decide (bAt (Z8 c k) sig=fr)==ZD c k sig)
section
variable {c:DSg}{f g f2 g2:Int→Bool}{k:Nat}{w way:ByteArray}{u fr:UInt8}{sig q:Int}
theorem Ql1 (h:c.2.1[q.toNat]? =some w)(hx:w[sig.toNat]? =some u):bAt (Z8 c q) sig=u:=by rw[Xo h,Q2 hx]
theorem Qrs (hb:bAt (Z8 c q) sig=u)(h:u=fr):ZD c q sig=mOn c sig fr q:=by unfold mOn; rw[hb,aJ h]; rfl
theorem QrZ (hb:bAt (Z8 c q) sig=u)(h:¬u=fr):false=mOn c sig fr q:=by unfold mOn; rw[hb,ay h]; rfl
theorem Qsp (hb:bAt (Z8 c q) sig=u):(!(decide (u=fr)==ZD c q sig))=mOf c sig fr q:=by unfold mOf; rw[hb]
theorem Qfq (h:∀i:Nat,i < k→f (i:Int)=g (i:Int)):pkL c f k=pkL c g k:=by
  induction k with
  | zero=>rfl
  | succ k ih=>
    have e:=ih fun i hi=>h i (by omega)
    have h2:=h k (by omega)
    unfold pkL rg at e ⊢
    rw[cE,List.filterMap_append,List.filterMap_append,e]
    congr 1
    simp only[List.filterMap_cons,List.filterMap_nil,pkF,h2]
theorem QbT (h1:∀i:Nat,i < c.2.1.length→f (i:Int)=f2 (i:Int))(h2:∀i:Nat,i < c.2.1.length→g (i:Int)=g2 (i:Int)):Uh c f g=Uh c f2 g2:=by unfold Uh; rw[Qfq h1,Qfq h2]
theorem QpE (hs:SgOk c)(hg:0≤sig∧sig≤(c.1.length:Int) - 1)(hk:k < c.2.1.length):bAt (Z8 c (k:Int)) sig=48∨bAt (Z8 c (k:Int)) sig=49:=by
  have hw:c.2.1[((k:Int)).toNat]? =some c.2.1[k]:=aa hk
  have hB:=hs.codes _ (cI hk)
  have hsz:sig.toNat < (c.2.1[k]).size:=by have:=hB.2; omega
  obtain ⟨u,hu⟩:∃u,(c.2.1[k])[sig.toNat]? =some u:=⟨_,aY (c.2.1[k]) sig.toNat hsz⟩
  rw[Ql1 hw hu]
  exact hB.1 u (ap (U7 (k:=sig.toNat) hu))
theorem QgU (hs:SgOk c)(hg:0≤sig∧sig≤(c.1.length:Int) - 1):Uh c (mOn c sig 48) (mOf c sig 48)=YA c sig upT:=by
  have h1:¬upT=(⟨#[100,111,119,110]⟩:ByteArray):=by decide
  refine QbT (fun i hi=> ?_) fun i hi=> ?_ <;> simp only[mOn,mOf,wOn,wOf,W6,if_neg h1,if_true] <;> rcases QpE hs hg hi with h | h <;> rw[h] <;> cases ZD c (i:Int) sig <;> rfl
theorem QgT (hs:SgOk c)(hg:0≤sig∧sig≤(c.1.length:Int) - 1):Uh c (mOn c sig 49) (mOf c sig 49)=YA c sig Zp:=by
  refine QbT (fun i hi=> ?_) fun i hi=> ?_ <;> simp only[mOn,mOf,wOn,wOf,W6,if_true] <;> rcases QpE hs hg hi with h | h <;> rw[h] <;> cases ZD c (i:Int) sig <;> rfl
theorem Qnw [∀c,Decidable (SgOk c)](h:WT c sig)(e:Uh c f g=YA c sig way):KN c f g=Qk c sig way∧decide (ZU c f g)=decide (QB c sig way):=by
  have e2:ZU c f g↔ZU c (wOn c sig way) (wOf c sig way):=by unfold ZU; rw[e]; rfl
  unfold KN Qk
  rw[e]
  by_cases g1:ZU c f g
  · rw[if_pos g1,if_pos ⟨h,e2.1 g1⟩]; exact ⟨rfl,bL.2 ⟨fun _=>⟨h,e2.1 g1⟩,fun _=>g1⟩⟩
  · rw[if_neg g1,if_neg fun g2=>g1 (e2.2 g2.2)]; exact ⟨rfl,bL.2 ⟨fun g2=>absurd g2 g1,fun g2=>e2.2 g2.2⟩⟩
end
theorem UE (k:Int)(c:(List (ByteArray×Int))×List ByteArray×(List (Int×Int×Bool×Int)))(sig:Int)(fr:UInt8)(hs:SgOk c)(hg:0≤sig∧sig≤(c.1.length:Int) - 1)(hk:0≤k∧k < (c.2.1.length:Int)):FC Tryz.prog 179 [(false,[dI k]),(false,[.ptr 0 0]),(false,[.ptr 1 0]),(false,[.ptr 2 0])] [bx 0 28 [.dat (.sl 203 (.pr .str .int)) c.1, .dat (.sl 9 .str) c.2.1, .dat (.sl 136 (.pr .int (.pr .int (.pr .bool .int)))) c.2.2],bx 1 3 [dI sig],bx 2 5 [.dat .u8 fr]] 3 (Is (lB (mOn c sig fr k)) [bx 0 28 [.dat (.sl 203 (.pr .str .int)) c.1, .dat (.sl 9 .str) c.2.1, .dat (.sl 136 (.pr .int (.pr .int (.pr .bool .int)))) c.2.2],bx 1 3 [dI sig],bx 2 5 [.dat .u8 fr]]):=by
 have hn3:=hs.some_
 have hfw:=hs.few
 have h8:=hs.sigs.2.2
 refine Ql Tryz.func179 rfl rfl Tryz.ntmps179 fun O_ hO w0_ N0_ X_ h0_ f0_=> ?_
 refine acI 0 fun hi1=> ?_
 iterate 3 refine w_ ?_
 obtain ⟨w,hx3⟩:∃z,c.2.1[(k).toNat]? =some z:=⟨_,aa (by omega)⟩
 have hw:=hx3
 have hws:=(hs.codes _ (ap hx3)).2
 obtain ⟨u,hc5⟩:∃z,w[(sig).toNat]? =some z:=⟨_,aY _ _ (by omega)⟩
 have hbu:=Ql1 hw hc5
 cases hb6:(decide (u=fr))
 ·have hb6':=ab hb6
  apply dW (i8 6 _ _ _ _ _ _ _ _ (io 14 (lB false) :: i6 15 _ _ _ _ _ _ [io 5 _])) [0,0,3,0,0,31,0,127,0,0,0,1024,3072,0,0,0]
  iterate 8 refine z_ ?_
  refine zz (fun _ h_=>ac (Zh (hb6) (Zm (h_.v rfl) (h_.v rfl) rfl)) rfl) ?_
  iterate 7 refine z_ ?_
  exact zN
  refine Qb ?_
  have e7:(false:Bool)=(mOn c sig fr k):=by
   exact QrZ hbu (by assumption)
  exact fi_ [] hO ⟨rfl,rfl,rfl,trivial⟩ (h0:=(congrArg (fun z_=>lB z_) e7))
 ·have hb6':=ae hb6
  apply dW (i8 6 _ _ _ _ _ _ _ _ (io 14 (lB true) :: i4 15 _ _ _ _ [io 19 (lB (ZD c k sig)),io 20 _,io 5 _])) [0,0,3,0,0,31,0,127,0,0,0,1024,3072,0,0,0]
  iterate 8 refine z_ ?_
  refine zz (fun _ h_=>ac (Zh (hb6) (Zm (h_.v rfl) (h_.v rfl) rfl)) rfl) ?_
  iterate 4 refine z_ ?_
  refine zz (fun _ h_=>day rfl (h_.k rfl) (dK (Yz c k sig) U9) rfl) ?_
  iterate 2 refine z_ ?_
  exact zN
  refine Qb ?_
  have e8:(ZD c k sig:Bool)=(mOn c sig fr k):=by
   exact Qrs hbu (by assumption)
  exact fi_ [] hO ⟨rfl,rfl,rfl,trivial⟩ (h0:=(congrArg (fun z_=>lB z_) e8))
theorem XX (k:Int)(c:(List (ByteArray×Int))×List ByteArray×(List (Int×Int×Bool×Int)))(sig:Int)(fr:UInt8)(hs:SgOk c)(hg:0≤sig∧sig≤(c.1.length:Int) - 1)(hk:0≤k∧k < (c.2.1.length:Int)):FC Tryz.prog 180 [(false,[dI k]),(false,[.ptr 0 0]),(false,[.ptr 1 0]),(false,[.ptr 2 0])] [bx 0 28 [.dat (.sl 203 (.pr .str .int)) c.1, .dat (.sl 9 .str) c.2.1, .dat (.sl 136 (.pr .int (.pr .int (.pr .bool .int)))) c.2.2],bx 1 3 [dI sig],bx 2 5 [.dat .u8 fr]] 3 (Is (lB (mOf c sig fr k)) [bx 0 28 [.dat (.sl 203 (.pr .str .int)) c.1, .dat (.sl 9 .str) c.2.1, .dat (.sl 136 (.pr .int (.pr .int (.pr .bool .int)))) c.2.2],bx 1 3 [dI sig],bx 2 5 [.dat .u8 fr]]):=by
 have hn3:=hs.some_
 have hfw:=hs.few
 have h8:=hs.sigs.2.2
 refine Ql Tryz.func180 rfl rfl Tryz.ntmps180 fun O_ hO w0_ N0_ X_ h0_ f0_=> ?_
 refine acI 0 fun hi1=> ?_
 iterate 3 refine w_ ?_
 obtain ⟨w,hx3⟩:∃z,c.2.1[(k).toNat]? =some z:=⟨_,aa (by omega)⟩
 have hw:=hx3
 have hws:=(hs.codes _ (ap hx3)).2
 obtain ⟨u,hc5⟩:∃z,w[(sig).toNat]? =some z:=⟨_,aY _ _ (by omega)⟩
 have hbu:=Ql1 hw hc5
 apply dW (i9 6 _ _ _ _ _ _ _ _ _ (i3 15 _ _ _ [io 18 (lB (ZD c k sig)),io 19 (lB (!((decide (u=fr))==(ZD c k sig)))),io 5 _])) [0,0,3,0,0,31,0,127,0,511,1023,2047,511,0,0]
 iterate 12 refine z_ ?_
 refine zz (fun _ h_=>ac (dK (Yz c k sig) U9) rfl) ?_
 refine zz (fun _ h_=>ac (ZA (h_.v rfl) (h_.v rfl) rfl Yc) rfl) ?_
 refine z_ ?_
 exact zN
 refine Qb ?_
 have e6:(!((decide (u=fr))==(ZD c k sig)):Bool)=(mOf c sig fr k):=by
  first | exact Qsp hbu
 exact fi_ [] hO ⟨rfl,rfl,rfl,trivial⟩ (h0:=(congrArg (fun z_=>lB z_) e6))
theorem QcQ (g:(List (ByteArray×Int))×List ByteArray×(List (Int×Int×Bool×Int)))(c:(List (ByteArray×Int))×List ByteArray×(List (Int×Int×Bool×Int)))(sig:Int)(fr:UInt8)(hs:SgOk c)(hg:0≤sig∧sig≤(c.1.length:Int) - 1)(hgc:g=c):FC Tryz.prog 87 [(true,[.dat (.sl 203 (.pr .str .int)) g.1, .dat (.sl 9 .str) g.2.1, .dat (.sl 136 (.pr .int (.pr .int (.pr .bool .int)))) g.2.2]),(false,[.clo 179 [0,1,2]]),(false,[.clo 180 [0,1,2]])] [bx 0 28 [.dat (.sl 203 (.pr .str .int)) c.1, .dat (.sl 9 .str) c.2.1, .dat (.sl 136 (.pr .int (.pr .int (.pr .bool .int)))) c.2.2],bx 1 3 [dI sig],bx 2 5 [.dat .u8 fr]] 3 (Is (PV.tup [(true,[.ref 3, .ref 4]),(false,[dB (decide (ZU c (mOn c sig fr) (mOf c sig fr)))])]) [bx 0 28 [.dat (.sl 203 (.pr .str .int)) c.1, .dat (.sl 9 .str) c.2.1, .dat (.sl 136 (.pr .int (.pr .int (.pr .bool .int)))) c.2.2],bx 1 3 [dI sig],bx 2 5 [.dat .u8 fr],ar 3 9 .str ((KN c (mOn c sig fr) (mOf c sig fr)).1),ar 4 9 .str ((KN c (mOn c sig fr) (mOf c sig fr)).2)]):=by
 have hn3:=hs.some_
 have hfw:=hs.few
 have h8:=hs.sigs.2.2
 have hgl:g.2.1.length=c.2.1.length:=by rw[hgc]
 have hg1:g.1.length=c.1.length:=by rw[hgc]
 refine Ql Tryz.func87 rfl rfl Tryz.ntmps87 fun O_ hO w0_ N0_ X_ h0_ f0_=> ?_
 refine w_ ?_
 refine xbx 3 ?_
 refine lc (xal 4 (.pr (.sl 9 .str) (.sl 9 .str)) Ze) ?_
 iterate 3 refine w_ ?_
 refine lc (Qp UO rfl (aB.1 rfl) rfl rfl)<|lc (xal 5 (.pr (.sl 9 .str) (.sl 9 .str)) Ze) ?_
 iterate 6 refine w_ ?_
 refine alL 13 fun hl1=> ?_
 iterate 4 refine w_ ?_
 refine AC.wk (Qu 6 (p:=5) (off:=0) 9 .str rfl rfl (Fresh.of rfl) (nlr rfl))<|AC.wk (Qu 8 (p:=5) (off:=1) 9 .str rfl rfl (Fresh.of rfl) (nlr rfl)) ?_
 refine Qy (fun m_ s_=>∃(k:Nat) (on_:List ByteArray) (of_:List ByteArray),k≤g.2.1.length∧m_=g.2.1.length - k∧(on_=pkL c (mOn c sig fr) k)∧(of_=pkL c (mOf c sig fr) k)∧s_=⟨[(1,lf (.clo 179 [0,1,2])),(2,lf (.clo 180 [0,1,2])),(3,lP 3 0),(6,lP 4 0),(7,lB false),(8,lP 5 0),(13,lf (.dat (.sl 9 .str) g.2.1)),(14,lI (g.2.1.length:Int)),(15,lI (k:Int))],[bx 0 28 [.dat (.sl 203 (.pr .str .int)) c.1, .dat (.sl 9 .str) c.2.1, .dat (.sl 136 (.pr .int (.pr .int (.pr .bool .int)))) c.2.2],bx 1 3 [dI sig],bx 2 5 [.dat .u8 fr],bx 3 28 [.dat (.sl 203 (.pr .str .int)) g.1, .dat (.sl 9 .str) g.2.1, .dat (.sl 136 (.pr .int (.pr .int (.pr .bool .int)))) g.2.2],bx 4 47 [.val (.slice none 0 0), .val (.slice none 0 0)],bx 5 47 [.ref 7, .ref 9],ar 7 9 .str on_,ar 9 9 .str of_]⟩) ⟨0,([]:((.sl 9 .str):Ty).Den),([]:((.sl 9 .str):Ty).Den),aR _,rfl,rfl,rfl,rfl⟩ ?_ ?_
 · exact Wk.of [(7,6),(9,8)] rfl ⟨rfl,rfl,rfl,rfl,rfl,rfl,rfl,rfl,rfl,trivial⟩ ⟨rfl,rfl,rfl,rfl,rfl,rfl,(Qn (by first | rfl | simp)),(Qn (by first | rfl | simp)),trivial⟩ rfl rfl
 rintro m_ s_ ⟨k,on_,of_,hk2,hm3,hO1,hO2,rfl⟩
 have hol:on_.length≤k:=by rw[hO1]; exact Qbu
 have hfl:of_.length≤k:=by rw[hO2]; exact Qbu
 iterate 4 refine w_ ?_
 cases hb4:(decide ((k:Int) < (g.2.1.length:Int)))
 ·have hb4':=ab hb4
  refine w_ ?_
  refine Qj ?_
  refine (?_:AC _ _ _ _ _)
  iterate 3 refine w_ ?_
  refine lc (dP 10 [(0,7)] (Uq on_ (by omega)) Wm) ?_
  iterate 4 refine w_ ?_
  refine lc (dP 11 [(0,9)] (Uq of_ (by omega)) Wm) ?_
  refine w_ ?_
  apply dW (i2 45 _ _ [⟨some 47,lR 12,[ar 12 9 .str (Q7 (QY on_)),(7,none)]⟩,io 48 (lP 5 1),io 49 (lR 9),⟨some 50,lR 13,[ar 13 9 .str (Q7 (QY of_)),(9,none)]⟩,io 51 (lP 5 0),⟨none,lf (.val undef),[bx 5 47 [.ref 12, .ref 9]]⟩,io 52 _,⟨none,lf (.val undef),[bx 5 47 [.ref 12, .ref 13]]⟩]) [0,0,0,7,7,0,32,0,0,0]
  iterate 2 refine z_ ?_
  refine zz (fun _ h_=>ac (dP 12 [(0,7)] (QU (QY on_) (by rw[ZM]; omega)) Wz) rfl) ?_
  iterate 2 refine z_ ?_
  refine zz (fun _ h_=>ac (dP 13 [(0,9)] (QU (QY of_) (by rw[ZM]; omega)) Wz) rfl) ?_
  refine z_ ?_
  refine zz (fun _ h_=>ac (Zf (h_.v rfl) (h_.en 5 rfl) (h_.w rfl) (by simp only[Q6,Vb,bm,bJ]; rw[(h_.en 12 rfl)]; rfl) Qcr rfl) rfl) ?_
  refine z_ ?_
  refine zz (fun _ h_=>ac (Zf (h_.v rfl) (h_.en 5 rfl) (h_.w rfl) (by simp only[Q6,Vb,bm,bJ]; rw[(h_.en 13 rfl)]; rfl) Qcr rfl) rfl) ?_
  exact zN
  iterate 4 refine w_ ?_
  refine alL 54 fun hl5=> ?_
  iterate 5 refine w_ ?_
  refine lc (dB_ (YL (g.1.length:Int) (Q7 (QY on_)) (Q7 (QY of_))) K0) ?_
  iterate 2 refine w_ ?_
  cases hb6:(decide (OOk (g.1.length:Int) (Q7 (QY on_)) (Q7 (QY of_))))
  ·have hb6':=ab hb6
   iterate 2 refine w_ ?_
   refine lc (Qp UO rfl (aB.1 rfl) rfl rfl) ?_
   iterate 3 refine w_ ?_
   refine AC.wk (Qu 14 (p:=4) (off:=0) 9 .str rfl rfl (Fresh.of rfl) (nlr rfl))<|AC.wk (Qu 15 (p:=4) (off:=1) 9 .str rfl rfl (Fresh.of rfl) (nlr rfl))<|Qb ?_
   have e7:(false:Bool)=(decide (ZU c (mOn c sig fr) (mOf c sig fr))):=by
    exact (ay (Qdm (by assumption) hg1 hO1 hO2 (by omega) (by omega))).symm
   exact fi_ [(3,14),(4,15)] hO ⟨rfl,rfl,rfl,(Qn (by (rw[Qe4 (Qdm (by assumption) hg1 hO1 hO2 (by omega) (by omega))]; done))),(Qn (by (rw[Qe4 (Qdm (by assumption) hg1 hO1 hO2 (by omega) (by omega))]; done))),trivial⟩ (h0:=(congrArg (fun z_=>PV.tup [(true,[.ref 14, .ref 15]),(false,[dB z_])]) e7))
  ·have hb6':=ae hb6
   iterate 7 refine w_ ?_
   refine Qb ?_
   have e8:(true:Bool)=(decide (ZU c (mOn c sig fr) (mOf c sig fr))):=by
    exact (aJ (QdX (by assumption) hg1 hO1 hO2 (by omega) (by omega))).symm
   exact fi_ [(3,12),(4,13)] hO ⟨rfl,rfl,rfl,(Qn (by exact Qsu (QdX (by assumption) hg1 hO1 hO2 (by omega) (by omega)) hO1 (by omega) (by omega))),(Qn (by exact QrY (QdX (by assumption) hg1 hO1 hO2 (by omega) (by omega)) hO2 (by omega) (by omega))),trivial⟩ (h0:=(congrArg (fun z_=>PV.tup [(true,[.ref 12, .ref 13]),(false,[dB z_])]) e8))
 ·have hb4':=ae hb4
  iterate 6 refine w_ ?_
  obtain ⟨w,hx10⟩:∃z,g.2.1[k]? =some z:=⟨_,aa (by omega)⟩
  have hw:c.2.1[k]? =some w:=by rw[← hgc]; exact hx10
  iterate 9 refine w_ ?_
  refine lc (Zk (args0:=[(false,[dI (k:Int)])]) (caps:=[0,1,2]) 16 [(0,0),(1,1),(2,2)] (UE (k:Int) c sig fr hs hg (by omega)) Qhk rfl (Qa rfl) rfl rfl ⟨_,_,rfl,(Qm rfl),rfl⟩ ⟨rfl,rfl,rfl,trivial⟩ rfl ⟨trivial,trivial,trivial,trivial⟩ (nlr rfl)) ?_
  refine w_ ?_
  cases hb11:(mOn c sig fr (k:Int))
  ·iterate 5 refine w_ ?_
   refine lc (Zk (args0:=[(false,[dI (k:Int)])]) (caps:=[0,1,2]) 19 [(0,0),(1,1),(2,2)] (XX (k:Int) c sig fr hs hg (by omega)) Qb8 rfl (Qa rfl) rfl rfl ⟨_,_,rfl,(Qm rfl),rfl⟩ ⟨rfl,rfl,rfl,trivial⟩ rfl ⟨trivial,trivial,trivial,trivial⟩ (nlr rfl)) ?_
   refine w_ ?_
   cases hb12:(mOf c sig fr (k:Int))
   ·refine w_ ?_
    refine AC.skip ?_
    refine (?_:AC _ _ _ _ _)
    iterate 3 refine w_ ?_
    refine Qd<|Q0 ⟨k+1,on_,of_,by omega,rfl,(by rw[hO1]; first | exact Hq hw (by assumption) | exact Hr (by assumption)),(by rw[hO2]; first | exact Hq hw (by assumption) | exact Hr (by assumption)),rfl⟩ (by omega) ?_
    exact Wk.of [] rfl ⟨rfl,rfl,rfl,rfl,rfl,rfl,rfl,rfl,rfl,trivial⟩ ⟨rfl,rfl,rfl,rfl,rfl,rfl,rfl,rfl,trivial⟩ rfl rfl
   ·iterate 5 refine w_ ?_
    refine lc (dBs 22 (e:= .str) Yb) ?_
    refine lc (dA 23 Y6) ?_
    iterate 2 refine w_ ?_
    refine Qd ?_
    refine (?_:AC _ _ _ _ _)
    iterate 3 refine w_ ?_
    refine Qd<|Q0 ⟨k+1,on_,(of_++([w])),by omega,rfl,(by rw[hO1]; first | exact Hq hw (by assumption) | exact Hr (by assumption)),(by rw[hO2]; first | exact Hq hw (by assumption) | exact Hr (by assumption)),rfl⟩ (by omega) ?_
    exact Wk.of [(9,23)] rfl ⟨rfl,rfl,rfl,rfl,rfl,rfl,rfl,rfl,rfl,trivial⟩ ⟨rfl,rfl,rfl,rfl,rfl,rfl,rfl,(Qn (by first | rfl | simp)),trivial⟩ rfl rfl
  ·iterate 5 refine w_ ?_
   refine lc (dBs 24 (e:= .str) Yb) ?_
   refine lc (dA 25 Y6) ?_
   iterate 6 refine w_ ?_
   refine lc (Zk (args0:=[(false,[dI (k:Int)])]) (caps:=[0,1,2]) 26 [(0,0),(1,1),(2,2)] (XX (k:Int) c sig fr hs hg (by omega)) Qb8 rfl (Qa rfl) rfl rfl ⟨_,_,rfl,(Qm rfl),rfl⟩ ⟨rfl,rfl,rfl,trivial⟩ rfl ⟨trivial,trivial,trivial,trivial⟩ (nlr rfl)) ?_
   refine w_ ?_
   cases hb13:(mOf c sig fr (k:Int))
   ·refine w_ ?_
    refine AC.skip ?_
    refine (?_:AC _ _ _ _ _)
    iterate 3 refine w_ ?_
    refine Qd<|Q0 ⟨k+1,(on_++([w])),of_,by omega,rfl,(by rw[hO1]; first | exact Hq hw (by assumption) | exact Hr (by assumption)),(by rw[hO2]; first | exact Hq hw (by assumption) | exact Hr (by assumption)),rfl⟩ (by omega) ?_
    exact Wk.of [(7,25)] rfl ⟨rfl,rfl,rfl,rfl,rfl,rfl,rfl,rfl,rfl,trivial⟩ ⟨rfl,rfl,rfl,rfl,rfl,rfl,(Qn (by first | rfl | simp)),rfl,trivial⟩ rfl rfl
   ·iterate 5 refine w_ ?_
    refine lc (dBs 29 (e:= .str) Yb) ?_
    refine lc (dA 30 Y6) ?_
    iterate 2 refine w_ ?_
    refine Qd ?_
    refine (?_:AC _ _ _ _ _)
    iterate 3 refine w_ ?_
    refine Qd<|Q0 ⟨k+1,(on_++([w])),(of_++([w])),by omega,rfl,(by rw[hO1]; first | exact Hq hw (by assumption) | exact Hr (by assumption)),(by rw[hO2]; first | exact Hq hw (by assumption) | exact Hr (by assumption)),rfl⟩ (by omega) ?_
    exact Wk.of [(7,25),(9,30)] rfl ⟨rfl,rfl,rfl,rfl,rfl,rfl,rfl,rfl,rfl,trivial⟩ ⟨rfl,rfl,rfl,rfl,rfl,rfl,(Qn (by first | rfl | simp)),(Qn (by first | rfl | simp)),trivial⟩ rfl rfl
theorem Wr (c:(List (ByteArray×Int))×List ByteArray×(List (Int×Int×Bool×Int)))(sig:Int)(fr:UInt8)[∀c,Decidable (SgOk c)]:FC Tryz.prog 92 [(true,[.dat (.sl 203 (.pr .str .int)) c.1, .dat (.sl 9 .str) c.2.1, .dat (.sl 136 (.pr .int (.pr .int (.pr .bool .int)))) c.2.2]),(false,[dI sig]),(false,[.dat .u8 fr])] [] 0 (Is (PV.tup [(true,[.ref 0, .ref 1]),(false,[dB (decide (WT c sig∧ZU c (mOn c sig fr) (mOf c sig fr)))])]) [ar 0 9 .str ((if WT c sig then KN c (mOn c sig fr) (mOf c sig fr) else ([],[])).1),ar 1 9 .str ((if WT c sig then KN c (mOn c sig fr) (mOf c sig fr) else ([],[])).2)]):=by
 refine Ql Tryz.func92 rfl rfl Tryz.ntmps92 fun O_ hO w0_ N0_ X_ h0_ f0_=> ?_
 refine acI 1 fun hi1=> ?_
 refine w_ ?_
 refine xbx 0 ?_
 refine xbx 1 ?_
 refine xbx 2 ?_
 refine lc (xal 3 (.pr (.sl 9 .str) (.sl 9 .str)) Ze) ?_
 iterate 6 refine w_ ?_
 refine lc (dK (Ve c sig) Qdb) ?_
 iterate 2 refine w_ ?_
 cases hb2:(decide (SgOk c∧(0≤sig∧sig≤(c.1.length:Int) - 1)∧W5 c sig=false))
 ·have hb2':=ab hb2
  iterate 2 refine w_ ?_
  refine lc (Qp UO rfl (aB.1 rfl) rfl rfl) ?_
  iterate 3 refine w_ ?_
  refine AC.wk (Qu 4 (p:=3) (off:=0) 9 .str rfl rfl (Fresh.of rfl) (nlr rfl))<|AC.wk (Qu 5 (p:=3) (off:=1) 9 .str rfl rfl (Fresh.of rfl) (nlr rfl))<|Qb ?_
  have e3:(false:Bool)=(decide (WT c sig∧ZU c (mOn c sig fr) (mOf c sig fr))):=by
   exact (ay fun g=>absurd g.1 (by assumption)).symm
  exact fi_ [(0,4),(1,5)] hO ⟨(Qn (by (rw[if_neg (by assumption)]; done))),(Qn (by (rw[if_neg (by assumption)]; done))),trivial⟩ (h0:=(congrArg (fun z_=>PV.tup [(true,[.ref 4, .ref 5]),(false,[dB z_])]) e3))
 ·have hb2':=ae hb2
  iterate 3 refine w_ ?_
  refine lc (Zj ⟨_,_,rfl,(Qa rfl),rfl,⟨_,_,rfl,(Qa rfl),rfl,⟨_,_,rfl,(Qa rfl),rfl,rfl⟩⟩⟩ rfl) ?_
  iterate 3 refine w_ ?_
  refine lc (Zj ⟨_,_,rfl,(Qa rfl),rfl,⟨_,_,rfl,(Qa rfl),rfl,⟨_,_,rfl,(Qa rfl),rfl,rfl⟩⟩⟩ rfl) ?_
  iterate 6 refine w_ ?_
  refine lc (dP 6 [] (QcQ c c sig fr (by assumption:WT c sig).1 (by assumption:WT c sig).2.1 rfl) Qdq) ?_
  iterate 5 refine w_ ?_
  refine Qb ?_
  have e4:(decide (ZU c (mOn c sig fr) (mOf c sig fr)):Bool)=(decide (WT c sig∧ZU c (mOn c sig fr) (mOf c sig fr))):=by
   exact bL.2 ⟨fun g=>⟨by assumption,g⟩,fun g=>g.2⟩
  exact fi_ [(0,9),(1,10)] hO ⟨(Qn (by (rw[if_pos (by assumption)]; done))),(Qn (by (rw[if_pos (by assumption)]; done))),trivial⟩ (h0:=(congrArg (fun z_=>PV.tup [(true,[.ref 9, .ref 10]),(false,[dB z_])]) e4))
theorem HL [∀c,Decidable (SgOk c)]{c:DSg}{f g:Int→Bool}{sig:Int}{way:ByteArray}(e:SgOk c→0≤sig∧sig≤(c.1.length:Int) - 1→Uh c f g=YA c sig way):(if WT c sig then KN c f g else ([],[]))=Qk c sig way∧decide (WT c sig∧ZU c f g)=decide (QB c sig way):=by
  by_cases h:WT c sig
  · obtain ⟨h1, h2⟩ := Qnw h (e h.1 h.2.1)
    rw[if_pos h,h1,← h2]
    exact ⟨rfl,bL.2 ⟨fun g=>g.2,fun g=>⟨h,g⟩⟩⟩
  · rw[if_neg h,JF (H8 h),ay fun g=>h g.1,ay (H8 h)]; exact ⟨rfl,rfl⟩
theorem Yi (c:(List (ByteArray×Int))×List ByteArray×(List (Int×Int×Bool×Int)))(sig:Int)[∀c,Decidable (SgOk c)]:FC Tryz.prog 29 [(true,[.dat (.sl 203 (.pr .str .int)) c.1, .dat (.sl 9 .str) c.2.1, .dat (.sl 136 (.pr .int (.pr .int (.pr .bool .int)))) c.2.2]),(false,[dI sig])] [] 0 (Is (PV.tup [(true,[.ref 0, .ref 1]),(false,[dB (decide (QB c sig upT))])]) [ar 0 9 .str ((Qk c sig upT).1),ar 1 9 .str ((Qk c sig upT).2)]):=by
 refine Ql Tryz.func29 rfl rfl Tryz.ntmps29 fun O_ hO w0_ N0_ X_ h0_ f0_=> ?_
 refine acI 1 fun hi1=> ?_
 refine w_ ?_
 refine xbx 0 ?_
 refine lc (xal 1 (.pr (.sl 9 .str) (.sl 9 .str)) Ze) ?_
 iterate 5 refine w_ ?_
 refine lc (KF 2 (Wr c sig 48) Qdj ⟨_,_,rfl,(Qm rfl),⟨_,_,rfl,(Qm rfl),⟨_,_,rfl,(Evl.ev (QG 48 rfl)),rfl⟩⟩⟩ rfl rfl ⟨Fresh.of rfl,Fresh.of rfl,trivial⟩ (nlr rfl)) ?_
 iterate 5 refine w_ ?_
 refine Qb ?_
 have e2:(decide (WT c sig∧ZU c (mOn c sig 48) (mOf c sig 48)):Bool)=(decide (QB c sig upT)):=by
  exact (HL fun h1 h2=>QgU h1 h2).2
 exact fi_ [(0,2),(1,3)] hO ⟨(Qn (by exact congrArg Prod.fst (HL fun h1 h2=>QgU h1 h2).1)),(Qn (by exact congrArg Prod.snd (HL fun h1 h2=>QgU h1 h2).1)),trivial⟩ (h0:=(congrArg (fun z_=>PV.tup [(true,[.ref 2, .ref 3]),(false,[dB z_])]) e2))
theorem Yl (c:(List (ByteArray×Int))×List ByteArray×(List (Int×Int×Bool×Int)))(sig:Int)[∀c,Decidable (SgOk c)]:FC Tryz.prog 32 [(true,[.dat (.sl 203 (.pr .str .int)) c.1, .dat (.sl 9 .str) c.2.1, .dat (.sl 136 (.pr .int (.pr .int (.pr .bool .int)))) c.2.2]),(false,[dI sig])] [] 0 (QH (PV.tup [(true,[.dat (.sl 9 .str) ((Qk c sig upT).1), .dat (.sl 9 .str) ((Qk c sig upT).2)]),(false,[dB (decide (QB c sig upT))])])):=by
 refine Ql Tryz.func32 rfl rfl Tryz.ntmps32 fun O_ hO w0_ N0_ X_ h0_ f0_=> ?_
 refine acI 1 fun hi1=> ?_
 refine w_ ?_
 refine xbx 0 ?_
 refine lc (xal 1 (.pr (.sl 9 .str) (.sl 9 .str)) Ze) ?_
 iterate 5 refine w_ ?_
 refine lc (dK (X1 c sig (⟨#[117,112]⟩:ByteArray)) Hh) ?_
 iterate 5 refine w_ ?_
 refine Qb ?_
 have e2:((Qk c sig (⟨#[117,112]⟩:ByteArray)).1:((.sl 9 .str):Ty).Den)=((Qk c sig upT).1):=by
  rfl
 have e3:((Qk c sig (⟨#[117,112]⟩:ByteArray)).2:((.sl 9 .str):Ty).Den)=((Qk c sig upT).2):=by
  rfl
 have e4:(decide (QB c sig (⟨#[117,112]⟩:ByteArray)):Bool)=(decide (QB c sig upT)):=by
  rfl
 exact fr_ hO (e:=(((congrArg (fun z_=>PV.tup [(true,[.dat (.sl 9 .str) z_, .dat (.sl 9 .str) ((Qk c sig (⟨#[117,112]⟩:ByteArray)).2)]),(false,[dB (decide (QB c sig (⟨#[117,112]⟩:ByteArray)))])]) e2)).trans (congrArg (fun z_=>PV.tup [(true,[.dat (.sl 9 .str) ((Qk c sig upT).1), .dat (.sl 9 .str) z_]),(false,[dB (decide (QB c sig (⟨#[117,112]⟩:ByteArray)))])]) e3)).trans (congrArg (fun z_=>PV.tup [(true,[.dat (.sl 9 .str) ((Qk c sig upT).1), .dat (.sl 9 .str) ((Qk c sig upT).2)]),(false,[dB z_])]) e4))
theorem Z3 (c:(List (ByteArray×Int))×List ByteArray×(List (Int×Int×Bool×Int)))(sig:Int)[∀c,Decidable (SgOk c)]:FC Tryz.prog 30 [(true,[.dat (.sl 203 (.pr .str .int)) c.1, .dat (.sl 9 .str) c.2.1, .dat (.sl 136 (.pr .int (.pr .int (.pr .bool .int)))) c.2.2]),(false,[dI sig])] [] 0 (Is (PV.tup [(true,[.ref 0, .ref 1]),(false,[dB (decide (QB c sig Zp))])]) [ar 0 9 .str ((Qk c sig Zp).1),ar 1 9 .str ((Qk c sig Zp).2)]):=by
 refine Ql Tryz.func30 rfl rfl Tryz.ntmps30 fun O_ hO w0_ N0_ X_ h0_ f0_=> ?_
 refine acI 1 fun hi1=> ?_
 refine w_ ?_
 refine xbx 0 ?_
 refine lc (xal 1 (.pr (.sl 9 .str) (.sl 9 .str)) Ze) ?_
 iterate 5 refine w_ ?_
 refine lc (KF 2 (Wr c sig 49) Qdj ⟨_,_,rfl,(Qm rfl),⟨_,_,rfl,(Qm rfl),⟨_,_,rfl,(Evl.ev (QG 49 rfl)),rfl⟩⟩⟩ rfl rfl ⟨Fresh.of rfl,Fresh.of rfl,trivial⟩ (nlr rfl)) ?_
 iterate 5 refine w_ ?_
 refine Qb ?_
 have e2:(decide (WT c sig∧ZU c (mOn c sig 49) (mOf c sig 49)):Bool)=(decide (QB c sig Zp)):=by
  exact (HL fun h1 h2=>QgT h1 h2).2
 exact fi_ [(0,2),(1,3)] hO ⟨(Qn (by exact congrArg Prod.fst (HL fun h1 h2=>QgT h1 h2).1)),(Qn (by exact congrArg Prod.snd (HL fun h1 h2=>QgT h1 h2).1)),trivial⟩ (h0:=(congrArg (fun z_=>PV.tup [(true,[.ref 2, .ref 3]),(false,[dB z_])]) e2))
theorem Z0 (c:(List (ByteArray×Int))×List ByteArray×(List (Int×Int×Bool×Int)))(sig:Int)[∀c,Decidable (SgOk c)]:FC Tryz.prog 33 [(true,[.dat (.sl 203 (.pr .str .int)) c.1, .dat (.sl 9 .str) c.2.1, .dat (.sl 136 (.pr .int (.pr .int (.pr .bool .int)))) c.2.2]),(false,[dI sig])] [] 0 (QH (PV.tup [(true,[.dat (.sl 9 .str) ((Qk c sig Zp).1), .dat (.sl 9 .str) ((Qk c sig Zp).2)]),(false,[dB (decide (QB c sig Zp))])])):=by
 refine Ql Tryz.func33 rfl rfl Tryz.ntmps33 fun O_ hO w0_ N0_ X_ h0_ f0_=> ?_
 refine acI 1 fun hi1=> ?_
 refine w_ ?_
 refine xbx 0 ?_
 refine lc (xal 1 (.pr (.sl 9 .str) (.sl 9 .str)) Ze) ?_
 iterate 5 refine w_ ?_
 refine lc (dK (X1 c sig (⟨#[100,111,119,110]⟩:ByteArray)) Hh) ?_
 iterate 5 refine w_ ?_
 refine Qb ?_
 have e2:((Qk c sig (⟨#[100,111,119,110]⟩:ByteArray)).1:((.sl 9 .str):Ty).Den)=((Qk c sig Zp).1):=by
  rfl
 have e3:((Qk c sig (⟨#[100,111,119,110]⟩:ByteArray)).2:((.sl 9 .str):Ty).Den)=((Qk c sig Zp).2):=by
  rfl
 have e4:(decide (QB c sig (⟨#[100,111,119,110]⟩:ByteArray)):Bool)=(decide (QB c sig Zp)):=by
  rfl
 exact fr_ hO (e:=(((congrArg (fun z_=>PV.tup [(true,[.dat (.sl 9 .str) z_, .dat (.sl 9 .str) ((Qk c sig (⟨#[100,111,119,110]⟩:ByteArray)).2)]),(false,[dB (decide (QB c sig (⟨#[100,111,119,110]⟩:ByteArray)))])]) e2)).trans (congrArg (fun z_=>PV.tup [(true,[.dat (.sl 9 .str) ((Qk c sig Zp).1), .dat (.sl 9 .str) z_]),(false,[dB (decide (QB c sig (⟨#[100,111,119,110]⟩:ByteArray)))])]) e3)).trans (congrArg (fun z_=>PV.tup [(true,[.dat (.sl 9 .str) ((Qk c sig Zp).1), .dat (.sl 9 .str) ((Qk c sig Zp).2)]),(false,[dB z_])]) e4))
end Go.Proofs.YtfkmmpfdncopdaaGreat
