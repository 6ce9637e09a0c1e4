/- Walks over abstract states: drawn questions about regions; small functions of the laws. -/
import Derived.Test.YtgpdhgadmjfokaaGreatGGi
import Derived.Test.YtgpdhgadmjfokaaGreatGWk
set_option linter.unusedSimpArgs false
set_option linter.unusedVariables false
set_option linter.unusedSectionVars false
namespace Go.Proofs.YtgpdhgadmjfokaaGreat
open Go.RowKit
set_option maxRecDepth 100000
set_option maxHeartbeats 4000000
theorem Ya (code:List UInt8)[∀s,Decidable (StgOk s)][∀s,Decidable (YA s)][∀c,Decidable (SgOk c)]:FC Tryz.prog 49 [(false,[.dat (.sl 5 .u8) code])] [] 0 (Ex (fun x:DSg×Int×Bool=>x.1.1.length≤8) (fun x:DSg×Int×Bool=>PV.tup [(true,[.dat (.sl 44 (.pr .str .int)) x.1.1, .dat (.sl 9 .str) x.1.2.1, .dat (.sl 46 (.pr .int (.pr .int (.pr .bool .int)))) x.1.2.2]),(false,[dI x.2.1]),(false,[dB x.2.2])]) (fun x:DSg×Int×Bool=>[])):=by
 refine Qn Tryz.func49 rfl rfl Tryz.ntmps49 fun O_ hO w0_ N0_ X_ h0_ f0_=> ?_
 refine w_ ?_
 refine lc (xal 0 (.pr (.sl 44 (.pr .str .int)) (.pr (.sl 9 .str) (.sl 46 (.pr .int (.pr .int (.pr .bool .int)))))) Z2) ?_
 iterate 5 refine w_ ?_
 refine lc (Hp [.val (.slice none 0 0),dI 0, .val (.int .u64 0)] (Qit (offs:=[(0,1),(1,1),(2,1)]) (zs:=[.slice none 0 0, .int .i64 0, .int .u64 0]) Tryz.underlying119 (by kernel_rfl) (by kernel_rfl)) (fun _ _ _=>⟨_,_,rfl,rfl,⟨_,_,rfl,(XZ _ _ _ .int).one rfl,⟨_,_,rfl,rfl,rfl⟩⟩⟩) ⟨_,_,rfl,(Ql rfl),rfl⟩ (aA.1 rfl) rfl rfl) ?_
 refine xbx 1 ?_
 iterate 4 refine w_ ?_
 refine ZQ 2 [(0,1)] (Ky code 0 0 (by omega)) QgY e1_ ⟨rfl,trivial⟩ rfl (fun _=>rfl) (fun _=>⟨trivial,trivial⟩) (nlr rfl) fun x1 hx2=>lc (xal 3 (.pr (.sl 44 (.pr .str .int)) (.pr (.sl 9 .str) (.sl 46 (.pr .int (.pr .int (.pr .bool .int)))))) Z2) ?_
 iterate 4 refine w_ ?_
 refine lc (dK (VH x1.1 (by have h_:=‹_≤8∧_›; omega)).frozen QaK) ?_
 iterate 5 refine w_ ?_
 refine alL 15 fun hl3=> ?_
 iterate 3 refine w_ ?_
 cases hb4:(decide (((QQ x1.1.1 x1.1.1.length).length:Int)=0))
 ·have hb4':=ae hb4
  refine w_ ?_
  have hp5:=ZA code x1.2.1 x1.2.2 10
  refine lgy rfl rfl (dP 4 [(0,1)] (ZP code x1.2.1 x1.2.2 10 (by omega)) X6) ?_
  iterate 2 refine w_ ?_
  refine cd_ (fun hb6 hb6'=> ?_) fun hb6 hb6'=> ?_
  ·refine w_ ?_
   have hp7:=ZA code (pkA 10 x1.2.1) (pkS code x1.2.1 x1.2.2 10) ((QQ x1.1.1 x1.1.1.length).length:Int)
   obtain ⟨x8,hx9⟩:∃z,(QQ x1.1.1 x1.1.1.length)[(pkV code (pkA 10 x1.2.1) (pkS code x1.2.1 x1.2.2 10) ((QQ x1.1.1 x1.1.1.length).length:Int)).toNat]? =some z:=⟨_,aa (by omega)⟩
   have hp10:=ZA code (pkA ((QQ x1.1.1 x1.1.1.length).length:Int) (pkA 10 x1.2.1)) (pkS code (pkA 10 x1.2.1) (pkS code x1.2.1 x1.2.2 10) ((QQ x1.1.1 x1.1.1.length).length:Int)) 2
   apply dW (i5 28 _ _ _ _ _ (⟨some 33,lI (pkV code (pkA 10 x1.2.1) (pkS code x1.2.1 x1.2.2 10) ((QQ x1.1.1 x1.1.1.length).length:Int)),[bx 1 119 [.dat (.sl 5 .u8) code,dI (pkA ((QQ x1.1.1 x1.1.1.length).length:Int) (pkA 10 x1.2.1)), .val (.int .u64 (pkS code (pkA 10 x1.2.1) (pkS code x1.2.1 x1.2.2 10) ((QQ x1.1.1 x1.1.1.length).length:Int)))],(1,none)]⟩ :: i2 34 _ _ (io 36 (lP 1 0) :: ⟨some 37,lB (decide (pkV code (pkA ((QQ x1.1.1 x1.1.1.length).length:Int) (pkA 10 x1.2.1)) (pkS code (pkA 10 x1.2.1) (pkS code x1.2.1 x1.2.2 10) ((QQ x1.1.1 x1.1.1.length).length:Int)) 2=0)),[bx 1 119 [.dat (.sl 5 .u8) code,dI (pkA 2 (pkA ((QQ x1.1.1 x1.1.1.length).length:Int) (pkA 10 x1.2.1))), .val (.int .u64 (pkS code (pkA ((QQ x1.1.1 x1.1.1.length).length:Int) (pkA 10 x1.2.1)) (pkS code (pkA 10 x1.2.1) (pkS code x1.2.1 x1.2.2 10) ((QQ x1.1.1 x1.1.1.length).length:Int)) 2))],(1,none)]⟩ :: ⟨none,lf (.val undef),[bx 0 27 [.dat (.sl 44 (.pr .str .int)) x1.1.1, .dat (.sl 9 .str) x1.1.2.1, .dat (.sl 46 (.pr .int (.pr .int (.pr .bool .int)))) x1.1.2.2]]⟩ :: i2 3 _ _ []))) [0,1,3,7,7,3,1,1,255,195,194,0,0]
   iterate 5 refine z_ ?_
   refine zz (fun _ h_=>ac (dP 5 [(0,1)] (Qv code (pkA 10 x1.2.1) (pkS code x1.2.1 x1.2.2 10) ((QQ x1.1.1 x1.1.1.length).length:Int) (by omega)) Zg) rfl) ?_
   iterate 3 refine z_ ?_
   refine zz (fun _ h_=>ac (dP 6 [(0,1)] (ZP code (pkA ((QQ x1.1.1 x1.1.1.length).length:Int) (pkA 10 x1.2.1)) (pkS code (pkA 10 x1.2.1) (pkS code x1.2.1 x1.2.2 10) ((QQ x1.1.1 x1.1.1.length).length:Int)) 2 (by omega)) X6) rfl) ?_
   iterate 3 refine z_ ?_
   exact zN
   refine Qb ?_
   subst hO
   refine QR (x:=((x1.1.1,(x1.1.2.1,x1.1.2.2)),(x8,decide (pkV code (pkA ((QQ x1.1.1 x1.1.1.length).length:Int) (pkA 10 x1.2.1)) (pkS code (pkA 10 x1.2.1) (pkS code x1.2.1 x1.2.2 10) ((QQ x1.1.1 x1.1.1.length).length:Int)) 2=0)))) [] ?_ (Ut rfl (QD rfl rfl ZT rfl) (Yc rfl) (Yc rfl)) rfl trivial rfl rfl
   first | (have h_:=‹_≤8∧_›; exact h_.1) | assumption
  ·have hp11:=ZA code (pkA 10 x1.2.1) (pkS code x1.2.1 x1.2.2 10) 4
   have hp12:=ZA code (pkA 4 (pkA 10 x1.2.1)) (pkS code (pkA 10 x1.2.1) (pkS code x1.2.1 x1.2.2 10) 4) 2
   apply dW (i2 22 _ _ (⟨some 24,lI (pkV code (pkA 10 x1.2.1) (pkS code x1.2.1 x1.2.2 10) 4),[bx 1 119 [.dat (.sl 5 .u8) code,dI (pkA 4 (pkA 10 x1.2.1)), .val (.int .u64 (pkS code (pkA 10 x1.2.1) (pkS code x1.2.1 x1.2.2 10) 4))],(1,none)]⟩ :: io 25 _ :: io 26 (lP 1 0) :: ⟨some 27,lB (decide (pkV code (pkA 4 (pkA 10 x1.2.1)) (pkS code (pkA 10 x1.2.1) (pkS code x1.2.1 x1.2.2 10) 4) 2=0)),[bx 1 119 [.dat (.sl 5 .u8) code,dI (pkA 2 (pkA 4 (pkA 10 x1.2.1))), .val (.int .u64 (pkS code (pkA 4 (pkA 10 x1.2.1)) (pkS code (pkA 10 x1.2.1) (pkS code x1.2.1 x1.2.2 10) 4) 2))],(1,none)]⟩ :: ⟨none,lf (.val undef),[bx 0 27 [.dat (.sl 44 (.pr .str .int)) x1.1.1, .dat (.sl 9 .str) x1.1.2.1, .dat (.sl 46 (.pr .int (.pr .int (.pr .bool .int)))) x1.1.2.2]]⟩ :: i2 3 _ _ [])) [0,1,1,1,15,9,8,0,0]
   iterate 2 refine z_ ?_
   refine zz (fun _ h_=>ac (dP 7 [(0,1)] (Qv code (pkA 10 x1.2.1) (pkS code x1.2.1 x1.2.2 10) 4 (by omega)) Zg) rfl) ?_
   iterate 2 refine z_ ?_
   refine zz (fun _ h_=>ac (dP 8 [(0,1)] (ZP code (pkA 4 (pkA 10 x1.2.1)) (pkS code (pkA 10 x1.2.1) (pkS code x1.2.1 x1.2.2 10) 4) 2 (by omega)) X6) rfl) ?_
   iterate 3 refine z_ ?_
   exact zN
   refine Qb ?_
   subst hO
   refine QR (x:=((x1.1.1,(x1.1.2.1,x1.1.2.2)),((pkV code (pkA 10 x1.2.1) (pkS code x1.2.1 x1.2.2 10) 4) - 1,decide (pkV code (pkA 4 (pkA 10 x1.2.1)) (pkS code (pkA 10 x1.2.1) (pkS code x1.2.1 x1.2.2 10) 4) 2=0)))) [] ?_ (Ut rfl (QD rfl rfl ZT rfl) (Yc rfl) (Yc rfl)) rfl trivial rfl rfl
   first | (have h_:=‹_≤8∧_›; exact h_.1) | assumption
 ·have hb4':=ab hb4
  iterate 5 refine w_ ?_
  have hp13:=ZA code x1.2.1 x1.2.2 4
  have hp14:=ZA code (pkA 4 x1.2.1) (pkS code x1.2.1 x1.2.2 4) 2
  apply dW (i2 22 _ _ (⟨some 24,lI (pkV code x1.2.1 x1.2.2 4),[bx 1 119 [.dat (.sl 5 .u8) code,dI (pkA 4 x1.2.1), .val (.int .u64 (pkS code x1.2.1 x1.2.2 4))],(1,none)]⟩ :: io 25 _ :: io 26 (lP 1 0) :: ⟨some 27,lB (decide (pkV code (pkA 4 x1.2.1) (pkS code x1.2.1 x1.2.2 4) 2=0)),[bx 1 119 [.dat (.sl 5 .u8) code,dI (pkA 2 (pkA 4 x1.2.1)), .val (.int .u64 (pkS code (pkA 4 x1.2.1) (pkS code x1.2.1 x1.2.2 4) 2))],(1,none)]⟩ :: ⟨none,lf (.val undef),[bx 0 27 [.dat (.sl 44 (.pr .str .int)) x1.1.1, .dat (.sl 9 .str) x1.1.2.1, .dat (.sl 46 (.pr .int (.pr .int (.pr .bool .int)))) x1.1.2.2]]⟩ :: i2 3 _ _ [])) [0,1,1,1,15,9,8,0,0]
  iterate 2 refine z_ ?_
  refine zz (fun _ h_=>ac (dP 9 [(0,1)] (Qv code x1.2.1 x1.2.2 4 (by omega)) Zg) rfl) ?_
  iterate 2 refine z_ ?_
  refine zz (fun _ h_=>ac (dP 10 [(0,1)] (ZP code (pkA 4 x1.2.1) (pkS code x1.2.1 x1.2.2 4) 2 (by omega)) X6) rfl) ?_
  iterate 3 refine z_ ?_
  exact zN
  refine Qb ?_
  subst hO
  refine QR (x:=((x1.1.1,(x1.1.2.1,x1.1.2.2)),((pkV code x1.2.1 x1.2.2 4) - 1,decide (pkV code (pkA 4 x1.2.1) (pkS code x1.2.1 x1.2.2 4) 2=0)))) [] ?_ (Ut rfl (QD rfl rfl ZT rfl) (Yc rfl) (Yc rfl)) rfl trivial rfl rfl
  first | (have h_:=‹_≤8∧_›; exact h_.1) | assumption
theorem Ym (code:List UInt8)[∀s,Decidable (StgOk s)][∀s,Decidable (YA s)][∀c,Decidable (SgOk c)]:FC Tryz.prog 57 [(false,[.dat (.sl 5 .u8) code])] [] 0 (Ex (fun x:DSg×Int×Bool×Int=>x.1.1.length≤8) (fun x:DSg×Int×Bool×Int=>PV.tup [(true,[.dat (.sl 44 (.pr .str .int)) x.1.1, .dat (.sl 9 .str) x.1.2.1, .dat (.sl 46 (.pr .int (.pr .int (.pr .bool .int)))) x.1.2.2]),(false,[dI x.2.1]),(false,[dB x.2.2.1]),(false,[dI x.2.2.2])]) (fun x:DSg×Int×Bool×Int=>[])):=by
 refine Qn Tryz.func57 rfl rfl Tryz.ntmps57 fun O_ hO w0_ N0_ X_ h0_ f0_=> ?_
 refine w_ ?_
 refine lc (xal 0 (.pr (.sl 44 (.pr .str .int)) (.pr (.sl 9 .str) (.sl 46 (.pr .int (.pr .int (.pr .bool .int)))))) Z2) ?_
 iterate 6 refine w_ ?_
 refine lc (Hp [.val (.slice none 0 0),dI 0, .val (.int .u64 0)] (Qit (offs:=[(0,1),(1,1),(2,1)]) (zs:=[.slice none 0 0, .int .i64 0, .int .u64 0]) Tryz.underlying119 (by kernel_rfl) (by kernel_rfl)) (fun _ _ _=>⟨_,_,rfl,rfl,⟨_,_,rfl,(XZ _ _ _ .int).one rfl,⟨_,_,rfl,rfl,rfl⟩⟩⟩) ⟨_,_,rfl,(Ql rfl),rfl⟩ (aA.1 rfl) rfl rfl) ?_
 refine xbx 1 ?_
 iterate 4 refine w_ ?_
 refine ZQ 2 [] (Ya code) QcC e1_ trivial rfl (fun _=>rfl) (fun _=>trivial) (nlr rfl) fun x1 hx2=> ?_
 iterate 4 refine w_ ?_
 refine lc (xal 2 (.pr (.sl 44 (.pr .str .int)) (.pr (.sl 9 .str) (.sl 46 (.pr .int (.pr .int (.pr .bool .int)))))) Z2) ?_
 iterate 4 refine w_ ?_
 have hp3:=ZA code 0 0 2
 have hp4:=ZA code (pkA 2 0) (pkS code 0 0 2) 20
 apply dW (i4 19 _ _ _ _ (⟨some 23,lI (pkV code 0 0 2),[bx 1 119 [.dat (.sl 5 .u8) code,dI (pkA 2 0), .val (.int .u64 (pkS code 0 0 2))],(1,none)]⟩ :: io 24 (lP 1 0) :: ⟨some 25,lI (pkV code (pkA 2 0) (pkS code 0 0 2) 20),[bx 1 119 [.dat (.sl 5 .u8) code,dI (pkA 20 (pkA 2 0)), .val (.int .u64 (pkS code (pkA 2 0) (pkS code 0 0 2) 20))],(1,none)]⟩ :: io 26 (lI ((pkV code (pkA 2 0) (pkS code 0 0 2) 20) / 19)) :: io 27 _ :: ⟨none,lf (.val undef),[bx 0 27 [.dat (.sl 44 (.pr .str .int)) x1.1.1, .dat (.sl 9 .str) x1.1.2.1, .dat (.sl 46 (.pr .int (.pr .int (.pr .bool .int)))) x1.1.2.2]]⟩ :: i3 3 _ _ _ [])) [0,1,3,7,7,31,7,7,7,390,388,384,0]
 iterate 4 refine z_ ?_
 refine zz (fun _ h_=>ac (dP 3 [(0,1)] (Qv code 0 0 2 (by omega)) Zg) rfl) ?_
 refine z_ ?_
 refine zz (fun _ h_=>ac (dP 4 [(0,1)] (Qv code (pkA 2 0) (pkS code 0 0 2) 20 (by omega)) Zg) rfl) ?_
 refine zz (fun _ h_=>ac (Qly (h_.v rfl) (Qk rfl) rfl (by omega) (by omega)) rfl) ?_
 iterate 5 refine z_ ?_
 exact zN
 refine Qb ?_
 subst hO
 refine QR (x:=((x1.1.1,(x1.1.2.1,x1.1.2.2)),(x1.2.1,(x1.2.2,(pkV code 0 0 2) - ((pkV code (pkA 2 0) (pkS code 0 0 2) 20) / 19))))) [] ?_ (QfJ rfl (QD rfl rfl ZT rfl) (Yc rfl) (Yc rfl) (Yc rfl)) rfl trivial rfl rfl
 first | (have h_:=‹_≤8∧_›; exact h_.1) | assumption
theorem Qqk {l:List Int}{k:Nat}{x n:Int}(h:l[k]? =some x)(e:x=n):n∈l:=e▸aj h
theorem QkL {l:List Int}{k:Nat}{n:Int}(h:NoneTo (fun y=>decide (y=n)) l k)(hk:l.length≤k):¬n∈l:=fun g=>by
  obtain ⟨j,hj⟩:=aT.1 g
  have:=h j (bp (ah.1 hj).1 hk) n hj
  simp at this
theorem QeH (code:List UInt8)(more:List UInt8):FC Tryz.prog 48 [(false,[.dat (.sl 5 .u8) code]),(false,[.dat (.sl 5 .u8) more])] [] 0 (QY (lB (decide ((1048576:Int) < (code.length:Int)+(more.length:Int))))):=by
 refine Qn Tryz.func48 rfl rfl Tryz.ntmps48 fun O_ hO w0_ N0_ X_ h0_ f0_=> ?_
 iterate 5 refine w_ ?_
 refine alL 5 fun hl1=> ?_
 iterate 3 refine w_ ?_
 cases hb2:(decide (1048576 < (code.length:Int)))
 ·have hb2':=ae hb2
  refine w_ ?_
  refine alL 9 fun hl3=> ?_
  iterate 2 refine w_ ?_
  refine alL 11 fun hl4=> ?_
  iterate 6 refine w_ ?_
  refine Qb<|fqB hO ?_
  first | exact (aI (by omega)).symm | exact (aF (by omega)).symm | exact cA.2 (by omega)
 ·have hb2':=ab hb2
  iterate 9 refine w_ ?_
  refine Qb<|fqB hO ?_
  first | exact (aI (by omega)).symm | exact (aF (by omega)).symm | exact cA.2 (by omega)
theorem Xm (a:List Int)(b:List Int)(h:a=b):FC Tryz.prog 59 [(false,[.dat (.sl 3 .int) a]),(false,[.dat (.sl 3 .int) b])] [] 0 (QY (lB true)):=by
 have hlx:a.length=b.length:=by rw[h]
 refine Qn Tryz.func59 rfl rfl Tryz.ntmps59 fun O_ hO w0_ N0_ X_ h0_ f0_=> ?_
 iterate 6 refine w_ ?_
 refine alL 6 fun hl1=> ?_
 iterate 2 refine w_ ?_
 refine alL 8 fun hl2=> ?_
 iterate 3 refine w_ ?_
 refine cn_ (fun hb3 hb3'=> ?_) fun hb3 hb3'=> ?_
 ·iterate 4 refine w_ ?_
  refine alL 11 fun hl4=> ?_
  iterate 4 refine w_ ?_
  refine lp0 a.length (fun k=>⟨[(0,lf (.dat (.sl 3 .int) a)),(1,lf (.dat (.sl 3 .int) b)),(12,lI (a.length:Int)),(13,lI (k:Int))],[]⟩) ?_ fun k hk5=> ?_
  · exact Wk.of [] rfl ⟨rfl,rfl,rfl,rfl,trivial⟩ trivial rfl rfl
  iterate 4 refine w_ ?_
  cases hb6:(decide ((k:Int) < (a.length:Int)))
  ·have hb6':=ae hb6
   refine w_ ?_
   refine Qh ?_
   refine (?_:AC _ _ _ _ _)
   iterate 3 refine w_ ?_
   refine Qb ?_
   exact fe_ hO
  ·have hb6':=ab hb6
   iterate 8 refine w_ ?_
   obtain ⟨x7,hx8⟩:∃z,a[k]? =some z:=⟨_,aa (by omega)⟩
   obtain ⟨x9,hx10⟩:∃z,b[k]? =some z:=⟨_,aa (by omega)⟩
   apply dW (i9 16 _ _ _ _ _ _ _ _ _ []) [0,1,0,0,15,31,15,15,0]
   iterate 9 refine z_ ?_
   exact zN
   cases hb11:(!decide (x7=x9))
   ·have hb11':(x7=x9):=QV hb11
    refine w_ ?_
    refine AC.skip ?_
    refine (?_:AC _ _ _ _ _)
    iterate 3 refine w_ ?_
    refine Qc ?_
    refine l0_ ?_
    exact Wk.of [] rfl ⟨rfl,rfl,rfl,rfl,trivial⟩ trivial rfl rfl
   ·have hb11':¬(x7=x9):=Za hb11
    iterate 4 refine w_ ?_
    refine Qb<|fqB hO ?_
    first | rfl | (subst h; exfalso; simp_all; done) | (exfalso; omega)
 ·iterate 3 refine w_ ?_
  refine Qb<|fqB hO ?_
  first | rfl | (subst h; exfalso; simp_all; done) | (exfalso; omega)
theorem KT (a:List (List Int))(b:List (List Int))(h:a=b):FC Tryz.prog 52 [(false,[.dat (.sl 32 (.sl 3 .int)) a]),(false,[.dat (.sl 32 (.sl 3 .int)) b])] [] 0 (QY (lB true)):=by
 have hlx:a.length=b.length:=by rw[h]
 refine Qn Tryz.func52 rfl rfl Tryz.ntmps52 fun O_ hO w0_ N0_ X_ h0_ f0_=> ?_
 iterate 6 refine w_ ?_
 refine alL 6 fun hl1=> ?_
 iterate 2 refine w_ ?_
 refine alL 8 fun hl2=> ?_
 iterate 3 refine w_ ?_
 refine cn_ (fun hb3 hb3'=> ?_) fun hb3 hb3'=> ?_
 ·iterate 4 refine w_ ?_
  refine alL 11 fun hl4=> ?_
  iterate 4 refine w_ ?_
  refine lp0 a.length (fun k=>⟨[(0,lf (.dat (.sl 32 (.sl 3 .int)) a)),(1,lf (.dat (.sl 32 (.sl 3 .int)) b)),(12,lI (a.length:Int)),(13,lI (k:Int))],[]⟩) ?_ fun k hk5=> ?_
  · exact Wk.of [] rfl ⟨rfl,rfl,rfl,rfl,trivial⟩ trivial rfl rfl
  iterate 4 refine w_ ?_
  cases hb6:(decide ((k:Int) < (a.length:Int)))
  ·have hb6':=ae hb6
   refine w_ ?_
   refine Qh ?_
   refine (?_:AC _ _ _ _ _)
   iterate 3 refine w_ ?_
   refine Qb ?_
   exact fe_ hO
  ·have hb6':=ab hb6
   iterate 8 refine w_ ?_
   obtain ⟨ra,hx8⟩:∃z,a[k]? =some z:=⟨_,aa (by omega)⟩
   have hra:=hx8
   obtain ⟨rb,hx10⟩:∃z,b[k]? =some z:=⟨_,aa (by omega)⟩
   have hrb:=hx10
   apply dW (i8 16 _ _ _ _ _ _ _ _ [io 24 (lB true),io 25 _]) [0,1,0,0,15,31,15,15,0,0]
   iterate 8 refine z_ ?_
   refine zz (fun _ h_=>ac (dK (Xm ra rb (cY (hra.symm.trans ((congrArg (fun l=>l[k]?) h).trans hrb)))) J4) rfl) ?_
   refine z_ ?_
   exact zN
   refine w_ ?_
   refine AC.skip ?_
   refine (?_:AC _ _ _ _ _)
   iterate 3 refine w_ ?_
   refine Qc ?_
   refine l0_ ?_
   exact Wk.of [] rfl ⟨rfl,rfl,rfl,rfl,trivial⟩ trivial rfl rfl
 ·iterate 3 refine w_ ?_
  refine Qb<|fqB hO ?_
  first | rfl | (exfalso; omega)
theorem Qfx (l:List Int)(n:Int):FC Tryz.prog 56 [(false,[.dat (.sl 3 .int) l]),(false,[dI n])] [] 0 (QY (lB (decide (n∈l)))):=by
 refine Qn Tryz.func56 rfl rfl Tryz.ntmps56 fun O_ hO w0_ N0_ X_ h0_ f0_=> ?_
 refine acI 1 fun hi1=> ?_
 iterate 6 refine w_ ?_
 refine alL 7 fun hl2=> ?_
 iterate 4 refine w_ ?_
 refine lpK l.length (fun k=>NoneTo (fun y=>decide (y=n)) l k) (fun k=>⟨[(1,lI n),(7,lf (.dat (.sl 3 .int) l)),(8,lI (l.length:Int)),(9,lI (k:Int))],[]⟩) (NoneTo.zero) ?_ fun k hk3 hno=> ?_
 · exact Wk.of [] rfl ⟨rfl,rfl,rfl,rfl,trivial⟩ trivial rfl rfl
 iterate 4 refine w_ ?_
 cases hb4:(decide ((k:Int) < (l.length:Int)))
 ·have hb4':=ae hb4
  refine w_ ?_
  refine Qh ?_
  refine (?_:AC _ _ _ _ _)
  iterate 3 refine w_ ?_
  refine Qb<|fqB hO ?_
  first | exact (aF (QkL hno (by omega))).symm
 ·have hb4':=ab hb4
  iterate 5 refine w_ ?_
  obtain ⟨x5,hx6⟩:∃z,l[k]? =some z:=⟨_,aa (by omega)⟩
  iterate 2 refine w_ ?_
  refine alI 12 fun hi7=> ?_
  iterate 7 refine w_ ?_
  cases hb8:(decide (x5=n))
  ·have hb8':=ae hb8
   refine w_ ?_
   refine AC.skip ?_
   refine (?_:AC _ _ _ _ _)
   iterate 3 refine w_ ?_
   refine Qc ?_
   refine lK_ (hno.step hx6 (aF (by assumption))) ?_
   exact Wk.of [] rfl ⟨rfl,rfl,rfl,rfl,trivial⟩ trivial rfl rfl
  ·have hb8':=ab hb8
   iterate 4 refine w_ ?_
   refine Qb<|fqB hO ?_
   first | exact (aI (Qqk hx6 (by assumption))).symm | exact (aF (QkL hno (by omega))).symm
theorem Qdw (n:Int)(hn:0≤n∧n≤1000000):FC Tryz.prog 53 [(false,[dI n])] [] 0 (Yo 4 .bool (List.replicate n.toNat false)):=by
 refine Qn Tryz.func53 rfl rfl Tryz.ntmps53 fun O_ hO w0_ N0_ X_ h0_ f0_=> ?_
 refine acI 0 fun hi1=> ?_
 iterate 5 refine w_ ?_
 refine lc (Kx 0 (e:= .bool) (n:=n) (Qa rfl) (Qa rfl) V1 QiD rfl (by omega) (by omega) (by omega) rfl (Fresh.of rfl) (nlr rfl)) ?_
 iterate 2 refine w_ ?_
 refine Qb<|fo_ hO ?_
 rfl
end Go.Proofs.YtgpdhgadmjfokaaGreat
namespace Go.Proofs.YtgpdhgadmjfokaaGreat
open Go.RowKit
set_option maxRecDepth 100000
set_option maxHeartbeats 4000000
section
variable {c:DSg}{as_:List DAr}{a b:DAr}{l:Int×Bool}{R S out:List Int}{s u v q x y z sig:Int}{k i j n m:Nat}{up:Bool}{L:List (List Int)}{r:List Int}
theorem Qil (h:r∈regV as_ S):∃x∈S,repB as_ S x=true∧r=cls as_ S x:=by
  obtain ⟨x,hx,rfl⟩:=bB.1 h
  rw[be] at hx
  exact ⟨x,hx.1,hx.2,rfl⟩
theorem Qby (h:r∈regV as_ S):∀q∈r,q∈S:=fun q hq=>by
  obtain ⟨x,_,_,rfl⟩:=Qil h
  exact (be.1 hq).1
theorem QoY (hx:x∈S)(hy:y∈S)(h1:repB as_ S x=true)(h2:repB as_ S y=true)(hz:z∈cls as_ S x)(hz2:z∈cls as_ S y):x=y:=by
  rw[XY hx] at hz
  rw[XY hy] at hz2
  have e1:=Vr.1 h1 y hy (YN hz (WD hy hz2))
  have e2:=Vr.1 h2 x hx (YN hz2 (WD hx hz))
  omega
theorem Qnv (hS:Srt S):(regV as_ S).flatten.Nodup:=by
  unfold List.Nodup
  rw[List.pairwise_flatten]
  refine ⟨fun r hr=> ?_, ?_⟩
  · obtain ⟨x, _, _, rfl⟩ := Qil hr
    exact Vb (Qdo hS)
  · unfold regV
    rw[dd]
    have h1:(S.filter (repB as_ S)).Nodup:=Vb (hS.filter _)
    refine h1.imp_of_mem fun {x y} hx hy hne=> ?_
    rw[be] at hx hy
    exact fun z h2 w h3 e=>hne (QoY hx.1 hy.1 hx.2 hy.2 h2 (e▸h3))
theorem Ql9 (hS:Srt S):z∈(regV as_ S).flatten↔z∈S:=by
  rw[List.mem_flatten]
  constructor
  · rintro ⟨r,hr,hz⟩; exact Qby hr z hz
  · intro hz
    obtain ⟨h1,h2,h3⟩:=WG hS hz (as_:=as_)
    refine ⟨cls as_ S (rm as_ S z),bB.2 ⟨rm as_ S z,be.2 ⟨h1,Vr.2 fun v _ hc=>h3 v (YN h2 hc)⟩,rfl⟩,(XY h1).2 (WD hz h2)⟩
theorem QqU (h:L.flatten.Nodup)(h1:L[k]? =some r)(h2:r[j]? =some z):¬z∈(L.take k).flatten++r.take j:=by
  have hk:=ah.1 h1
  obtain ⟨hk,e1⟩:=hk
  obtain ⟨hj,e2⟩:=ah.1 h2
  have d1:L=L.take k++r :: L.drop (k+1):=by rw[← e1,← cK hk,bE]
  have d2:r=r.take j++z :: r.drop (j+1):=by rw[← e2,← cK hj,bE]
  rw[d1,List.flatten_append,List.flatten_cons] at h
  rw[d2,← aP,← aP] at h
  have h3:=(bd.1 h).1
  have h4:=(bd.1 h3).2.2
  exact fun g=>h4 z g z (aB ..) rfl
theorem QjO (h1:L[k]? =some r)(hj:r.length≤j):(L.take k).flatten++r.take j=(L.take (k+1)).flatten:=by
  rw[Qs h1,List.flatten_append,bh hj]; simp
theorem Qnm (h0:0≤q)(hq:q < (n:Int)):(chi n S).set q.toNat true=chi n (S++[q]):=by
  unfold chi
  apply List.ext_getElem
  · simp
  · intro i h1 h2
    simp only[ay,aN,List.length_range] at h1
    rw[List.getElem_set]
    simp only[List.getElem_map,dc]
    split
    · rename_i g; exact (aI (aW _ (aR.2 (by omega)))).symm
    · rename_i g
      rw[cA,aO,aR]
      exact ⟨.inl,fun h=>h.elim id (fun h=>absurd h (by omega))⟩
theorem QfW (h:q∈xS c.2.2 (sig,up)):QH c q sig=true:=by
  obtain ⟨a,h1,h2,_,h4⟩:=VX.1 h
  unfold QH
  exact bC.2 ⟨a,h1,aI ⟨h4,h2⟩⟩
theorem Qpe (h:QH c q sig=false)(ha:a∈c.2.2)(h1:a.1=q):a.2.1≠sig:=fun e=>by
  unfold QH at h
  rw[cn] at h
  exact h a ha (aI ⟨h1,e⟩)
theorem Ql4 (hr:InR c.2.1.length a):∃z,c.2.1[a.1.toNat]? =some z∧YT c a.1=z:=⟨_,aa (by have:=hr.1; omega),by unfold YT; rw[aa (by have:=hr.1; omega)]; rfl⟩
theorem HZ (hs:SgOk c)(hg:0≤sig∧sig≤(c.1.length:Int) - 1)(ha:a∈c.2.2):if sig=a.2.1 then (decide (bAt (YT c a.1) sig=49)= !a.2.2.1∧decide (bAt (YT c a.2.2.2) sig=49)=a.2.2.1) else bAt (YT c a.1) sig=bAt (YT c a.2.2.2) sig:=by
  obtain ⟨g1,g2,g3,g4⟩:=hs.arcs a ha
  obtain ⟨z,hz,e⟩:=Ql4 (Yn ⟨g1,g2,g3,g4⟩)
  have hz2:=(hs.codes z (aj hz)).2
  rw[e] at g4
  have:=g4 sig.toNat (by omega)
  unfold Yh at this
  rw[show ((sig.toNat:Nat):Int)=sig by omega] at this
  rw[e]
  exact this
theorem QpR (hs:SgOk c)(hg:0≤sig∧sig≤(c.1.length:Int) - 1)(hR:∀q∈R,q∈xS c.2.2 (sig,up))(h:QC c sig R v):decide (bAt (YT c v) sig=49)=up:=by
  induction h with
  | base h1=>
    obtain ⟨a,h1,h2,h3,_,rfl⟩:=h1
    obtain ⟨b,k1,k2,k3,k4⟩:=VX.1 (hR _ h3)
    have e:=QoB hs h1 k1 k4.symm (by rw[h2,k2]) (by rw[h2]; exact hg)
    have f:=HZ hs hg h1
    rw[if_pos h2.symm] at f
    rw[f.2,e,k3]
  | @step b h1 h2 _ ih=>
    obtain ⟨_,_,a,ha,_,e1,e2⟩:=Qhi.1 h2
    have hq:=Qf3 h1
    have hne:=Qpe hq ha e1.symm
    have f:=HZ hs hg ha
    rw[if_neg fun e=>hne e.symm] at f
    rw[e1] at ih
    rw[e2,← f]; exact ih
theorem Qqg (hs:SgOk c)(hg:0≤sig∧sig≤(c.1.length:Int) - 1):(q∈xS c.2.2 (sig,up))↔(QH c q sig=true∧decide (bAt (YT c q) sig=49)= !up):=by
  constructor
  · intro h
    refine ⟨QfW h, ?_⟩
    obtain ⟨a,h1,h2,h3,h4⟩:=VX.1 h
    have f:=HZ hs hg h1
    rw[if_pos h2.symm] at f
    rw[← h4,f.1,h3]
  · rintro ⟨h1, h2⟩
    unfold QH at h1
    obtain ⟨a,ha,h3⟩:=bC.1 h1
    have h3:=ab h3
    have f:=HZ hs hg ha
    rw[if_pos h3.2.symm,h3.1,h2] at f
    exact VX.2 ⟨a,ha,h3.2,by have:=f.1; cases up <;> cases h:a.2.2.1 <;> rw[h] at this <;> simp_all,h3.1⟩
end
end Go.Proofs.YtgpdhgadmjfokaaGreat
namespace Go.Proofs.YtgpdhgadmjfokaaGreat
open Go.RowKit
set_option maxRecDepth 100000
set_option maxHeartbeats 4000000
theorem Qmj {n:Nat}{L:List (List Int)}:List.replicate ((n:Nat):Int).toNat false=chi n (List.take 0 L).flatten:=by rw[cO,dh]; exact QiQ
theorem QkA {n j:Nat}{S r:List Int}{z:Int}(h0:0≤z)(hq:z < (n:Int))(hz:r[j]? =some z):(chi n (S++r.take j)).set z.toNat true=chi n (S++r.take (j+1)):=by rw[Qnm h0 hq,Qs hz,aP]
theorem YQ {c:DSg}{sig q:Int}{up B:Bool}{w:ByteArray}{x:UInt8}{n:Nat}(hs:SgOk c)(hg:0≤sig∧sig≤(c.1.length:Int) - 1)(hr:∀a∈c.2.2,InR c.2.1.length a)(hB:B=decide (q∈((regV c.2.2 (xS c.2.2 (sig,up))).take n).flatten))(hn:(regV c.2.2 (xS c.2.2 (sig,up))).length≤n)(hw:c.2.1[q.toNat]? =some w)(hx:w[sig.toNat]? =some x):
    B=(QH c q sig&& !(decide (x=49)==up)):=by
  rw[hB,bh hn,cj,decide_eq_true_iff,Ql9 Hb,Qqg hs hg,Xz hw,YS hx]
  cases QH c q sig <;> cases up <;> cases hd:decide (x=49) <;> simp
theorem XN {c:DSg}{sig q:Int}{up B:Bool}{n:Nat}(hB:B=decide (q∈((regV c.2.2 (xS c.2.2 (sig,up))).take n).flatten))(h:QH c q sig=false):B=false:=by
  rw[hB]
  refine aF fun g=> ?_
  obtain ⟨r,hr,hq⟩:=List.mem_flatten.1 g
  rw[QfW (Qby (List.mem_of_mem_take hr) q hq)] at h
  cases h
theorem HD (code:List UInt8)(more:List UInt8):FC Tryz.prog 6 [(false,[.dat (.sl 5 .u8) code]),(false,[.dat (.sl 5 .u8) more])] [] 0 (QY (lB true)):=by
 classical
 refine Qn Tryz.func6 rfl rfl Tryz.ntmps6 fun O_ hO w0_ N0_ X_ h0_ f0_=> ?_
 iterate 7 refine w_ ?_
 refine lc (dK (QeH code more) QjC) ?_
 refine w_ ?_
 refine cd_ (fun hb1 hb1'=> ?_) fun hb1 hb1'=> ?_
 ·iterate 3 refine w_ ?_
  refine ZQ 0 [] (Ya code) QcC e1_ trivial rfl (fun _=>rfl) (fun _=>trivial) (nlr rfl) fun xa hxa=> ?_
  iterate 4 refine w_ ?_
  refine lc (xal 0 (.pr (.sl 44 (.pr .str .int)) (.pr (.sl 9 .str) (.sl 46 (.pr .int (.pr .int (.pr .bool .int)))))) Z2) ?_
  iterate 8 refine w_ ?_
  refine lc (dK (YG xa.1 xa.2.1 xa.2.2) Qc4) ?_
  iterate 10 refine w_ ?_
  refine lc (dK (Wu xa.1 xa.2.1 xa.2.2) Qj1) ?_
  iterate 10 refine w_ ?_
  refine lc (Y5 (Qa rfl) (Qa rfl) rfl WY) ?_
  refine w_ ?_
  cases hb4:((decide ((0≤xa.2.1∧xa.2.1≤(xa.1.1.length:Int) - 1)∧QE xa.1 xa.2.1=false∧SgOk xa.1∧QG xa.1=Qu))==(decide ((0≤xa.2.1∧xa.2.1≤(xa.1.1.length:Int) - 1)∧QE xa.1 xa.2.1=false∧SgOk xa.1∧QG xa.1=Qu)))
  ·iterate 10 refine w_ ?_
   refine Qb<|fqB hO ?_
   first | rfl | (exfalso; omega) | (exfalso; exact hnq (by assumption)) | (exfalso; exact hnz (ab ((hbz _ rfl hzn.1).symm.trans (by assumption)))) | (exfalso; have h_:=YQ hs hg hr (hbk (k:Int) rfl (by omega)) (by omega) hck hak; simp_all; done) | (exfalso; have h_:=XN (hbk (k:Int) rfl (by omega)) (by assumption); simp_all; done) | (exfalso; simp_all; done) | (simp; done)
  ·iterate 2 refine w_ ?_
   refine lgy rfl rfl (dK (KT (if ((0≤xa.2.1∧xa.2.1≤(xa.1.1.length:Int) - 1)∧QE xa.1 xa.2.1=false∧SgOk xa.1∧QG xa.1=Qu) then regV xa.1.2.2 (xS xa.1.2.2 (xa.2.1,xa.2.2)) else []) (if ((0≤xa.2.1∧xa.2.1≤(xa.1.1.length:Int) - 1)∧QE xa.1 xa.2.1=false∧SgOk xa.1∧QG xa.1=Qu) then regV xa.1.2.2 (xS xa.1.2.2 (xa.2.1,xa.2.2)) else []) rfl) Qjw) ?_
   iterate 9 refine w_ ?_
   refine cd_ (fun hb5 hb5'=> ?_) fun hb5 hb5'=> ?_
   ·iterate 3 refine w_ ?_
    refine ZQ 1 [] (Ym more) QcE e1_ trivial rfl (fun _=>rfl) (fun _=>trivial) (nlr rfl) fun xb hxb=> ?_
    iterate 5 refine w_ ?_
    refine lc (xal 1 (.pr (.sl 44 (.pr .str .int)) (.pr (.sl 9 .str) (.sl 46 (.pr .int (.pr .int (.pr .bool .int)))))) Z2) ?_
    iterate 10 refine w_ ?_
    refine lc (dK (Z0 xb.1 xb.2.1 xb.2.2.1 xb.2.2.2) JV) ?_
    iterate 11 refine w_ ?_
    refine lc (dK (Y3 xb.1 xb.2.1 xb.2.2.1 xb.2.2.2) QcT) ?_
    iterate 9 refine w_ ?_
    refine lc (Uz (Qa rfl) (Qa rfl) rfl WY) ?_
    refine w_ ?_
    cases hb8:((decide (((0≤xb.2.1∧xb.2.1≤(xb.1.1.length:Int) - 1)∧QE xb.1 xb.2.1=false∧SgOk xb.1∧QG xb.1=Qu)∧(0≤xb.2.2.2∧xb.2.2.2≤((regV xb.1.2.2 (xS xb.1.2.2 (xb.2.1,xb.2.2.1))).length:Int) - 1)))==(decide (((0≤xb.2.1∧xb.2.1≤(xb.1.1.length:Int) - 1)∧QE xb.1 xb.2.1=false∧SgOk xb.1∧QG xb.1=Qu)∧(0≤xb.2.2.2∧xb.2.2.2≤((regV xb.1.2.2 (xS xb.1.2.2 (xb.2.1,xb.2.2.1))).length:Int) - 1))))
    ·iterate 6 refine w_ ?_
     refine Qb<|fqB hO ?_
     first | rfl | (exfalso; omega) | (exfalso; exact hnq (by assumption)) | (exfalso; exact hnz (ab ((hbz _ rfl hzn.1).symm.trans (by assumption)))) | (exfalso; have h_:=YQ hs hg hr (hbk (k:Int) rfl (by omega)) (by omega) hck hak; simp_all; done) | (exfalso; have h_:=XN (hbk (k:Int) rfl (by omega)) (by assumption); simp_all; done) | (exfalso; simp_all; done) | (simp; done)
    ·iterate 2 refine w_ ?_
     refine lgy rfl rfl (dK (Xm (if ((0≤xb.2.1∧xb.2.1≤(xb.1.1.length:Int) - 1)∧QE xb.1 xb.2.1=false∧SgOk xb.1∧QG xb.1=Qu)∧(0≤xb.2.2.2∧xb.2.2.2≤((regV xb.1.2.2 (xS xb.1.2.2 (xb.2.1,xb.2.2.1))).length:Int) - 1) then qV xb.1 xb.2.1 (((regV xb.1.2.2 (xS xb.1.2.2 (xb.2.1,xb.2.2.1)))[xb.2.2.2.toNat]?).getD []) else []) (if ((0≤xb.2.1∧xb.2.1≤(xb.1.1.length:Int) - 1)∧QE xb.1 xb.2.1=false∧SgOk xb.1∧QG xb.1=Qu)∧(0≤xb.2.2.2∧xb.2.2.2≤((regV xb.1.2.2 (xS xb.1.2.2 (xb.2.1,xb.2.2.1))).length:Int) - 1) then qV xb.1 xb.2.1 (((regV xb.1.2.2 (xS xb.1.2.2 (xb.2.1,xb.2.2.1)))[xb.2.2.2.toNat]?).getD []) else []) rfl) J4) ?_
     iterate 3 refine w_ ?_
     refine Qb ?_
     exact fe_ hO
   ·refine Zv ?_
    have hP:=(by assumption:((0≤xa.2.1∧xa.2.1≤(xa.1.1.length:Int) - 1)∧QE xa.1 xa.2.1=false∧SgOk xa.1∧QG xa.1=Qu))
    obtain ⟨hg,_,hs,_⟩:=id hP
    have hr:∀a∈xa.1.2.2,InR xa.1.2.1.length a:=fun a ha=>Yn (hs.arcs a ha)
    have hn3:=hs.some_
    have hS:Srt (xS xa.1.2.2 (xa.2.1,xa.2.2)):=Hb
    have hnd:=Qnv (as_:=xa.1.2.2) hS
    have hrl:=Qm7 (l:=(xa.2.1,xa.2.2)) hr
    rw[show (if ((0≤xa.2.1∧xa.2.1≤(xa.1.1.length:Int) - 1)∧QE xa.1 xa.2.1=false∧SgOk xa.1∧QG xa.1=Qu) then regV xa.1.2.2 (xS xa.1.2.2 (xa.2.1,xa.2.2)) else [])=regV xa.1.2.2 (xS xa.1.2.2 (xa.2.1,xa.2.2)) from if_pos hP]
    iterate 3 refine w_ ?_
    refine alL 70 fun hl9=> ?_
    refine w_ ?_
    refine lc (dO 2 (Qdw (xa.1.2.1.length:Int) (by omega)) Qkq) ?_
    iterate 5 refine w_ ?_
    refine alL 73 fun hl10=> ?_
    iterate 4 refine w_ ?_
    refine lp0 ((regV xa.1.2.2 (xS xa.1.2.2 (xa.2.1,xa.2.2))).length) (fun i=>⟨[(1,lf (.dat (.sl 5 .u8) more)),(5,lP 0 0),(6,lI xa.2.1),(7,lB xa.2.2),(12,lR 3),(73,lf (.dat (.sl 32 (.sl 3 .int)) (regV xa.1.2.2 (xS xa.1.2.2 (xa.2.1,xa.2.2))))),(74,lI ((regV xa.1.2.2 (xS xa.1.2.2 (xa.2.1,xa.2.2))).length:Int)),(75,lI (i:Int))],[bx 0 27 [.dat (.sl 44 (.pr .str .int)) xa.1.1, .dat (.sl 9 .str) xa.1.2.1, .dat (.sl 46 (.pr .int (.pr .int (.pr .bool .int)))) xa.1.2.2],ar 3 4 .bool (chi xa.1.2.1.length (((regV xa.1.2.2 (xS xa.1.2.2 (xa.2.1,xa.2.2))).take i).flatten))]⟩) ?_ fun i hk11=> ?_
    · exact Wk.of [(3,2)] rfl ⟨rfl,rfl,rfl,rfl,rfl,rfl,rfl,rfl,trivial⟩ ⟨rfl,(Qj (Qmj)),trivial⟩ rfl rfl
    have hcl:=Vy (n:=xa.1.2.1.length) (S:=((regV xa.1.2.2 (xS xa.1.2.2 (xa.2.1,xa.2.2))).take i).flatten)
    iterate 4 refine w_ ?_
    cases hb12:(decide ((i:Int) < ((regV xa.1.2.2 (xS xa.1.2.2 (xa.2.1,xa.2.2))).length:Int)))
    ·have hb12':=ae hb12
     refine w_ ?_
     refine Qh ?_
     refine (?_:AC _ _ _ _ _)
     iterate 3 refine w_ ?_
     refine alL 178 fun hl13=> ?_
     iterate 4 refine w_ ?_
     refine lp0 xa.1.2.1.length (fun k=>⟨[(1,lf (.dat (.sl 5 .u8) more)),(5,lP 0 0),(6,lI xa.2.1),(7,lB xa.2.2),(12,lR 3),(179,lI (xa.1.2.1.length:Int)),(180,lI (k:Int))],[bx 0 27 [.dat (.sl 44 (.pr .str .int)) xa.1.1, .dat (.sl 9 .str) xa.1.2.1, .dat (.sl 46 (.pr .int (.pr .int (.pr .bool .int)))) xa.1.2.2],ar 3 4 .bool (chi xa.1.2.1.length (((regV xa.1.2.2 (xS xa.1.2.2 (xa.2.1,xa.2.2))).take i).flatten))]⟩) ?_ fun k hk14=> ?_
     · exact Wk.of [] rfl ⟨rfl,rfl,rfl,rfl,rfl,rfl,rfl,trivial⟩ ⟨rfl,rfl,trivial⟩ rfl rfl
     iterate 4 refine w_ ?_
     cases hb15:(decide ((k:Int) < (xa.1.2.1.length:Int)))
     ·have hb15':=ae hb15
      refine w_ ?_
      refine Qh ?_
      refine (?_:AC _ _ _ _ _)
      iterate 2 refine w_ ?_
      refine ZQ 4 [] (Ym more) QcE e1_ trivial rfl (fun _=>rfl) (fun _=>trivial) (nlr rfl) fun xb hxb=> ?_
      iterate 5 refine w_ ?_
      refine lc (xal 4 (.pr (.sl 44 (.pr .str .int)) (.pr (.sl 9 .str) (.sl 46 (.pr .int (.pr .int (.pr .bool .int)))))) Z2) ?_
      iterate 10 refine w_ ?_
      refine lc (dK (Z0 xb.1 xb.2.1 xb.2.2.1 xb.2.2.2) JV) ?_
      iterate 11 refine w_ ?_
      refine lc (dK (Y3 xb.1 xb.2.1 xb.2.2.1 xb.2.2.2) QcT) ?_
      iterate 9 refine w_ ?_
      refine lc (Uz (Qa rfl) (Qa rfl) rfl WY) ?_
      refine w_ ?_
      cases hb18:((decide (((0≤xb.2.1∧xb.2.1≤(xb.1.1.length:Int) - 1)∧QE xb.1 xb.2.1=false∧SgOk xb.1∧QG xb.1=Qu)∧(0≤xb.2.2.2∧xb.2.2.2≤((regV xb.1.2.2 (xS xb.1.2.2 (xb.2.1,xb.2.2.1))).length:Int) - 1)))==(decide (((0≤xb.2.1∧xb.2.1≤(xb.1.1.length:Int) - 1)∧QE xb.1 xb.2.1=false∧SgOk xb.1∧QG xb.1=Qu)∧(0≤xb.2.2.2∧xb.2.2.2≤((regV xb.1.2.2 (xS xb.1.2.2 (xb.2.1,xb.2.2.1))).length:Int) - 1))))
      ·iterate 6 refine w_ ?_
       refine Qb<|fqB hO ?_
       first | rfl | (exfalso; omega) | (exfalso; exact hnq (by assumption)) | (exfalso; exact hnz (ab ((hbz _ rfl hzn.1).symm.trans (by assumption)))) | (exfalso; have h_:=YQ hs hg hr (hbk (k:Int) rfl (by omega)) (by omega) hck hak; simp_all; done) | (exfalso; have h_:=XN (hbk (k:Int) rfl (by omega)) (by assumption); simp_all; done) | (exfalso; simp_all; done) | (simp; done)
      ·iterate 2 refine w_ ?_
       refine lgy rfl rfl (dK (Xm (if ((0≤xb.2.1∧xb.2.1≤(xb.1.1.length:Int) - 1)∧QE xb.1 xb.2.1=false∧SgOk xb.1∧QG xb.1=Qu)∧(0≤xb.2.2.2∧xb.2.2.2≤((regV xb.1.2.2 (xS xb.1.2.2 (xb.2.1,xb.2.2.1))).length:Int) - 1) then qV xb.1 xb.2.1 (((regV xb.1.2.2 (xS xb.1.2.2 (xb.2.1,xb.2.2.1)))[xb.2.2.2.toNat]?).getD []) else []) (if ((0≤xb.2.1∧xb.2.1≤(xb.1.1.length:Int) - 1)∧QE xb.1 xb.2.1=false∧SgOk xb.1∧QG xb.1=Qu)∧(0≤xb.2.2.2∧xb.2.2.2≤((regV xb.1.2.2 (xS xb.1.2.2 (xb.2.1,xb.2.2.1))).length:Int) - 1) then qV xb.1 xb.2.1 (((regV xb.1.2.2 (xS xb.1.2.2 (xb.2.1,xb.2.2.1)))[xb.2.2.2.toNat]?).getD []) else []) rfl) J4) ?_
       iterate 3 refine w_ ?_
       refine Qb ?_
       exact fe_ hO
     ·have hb15':=ab hb15
      iterate 12 refine w_ ?_
      refine lc (dK (Xc xa.1 (k:Int) xa.2.1) JP) ?_
      iterate 6 refine w_ ?_
      have hZ:SgOk xa.1∧(0≤(k:Int)∧(k:Int)≤(xa.1.2.1.length:Int) - 1)∧(0≤xa.2.1∧xa.2.1≤(xa.1.1.length:Int) - 1):=⟨hs,by omega,hg⟩
      rw[show (decide (SgOk xa.1∧(0≤(k:Int)∧(k:Int)≤(xa.1.2.1.length:Int) - 1)∧(0≤xa.2.1∧xa.2.1≤(xa.1.1.length:Int) - 1))&&QH xa.1 (k:Int) xa.2.1)=QH xa.1 (k:Int) xa.2.1 from (by rw[aI hZ,Bool.true_and])]
      rw[show (decide (SgOk xa.1∧(0≤(k:Int)∧(k:Int)≤(xa.1.2.1.length:Int) - 1)∧(0≤xa.2.1∧xa.2.1≤(xa.1.1.length:Int) - 1)))=true from aI hZ]
      obtain ⟨bk,hx20⟩:∃z,(chi xa.1.2.1.length (((regV xa.1.2.2 (xS xa.1.2.2 (xa.2.1,xa.2.2))).take i).flatten))[k]? =some z:=⟨_,aa (by omega)⟩
      have hbk:=K1 hx20
      cases hb21:(QH xa.1 (k:Int) xa.2.1)
      ·apply dW (i5 190 _ _ _ _ _ (io 195 (lf (.ept 3 1 k 0)) :: io 196 (lB bk) :: i9 197 _ _ _ _ _ _ _ _ _ (i4 206 _ _ _ _ [io 210 (lB (!(bk==false))),io 211 _]))) [0,0,0,0,8,0,0,120,120,120,120,1656,120,120,15992,120,120,130680,120,120,0,0]
       iterate 5 refine z_ ?_
       refine zz (fun _ h_=>day rfl (h_.k rfl) (QF (e:= .bool) (h_.v rfl) (h_.en 3 rfl) (h_.v rfl) V1 XO rfl (by omega) (by first | omega | (simp only[ay]; omega))) rfl)<|zz (fun _ h_=>day rfl (h_.k rfl) (Q4 (e:= .bool) (h_.v rfl) (h_.n 3 rfl) hx20 rfl XO rfl rfl) rfl) ?_
       iterate 13 refine z_ ?_
       refine zz (fun _ h_=>day rfl (h_.k rfl) (Y5 (h_.v rfl) (h_.v rfl) rfl WY) rfl) ?_
       refine z_ ?_
       exact zN
       cases hb22:(bk==false)
       ·iterate 4 refine w_ ?_
        refine Qb<|fqB hO ?_
        first | rfl | (exfalso; omega) | (exfalso; exact hnq (by assumption)) | (exfalso; exact hnz (ab ((hbz _ rfl hzn.1).symm.trans (by assumption)))) | (exfalso; have h_:=YQ hs hg hr (hbk (k:Int) rfl (by omega)) (by omega) hck hak; simp_all; done) | (exfalso; have h_:=XN (hbk (k:Int) rfl (by omega)) (by assumption); simp_all; done) | (exfalso; simp_all; done) | (simp; done)
       ·refine w_ ?_
        refine AC.skip ?_
        refine (?_:AC _ _ _ _ _)
        iterate 3 refine w_ ?_
        refine Qc ?_
        refine l0_ ?_
        exact Wk.of [] rfl ⟨rfl,rfl,rfl,rfl,rfl,rfl,rfl,trivial⟩ ⟨rfl,rfl,trivial⟩ rfl rfl
      ·obtain ⟨ck,hx24⟩:∃z,xa.1.2.1[k]? =some z:=⟨_,aa (by omega)⟩
       have hck:=hx24
       have hsck:=(hs.codes _ (aj hx24)).2
       obtain ⟨ak,hc26⟩:∃z,ck[(xa.2.1).toNat]? =some z:=⟨_,bo _ _ (by omega)⟩
       have hak:=hc26
       apply dW (i5 190 _ _ _ _ _ (io 195 (lf (.ept 3 1 k 0)) :: io 196 (lB bk) :: i9 197 _ _ _ _ _ _ _ _ _ [io 206 (lB (decide (ak=49))),io 207 _,io 208 (lB (!((decide (ak=49))==xa.2.2))),io 209 _,io 210 (lB (!(bk==(!((decide (ak=49))==xa.2.2))))),io 211 _])) [0,0,0,0,8,0,0,120,120,120,120,1656,120,120,15992,120,120,130680,120,120,0,0]
       iterate 5 refine z_ ?_
       refine zz (fun _ h_=>day rfl (h_.k rfl) (QF (e:= .bool) (h_.v rfl) (h_.en 3 rfl) (h_.v rfl) V1 XO rfl (by omega) (by first | omega | (simp only[ay]; omega))) rfl)<|zz (fun _ h_=>day rfl (h_.k rfl) (Q4 (e:= .bool) (h_.v rfl) (h_.n 3 rfl) hx20 rfl XO rfl rfl) rfl) ?_
       iterate 9 refine z_ ?_
       refine zz (fun _ h_=>day rfl (h_.k rfl) (Zw (h_.v rfl) (Q6 49 rfl) rfl) rfl) ?_
       refine z_ ?_
       refine zz (fun _ h_=>day rfl (h_.k rfl) (Y5 (h_.v rfl) (h_.v rfl) rfl WY) rfl) ?_
       refine z_ ?_
       refine zz (fun _ h_=>day rfl (h_.k rfl) (Y5 (h_.v rfl) (h_.v rfl) rfl WY) rfl) ?_
       refine z_ ?_
       exact zN
       cases hb27:(bk==(!((decide (ak=49))==xa.2.2)))
       ·iterate 4 refine w_ ?_
        refine Qb<|fqB hO ?_
        first | rfl | (exfalso; omega) | (exfalso; exact hnq (by assumption)) | (exfalso; exact hnz (ab ((hbz _ rfl hzn.1).symm.trans (by assumption)))) | (exfalso; have h_:=YQ hs hg hr (hbk (k:Int) rfl (by omega)) (by omega) hck hak; simp_all; done) | (exfalso; have h_:=XN (hbk (k:Int) rfl (by omega)) (by assumption); simp_all; done) | (exfalso; simp_all; done) | (simp; done)
       ·refine w_ ?_
        refine AC.skip ?_
        refine (?_:AC _ _ _ _ _)
        iterate 3 refine w_ ?_
        refine Qc ?_
        refine l0_ ?_
        exact Wk.of [] rfl ⟨rfl,rfl,rfl,rfl,rfl,rfl,rfl,trivial⟩ ⟨rfl,rfl,trivial⟩ rfl rfl
    ·have hb12':=ab hb12
     iterate 6 refine w_ ?_
     obtain ⟨r,hx29⟩:∃z,(regV xa.1.2.2 (xS xa.1.2.2 (xa.2.1,xa.2.2)))[i]? =some z:=⟨_,aa (by omega)⟩
     have hri:=hx29
     have hrm:=aj hri
     have hrS:=Qby hrm
     iterate 10 refine w_ ?_
     refine lc (dK (Z0 xa.1 xa.2.1 xa.2.2 (i:Int)) JV) ?_
     iterate 7 refine w_ ?_
     refine Zv ?_
     have hM:((0≤xa.2.1∧xa.2.1≤(xa.1.1.length:Int) - 1)∧QE xa.1 xa.2.1=false∧SgOk xa.1∧QG xa.1=Qu)∧(0≤(i:Int)∧(i:Int)≤((regV xa.1.2.2 (xS xa.1.2.2 (xa.2.1,xa.2.2))).length:Int) - 1):=⟨hP,by omega⟩
     rw[show (decide (((0≤xa.2.1∧xa.2.1≤(xa.1.1.length:Int) - 1)∧QE xa.1 xa.2.1=false∧SgOk xa.1∧QG xa.1=Qu)∧(0≤(i:Int)∧(i:Int)≤((regV xa.1.2.2 (xS xa.1.2.2 (xa.2.1,xa.2.2))).length:Int) - 1)))=true from aI hM]
     rw[show (if ((0≤xa.2.1∧xa.2.1≤(xa.1.1.length:Int) - 1)∧QE xa.1 xa.2.1=false∧SgOk xa.1∧QG xa.1=Qu)∧(0≤(i:Int)∧(i:Int)≤((regV xa.1.2.2 (xS xa.1.2.2 (xa.2.1,xa.2.2))).length:Int) - 1) then qV xa.1 xa.2.1 (((regV xa.1.2.2 (xS xa.1.2.2 (xa.2.1,xa.2.2)))[(i:Int).toNat]?).getD []) else [])=qV xa.1 xa.2.1 r from (if_pos hM).trans (by rw[cO,hri]; rfl)]
     iterate 9 refine w_ ?_
     refine alL 90 fun hl30=> ?_
     iterate 4 refine w_ ?_
     refine lp0 r.length (fun j=>⟨[(1,lf (.dat (.sl 5 .u8) more)),(5,lP 0 0),(6,lI xa.2.1),(7,lB xa.2.2),(12,lR 5),(13,lI (i:Int)),(14,lf (.dat (.sl 3 .int) r)),(15,lf (.dat (.sl 3 .int) (qV xa.1 xa.2.1 r))),(16,lB true),(73,lf (.dat (.sl 32 (.sl 3 .int)) (regV xa.1.2.2 (xS xa.1.2.2 (xa.2.1,xa.2.2))))),(74,lI ((regV xa.1.2.2 (xS xa.1.2.2 (xa.2.1,xa.2.2))).length:Int)),(75,lI (i:Int)),(76,lB true),(77,lI (i:Int)),(78,lf (.elt (.sl 3 .int) r 0)),(79,lf (.dat (.sl 3 .int) r)),(80,PV.tup [(false,[.dat (.sl 3 .int) (qV xa.1 xa.2.1 r)]),(false,[dB true])]),(81,ag [.dat (.sl 44 (.pr .str .int)) xa.1.1, .dat (.sl 9 .str) xa.1.2.1, .dat (.sl 46 (.pr .int (.pr .int (.pr .bool .int)))) xa.1.2.2]),(82,lI xa.2.1),(83,lB xa.2.2),(84,lI (i:Int)),(85,PV.tup [(false,[.dat (.sl 3 .int) (qV xa.1 xa.2.1 r)]),(false,[dB true])]),(86,lf (.dat (.sl 3 .int) (qV xa.1 xa.2.1 r))),(87,lB true),(88,lB true),(89,lB (!true)),(90,lf (.dat (.sl 3 .int) r)),(91,lI (r.length:Int)),(92,lI (j:Int))],[bx 0 27 [.dat (.sl 44 (.pr .str .int)) xa.1.1, .dat (.sl 9 .str) xa.1.2.1, .dat (.sl 46 (.pr .int (.pr .int (.pr .bool .int)))) xa.1.2.2],ar 5 4 .bool (chi xa.1.2.1.length (((regV xa.1.2.2 (xS xa.1.2.2 (xa.2.1,xa.2.2))).take i).flatten++r.take j))]⟩) ?_ fun j hk31=> ?_
     · exact Wk.of [(5,3)] rfl ⟨rfl,rfl,rfl,rfl,rfl,rfl,rfl,rfl,rfl,rfl,rfl,rfl,rfl,rfl,rfl,rfl,rfl,rfl,rfl,rfl,rfl,rfl,rfl,rfl,rfl,rfl,rfl,rfl,rfl,trivial⟩ ⟨rfl,(Qj ((by rw[dh,bn]))),trivial⟩ rfl rfl
     have hcl2:=Vy (n:=xa.1.2.1.length) (S:=((regV xa.1.2.2 (xS xa.1.2.2 (xa.2.1,xa.2.2))).take i).flatten++r.take j)
     iterate 4 refine w_ ?_
     cases hb32:(decide ((j:Int) < (r.length:Int)))
     ·have hb32':=ae hb32
      refine w_ ?_
      refine Qh ?_
      refine (?_:AC _ _ _ _ _)
      iterate 2 refine w_ ?_
      refine alL 134 fun hl33=> ?_
      iterate 4 refine w_ ?_
      refine lp0 ((qV xa.1 xa.2.1 r).length) (fun m=>⟨[(1,lf (.dat (.sl 5 .u8) more)),(5,lP 0 0),(6,lI xa.2.1),(7,lB xa.2.2),(12,lR 5),(13,lI (i:Int)),(14,lf (.dat (.sl 3 .int) r)),(15,lf (.dat (.sl 3 .int) (qV xa.1 xa.2.1 r))),(16,lB true),(73,lf (.dat (.sl 32 (.sl 3 .int)) (regV xa.1.2.2 (xS xa.1.2.2 (xa.2.1,xa.2.2))))),(74,lI ((regV xa.1.2.2 (xS xa.1.2.2 (xa.2.1,xa.2.2))).length:Int)),(75,lI (i:Int)),(76,lB true),(77,lI (i:Int)),(78,lf (.elt (.sl 3 .int) r 0)),(79,lf (.dat (.sl 3 .int) r)),(80,PV.tup [(false,[.dat (.sl 3 .int) (qV xa.1 xa.2.1 r)]),(false,[dB true])]),(81,ag [.dat (.sl 44 (.pr .str .int)) xa.1.1, .dat (.sl 9 .str) xa.1.2.1, .dat (.sl 46 (.pr .int (.pr .int (.pr .bool .int)))) xa.1.2.2]),(82,lI xa.2.1),(83,lB xa.2.2),(84,lI (i:Int)),(85,PV.tup [(false,[.dat (.sl 3 .int) (qV xa.1 xa.2.1 r)]),(false,[dB true])]),(86,lf (.dat (.sl 3 .int) (qV xa.1 xa.2.1 r))),(87,lB true),(88,lB true),(89,lB (!true)),(90,lf (.dat (.sl 3 .int) r)),(91,lI (r.length:Int)),(92,lI (j:Int)),(93,lB false),(134,lf (.dat (.sl 3 .int) (qV xa.1 xa.2.1 r))),(135,lI ((qV xa.1 xa.2.1 r).length:Int)),(136,lI (m:Int))],[bx 0 27 [.dat (.sl 44 (.pr .str .int)) xa.1.1, .dat (.sl 9 .str) xa.1.2.1, .dat (.sl 46 (.pr .int (.pr .int (.pr .bool .int)))) xa.1.2.2],ar 5 4 .bool (chi xa.1.2.1.length (((regV xa.1.2.2 (xS xa.1.2.2 (xa.2.1,xa.2.2))).take i).flatten++r.take j))]⟩) ?_ fun m hk34=> ?_
      · exact Wk.of [] rfl ⟨rfl,rfl,rfl,rfl,rfl,rfl,rfl,rfl,rfl,rfl,rfl,rfl,rfl,rfl,rfl,rfl,rfl,rfl,rfl,rfl,rfl,rfl,rfl,rfl,rfl,rfl,rfl,rfl,rfl,rfl,rfl,rfl,rfl,trivial⟩ ⟨rfl,rfl,trivial⟩ rfl rfl
      iterate 4 refine w_ ?_
      cases hb35:(decide ((m:Int) < ((qV xa.1 xa.2.1 r).length:Int)))
      ·have hb35':=ae hb35
       refine w_ ?_
       refine Qh ?_
       refine (?_:AC _ _ _ _ _)
       iterate 3 refine w_ ?_
       refine Qc ?_
       refine l0_ ?_
       exact Wk.of [(3,5)] rfl ⟨rfl,rfl,rfl,rfl,rfl,rfl,rfl,rfl,trivial⟩ ⟨rfl,(Qj ((congrArg (chi _) (QjO hri (by omega))))),trivial⟩ rfl rfl
      ·have hb35':=ab hb35
       iterate 5 refine w_ ?_
       obtain ⟨v,hx37⟩:∃z,(qV xa.1 xa.2.1 r)[m]? =some z:=⟨_,aa (by omega)⟩
       have hvQ:=(QfP hr).1 (aj hx37)
       have hvn:=QaD hr hvQ
       have hev:=Qf3 hvQ
       have hvb:=QpR hs hg hrS hvQ
       iterate 2 refine w_ ?_
       refine alI 139 fun hi38=> ?_
       iterate 6 refine w_ ?_
       refine lc (dK (Xc xa.1 v xa.2.1) JP) ?_
       iterate 6 refine w_ ?_
       refine Zv ?_
       have hZ:SgOk xa.1∧(0≤v∧v≤(xa.1.2.1.length:Int) - 1)∧(0≤xa.2.1∧xa.2.1≤(xa.1.1.length:Int) - 1):=⟨hs,by omega,hg⟩
       rw[show (decide (SgOk xa.1∧(0≤v∧v≤(xa.1.2.1.length:Int) - 1)∧(0≤xa.2.1∧xa.2.1≤(xa.1.1.length:Int) - 1))&&QH xa.1 v xa.2.1)=false from (by rw[aI hZ,Bool.true_and]; exact hev)]
       rw[show (decide (SgOk xa.1∧(0≤v∧v≤(xa.1.2.1.length:Int) - 1)∧(0≤xa.2.1∧xa.2.1≤(xa.1.1.length:Int) - 1)))=true from aI hZ]
       iterate 11 refine w_ ?_
       cases hb39:(decide (v < 0))
       ·have hb39':=ae hb39
        iterate 3 refine w_ ?_
        refine alL 159 fun hl40=> ?_
        iterate 4 refine w_ ?_
        cases hb41:(decide ((xa.1.2.1.length:Int)≤v))
        ·have hb41':=ae hb41
         iterate 3 refine w_ ?_
         obtain ⟨cv,hx43⟩:∃z,xa.1.2.1[(v).toNat]? =some z:=⟨_,aa (by omega)⟩
         have hcv:=hx43
         have hscv:=(hs.codes _ (aj hx43)).2
         iterate 3 refine w_ ?_
         obtain ⟨av,hc45⟩:∃z,cv[(xa.2.1).toNat]? =some z:=⟨_,bo _ _ (by omega)⟩
         have hav:=hc45
         rw[Xz hcv,YS hav] at hvb
         refine w_ ?_
         refine lgy rfl rfl (Zw (Qa rfl) (Q6 49 rfl) rfl) ?_
         refine w_ ?_
         refine lgy rfl rfl (Y5 (Qa rfl) (Qa rfl) rfl WY) ?_
         iterate 2 refine w_ ?_
         cases hb46:((decide (av=49))==xa.2.2)
         ·iterate 4 refine w_ ?_
          refine Qb<|fqB hO ?_
          first | rfl | (exfalso; omega) | (exfalso; exact hnq (by assumption)) | (exfalso; exact hnz (ab ((hbz _ rfl hzn.1).symm.trans (by assumption)))) | (exfalso; have h_:=YQ hs hg hr (hbk (k:Int) rfl (by omega)) (by omega) hck hak; simp_all; done) | (exfalso; have h_:=XN (hbk (k:Int) rfl (by omega)) (by assumption); simp_all; done) | (exfalso; simp_all; done) | (simp; done)
         ·refine w_ ?_
          refine AC.skip ?_
          refine (?_:AC _ _ _ _ _)
          iterate 3 refine w_ ?_
          refine Qc ?_
          refine l0_ ?_
          exact Wk.of [] rfl ⟨rfl,rfl,rfl,rfl,rfl,rfl,rfl,rfl,rfl,rfl,rfl,rfl,rfl,rfl,rfl,rfl,rfl,rfl,rfl,rfl,rfl,rfl,rfl,rfl,rfl,rfl,rfl,rfl,rfl,rfl,rfl,rfl,rfl,trivial⟩ ⟨rfl,rfl,trivial⟩ rfl rfl
        ·have hb41':=ab hb41
         iterate 16 refine w_ ?_
         refine Qb<|fqB hO ?_
         first | rfl | (exfalso; omega) | (exfalso; exact hnq (by assumption)) | (exfalso; exact hnz (ab ((hbz _ rfl hzn.1).symm.trans (by assumption)))) | (exfalso; have h_:=YQ hs hg hr (hbk (k:Int) rfl (by omega)) (by omega) hck hak; simp_all; done) | (exfalso; have h_:=XN (hbk (k:Int) rfl (by omega)) (by assumption); simp_all; done) | (exfalso; simp_all; done) | (simp; done)
       ·have hb39':=ab hb39
        iterate 23 refine w_ ?_
        refine Qb<|fqB hO ?_
        first | rfl | (exfalso; omega) | (exfalso; exact hnq (by assumption)) | (exfalso; exact hnz (ab ((hbz _ rfl hzn.1).symm.trans (by assumption)))) | (exfalso; have h_:=YQ hs hg hr (hbk (k:Int) rfl (by omega)) (by omega) hck hak; simp_all; done) | (exfalso; have h_:=XN (hbk (k:Int) rfl (by omega)) (by assumption); simp_all; done) | (exfalso; simp_all; done) | (simp; done)
     ·have hb32':=ab hb32
      iterate 5 refine w_ ?_
      obtain ⟨zq,hx48⟩:∃z,r[j]? =some z:=⟨_,aa (by omega)⟩
      have hrz:=hx48
      have hzS:=hrS zq (aj hrz)
      have hzn:=QhI hr hzS
      have hez:=QfW hzS
      have hnz:=QqU hnd hri hrz
      have hnq:¬zq∈qV xa.1 xa.2.1 r:=fun g=>by have h_:=Qf3 ((QfP hr).1 g); rw[hez] at h_; cases h_
      iterate 2 refine w_ ?_
      refine alI 95 fun hi49=> ?_
      iterate 6 refine w_ ?_
      refine lc (dK (Xc xa.1 zq xa.2.1) JP) ?_
      iterate 7 refine w_ ?_
      refine Zv ?_
      have hZ:SgOk xa.1∧(0≤zq∧zq≤(xa.1.2.1.length:Int) - 1)∧(0≤xa.2.1∧xa.2.1≤(xa.1.1.length:Int) - 1):=⟨hs,by omega,hg⟩
      rw[show (decide (SgOk xa.1∧(0≤zq∧zq≤(xa.1.2.1.length:Int) - 1)∧(0≤xa.2.1∧xa.2.1≤(xa.1.1.length:Int) - 1))&&QH xa.1 zq xa.2.1)=true from (by rw[aI hZ,Bool.true_and]; exact hez)]
      rw[show (decide (SgOk xa.1∧(0≤zq∧zq≤(xa.1.2.1.length:Int) - 1)∧(0≤xa.2.1∧xa.2.1≤(xa.1.1.length:Int) - 1)))=true from aI hZ]
      iterate 4 refine w_ ?_
      cases hb50:(decide (zq < 0))
      ·have hb50':=ae hb50
       iterate 6 refine w_ ?_
       cases hb51:(decide (((chi xa.1.2.1.length (((regV xa.1.2.2 (xS xa.1.2.2 (xa.2.1,xa.2.2))).take i).flatten++r.take j)).length:Int)≤zq))
       ·have hb51':=ae hb51
        iterate 3 refine w_ ?_
        obtain ⟨bz,hx53⟩:∃z,(chi xa.1.2.1.length (((regV xa.1.2.2 (xS xa.1.2.2 (xa.2.1,xa.2.2))).take i).flatten++r.take j))[(zq).toNat]? =some z:=⟨_,aa (by omega)⟩
        have hbz:=K1 hx53
        iterate 3 refine w_ ?_
        cases hb54:(bz)
        ·iterate 10 refine w_ ?_
         refine lgy rfl rfl (dK (Qfx (qV xa.1 xa.2.1 r) zq) QjF) ?_
         iterate 2 refine w_ ?_
         cases hb55:(decide (zq∈(qV xa.1 xa.2.1 r)))
         ·have hb55':=ae hb55
          iterate 6 refine w_ ?_
          refine lc (Qp (e:= .bool) (z':=true) (Qa rfl) rfl hx53 rfl (Evl.ev Q3) rfl XO rfl rfl)<|Qc ?_
          refine (?_:AC _ _ _ _ _)
          iterate 3 refine w_ ?_
          refine Qc ?_
          refine l0_ ?_
          exact Wk.of [] rfl ⟨rfl,rfl,rfl,rfl,rfl,rfl,rfl,rfl,rfl,rfl,rfl,rfl,rfl,rfl,rfl,rfl,rfl,rfl,rfl,rfl,rfl,rfl,rfl,rfl,rfl,rfl,rfl,rfl,rfl,trivial⟩ ⟨rfl,(Qj ((QkA hzn.1 hzn.2 hrz))),trivial⟩ rfl rfl
         ·have hb55':=ab hb55
          iterate 4 refine w_ ?_
          refine Qb<|fqB hO ?_
          first | rfl | (exfalso; omega) | (exfalso; exact hnq (by assumption)) | (exfalso; exact hnz (ab ((hbz _ rfl hzn.1).symm.trans (by assumption)))) | (exfalso; have h_:=YQ hs hg hr (hbk (k:Int) rfl (by omega)) (by omega) hck hak; simp_all; done) | (exfalso; have h_:=XN (hbk (k:Int) rfl (by omega)) (by assumption); simp_all; done) | (exfalso; simp_all; done) | (simp; done)
        ·iterate 17 refine w_ ?_
         refine Qb<|fqB hO ?_
         first | rfl | (exfalso; omega) | (exfalso; exact hnq (by assumption)) | (exfalso; exact hnz (ab ((hbz _ rfl hzn.1).symm.trans (by assumption)))) | (exfalso; have h_:=YQ hs hg hr (hbk (k:Int) rfl (by omega)) (by omega) hck hak; simp_all; done) | (exfalso; have h_:=XN (hbk (k:Int) rfl (by omega)) (by assumption); simp_all; done) | (exfalso; simp_all; done) | (simp; done)
       ·have hb51':=ab hb51
        iterate 23 refine w_ ?_
        refine Qb<|fqB hO ?_
        first | rfl | (exfalso; omega) | (exfalso; exact hnq (by assumption)) | (exfalso; exact hnz (ab ((hbz _ rfl hzn.1).symm.trans (by assumption)))) | (exfalso; have h_:=YQ hs hg hr (hbk (k:Int) rfl (by omega)) (by omega) hck hak; simp_all; done) | (exfalso; have h_:=XN (hbk (k:Int) rfl (by omega)) (by assumption); simp_all; done) | (exfalso; simp_all; done) | (simp; done)
      ·have hb50':=ab hb50
       iterate 29 refine w_ ?_
       refine Qb<|fqB hO ?_
       first | rfl | (exfalso; omega) | (exfalso; exact hnq (by assumption)) | (exfalso; exact hnz (ab ((hbz _ rfl hzn.1).symm.trans (by assumption)))) | (exfalso; have h_:=YQ hs hg hr (hbk (k:Int) rfl (by omega)) (by omega) hck hak; simp_all; done) | (exfalso; have h_:=XN (hbk (k:Int) rfl (by omega)) (by assumption); simp_all; done) | (exfalso; simp_all; done) | (simp; done)
 ·iterate 3 refine w_ ?_
  refine Qb ?_
  exact fe_ hO
end Go.Proofs.YtgpdhgadmjfokaaGreat
