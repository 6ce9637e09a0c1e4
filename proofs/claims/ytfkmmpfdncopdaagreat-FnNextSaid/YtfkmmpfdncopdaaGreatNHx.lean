/- Walks over abstract states: drawn state graphs. -/
import Derived.Test.YtfkmmpfdncopdaaGreatNDg
import Derived.Test.YtfkmmpfdncopdaaGreatNEb
import Derived.Test.YtfkmmpfdncopdaaGreatNUa
import Derived.Test.YtfkmmpfdncopdaaGreatNWj
import Derived.Test.YtfkmmpfdncopdaaGreatNAk
import Derived.Test.YtfkmmpfdncopdaaGreatNStr
import Derived.Test.YtfkmmpfdncopdaaGreatProg
import Derived.KernelRfl
import Derived.Test.YtfkmmpfdncopdaaGreatNDf
import Derived.Lib.IndexLaws
import Derived.Laws.Strings3
set_option linter.unusedSimpArgs false
set_option linter.unusedVariables false
set_option linter.unusedSectionVars false
namespace Go.Proofs.YtfkmmpfdncopdaaGreat
open Go.RowKit
set_option maxRecDepth 100000
set_option maxHeartbeats 4000000
theorem QcY {b:Nat}:∀(i:Nat) (c:List ByteArray) (vs:List UInt8),(∀z∈c,z.size≤b)→∀z∈W4 i c vs,z.size≤b+vs.length
  | _,_,[],h=>by rw[W4]; exact fun z hz=>bw (h z hz) (Nat.le_add_right ..)
  | i,c,v :: vs,h=>fun z hz=>by
    rw[W4] at hz
    have h2:∀z∈c.set i ((c[i]?).getD ByteArray.empty++⟨#[v]⟩),z.size≤b+1:=fun z hz=>by
      rcases c9 hz with h1 | h1
      · exact cR (h z h1)
      · rw [h1, aN]
        show _+1≤b+1
        cases hc:c[i]? with
        | none=>exact Nat.succ_le_succ (aR b)
        | some x=>exact Nat.succ_le_succ (h x (ap hc))
    have:=QcY (i+1) _ vs h2 z hz
    rw[au]; omega
theorem Qf3 {n:Nat}{arcs:List DAr}(hr:∀a∈arcs,InR n a):∀{f k b:Nat} {c d:List ByteArray},goS n arcs f k c=some d→(∀z∈c,z.size≤b)→∀z∈d,z.size≤b+n*f
  | 0,_,b,c,d,h,hb=>by rw[goS] at h; cases h; exact hb
  | f+1,k,b,c,d,h,hb=>fun z hz=>by
    rw[goS] at h
    split at h
    · have h1 := Qf3 hr h (QcY 0 c _ hb) z hz
      have h2:=Qno hr (k:Int)
      rw[Nat.mul_add]; omega
    · cases h
section
variable [∀s,Decidable (StgOk s)]{s:Zq}
theorem Qc2 (h:(sgV s).2=true):∀z∈(sgV s).1.2.1,z.size≤2400:=by
  unfold sgV at h ⊢
  split at h
  · rename_i h1
    rw[if_pos h1]
    obtain ⟨hs,hN1,hN2,_,hM,hL⟩:=ZV h1.1
    split at h
    · rename_i c hg
      intro z hz
      have h2:=Qf3 (Wt hM) hg (b:=0) (fun z hz=>by rw[cF hz]; exact aO _) z hz
      have h3:=hs.sigs.2.2
      have h4:(Qi s).1.1.length*s.2.1.length≤300*8:=Nat.mul_le_mul (by omega) h3
      omega
    · cases h
  · cases h
theorem Qmw:(sgV (Qr ⟨#[97]⟩ ⟨#[98]⟩ ⟨#[]⟩ ⟨#[97,43,62,98,43,32,98,43,62,97,45,32,97,45,62,98,45,32,42,98,45,62,97,43]⟩)).2=true:=by rw[QqO]; exact QqN
end
theorem Kt (code:List UInt8)(at_:Int)(sd:Int)[∀s,Decidable (StgOk s)][∀s,Decidable (Y1 s)](ha:0≤at_∧at_≤800000000):FC Tryz.prog 151 [(false,[.ptr 0 0])] [bx 0 93 [.dat (.sl 5 .u8) code,dI at_, .val (.int .u64 sd)]] 1 (Ex (fun x:DSg×Int×Int=>((1≤x.1.2.1.length∧x.1.2.1.length≤300)∧x.1.1.length≤8∧∀z∈x.1.2.1,ByteArray.size z≤2400)∧(at_≤x.2.1∧x.2.1≤at_+80)) (fun x:DSg×Int×Int=>ag [.ref 1, .ref 2, .ref 3]) (fun x:DSg×Int×Int=>[bx 0 93 [.dat (.sl 5 .u8) code,dI x.2.1, .val (.int .u64 x.2.2)],ar 1 203 (.pr .str .int) x.1.1,ar 2 9 .str x.1.2.1,ar 3 136 (.pr .int (.pr .int (.pr .bool .int))) x.1.2.2])):=by
 refine Ql Tryz.func151 rfl rfl Tryz.ntmps151 fun O_ hO w0_ N0_ X_ h0_ f0_=> ?_
 refine w_ ?_
 refine lc (xal 1 (.pr (.sl 203 (.pr .str .int)) (.pr (.sl 9 .str) (.sl 136 (.pr .int (.pr .int (.pr .bool .int)))))) Xe) ?_
 iterate 6 refine w_ ?_
 refine Qy (fun m_ s_=>∃(k:Nat) (a_:Int) (sd_:Int),k≤4∧m_=4 - k∧(at_≤a_∧a_≤at_+20*k)∧s_=⟨[(0,lP 0 0),(2,lP 1 0),(3,lI (k:Int))],[bx 0 93 [.dat (.sl 5 .u8) code,dI a_, .val (.int .u64 sd_)],bx 1 28 [.val (.slice none 0 0), .val (.slice none 0 0), .val (.slice none 0 0)]]⟩) ⟨0,at_,sd,aR _,rfl,by omega,rfl⟩ ?_ ?_
 · exact Wk.of [] rfl ⟨rfl,rfl,rfl,trivial⟩ ⟨rfl,rfl,trivial⟩ rfl rfl
 rintro m_ s_ ⟨k,a_,sd_,hk1,hm2,hb,rfl⟩
 iterate 5 refine w_ ?_
 cases hb3:(decide ((k:Int) < 4))
 ·have hb3':=ab hb3
  refine w_ ?_
  refine Qj ?_
  refine (?_:AC _ _ _ _ _)
  refine w_ ?_
  refine lc (dG 2 (QI (⟨#[97]⟩:ByteArray) (⟨#[98]⟩:ByteArray) (⟨#[]⟩:ByteArray) (⟨#[97,43,62,98,43,32,98,43,62,97,45,32,97,45,62,98,45,32,42,98,45,62,97,43]⟩:ByteArray) (by decide+kernel) (by decide+kernel)) Zy) ?_
  refine lc (Qac 5 (Xm (Qr (⟨#[97]⟩:ByteArray) (⟨#[98]⟩:ByteArray) (⟨#[]⟩:ByteArray) (⟨#[97,43,62,98,43,32,98,43,62,97,45,32,97,45,62,98,45,32,42,98,45,62,97,43]⟩:ByteArray))) QdT ⟨_,_,rfl,(QdO (Qm rfl) ⟨_,_,rfl, .inl rfl,⟨_,_,rfl, .inr ⟨_,_,_,_,rfl,rfl,rfl⟩,⟨_,_,rfl, .inr ⟨_,_,_,_,rfl,rfl,rfl⟩,⟨_,_,rfl, .inr ⟨_,_,_,_,rfl,rfl,rfl⟩,⟨_,_,rfl, .inl rfl,rfl⟩⟩⟩⟩⟩),rfl⟩ rfl rfl rfl ⟨Fresh.of rfl,Fresh.of rfl,Fresh.of rfl,trivial⟩ (nlr rfl)) ?_
  iterate 3 refine w_ ?_
  refine lc (xal 8 (.pr (.sl 203 (.pr .str .int)) (.pr (.sl 9 .str) (.sl 136 (.pr .int (.pr .int (.pr .bool .int)))))) Xe) ?_
  iterate 7 refine w_ ?_
  refine Qb ?_
  subst hO
  refine Q5 (x:=((((sgV (Qr (⟨#[97]⟩:ByteArray) (⟨#[98]⟩:ByteArray) (⟨#[]⟩:ByteArray) (⟨#[97,43,62,98,43,32,98,43,62,97,45,32,97,45,62,98,45,32,42,98,45,62,97,43]⟩:ByteArray))).1).1,(((sgV (Qr (⟨#[97]⟩:ByteArray) (⟨#[98]⟩:ByteArray) (⟨#[]⟩:ByteArray) (⟨#[97,43,62,98,43,32,98,43,62,97,45,32,97,45,62,98,45,32,42,98,45,62,97,43]⟩:ByteArray))).1).2.1,((sgV (Qr (⟨#[97]⟩:ByteArray) (⟨#[98]⟩:ByteArray) (⟨#[]⟩:ByteArray) (⟨#[97,43,62,98,43,32,98,43,62,97,45,32,97,45,62,98,45,32,42,98,45,62,97,43]⟩:ByteArray))).1).2.2)),(a_,sd_))) [(0,0),(1,5),(2,6),(3,7)] ?_ (Res.one rfl (QK rfl rfl Xb rfl)) rfl ⟨rfl,rfl,rfl,rfl,trivial⟩ rfl rfl
  exact ⟨⟨(QiS Qmw).some_,(QiS Qmw).sig8,Qc2 Qmw⟩,by dsimp only; omega⟩
 ·have hb3':=ae hb3
  iterate 6 refine w_ ?_
  refine Yv 9 [(0,0)] (Ju code a_ sd_ (by omega)) QhS e1_ ⟨rfl,trivial⟩ rfl (fun _=>rfl) (fun _=>⟨trivial,(Fresh.of rfl),(Fresh.of rfl),(Fresh.of rfl),trivial⟩) (nlr rfl) fun x4 hx5=>lc (Qac 13 (Xm x4.1) QdT ⟨_,_,rfl,(QdO (Qm rfl) ⟨_,_,rfl, .inl rfl,⟨_,_,rfl, .inr ⟨_,_,_,_,rfl,rfl,rfl⟩,⟨_,_,rfl, .inr ⟨_,_,_,_,rfl,rfl,rfl⟩,⟨_,_,rfl, .inr ⟨_,_,_,_,rfl,rfl,rfl⟩,⟨_,_,rfl, .inl rfl,rfl⟩⟩⟩⟩⟩),rfl⟩ rfl rfl rfl ⟨Fresh.of rfl,Fresh.of rfl,Fresh.of rfl,trivial⟩ (nlr rfl)) ?_
  iterate 3 refine w_ ?_
  refine lc (xal 16 (.pr (.sl 203 (.pr .str .int)) (.pr (.sl 9 .str) (.sl 136 (.pr .int (.pr .int (.pr .bool .int)))))) Xe) ?_
  iterate 6 refine w_ ?_
  cases hb6:((sgV x4.1).2)
  ·refine w_ ?_
   refine AC.skip ?_
   refine (?_:AC _ _ _ _ _)
   iterate 4 refine w_ ?_
   refine Qd<|Q0 ⟨k+1,x4.2.1,x4.2.2,by omega,rfl,(by omega),rfl⟩ (by omega) ?_
   exact Wk.of [] rfl ⟨rfl,rfl,rfl,trivial⟩ ⟨rfl,rfl,trivial⟩ rfl rfl
  ·iterate 5 refine w_ ?_
   refine Qb ?_
   subst hO
   refine Q5 (x:=((((sgV x4.1).1).1,(((sgV x4.1).1).2.1,((sgV x4.1).1).2.2)),(x4.2.1,x4.2.2))) [(0,0),(1,13),(2,14),(3,15)] ?_ (Res.one rfl (QK rfl rfl Xb rfl)) rfl ⟨rfl,rfl,rfl,rfl,trivial⟩ rfl rfl
   exact ⟨⟨(QiS (by assumption)).some_,(QiS (by assumption)).sig8,Qc2 (by assumption)⟩,by dsimp only; omega⟩
theorem VV (code:List UInt8)(at_:Int)(sd:Int)[∀s,Decidable (StgOk s)][∀s,Decidable (Y1 s)](ha:0≤at_∧at_≤700000000):FC Tryz.prog 61 [(false,[.ptr 0 0])] [bx 0 93 [.dat (.sl 5 .u8) code,dI at_, .val (.int .u64 sd)]] 1 (Ex (fun x:DSg×Int×Int=>x.1.1.length≤8∧(1≤x.1.2.1.length∧x.1.2.1.length≤301)∧(at_≤x.2.1∧x.2.1≤at_+120)) (fun x:DSg×Int×Int=>ag [.dat (.sl 203 (.pr .str .int)) x.1.1, .dat (.sl 9 .str) x.1.2.1, .dat (.sl 136 (.pr .int (.pr .int (.pr .bool .int)))) x.1.2.2]) (fun x:DSg×Int×Int=>[bx 0 93 [.dat (.sl 5 .u8) code,dI x.2.1, .val (.int .u64 x.2.2)]])):=by
 refine Ql Tryz.func61 rfl rfl Tryz.ntmps61 fun O_ hO w0_ N0_ X_ h0_ f0_=> ?_
 refine w_ ?_
 refine lc (xal 1 (.pr (.sl 203 (.pr .str .int)) (.pr (.sl 9 .str) (.sl 136 (.pr .int (.pr .int (.pr .bool .int)))))) Xe) ?_
 iterate 3 refine w_ ?_
 refine Yv 2 [(0,0)] (Kt code at_ sd (by omega)) QgP e1_ ⟨rfl,trivial⟩ rfl (fun _=>rfl) (fun _=>⟨trivial,(Fresh.of rfl),(Fresh.of rfl),(Fresh.of rfl),trivial⟩) (nlr rfl) fun x1 hx2=>lc (xal 6 (.pr (.sl 203 (.pr .str .int)) (.pr (.sl 9 .str) (.sl 136 (.pr .int (.pr .int (.pr .bool .int)))))) Xe) ?_
 iterate 5 refine w_ ?_
 have hp3:=YN code x1.2.1 x1.2.2 20
 refine lc (dP 7 [] (QF code x1.2.1 x1.2.2 20 (by omega)) Z4) ?_
 iterate 6 refine w_ ?_
 refine cd_ (fun hb4 hb4'=> ?_) fun hb4 hb4'=> ?_
 ·iterate 4 refine w_ ?_
  refine cd_ (fun hb5 hb5'=> ?_) fun hb5 hb5'=> ?_
  ·iterate 4 refine w_ ?_
   refine cd_ (fun hb6 hb6'=> ?_) fun hb6 hb6'=> ?_
   ·iterate 4 refine w_ ?_
    refine cd_ (fun hb7 hb7'=> ?_) fun hb7 hb7'=> ?_
    ·refine AC.skip ?_
     refine (?_:AC _ _ _ _ _)
     refine ZS<|AC.wk (QT (p:=6) (off:=0) (q:=3) rfl rfl rfl)<|AC.wk (QT (p:=6) (off:=1) (q:=4) rfl rfl rfl)<|AC.wk (QT (p:=6) (off:=2) (q:=5) rfl rfl rfl) ?_
     iterate 4 refine w_ ?_
     refine Qb ?_
     subst hO
     refine Q5 (x:=((x1.1.1,(x1.1.2.1,x1.1.2.2)),((pkA 20 x1.2.1),(pkS code x1.2.1 x1.2.2 20)))) [(0,0)] ?_ (Res.one rfl (QK rfl rfl Xb rfl)) rfl ⟨rfl,trivial⟩ rfl rfl
     (dsimp only; omega)
    ·iterate 6 refine w_ ?_
     refine cd_ (fun hb8 hb8'=> ?_) fun hb8 hb8'=> ?_
     ·refine AC.skip ?_
      refine (?_:AC _ _ _ _ _)
      refine ZS<|AC.wk (QT (p:=6) (off:=0) (q:=3) rfl rfl rfl)<|AC.wk (QT (p:=6) (off:=1) (q:=4) rfl rfl rfl)<|AC.wk (QT (p:=6) (off:=2) (q:=5) rfl rfl rfl) ?_
      iterate 4 refine w_ ?_
      refine Qb ?_
      subst hO
      refine Q5 (x:=((x1.1.1,(x1.1.2.1,x1.1.2.2)),((pkA 20 x1.2.1),(pkS code x1.2.1 x1.2.2 20)))) [(0,0)] ?_ (Res.one rfl (QK rfl rfl Xb rfl)) rfl ⟨rfl,trivial⟩ rfl rfl
      (dsimp only; omega)
     ·obtain ⟨x9,hx10⟩:∃z,x1.1.2.2[0]? =some z:=⟨_,aa (by omega)⟩
      apply dV (i4 49 _ _ _ _ [io 53 (lf (.ept 5 4 0 0)),io 54 (lf (.ept 5 4 0 2)),io 55 (lB x9.2.2.1),io 56 _,io 57 (lf (.ept 5 4 0 0)),io 58 (lf (.ept 5 4 0 2)),⟨none,lf (.val undef),[ar 5 136 (.pr .int (.pr .int (.pr .bool .int))) (x1.1.2.2.set 0 (x9.1,x9.2.1, !x9.2.2.1,x9.2.2.2))]⟩]) [0,0,3,3,3,3,3,3,0,0,0]
      iterate 4 refine z_ ?_
      refine zz (fun _ h_=>ac (ZL (e:=(.pr .int (.pr .int (.pr .bool .int)))) (h_.v rfl) (h_.en 5 rfl) (Qo rfl) Qho Qeh rfl (by omega) (by first | omega | (simp only[aD]; omega))) rfl)<|zz (fun _ h_=>ac (Ym (h_.v rfl) QdG (by rw[(h_.en 5 rfl)]; rfl) rfl) rfl)<|zz (fun _ h_=>ac (Z7 (e:=(.pr .int (.pr .int (.pr .bool .int)))) (h_.v rfl) (h_.n 5 rfl) hx10 rfl QfH rfl rfl) rfl) ?_
      refine z_ ?_
      refine zz (fun _ h_=>ac (ZL (e:=(.pr .int (.pr .int (.pr .bool .int)))) (h_.v rfl) (h_.en 5 rfl) (Qo rfl) Qho Qeh rfl (by omega) (by first | omega | (simp only[aD]; omega))) rfl)<|zz (fun _ h_=>ac (Ym (h_.v rfl) QdG (by rw[(h_.en 5 rfl)]; rfl) rfl) rfl)<|zz (fun _ h_=>ac (Qs (e:=(.pr .int (.pr .int (.pr .bool .int)))) (z':=(x9.1,x9.2.1, !x9.2.2.1,x9.2.2.2)) (h_.v rfl) (h_.n 5 rfl) hx10 rfl (h_.w rfl) rfl QfH rfl rfl) rfl) ?_
      exact zN
      refine (?_:AC _ _ _ _ _)
      refine ZS<|AC.wk (QT (p:=6) (off:=0) (q:=3) rfl rfl rfl)<|AC.wk (QT (p:=6) (off:=1) (q:=4) rfl rfl rfl)<|AC.wk (QT (p:=6) (off:=2) (q:=5) rfl rfl rfl) ?_
      iterate 4 refine w_ ?_
      refine Qb ?_
      subst hO
      refine Q5 (x:=((x1.1.1,(x1.1.2.1,x1.1.2.2.set 0 (x9.1,x9.2.1, !x9.2.2.1,x9.2.2.2))),((pkA 20 x1.2.1),(pkS code x1.2.1 x1.2.2 20)))) [(0,0)] ?_ (Res.one rfl (QK rfl rfl Xb rfl)) rfl ⟨rfl,trivial⟩ rfl rfl
      (dsimp only; omega)
   ·obtain ⟨x11,hx12⟩:∃z,x1.1.2.1[0]? =some z:=⟨_,aa (by omega)⟩
    apply dV (i4 34 _ _ _ _ [io 38 (lf (.ept 4 1 0 0)),io 39 (lf (dS x11)),⟨some 40,lR 8,[ar 8 9 .str ([x11])]⟩,⟨some 41,lR 9,[ar 9 9 .str (x1.1.2.1++([x11])),(4,none),(8,none)]⟩,io 42 _,⟨none,lf (.val undef),[bx 6 28 [.ref 3, .ref 9, .ref 5]]⟩]) [0,0,3,3,3,3,3,0,0,0]
    iterate 4 refine z_ ?_
    refine zz (fun _ h_=>ac (ZL (e:= .str) (h_.v rfl) (h_.en 4 rfl) (Qo rfl) Zd ZH rfl (by omega) (by first | omega | (simp only[aD]; omega))) rfl)<|zz (fun _ h_=>ac (Z7 (e:= .str) (h_.v rfl) (h_.n 4 rfl) hx12 rfl ZH rfl rfl) rfl) ?_
    refine zz (fun _ h_=>ac (dBs 8 (e:= .str) Yb) rfl) ?_
    refine zz (fun _ h_=>ac (dA 9 Y6 (hb:=by (simp only[au,aF]; omega))) rfl) ?_
    refine z_ ?_
    refine zz (fun _ h_=>ac (Zf (h_.v rfl) (h_.en 6 rfl) (h_.w rfl) (by simp only[Q6,Vb,bm,bJ]; rw[(h_.en 9 rfl)]; rfl) Qcr rfl) rfl) ?_
    exact zN
    refine (?_:AC _ _ _ _ _)
    refine ZS<|AC.wk (QT (p:=6) (off:=0) (q:=3) rfl rfl rfl)<|AC.wk (QT (p:=6) (off:=1) (q:=9) rfl rfl rfl)<|AC.wk (QT (p:=6) (off:=2) (q:=5) rfl rfl rfl) ?_
    iterate 4 refine w_ ?_
    refine Qb ?_
    subst hO
    refine Q5 (x:=((x1.1.1,(x1.1.2.1++([x11]),x1.1.2.2)),((pkA 20 x1.2.1),(pkS code x1.2.1 x1.2.2 20)))) [(0,0)] ?_ (Res.one rfl (QK rfl rfl Xb rfl)) rfl ⟨rfl,trivial⟩ rfl rfl
    (dsimp only; simp only[ai,aD,au,aF]; omega)
  ·iterate 6 refine w_ ?_
   refine cd_ (fun hb13 hb13'=> ?_) fun hb13 hb13'=> ?_
   ·refine AC.skip ?_
    refine (?_:AC _ _ _ _ _)
    refine ZS<|AC.wk (QT (p:=6) (off:=0) (q:=3) rfl rfl rfl)<|AC.wk (QT (p:=6) (off:=1) (q:=4) rfl rfl rfl)<|AC.wk (QT (p:=6) (off:=2) (q:=5) rfl rfl rfl) ?_
    iterate 4 refine w_ ?_
    refine Qb ?_
    subst hO
    refine Q5 (x:=((x1.1.1,(x1.1.2.1,x1.1.2.2)),((pkA 20 x1.2.1),(pkS code x1.2.1 x1.2.2 20)))) [(0,0)] ?_ (Res.one rfl (QK rfl rfl Xb rfl)) rfl ⟨rfl,trivial⟩ rfl rfl
    (dsimp only; omega)
   ·have hp14:=YN code (pkA 20 x1.2.1) (pkS code x1.2.1 x1.2.2 20) 9
    obtain ⟨x15,hx16⟩:∃z,x1.1.2.2[0]? =some z:=⟨_,aa (by omega)⟩
    apply dV (i3 25 _ _ _ [⟨some 28,lI (pkV code (pkA 20 x1.2.1) (pkS code x1.2.1 x1.2.2 20) 9),[bx 0 93 [.dat (.sl 5 .u8) code,dI (pkA 9 (pkA 20 x1.2.1)), .val (.int .u64 (pkS code (pkA 20 x1.2.1) (pkS code x1.2.1 x1.2.2 20) 9))],(0,none)]⟩,io 29 _,io 30 (lf (.ept 5 4 0 0)),io 31 (lf (.ept 5 4 0 3)),⟨none,lf (.val undef),[ar 5 136 (.pr .int (.pr .int (.pr .bool .int))) (x1.1.2.2.set 0 (x15.1,x15.2.1,x15.2.2.1,(pkV code (pkA 20 x1.2.1) (pkS code x1.2.1 x1.2.2 20) 9) - 1))]⟩]) [0,0,3,3,3,0,0,0]
    iterate 3 refine z_ ?_
    refine zz (fun _ h_=>ac (dP 10 [] (QF code (pkA 20 x1.2.1) (pkS code x1.2.1 x1.2.2 20) 9 (by omega)) Z4) rfl) ?_
    refine z_ ?_
    refine zz (fun _ h_=>ac (ZL (e:=(.pr .int (.pr .int (.pr .bool .int)))) (h_.v rfl) (h_.en 5 rfl) (Qo rfl) Qho Qeh rfl (by omega) (by first | omega | (simp only[aD]; omega))) rfl)<|zz (fun _ h_=>ac (Ym (h_.v rfl) QkP (by rw[(h_.en 5 rfl)]; rfl) rfl) rfl)<|zz (fun _ h_=>ac (Qs (e:=(.pr .int (.pr .int (.pr .bool .int)))) (z':=(x15.1,x15.2.1,x15.2.2.1,(pkV code (pkA 20 x1.2.1) (pkS code x1.2.1 x1.2.2 20) 9) - 1)) (h_.v rfl) (h_.n 5 rfl) hx16 rfl (h_.w rfl) rfl Kw rfl rfl) rfl) ?_
    exact zN
    refine (?_:AC _ _ _ _ _)
    refine ZS<|AC.wk (QT (p:=6) (off:=0) (q:=3) rfl rfl rfl)<|AC.wk (QT (p:=6) (off:=1) (q:=4) rfl rfl rfl)<|AC.wk (QT (p:=6) (off:=2) (q:=5) rfl rfl rfl) ?_
    iterate 4 refine w_ ?_
    refine Qb ?_
    subst hO
    refine Q5 (x:=((x1.1.1,(x1.1.2.1,x1.1.2.2.set 0 (x15.1,x15.2.1,x15.2.2.1,(pkV code (pkA 20 x1.2.1) (pkS code x1.2.1 x1.2.2 20) 9) - 1))),((pkA 9 (pkA 20 x1.2.1)),(pkS code (pkA 20 x1.2.1) (pkS code x1.2.1 x1.2.2 20) 9)))) [(0,0)] ?_ (Res.one rfl (QK rfl rfl Xb rfl)) rfl ⟨rfl,trivial⟩ rfl rfl
    (dsimp only; omega)
 ·obtain ⟨x17,hx18⟩:∃z,x1.1.2.1[0]? =some z:=⟨_,aa (by omega)⟩
  have hp19:=QqG code (⟨#[48,49,50]⟩:ByteArray) x17 (pkA 20 x1.2.1) (pkS code x1.2.1 x1.2.2 20)
  apply dV (i5 10 _ _ _ _ _ [io 15 (lf (.ept 4 1 0 0)),io 16 (lf (dS x17)),⟨some 17,lf (dS ((spV code (⟨#[48,49,50]⟩:ByteArray) x17 (pkA 20 x1.2.1) (pkS code x1.2.1 x1.2.2 20)).1)),[bx 0 93 [.dat (.sl 5 .u8) code,dI ((spV code (⟨#[48,49,50]⟩:ByteArray) x17 (pkA 20 x1.2.1) (pkS code x1.2.1 x1.2.2 20)).2.1), .val (.int .u64 ((spV code (⟨#[48,49,50]⟩:ByteArray) x17 (pkA 20 x1.2.1) (pkS code x1.2.1 x1.2.2 20)).2.2))],(0,none)]⟩,io 18 (lf (.ept 4 1 0 0)),⟨none,lf (.val undef),[ar 4 9 .str (x1.1.2.1.set 0 ((spV code (⟨#[48,49,50]⟩:ByteArray) x17 (pkA 20 x1.2.1) (pkS code x1.2.1 x1.2.2 20)).1))]⟩]) [0,0,3,7,7,7,7,3,0,0]
  iterate 5 refine z_ ?_
  refine zz (fun _ h_=>ac (ZL (e:= .str) (h_.v rfl) (h_.en 4 rfl) (Qo rfl) Zd ZH rfl (by omega) (by first | omega | (simp only[aD]; omega))) rfl)<|zz (fun _ h_=>ac (Z7 (e:= .str) (h_.v rfl) (h_.n 4 rfl) hx18 rfl ZH rfl rfl) rfl) ?_
  refine zz (fun _ h_=>ac (dP 11 [] (UR code (pkA 20 x1.2.1) (pkS code x1.2.1 x1.2.2 20) x17 (⟨#[48,49,50]⟩:ByteArray) (by omega) (by have h_:=‹(_∧_∧∀z∈_,ByteArray.size z≤2400)∧_›; have h2_:=h_.1.2.2 _ (ap (by assumption)); exact ⟨by omega,by decide⟩)) Qh3) rfl) ?_
  refine zz (fun _ h_=>ac (ZL (e:= .str) (h_.v rfl) (h_.en 4 rfl) (Qo rfl) Zd ZH rfl (by omega) (by first | omega | (simp only[aD]; omega))) rfl)<|zz (fun _ h_=>ac (Qs (e:= .str) (z':=(spV code (⟨#[48,49,50]⟩:ByteArray) x17 (pkA 20 x1.2.1) (pkS code x1.2.1 x1.2.2 20)).1) (h_.v rfl) (h_.n 4 rfl) hx18 rfl (h_.w rfl) rfl ZH rfl rfl) rfl) ?_
  exact zN
  refine (?_:AC _ _ _ _ _)
  refine ZS<|AC.wk (QT (p:=6) (off:=0) (q:=3) rfl rfl rfl)<|AC.wk (QT (p:=6) (off:=1) (q:=4) rfl rfl rfl)<|AC.wk (QT (p:=6) (off:=2) (q:=5) rfl rfl rfl) ?_
  iterate 4 refine w_ ?_
  refine Qb ?_
  subst hO
  refine Q5 (x:=((x1.1.1,(x1.1.2.1.set 0 ((spV code (⟨#[48,49,50]⟩:ByteArray) x17 (pkA 20 x1.2.1) (pkS code x1.2.1 x1.2.2 20)).1),x1.1.2.2)),(((spV code (⟨#[48,49,50]⟩:ByteArray) x17 (pkA 20 x1.2.1) (pkS code x1.2.1 x1.2.2 20)).2.1),((spV code (⟨#[48,49,50]⟩:ByteArray) x17 (pkA 20 x1.2.1) (pkS code x1.2.1 x1.2.2 20)).2.2)))) [(0,0)] ?_ (Res.one rfl (QK rfl rfl Xb rfl)) rfl ⟨rfl,trivial⟩ rfl rfl
  (dsimp only; simp only[ai,aD,au,aF]; omega)
end Go.Proofs.YtfkmmpfdncopdaaGreat
namespace Go.Proofs.YtfkmmpfdncopdaaGreat
open Go.RowKit
set_option maxRecDepth 100000
set_option maxHeartbeats 4000000
def rg {β:Type}(f:Nat→Option β)(m:Nat):List β:=(List.range m).filterMap f
def rf {β:Type}(f:Nat→List β)(m:Nat):List β:=(List.range m).flatMap f
section
variable {β:Type}{f:Nat→Option β}{g:Nat→List β}{m n i j k b:Nat}{y:β}{B:List β}
theorem Qq6 (h:f m=some y):B++rg f m++[y]=B++rg f (m+1):=by
  unfold rg; rw[cE,List.filterMap_append]; simp[h]
theorem QrF (h:f m=none):rg f m=rg f (m+1):=by
  unfold rg; rw[cE,List.filterMap_append]; simp[h]
theorem QpJ:(rg f m).length≤m:=bw (List.length_filterMap_le ..) (by simp)
end
def arA (as_:List DAr)(j:Nat):DAr:=(as_[j]?).getD (0,0,false,0)
def QtS (as_:List DAr)(i j:Nat):Option (List Int):=if i < j∧0≤(arA as_ i).2.1∧(arA as_ j).1=(arA as_ i).1∧(arA as_ j).2.1=(arA as_ i).2.1∧(arA as_ j).2.2.2≠(arA as_ i).2.2.2 then some [(i:Int),(j:Int)] else none
def Qth (as_:List DAr)(i:Nat):List (List Int):=rf (fun i=>rg (QtS as_ i) as_.length) i
section
variable {as_:List DAr}{a b:DAr}{i j k m:Nat}{c:DSg}{s q:Int}
def Qsb (c:DSg)(k s:Int)(a:DAr):Bool:= !decide (a.2.1=s)&&(!ZD c a.2.2.2 s&& !(W5 c s&&W5 c a.2.1))
def Qtr (c:DSg)(k s:Int)(n:Nat):Option (Int×Int×Int):=if (arA c.2.2 n).1=k∧Qsb c k s (arA c.2.2 n)=true then some (k,s,(n:Int)) else none
def Qtg (c:DSg)(ts:List Int)(k s:Int)(i:Nat):Option (Int×Int×Int):=match ts[i]? with
  | some q=>if Qsb c k s (arA c.2.2 q.toNat)=true then some (k,s,q) else none
  | none=>none
def nxA (c:DSg)(k:Nat):List Int:=((Z6 c.2.1.length (ixE c.2.2))[k]?).getD []
def QtM (c:DSg)(r:Nat→Nat→List (Int×Int×Int))(k j:Nat):List (Int×Int×Int):=rf (fun s=>if ZD c (k:Int) (s:Int)=true then r k s else []) j
def rwS (c:DSg)(k s:Nat):List (Int×Int×Int):=rg (Qtr c k s) c.2.2.length
def rwI (c:DSg)(k s:Nat):List (Int×Int×Int):=rg (Qtg c (nxA c k) k s) (nxA c k).length
def QtE (c:DSg)(r:Nat→Nat→List (Int×Int×Int))(n:Nat):List (Int×Int×Int):=rf (fun k=>QtM c r k c.1.length) n
end
def Qtm (c:DSg):Bool:=c.2.2.any fun a=>decide (a.2.1= -1)
abbrev Qrz:ByteArray:=⟨#[109,97,100,101]⟩
def Quw (c:DSg):ByteArray:=if Qtm c=true then ⟨#[104,105,100,100,101,110]⟩ else if 0 < ((Qth c.2.2 c.2.2.length).length:Int) then ⟨#[116,119,111,32,119,97,121,115]⟩ else if 0 < ((QtE c (rwS c) c.2.1.length).length:Int) then ⟨#[98,114,101,97,107]⟩ else if 0 < ((Qsx c).length:Int) then ⟨#[99,111,110,102,108,105,99,116]⟩ else Qrz
section
variable {c:DSg}{as_:List DAr}{a:DAr}{i j k:Nat}{m s q:Int}{l:List Int}{p:List Int}
theorem Qdn (hk:k < c.1.length)(h:W5 c (k:Int)=false):Yn c.1 k++[(k:Int)]=Yn c.1 (k+1):=by
  have hx:c.1[k]? =some c.1[k]:=aa hk
  refine Qky hx fun g=> ?_
  rw[← QeX (c:=c) (sig:=(k:Int)) (x:=c.1[k]) (by omega) (by simp),aJ g] at h
  cases h
theorem Qfm (hk:k < c.1.length)(h:W5 c (k:Int)=true):Yn c.1 k=Yn c.1 (k+1):=by
  have hx:c.1[k]? =some c.1[k]:=aa hk
  refine QmA hx ?_
  rw[← QeX (c:=c) (sig:=(k:Int)) (x:=c.1[k]) (by omega) (by simp)] at h
  exact ae h
theorem QnU {α:Type}{l:List α}{f:α→Bool}{x:α}(hx:l[k]? =some x)(h:f x=true):(l.take k).filter f++[x]=(l.take (k+1)).filter f:=by rw[QQ hx,bH]; simp[h]
theorem QpG {α:Type}{l:List α}{f:α→Bool}{x:α}(hx:l[k]? =some x)(h:f x=false):(l.take k).filter f=(l.take (k+1)).filter f:=by rw[QQ hx,bH]; simp[h]
def Quv (c:DSg)(p:List Int):Bool:=Qrt c (mAt p 0).toNat (mAt p 1).toNat
theorem ieF {p:Prop}[Decidable p]{b:Bool}(h:¬p):false=(decide p&&b):=by rw[ay h]; rfl
theorem ieT {p:Prop}[Decidable p]{b:Bool}(h:p):b=(decide p&&b):=by rw[aJ h]; rfl
end
theorem Kk (a:Int×Int×Bool×Int)(q:Int)(sig:Int):FC Tryz.prog 183 [(true,[dI a.1,dI a.2.1,dB a.2.2.1,dI a.2.2.2]),(false,[.ptr 0 0]),(false,[.ptr 1 0])] [bx 0 3 [dI q],bx 1 3 [dI sig]] 2 (Is (lB (decide (a.1=q∧a.2.1=sig))) [bx 0 3 [dI q],bx 1 3 [dI sig]]):=by
 refine Ql Tryz.func183 rfl rfl Tryz.ntmps183 fun O_ hO w0_ N0_ X_ h0_ f0_=> ?_
 refine acG 0 0 fun hi1=> ?_
 refine acG 0 1 fun hi2=> ?_
 refine acG 0 3 fun hi3=> ?_
 refine w_ ?_
 refine xbx 2 ?_
 iterate 6 refine w_ ?_
 refine alI 7 fun hi4=> ?_
 iterate 2 refine w_ ?_
 cases hb5:(decide (a.1=q))
 ·have hb5':=ab hb5
  iterate 7 refine w_ ?_
  refine Qb ?_
  have e6:(false:Bool)=(decide (a.1=q∧a.2.1=sig)):=by
   (simp_all; done)
  exact fi_ [] hO ⟨rfl,rfl,trivial⟩ (h0:=(congrArg (fun z_=>lB z_) e6))
 ·have hb5':=ae hb5
  iterate 7 refine w_ ?_
  refine Qb ?_
  have e7:(decide (a.2.1=sig):Bool)=(decide (a.1=q∧a.2.1=sig)):=by
   (simp_all; done)
  exact fi_ [] hO ⟨rfl,rfl,trivial⟩ (h0:=(congrArg (fun z_=>lB z_) e7))
theorem UD (l:List (Int×Int×Bool×Int))(q:Int)(sig:Int):FC Tryz.prog 256 [(false,[.dat (.sl 136 (.pr .int (.pr .int (.pr .bool .int)))) l]),(false,[.clo 183 [0,1]])] [bx 0 3 [dI q],bx 1 3 [dI sig]] 2 (Is (lI (Q4 (fun a:DAr=>decide (a.1=q∧a.2.1=sig)) l)) [bx 0 3 [dI q],bx 1 3 [dI sig]]):=by
 refine Ql Tryz.func256 rfl rfl Tryz.ntmps256 fun O_ hO w0_ N0_ X_ h0_ f0_=> ?_
 iterate 6 refine w_ ?_
 refine alL 6 fun hl1=> ?_
 iterate 4 refine w_ ?_
 refine lpK l.length (fun k=>NoneTo (fun a:DAr=>decide (a.1=q∧a.2.1=sig)) l k) (fun k=>⟨[(0,lf (.dat (.sl 136 (.pr .int (.pr .int (.pr .bool .int)))) l)),(1,lf (.clo 183 [0,1])),(7,lI (l.length:Int)),(8,lI (k:Int))],[bx 0 3 [dI q],bx 1 3 [dI sig]]⟩) (NoneTo.zero) ?_ fun k hk2 hno=> ?_
 · exact Wk.of [] rfl ⟨rfl,rfl,rfl,rfl,trivial⟩ ⟨rfl,rfl,trivial⟩ rfl rfl
 iterate 4 refine w_ ?_
 cases hb3:(decide ((k:Int) < (l.length:Int)))
 ·have hb3':=ab hb3
  refine w_ ?_
  refine Qj ?_
  refine (?_:AC _ _ _ _ _)
  iterate 3 refine w_ ?_
  refine Qb ?_
  have e4:((-1):Int)=(Q4 (fun a:DAr=>decide (a.1=q∧a.2.1=sig)) l):=by
   first | exact (hno.no (by omega)).symm
  exact fi_ [] hO ⟨rfl,rfl,trivial⟩ (h0:=(congrArg (fun z_=>lI z_) e4))
 ·have hb3':=ae hb3
  iterate 12 refine w_ ?_
  obtain ⟨x5,hx6⟩:∃z,l[k]? =some z:=⟨_,aa (by omega)⟩
  iterate 2 refine w_ ?_
  refine lc (Zk (args0:=[(true,[dI x5.1,dI x5.2.1,dB x5.2.2.1,dI x5.2.2.2])]) (caps:=[0,1]) 2 [(0,0),(1,1)] (Kk x5 q sig) Qhw rfl (Qa rfl) rfl rfl ⟨_,_,rfl,(Qm rfl),rfl⟩ ⟨rfl,rfl,trivial⟩ rfl ⟨trivial,trivial,trivial⟩ (nlr rfl)) ?_
  refine w_ ?_
  cases hb7:(decide (x5.1=q∧x5.2.1=sig))
  ·have hb7':=ab hb7
   refine w_ ?_
   refine AC.skip ?_
   refine (?_:AC _ _ _ _ _)
   iterate 3 refine w_ ?_
   refine Qd ?_
   refine lK_ (hno.step hx6 (by assumption)) ?_
   exact Wk.of [] rfl ⟨rfl,rfl,rfl,rfl,trivial⟩ ⟨rfl,rfl,trivial⟩ rfl rfl
  ·have hb7':=ae hb7
   iterate 5 refine w_ ?_
   refine Qb ?_
   have e8:((k:Int):Int)=(Q4 (fun a:DAr=>decide (a.1=q∧a.2.1=sig)) l):=by
    exact (hno.at hx6 (by assumption)).symm
   exact fi_ [] hO ⟨rfl,rfl,trivial⟩ (h0:=(congrArg (fun z_=>lI z_) e8))
theorem Vk (l:List (Int×Int×Bool×Int))(q:Int)(sig:Int):FC Tryz.prog 182 [(false,[.dat (.sl 136 (.pr .int (.pr .int (.pr .bool .int)))) l]),(false,[.clo 183 [0,1]])] [bx 0 3 [dI q],bx 1 3 [dI sig]] 2 (Is (lB (l.any (fun a:DAr=>decide (a.1=q∧a.2.1=sig)))) [bx 0 3 [dI q],bx 1 3 [dI sig]]):=by
 refine Ql Tryz.func182 rfl rfl Tryz.ntmps182 fun O_ hO w0_ N0_ X_ h0_ f0_=> ?_
 iterate 6 refine w_ ?_
 refine lc (dP 2 [] (UD l q sig) Qif) ?_
 iterate 3 refine w_ ?_
 refine Qb ?_
 have e1:(decide (0≤(Q4 (fun a:DAr=>decide (a.1=q∧a.2.1=sig)) l)):Bool)=(l.any (fun a:DAr=>decide (a.1=q∧a.2.1=sig))):=by
  exact XL _ _
 exact fi_ [] hO ⟨rfl,rfl,trivial⟩ (h0:=(congrArg (fun z_=>lB z_) e1))
theorem Yz (c:(List (ByteArray×Int))×List ByteArray×(List (Int×Int×Bool×Int)))(q:Int)(sig:Int):FC Tryz.prog 95 [(true,[.dat (.sl 203 (.pr .str .int)) c.1, .dat (.sl 9 .str) c.2.1, .dat (.sl 136 (.pr .int (.pr .int (.pr .bool .int)))) c.2.2]),(false,[dI q]),(false,[dI sig])] [] 0 (QH (lB (ZD c q sig))):=by
 refine Ql Tryz.func95 rfl rfl Tryz.ntmps95 fun O_ hO w0_ N0_ X_ h0_ f0_=> ?_
 refine acI 1 fun hi1=> ?_
 refine acI 2 fun hi2=> ?_
 refine w_ ?_
 refine xbx 0 ?_
 refine xbx 1 ?_
 refine xbx 2 ?_
 iterate 5 refine w_ ?_
 refine lc (Zj ⟨_,_,rfl,(Qa rfl),rfl,⟨_,_,rfl,(Qa rfl),rfl,rfl⟩⟩ rfl) ?_
 refine lc (dP 3 [(0,1),(1,2)] (Vk c.2.2 q sig) Qhy) ?_
 iterate 2 refine w_ ?_
 refine Qb<|fqB hO ?_
 rfl
theorem J0 (c:(List (ByteArray×Int))×List ByteArray×(List (Int×Int×Bool×Int)))(q:Int)(sig:Int)[∀c,Decidable (SgOk c)]:FC Tryz.prog 34 [(true,[.dat (.sl 203 (.pr .str .int)) c.1, .dat (.sl 9 .str) c.2.1, .dat (.sl 136 (.pr .int (.pr .int (.pr .bool .int)))) c.2.2]),(false,[dI q]),(false,[dI sig])] [] 0 (QH (PV.tup [(false,[dB (decide (SgOk c∧(0≤q∧q≤(c.2.1.length:Int) - 1)∧(0≤sig∧sig≤(c.1.length:Int) - 1))&&ZD c q sig)]),(false,[dB (decide (SgOk c∧(0≤q∧q≤(c.2.1.length:Int) - 1)∧(0≤sig∧sig≤(c.1.length:Int) - 1)))])])):=by
 refine Ql Tryz.func34 rfl rfl Tryz.ntmps34 fun O_ hO w0_ N0_ X_ h0_ f0_=> ?_
 refine acI 1 fun hi1=> ?_
 refine acI 2 fun hi2=> ?_
 refine w_ ?_
 refine xbx 0 ?_
 iterate 6 refine w_ ?_
 refine lc (dK (YW c) Qc4) ?_
 iterate 2 refine w_ ?_
 cases hb3:(decide (SgOk c))
 ·have hb3':=ab hb3
  iterate 23 refine w_ ?_
  refine Qb ?_
  have e4:(false:Bool)=(decide (SgOk c∧(0≤q∧q≤(c.2.1.length:Int) - 1)∧(0≤sig∧sig≤(c.1.length:Int) - 1))&&ZD c q sig):=by
   exact ieF (fun g=>absurd g.1 (by assumption))
  have e5:(false:Bool)=(decide (SgOk c∧(0≤q∧q≤(c.2.1.length:Int) - 1)∧(0≤sig∧sig≤(c.1.length:Int) - 1))):=by
   exact (ay (fun g=>absurd g.1 (by assumption))).symm
  exact fr_ hO (e:=((congrArg (fun z_=>PV.tup [(false,[dB z_]),(false,[dB false])]) e4)).trans (congrArg (fun z_=>PV.tup [(false,[dB (decide (SgOk c∧(0≤q∧q≤(c.2.1.length:Int) - 1)∧(0≤sig∧sig≤(c.1.length:Int) - 1))&&ZD c q sig)]),(false,[dB z_])]) e5))
 ·have hb3':=ae hb3
  iterate 3 refine w_ ?_
  refine alL 14 fun hl6=> ?_
  iterate 2 refine w_ ?_
  refine lgy rfl rfl (dK (QM q 0 ((c.2.1.length:Int) - 1)) ZG) ?_
  iterate 3 refine w_ ?_
  cases hb7:(decide (0≤q∧q≤((c.2.1.length:Int) - 1)))
  ·have hb7':=ab hb7
   iterate 14 refine w_ ?_
   refine Qb ?_
   have e8:(false:Bool)=(decide (SgOk c∧(0≤q∧q≤(c.2.1.length:Int) - 1)∧(0≤sig∧sig≤(c.1.length:Int) - 1))&&ZD c q sig):=by
    exact ieF (fun g=>absurd g.2.1 (by assumption))
   have e9:(false:Bool)=(decide (SgOk c∧(0≤q∧q≤(c.2.1.length:Int) - 1)∧(0≤sig∧sig≤(c.1.length:Int) - 1))):=by
    exact (ay (fun g=>absurd g.2.1 (by assumption))).symm
   exact fr_ hO (e:=((congrArg (fun z_=>PV.tup [(false,[dB z_]),(false,[dB false])]) e8)).trans (congrArg (fun z_=>PV.tup [(false,[dB (decide (SgOk c∧(0≤q∧q≤(c.2.1.length:Int) - 1)∧(0≤sig∧sig≤(c.1.length:Int) - 1))&&ZD c q sig)]),(false,[dB z_])]) e9))
  ·have hb7':=ae hb7
   iterate 3 refine w_ ?_
   refine alL 23 fun hl10=> ?_
   iterate 2 refine w_ ?_
   refine lgy rfl rfl (dK (QM sig 0 ((c.1.length:Int) - 1)) ZG) ?_
   iterate 3 refine w_ ?_
   cases hb11:(decide (0≤sig∧sig≤((c.1.length:Int) - 1)))
   ·have hb11':=ab hb11
    iterate 5 refine w_ ?_
    refine Qb ?_
    have e12:(false:Bool)=(decide (SgOk c∧(0≤q∧q≤(c.2.1.length:Int) - 1)∧(0≤sig∧sig≤(c.1.length:Int) - 1))&&ZD c q sig):=by
     exact ieF (fun g=>absurd g.2.2 (by assumption))
    have e13:(false:Bool)=(decide (SgOk c∧(0≤q∧q≤(c.2.1.length:Int) - 1)∧(0≤sig∧sig≤(c.1.length:Int) - 1))):=by
     exact (ay (fun g=>absurd g.2.2 (by assumption))).symm
    exact fr_ hO (e:=((congrArg (fun z_=>PV.tup [(false,[dB z_]),(false,[dB false])]) e12)).trans (congrArg (fun z_=>PV.tup [(false,[dB (decide (SgOk c∧(0≤q∧q≤(c.2.1.length:Int) - 1)∧(0≤sig∧sig≤(c.1.length:Int) - 1))&&ZD c q sig)]),(false,[dB z_])]) e13))
   ·have hb11':=ae hb11
    iterate 6 refine w_ ?_
    refine lc (dK (Yz c q sig) U9) ?_
    iterate 3 refine w_ ?_
    refine Qb ?_
    have e14:(ZD c q sig:Bool)=(decide (SgOk c∧(0≤q∧q≤(c.2.1.length:Int) - 1)∧(0≤sig∧sig≤(c.1.length:Int) - 1))&&ZD c q sig):=by
     exact ieT ⟨by assumption,by assumption,by assumption⟩
    have e15:(true:Bool)=(decide (SgOk c∧(0≤q∧q≤(c.2.1.length:Int) - 1)∧(0≤sig∧sig≤(c.1.length:Int) - 1))):=by
     exact (aJ ⟨by assumption,by assumption,by assumption⟩).symm
    exact fr_ hO (e:=((congrArg (fun z_=>PV.tup [(false,[dB z_]),(false,[dB true])]) e14)).trans (congrArg (fun z_=>PV.tup [(false,[dB (decide (SgOk c∧(0≤q∧q≤(c.2.1.length:Int) - 1)∧(0≤sig∧sig≤(c.1.length:Int) - 1))&&ZD c q sig)]),(false,[dB z_])]) e15))
theorem QcR (c:(List (ByteArray×Int))×List ByteArray×(List (Int×Int×Bool×Int)))(sig:Int)(hs:sig < (c.1.length:Int)):FC Tryz.prog 199 [(true,[.dat (.sl 203 (.pr .str .int)) c.1, .dat (.sl 9 .str) c.2.1, .dat (.sl 136 (.pr .int (.pr .int (.pr .bool .int)))) c.2.2]),(false,[dI sig])] [] 0 (QH (lB (!W5 c sig))):=by
 refine Ql Tryz.func199 rfl rfl Tryz.ntmps199 fun O_ hO w0_ N0_ X_ h0_ f0_=> ?_
 refine acI 1 fun hi1=> ?_
 refine w_ ?_
 refine xbx 0 ?_
 iterate 6 refine w_ ?_
 cases hb2:(decide (sig < 0))
 ·have hb2':=ab hb2
  iterate 3 refine w_ ?_
  obtain ⟨x3,hx4⟩:∃z,c.1[(sig).toNat]? =some z:=⟨_,aa (by omega)⟩
  iterate 7 refine w_ ?_
  refine Qb<|fqB hO ?_
  (rw[← QeX (by omega) hx4]; done)
 ·have hb2':=ae hb2
  iterate 10 refine w_ ?_
  refine Qb<|fqB hO ?_
  (rw[← Qof (by omega)]; rfl)
theorem Qaz (c:(List (ByteArray×Int))×List ByteArray×(List (Int×Int×Bool×Int)))(hl:c.1.length≤100000):FC Tryz.prog 103 [(true,[.dat (.sl 203 (.pr .str .int)) c.1, .dat (.sl 9 .str) c.2.1, .dat (.sl 136 (.pr .int (.pr .int (.pr .bool .int)))) c.2.2])] [] 0 (WC 3 .int (Yn c.1 c.1.length)):=by
 refine Ql Tryz.func103 rfl rfl Tryz.ntmps103 fun O_ hO w0_ N0_ X_ h0_ f0_=> ?_
 refine w_ ?_
 refine xbx 0 ?_
 iterate 9 refine w_ ?_
 refine alL 6 fun hl1=> ?_
 iterate 4 refine w_ ?_
 refine AC.wk (Wk.nilS 1 3 3 .int rfl (Fresh.of rfl) (nlr rfl)) ?_
 refine lp0 c.1.length (fun k=>⟨[(1,lP 0 0),(2,lf (.val (.slice none 0 0))),(3,lR 2),(7,lI (c.1.length:Int)),(8,lI (k:Int))],[bx 0 28 [.dat (.sl 203 (.pr .str .int)) c.1, .dat (.sl 9 .str) c.2.1, .dat (.sl 136 (.pr .int (.pr .int (.pr .bool .int)))) c.2.2],ar 2 3 .int (Yn c.1 k)]⟩) ?_ fun k hk2=> ?_
 · exact Wk.of [(2,1)] rfl ⟨rfl,rfl,rfl,rfl,rfl,trivial⟩ ⟨rfl,(Qn (rfl)),trivial⟩ rfl rfl
 have hol:=Qkz (ss:=c.1) (k:=k)
 iterate 4 refine w_ ?_
 cases hb3:(decide ((k:Int) < (c.1.length:Int)))
 ·have hb3':=ab hb3
  refine w_ ?_
  refine Qj ?_
  refine (?_:AC _ _ _ _ _)
  iterate 4 refine w_ ?_
  refine Qb<|fo_ hO ?_
  (congr 1; omega)
 ·have hb3':=ae hb3
  iterate 11 refine w_ ?_
  refine lc (dK (QcR c (k:Int) (by omega)) Qh5) ?_
  refine w_ ?_
  cases hb4:(W5 c (k:Int))
  ·iterate 4 refine w_ ?_
   refine lc (dBs 3 (e:= .int) Vu) ?_
   refine lc (dA 4 Vz) ?_
   refine w_ ?_
   refine Qd ?_
   refine (?_:AC _ _ _ _ _)
   iterate 3 refine w_ ?_
   refine Qd ?_
   refine l0_ ?_
   exact Wk.of [(2,4)] rfl ⟨rfl,rfl,rfl,rfl,rfl,trivial⟩ ⟨rfl,(Qn (by first | exact Qdn (by omega) (by assumption) | exact Qfm (by omega) (by assumption))),trivial⟩ rfl rfl
  ·refine w_ ?_
   refine AC.skip ?_
   refine (?_:AC _ _ _ _ _)
   iterate 3 refine w_ ?_
   refine Qd ?_
   refine l0_ ?_
   exact Wk.of [] rfl ⟨rfl,rfl,rfl,rfl,rfl,trivial⟩ ⟨rfl,(Qn (by first | exact Qdn (by omega) (by assumption) | exact Qfm (by omega) (by assumption))),trivial⟩ rfl rfl
theorem Qpw {c:DSg}{sig:Int}{x:Qz}[Decidable (SgOk c)](h0:SgOk c)(h:0≤sig∧sig≤(c.1.length:Int) - 1)(hx:c.1[sig.toNat]? =some x):(!decide (x.2=1))=decide (SgOk c∧(0≤sig∧sig≤(c.1.length:Int) - 1)∧W5 c sig=false):=by
  rw[← QeX h.1 hx]; simp[h0,h]
theorem Qsw {c:DSg}{sig:Int}[Decidable (SgOk c)](h:¬(0≤sig∧sig≤(c.1.length:Int) - 1)):false=decide (SgOk c∧(0≤sig∧sig≤(c.1.length:Int) - 1)∧W5 c sig=false):=(ay fun g=>h g.2.1).symm
theorem Qsy {c:DSg}{sig:Int}[Decidable (SgOk c)](h:¬SgOk c):false=decide (SgOk c∧(0≤sig∧sig≤(c.1.length:Int) - 1)∧W5 c sig=false):=(ay fun g=>h g.1).symm
theorem J5 (c:(List (ByteArray×Int))×List ByteArray×(List (Int×Int×Bool×Int)))(sig:Int)[∀c,Decidable (SgOk c)]:FC Tryz.prog 176 [(true,[.dat (.sl 203 (.pr .str .int)) c.1, .dat (.sl 9 .str) c.2.1, .dat (.sl 136 (.pr .int (.pr .int (.pr .bool .int)))) c.2.2]),(false,[dI sig])] [] 0 (QH (lB (decide (SgOk c∧(0≤sig∧sig≤(c.1.length:Int) - 1)∧W5 c sig=false)))):=by
 refine Ql Tryz.func176 rfl rfl Tryz.ntmps176 fun O_ hO w0_ N0_ X_ h0_ f0_=> ?_
 refine acI 1 fun hi1=> ?_
 refine w_ ?_
 refine xbx 0 ?_
 iterate 4 refine w_ ?_
 refine lc (dK (Qbd c) Qj9) ?_
 refine w_ ?_
 cases hb2:(decide (SgOk c))
 ·have hb2':=ab hb2
  iterate 18 refine w_ ?_
  refine Qb<|fqB hO ?_
  exact Qsy (by assumption)
 ·have hb2':=ae hb2
  iterate 3 refine w_ ?_
  refine alL 10 fun hl3=> ?_
  iterate 2 refine w_ ?_
  refine lgy rfl rfl (dK (YT sig 0 ((c.1.length:Int) - 1)) XG) ?_
  iterate 2 refine w_ ?_
  cases hb4:(decide (0≤sig∧sig≤((c.1.length:Int) - 1)))
  ·have hb4':=ab hb4
   iterate 10 refine w_ ?_
   refine Qb<|fqB hO ?_
   exact Qsw (by assumption)
  ·have hb4':=ae hb4
   iterate 3 refine w_ ?_
   obtain ⟨x5,hx6⟩:∃z,c.1[(sig).toNat]? =some z:=⟨_,aa (by omega)⟩
   iterate 7 refine w_ ?_
   refine Qb<|fqB hO ?_
   exact Qpw (by assumption) (by assumption) hx6
end Go.Proofs.YtfkmmpfdncopdaaGreat
namespace Go.Proofs.YtfkmmpfdncopdaaGreat
open Go.RowKit
set_option maxRecDepth 100000
set_option maxHeartbeats 4000000
def frL (as_:List DAr)(l:Int×Bool):List Int:=(as_.filter fun a=>decide (a.2.1=l.1∧a.2.2.1=l.2)).map fun a=>a.1
def xS (as_:List DAr)(l:Int×Bool):List Int:=ofG ltI (frL as_ l)
def edA (S:List Int)(a:DAr):List DAr:=[((a.1, -1,false,a.2.2.2):DAr),(a.2.2.2, -1,false,a.1)].filter fun e=>decide (e.2.2.2∈S)
def edL (as_:List DAr)(S:List Int):List DAr:=as_.flatMap (edA S)
abbrev Cn (as_:List DAr)(S:List Int)(x v:Int):Prop:=Ch (edL as_ S) (-1) (fun u=>u=x) v
noncomputable def cnB (as_:List DAr) (S:List Int) (x v:Int):Bool:= @decide (Cn as_ S x v) (Classical.propDecidable _)
noncomputable def cls (as_:List DAr) (S:List Int) (x:Int):List Int:=S.filter (cnB as_ S x)
noncomputable def repB (as_:List DAr) (S:List Int) (x:Int):Bool:=S.all fun v=> !cnB as_ S x v||decide (x≤v)
noncomputable def regV (as_:List DAr) (S:List Int):List (List Int):=(S.filter (repB as_ S)).map (cls as_ S)
noncomputable def compL (as_:List DAr) (S:List Int):Nat→List Int→List (List Int)
  | 0,_=>[]
  | _+1,[]=>[]
  | f+1,x :: xs=>cls as_ S x :: compL as_ S f ((x :: xs).filter fun k=> !decide (k∈cls as_ S x))
def pE (S:List Int)(u:Int)(out:List Int)(e:Int×Int):List Int:=if e.1=u∧e.2∈S∧¬e.2∈out then out++[e.2] else out
abbrev edP (a:DAr):List (Int×Int):=[(a.1,a.2.2.2),(a.2.2.2,a.1)]
def pA (S:List Int)(u:Int)(out:List Int)(a:DAr):List Int:=(edP a).foldl (pE S u) out
section
variable {as_:List DAr}{a:DAr}{S T_ part left out:List Int}{x y u v w z:Int}{k i j n f:Nat}{l:Int×Bool}{e:Int×Int}
theorem QnS {b:DAr}:b∈edL as_ S↔b.2.2.2∈S∧b.2.1= -1∧b.2.2.1=false∧∃a∈as_,(b.1=a.1∧b.2.2.2=a.2.2.2)∨(b.1=a.2.2.2∧b.2.2.2=a.1):=by
  unfold edL edA
  rw[cj]
  constructor
  · rintro ⟨a, ha, hb⟩
    rw[bR,aE,aE] at hb
    obtain ⟨hb,hS⟩:=hb
    have hS:=ae hS
    rcases hb with rfl | rfl | hb
    · exact ⟨hS,rfl,rfl,a,ha, .inl ⟨rfl,rfl⟩⟩
    · exact ⟨hS,rfl,rfl,a,ha, .inr ⟨rfl,rfl⟩⟩
    · cases hb
  · rintro ⟨h1, h2, h3, a, ha, h⟩
    obtain ⟨b1,b2,b3,b4⟩:=b
    simp only at h1 h2 h3 h
    subst h2; subst h3
    refine ⟨a,ha,bR.2 ⟨?_,aJ h1⟩⟩
    rcases h with ⟨rfl,rfl⟩ | ⟨rfl,rfl⟩
    · exact az ..
    · exact ax _ (az ..)
theorem QfZ (h:Cn as_ S x v)(k:Cn as_ S v w):Cn as_ S x w:=Ch.mono (fun u hu=>by rw[hu]; exact h) k
theorem Qjh (hu:u∈S)(hv:v∈S)(ha:a∈as_)(h:(u=a.1∧v=a.2.2.2)∨(u=a.2.2.2∧v=a.1)):Cn as_ S u v:=
  Ch.step (a:=((u, -1,false,v):DAr)) (.base rfl) (QnS.2 ⟨hv,rfl,rfl,a,ha,h⟩) rfl
end
end Go.Proofs.YtfkmmpfdncopdaaGreat
namespace Go.Proofs.YtfkmmpfdncopdaaGreat
open Go.RowKit
set_option maxRecDepth 100000
set_option maxHeartbeats 4000000
def lpS (S p:List Int)(a:DAr):List Int:=if a.1∈S∧a.2.2.2∈S then (p.set a.1.toNat (min (mAt p a.1) (mAt p a.2.2.2))).set a.2.2.2.toNat (min (mAt p a.1) (mAt p a.2.2.2)) else p
def lpR (as_:List DAr)(S p:List Int):List Int:=as_.foldl (lpS S) p
def lpZ (n:Nat):List Int:=(List.range n).map fun k:Nat=>(k:Int)
noncomputable def rm (as_:List DAr) (S:List Int) (k:Int):Int:=(S.find? (cnB as_ S k)).getD k
def spF (S p:List Int)(k:Int)(i:Nat):Option Int:=if (i:Int)∈S∧mAt p (i:Int)=k then some (i:Int) else none
def lbG (S p:List Int)(n:Nat)(k:Nat):Option (List Int):=if 0 < ((rg (spF S p (k:Int)) n).length:Int) then some (rg (spF S p (k:Int)) n) else none
section
variable {as_ bs:List DAr}{a:DAr}{S p q:List Int}{x y u v w z:Int}{k i j n:Nat}{P:Nat→Prop}[DecidablePred P]
structure LpI (as_:List DAr) (S:List Int) (n:Nat) (p:List Int):Prop where
  len:p.length=n
  ch:∀u∈S,Cn as_ S u (mAt p u)
  le:∀u∈S,mAt p u≤u
abbrev InN (S:List Int)(n:Nat):Prop:=∀u∈S,0≤u∧u < (n:Int)
theorem QiA (hl:p.length=n)(hu:0≤u∧u < (n:Int))(hv:0≤v):mAt (p.set u.toNat x) v=if v=u then x else mAt p v:=by
  unfold mAt
  rw[bz]
  by_cases h:v=u
  · subst h; rw[if_pos rfl,if_pos rfl,if_pos (by omega)]; rfl
  · rw[if_neg (by omega),if_neg h]
theorem QlG (hn:InN S n)(hl:p.length=n)(h1:a.1∈S)(h2:a.2.2.2∈S)(hv:0≤v):mAt (lpS S p a) v=if v=a.1∨v=a.2.2.2 then min (mAt p a.1) (mAt p a.2.2.2) else mAt p v:=by
  unfold lpS
  rw[if_pos ⟨h1,h2⟩,QiA (by rw[aD]; exact hl) (hn _ h2) hv,QiA hl (hn _ h1) hv]
  by_cases e1:v=a.2.2.2
  · rw[if_pos e1,if_pos (.inr e1)]
  · rw [if_neg e1]
    by_cases e2:v=a.1
    · rw[if_pos e2,if_pos (.inl e2)]
    · rw[if_neg e2,if_neg (fun h=>h.elim e2 e1)]
theorem Qp6 (h:¬(a.1∈S∧a.2.2.2∈S)):lpS S p a=p:=if_neg h
theorem LpI.step (hn:InN S n)(h:LpI as_ S n p)(ha:a∈as_):LpI as_ S n (lpS S p a):=by
  by_cases hs:a.1∈S∧a.2.2.2∈S
  · refine ⟨by unfold lpS; rw [if_pos hs]; simp [h.len], fun u hu => ?_, fun u hu => ?_⟩
    · rw [QlG hn h.len hs.1 hs.2 (hn u hu).1]
      split
      · rename_i e
        have e12:=Qjh (as_:=as_) hs.1 hs.2 ha (.inl ⟨rfl,rfl⟩)
        have e21:=Qjh (as_:=as_) hs.2 hs.1 ha (.inr ⟨rfl,rfl⟩)
        have c1:=h.ch _ hs.1
        have c2:=h.ch _ hs.2
        rw[Int.min_def]
        split
        · rcases e with rfl | rfl
          · exact c1
          · exact QfZ e21 c1
        · rcases e with rfl | rfl
          · exact QfZ e12 c2
          · exact c2
      · exact h.ch u hu
    · rw [QlG hn h.len hs.1 hs.2 (hn u hu).1]
      split
      · rename_i e
        have:=h.le _ hs.1
        have:=h.le _ hs.2
        rcases e with rfl | rfl <;> omega
      · exact h.le u hu
  · rw[Qp6 hs]; exact h
abbrev Qul (as_:List DAr)(S p:List Int)(u:Int):Prop:=mAt p u=rm as_ S u
noncomputable def finB (as_:List DAr) (S p:List Int) (u:Int):Bool:=decide (mAt p u=rm as_ S u)
end
end Go.Proofs.YtfkmmpfdncopdaaGreat
namespace Go.Proofs.YtfkmmpfdncopdaaGreat
open Go.RowKit
set_option maxRecDepth 100000
set_option maxHeartbeats 4000000
def ini {α:Type}(f:Nat→α)(z:α)(n k:Nat):List α:=(List.range k).map f++List.replicate (n - k) z
section
variable {α:Type}{f:Nat→α}{z x:α}{n k:Nat}
end
def Quh (c:DSg)(l:Int×Bool):List Bool:=(List.range c.2.1.length).map fun k:Nat=>decide ((k:Int)∈xS c.2.2 l)
section
variable {c:DSg}{l:Int×Bool}{k i j n:Nat}{sig q x y:Int}{up b b1 b2:Bool}{code:ByteArray}{a:DAr}{p:List Int}
theorem rgN {β:Type}{f:Nat→Option β}{y:β}(h:f k=some y):rg f k++[y]=rg f (k+1):=by have:=Qq6 (B:=[]) h; simpa using this
end
end Go.Proofs.YtfkmmpfdncopdaaGreat
namespace Go.Proofs.YtfkmmpfdncopdaaGreat
open Go.RowKit
set_option maxRecDepth 100000
set_option maxHeartbeats 4000000
def adQ (c:DSg)(s:Int)(out:List Int)(k:Int):List Int:=if ZD c k s=false∧¬k∈out then out++[k] else out
def qJ (c:DSg)(l:Int×Bool)(R out:List Int)(a:DAr):List Int:=if a.2.1=l.1∧a.2.2.1=l.2∧a.1∈R then adQ c l.1 out a.2.2.2 else out
def qU (c:DSg)(s u:Int)(out:List Int)(a:DAr):List Int:=if a.1=u then adQ c s out a.2.2.2 else out
def qE (c:DSg)(s:Int):List DAr:=(c.2.2.filter fun a=> !ZD c a.2.2.2 s).map fun a=>(a.1, -1,false,a.2.2.2)
def qQ (c:DSg)(s:Int)(R:List Int)(v:Int):Prop:=∃a∈c.2.2,a.2.1=s∧a.1∈R∧ZD c a.2.2.2 s=false∧a.2.2.2=v
abbrev QC (c:DSg)(s:Int)(R:List Int)(v:Int):Prop:=Ch (qE c s) (-1) (qQ c s R) v
noncomputable def qV (c:DSg) (s:Int) (R:List Int):List Int:=((List.range c.2.1.length).map fun k:Nat=>(k:Int)).filter fun v=> @decide (QC c s R v) (Classical.propDecidable _)
def chi (n:Nat)(S:List Int):List Bool:=(List.range n).map fun k:Nat=>decide ((k:Int)∈S)
def qZ (c:DSg)(s:Int)(R S:List Int)(a:DAr):List Int:=if a.1∈R∧a.2.1=s∧ZD c a.2.2.2 s=false then QN ltI a.2.2.2 S else S
def qT (c:DSg)(s:Int)(S:List Int)(a:DAr):List Int:=if a.1∈S∧ZD c a.2.2.2 s=false then QN ltI a.2.2.2 S else S
def qR (c:DSg)(s:Int)(S:List Int):List Int:=c.2.2.foldl (qT c s) S
def chF (S:List Int)(k:Nat):Option Int:=if (k:Int)∈S then some (k:Int) else none
section
variable {c:DSg}{as_:List DAr}{a b:DAr}{l:Int×Bool}{R S out:List Int}{s u v q x:Int}{k i j n m:Nat}{B:Bool}
end
end Go.Proofs.YtfkmmpfdncopdaaGreat
namespace Go.Proofs.YtfkmmpfdncopdaaGreat
open Go.RowKit
set_option maxRecDepth 100000
set_option maxHeartbeats 4000000
theorem Qf7 (code:List UInt8)(more:List UInt8):FC Tryz.prog 7 [(false,[.dat (.sl 5 .u8) code]),(false,[.dat (.sl 5 .u8) more])] [] 0 (QH (lB (decide ((1048576:Int) < (code.length:Int)+(more.length:Int))))):=by
 refine Ql Tryz.func7 rfl rfl Tryz.ntmps7 fun O_ hO w0_ N0_ X_ h0_ f0_=> ?_
 iterate 5 refine w_ ?_
 refine alL 5 fun hl1=> ?_
 iterate 3 refine w_ ?_
 cases hb2:(decide (1048576 < (code.length:Int)))
 ·have hb2':=ab hb2
  refine w_ ?_
  refine alL 9 fun hl3=> ?_
  iterate 2 refine w_ ?_
  refine alL 11 fun hl4=> ?_
  iterate 6 refine w_ ?_
  refine Qb<|fqB hO ?_
  exact bL.2 (by omega)
 ·have hb2':=ae hb2
  iterate 9 refine w_ ?_
  refine Qb<|fqB hO ?_
  exact (aJ (by omega)).symm
end Go.Proofs.YtfkmmpfdncopdaaGreat
namespace Go.Proofs.YtfkmmpfdncopdaaGreat
open Go.RowKit
set_option maxHeartbeats 2000000
set_option maxRecDepth 100000
theorem QdN {A:Amb}{P:Program}{s:St}{x y:Operand}{d:Nat}{T T' ty:TypeId}{pos:String}{af:Array Edge}{g:Option (Nat×Bool)}{m n:ByteArray}(hx:Evl A s x (dS m))(hy:Evl A s y (dS n))(hn:Nat.blt d A.n=true):Does A P ⟨some d, .binOp .geq T x y T',ty,pos,af,g⟩ s (s.put d (lf (dB (!Op.bytesLess m.toList n.toList)))):=
  Qg rfl hn fun gh a w r=>⟨.bool (!Op.bytesLess m.toList n.toList),by
    have h1:=hx.st r
    have h2:=hy.st r
    simp only[execOp,h1,h2,eqGuard_at_string,binOp,Op.stringOp]
    simp[U1],_,rfl,ZC⟩
def ibV (s:ByteArray)(c:UInt8):Int:=Lib.indexByte s.data.toList c
theorem QiV {s:ByteArray}{c:UInt8}: -1≤ibV s c∧ibV s c≤(s.size:Int):=by
  have h:=Lib.indexByte_ge s.data.toList c
  refine ⟨h, ?_⟩
  unfold ibV
  by_cases h0:Lib.indexByte s.data.toList c < 0
  · omega
  · obtain ⟨o, ho⟩ : ∃ o : Nat, Lib.indexByte s.data.toList c = o := ⟨(Lib.indexByte s.data.toList c).toNat, by omega⟩
    have h1:=(ah.1 (Lib.indexByte_some ho).1).1
    have:s.data.toList.length=s.size:=by simp
    omega
theorem QiE {s:ByteArray}{c:UInt8}:0≤ibV s c↔c∈s.toList:=by
  rw[bc]
  unfold ibV
  constructor
  · intro h0
    obtain ⟨o,ho⟩:∃o:Nat,Lib.indexByte s.data.toList c=o:=⟨(Lib.indexByte s.data.toList c).toNat,by omega⟩
    exact ap (Lib.indexByte_some ho).1
  · intro h
    have h1:=Lib.indexByte_ge s.data.toList c
    by_cases h2:Lib.indexByte s.data.toList c= -1
    · obtain ⟨k, hk⟩ := aM.1 h
      exact absurd hk (Lib.indexByte_none h2 k)
    · omega
theorem QpP (s:ByteArray)(c:UInt8)(w:World):Calls Tryz.prog 355 #[.string s, .int .u8 c.toNat] w fun e w'=>e= .returned (.int .i64 (ibV s c))∧w'=w:=by
  go_enter Tryz.func355,Tryz.ntmps355
  go_wp2
  rw[run_callFunc_extern Tryz.func379 (by kernel_rfl) (by kernel_rfl) (by kernel_rfl) (e:=Extern.BytealgIndexByte.indexByte) (by kernel_rfl),Lib.run_indexByteString]
  simp only[Result.andThen]
  rw[Oper.upon_value]
  go_wp2
  go_ret
  exact ⟨by simp[ibV],rfl⟩
theorem Qsh (s:ByteArray)(c:UInt8):FC Tryz.prog 355 [(false,[.dat .str s]),(false,[.dat .u8 c])] [] 0 (QH (lf (dI (ibV s c)))):=QlA fun gh w vs ha=>by
  obtain ⟨v,vs,rfl,hi,ha⟩:=ha.leaf_cons
  obtain ⟨v2,vs,rfl,hi2,ha⟩:=ha.leaf_cons
  obtain rfl:=ha.nil_
  obtain ⟨rfl,hs⟩:=Rep.str_ hi
  have hi2:[v2]=[.int .u8 c.toNat]:=hi2
  obtain rfl:v2= .int .u8 c.toNat:=by simpa using hi2
  have hm:maxLen≤9223372036854775807:=by decide
  refine Calls.mono (QpP s c w) fun e w' he=> ?_
  obtain ⟨rfl,rfl⟩:=he
  have h:=QiV (s:=s) (c:=c)
  exact ⟨_,rfl,QJ _,_,rfl,Ye (by omega)⟩
end Go.Proofs.YtfkmmpfdncopdaaGreat
