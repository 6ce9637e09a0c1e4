/- Walks over abstract states: drawn state graphs. -/
import Derived.Test.YtgpdhgadmjfokaaGreatGDg
import Derived.Test.YtgpdhgadmjfokaaGreatGDf
set_option linter.unusedSimpArgs false
set_option linter.unusedVariables false
set_option linter.unusedSectionVars false
namespace Go.Proofs.YtgpdhgadmjfokaaGreat
open Go.RowKit
set_option maxRecDepth 100000
set_option maxHeartbeats 4000000
theorem QcP {b:Nat}:∀(i:Nat) (c:List ByteArray) (vs:List UInt8),(∀z∈c,z.size≤b)→∀z∈WQ i c vs,z.size≤b+vs.length
  | _,_,[],h=>by rw[WQ]; exact fun z hz=>bA (h z hz) (Nat.le_add_right ..)
  | i,c,v :: vs,h=>fun z hz=>by
    rw[WQ] at hz
    have h2:∀z∈c.set i ((c[i]?).getD ByteArray.empty++⟨#[v]⟩),z.size≤b+1:=fun z hz=>by
      rcases ce hz with h1 | h1
      · exact Nat.le_succ_of_le (h z h1)
      · rw [h1, b5]
        show _+1≤b+1
        cases hc:c[i]? with
        | none=>exact Nat.succ_le_succ (aU b)
        | some x=>exact Nat.succ_le_succ (h x (aj hc))
    have:=QcP (i+1) _ vs h2 z hz
    rw[ax]; omega
theorem Qff {n:Nat}{arcs:List DAr}(hr:∀a∈arcs,InR n a):∀{f k b:Nat} {c d:List ByteArray},goS n arcs f k c=some d→(∀z∈c,z.size≤b)→∀z∈d,z.size≤b+n*f
  | 0,_,b,c,d,h,hb=>by rw[goS] at h; cases h; exact hb
  | f+1,k,b,c,d,h,hb=>fun z hz=>by
    rw[goS] at h
    split at h
    · have h1 := Qff hr h (QcP 0 c _ hb) z hz
      have h2:=QlR hr (k:Int)
      rw[Nat.mul_add]; omega
    · cases h
section
variable [∀s,Decidable (StgOk s)]{s:QP}
theorem QcH (h:(sgV s).2=true):∀z∈(sgV s).1.2.1,z.size≤2400:=by
  unfold sgV at h ⊢
  split at h
  · rename_i h1
    rw[if_pos h1]
    obtain ⟨hs,hN1,hN2,_,hM,hL⟩:=ZF h1.1
    split at h
    · rename_i c hg
      intro z hz
      have h2:=Qff (Wf hM) hg (b:=0) (fun z hz=>by rw[cN hz]; exact aQ _) z hz
      have h3:=hs.sigs.2.2
      have h4:(Qi s).1.1.length*s.2.1.length≤300*8:=d9 (by omega) h3
      omega
    · cases h
  · cases h
theorem QlU:(sgV (Qo ⟨#[97]⟩ ⟨#[98]⟩ ⟨#[]⟩ ⟨#[97,43,62,98,43,32,98,43,62,97,45,32,97,45,62,98,45,32,42,98,45,62,97,43]⟩)).2=true:=by rw[Qo5]; exact Qp1
end
theorem UK (code:List UInt8)(at_:Int)(sd:Int)[∀s,Decidable (StgOk s)][∀s,Decidable (YA s)](ha:0≤at_∧at_≤800000000):FC Tryz.prog 190 [(false,[.ptr 0 0])] [bx 0 119 [.dat (.sl 5 .u8) code,dI at_, .val (.int .u64 sd)]] 1 (Ex (fun x:DSg×Int×Int=>((1≤x.1.2.1.length∧x.1.2.1.length≤300)∧x.1.1.length≤8∧∀z∈x.1.2.1,ByteArray.size z≤2400)∧(at_≤x.2.1∧x.2.1≤at_+80)) (fun x:DSg×Int×Int=>ag [.ref 1, .ref 2, .ref 3]) (fun x:DSg×Int×Int=>[bx 0 119 [.dat (.sl 5 .u8) code,dI x.2.1, .val (.int .u64 x.2.2)],ar 1 44 (.pr .str .int) x.1.1,ar 2 9 .str x.1.2.1,ar 3 46 (.pr .int (.pr .int (.pr .bool .int))) x.1.2.2])):=by
 refine Qn Tryz.func190 rfl rfl Tryz.ntmps190 fun O_ hO w0_ N0_ X_ h0_ f0_=> ?_
 refine w_ ?_
 refine lc (xal 1 (.pr (.sl 44 (.pr .str .int)) (.pr (.sl 9 .str) (.sl 46 (.pr .int (.pr .int (.pr .bool .int)))))) Z2) ?_
 iterate 6 refine w_ ?_
 refine QK (fun m_ s_=>∃(k:Nat) (a_:Int) (sd_:Int),k≤4∧m_=4 - k∧(at_≤a_∧a_≤at_+20*k)∧s_=⟨[(0,lP 0 0),(2,lP 1 0),(3,lI (k:Int))],[bx 0 119 [.dat (.sl 5 .u8) code,dI a_, .val (.int .u64 sd_)],bx 1 27 [.val (.slice none 0 0), .val (.slice none 0 0), .val (.slice none 0 0)]]⟩) ⟨0,at_,sd,aU _,rfl,by omega,rfl⟩ ?_ ?_
 · exact Wk.of [] rfl ⟨rfl,rfl,rfl,trivial⟩ ⟨rfl,rfl,trivial⟩ rfl rfl
 rintro m_ s_ ⟨k,a_,sd_,hk1,hm2,hb,rfl⟩
 iterate 5 refine w_ ?_
 cases hb3:(decide ((k:Int) < 4))
 ·have hb3':=ae hb3
  refine w_ ?_
  refine Qh ?_
  refine (?_:AC _ _ _ _ _)
  refine w_ ?_
  refine lc (dG 2 (Qz (⟨#[97]⟩:ByteArray) (⟨#[98]⟩:ByteArray) (⟨#[]⟩:ByteArray) (⟨#[97,43,62,98,43,32,98,43,62,97,45,32,97,45,62,98,45,32,42,98,45,62,97,43]⟩:ByteArray) (by decide+kernel) (by decide+kernel)) QX) ?_
  refine lc (XF 5 (QT (Qo (⟨#[97]⟩:ByteArray) (⟨#[98]⟩:ByteArray) (⟨#[]⟩:ByteArray) (⟨#[97,43,62,98,43,32,98,43,62,97,45,32,97,45,62,98,45,32,42,98,45,62,97,43]⟩:ByteArray))) YY ⟨_,_,rfl,(U0 (Ql rfl) ⟨_,_,rfl, .inl rfl,⟨_,_,rfl, .inr ⟨_,_,_,_,rfl,rfl,rfl⟩,⟨_,_,rfl, .inr ⟨_,_,_,_,rfl,rfl,rfl⟩,⟨_,_,rfl, .inr ⟨_,_,_,_,rfl,rfl,rfl⟩,⟨_,_,rfl, .inl rfl,rfl⟩⟩⟩⟩⟩),rfl⟩ rfl rfl rfl ⟨Fresh.of rfl,Fresh.of rfl,Fresh.of rfl,trivial⟩ (nlr rfl)) ?_
  iterate 3 refine w_ ?_
  refine lc (xal 8 (.pr (.sl 44 (.pr .str .int)) (.pr (.sl 9 .str) (.sl 46 (.pr .int (.pr .int (.pr .bool .int)))))) Z2) ?_
  iterate 7 refine w_ ?_
  refine Qb ?_
  subst hO
  refine QR (x:=((((sgV (Qo (⟨#[97]⟩:ByteArray) (⟨#[98]⟩:ByteArray) (⟨#[]⟩:ByteArray) (⟨#[97,43,62,98,43,32,98,43,62,97,45,32,97,45,62,98,45,32,42,98,45,62,97,43]⟩:ByteArray))).1).1,(((sgV (Qo (⟨#[97]⟩:ByteArray) (⟨#[98]⟩:ByteArray) (⟨#[]⟩:ByteArray) (⟨#[97,43,62,98,43,32,98,43,62,97,45,32,97,45,62,98,45,32,42,98,45,62,97,43]⟩:ByteArray))).1).2.1,((sgV (Qo (⟨#[97]⟩:ByteArray) (⟨#[98]⟩:ByteArray) (⟨#[]⟩:ByteArray) (⟨#[97,43,62,98,43,32,98,43,62,97,45,32,97,45,62,98,45,32,42,98,45,62,97,43]⟩:ByteArray))).1).2.2)),(a_,sd_))) [(0,0),(1,5),(2,6),(3,7)] ?_ (Res.one rfl (QD rfl rfl ZT rfl)) rfl ⟨rfl,rfl,rfl,rfl,trivial⟩ rfl rfl
  exact ⟨⟨(Qa9 QlU).some_,(Qa9 QlU).sig8,QcH QlU⟩,by dsimp only; omega⟩
 ·have hb3':=ab hb3
  iterate 6 refine w_ ?_
  refine ZQ 9 [(0,0)] (Jk code a_ sd_ (by omega)) Qgh e1_ ⟨rfl,trivial⟩ rfl (fun _=>rfl) (fun _=>⟨trivial,(Fresh.of rfl),(Fresh.of rfl),(Fresh.of rfl),trivial⟩) (nlr rfl) fun x4 hx5=>lc (XF 13 (QT x4.1) YY ⟨_,_,rfl,(U0 (Ql rfl) ⟨_,_,rfl, .inl rfl,⟨_,_,rfl, .inr ⟨_,_,_,_,rfl,rfl,rfl⟩,⟨_,_,rfl, .inr ⟨_,_,_,_,rfl,rfl,rfl⟩,⟨_,_,rfl, .inr ⟨_,_,_,_,rfl,rfl,rfl⟩,⟨_,_,rfl, .inl rfl,rfl⟩⟩⟩⟩⟩),rfl⟩ rfl rfl rfl ⟨Fresh.of rfl,Fresh.of rfl,Fresh.of rfl,trivial⟩ (nlr rfl)) ?_
  iterate 3 refine w_ ?_
  refine lc (xal 16 (.pr (.sl 44 (.pr .str .int)) (.pr (.sl 9 .str) (.sl 46 (.pr .int (.pr .int (.pr .bool .int)))))) Z2) ?_
  iterate 6 refine w_ ?_
  cases hb6:((sgV x4.1).2)
  ·refine w_ ?_
   refine AC.skip ?_
   refine (?_:AC _ _ _ _ _)
   iterate 4 refine w_ ?_
   refine Qc<|Zq ⟨k+1,x4.2.1,x4.2.2,by omega,rfl,(by omega),rfl⟩ (by omega) ?_
   exact Wk.of [] rfl ⟨rfl,rfl,rfl,trivial⟩ ⟨rfl,rfl,trivial⟩ rfl rfl
  ·iterate 5 refine w_ ?_
   refine Qb ?_
   subst hO
   refine QR (x:=((((sgV x4.1).1).1,(((sgV x4.1).1).2.1,((sgV x4.1).1).2.2)),(x4.2.1,x4.2.2))) [(0,0),(1,13),(2,14),(3,15)] ?_ (Res.one rfl (QD rfl rfl ZT rfl)) rfl ⟨rfl,rfl,rfl,rfl,trivial⟩ rfl rfl
   exact ⟨⟨(Qa9 (by assumption)).some_,(Qa9 (by assumption)).sig8,QcH (by assumption)⟩,by dsimp only; omega⟩
theorem Vm (code:List UInt8)(at_:Int)(sd:Int)[∀s,Decidable (StgOk s)][∀s,Decidable (YA s)](ha:0≤at_∧at_≤700000000):FC Tryz.prog 86 [(false,[.ptr 0 0])] [bx 0 119 [.dat (.sl 5 .u8) code,dI at_, .val (.int .u64 sd)]] 1 (Ex (fun x:DSg×Int×Int=>x.1.1.length≤8∧x.1.2.1.length≤301∧(at_≤x.2.1∧x.2.1≤at_+120)) (fun x:DSg×Int×Int=>ag [.dat (.sl 44 (.pr .str .int)) x.1.1, .dat (.sl 9 .str) x.1.2.1, .dat (.sl 46 (.pr .int (.pr .int (.pr .bool .int)))) x.1.2.2]) (fun x:DSg×Int×Int=>[bx 0 119 [.dat (.sl 5 .u8) code,dI x.2.1, .val (.int .u64 x.2.2)]])):=by
 refine Qn Tryz.func86 rfl rfl Tryz.ntmps86 fun O_ hO w0_ N0_ X_ h0_ f0_=> ?_
 refine w_ ?_
 refine lc (xal 1 (.pr (.sl 44 (.pr .str .int)) (.pr (.sl 9 .str) (.sl 46 (.pr .int (.pr .int (.pr .bool .int)))))) Z2) ?_
 iterate 3 refine w_ ?_
 refine ZQ 2 [(0,0)] (UK code at_ sd (by omega)) Qgr e1_ ⟨rfl,trivial⟩ rfl (fun _=>rfl) (fun _=>⟨trivial,(Fresh.of rfl),(Fresh.of rfl),(Fresh.of rfl),trivial⟩) (nlr rfl) fun x1 hx2=>lc (xal 6 (.pr (.sl 44 (.pr .str .int)) (.pr (.sl 9 .str) (.sl 46 (.pr .int (.pr .int (.pr .bool .int)))))) Z2) ?_
 iterate 5 refine w_ ?_
 have hp3:=ZA code x1.2.1 x1.2.2 20
 refine lc (dP 7 [] (Qv code x1.2.1 x1.2.2 20 (by omega)) Zg) ?_
 iterate 6 refine w_ ?_
 refine cd_ (fun hb4 hb4'=> ?_) fun hb4 hb4'=> ?_
 ·iterate 4 refine w_ ?_
  refine cd_ (fun hb5 hb5'=> ?_) fun hb5 hb5'=> ?_
  ·iterate 4 refine w_ ?_
   refine cd_ (fun hb6 hb6'=> ?_) fun hb6 hb6'=> ?_
   ·iterate 4 refine w_ ?_
    refine cd_ (fun hb7 hb7'=> ?_) fun hb7 hb7'=> ?_
    ·refine AC.skip ?_
     refine (?_:AC _ _ _ _ _)
     refine Zv<|AC.wk (Qy (p:=6) (off:=0) (q:=3) rfl rfl rfl)<|AC.wk (Qy (p:=6) (off:=1) (q:=4) rfl rfl rfl)<|AC.wk (Qy (p:=6) (off:=2) (q:=5) rfl rfl rfl) ?_
     iterate 4 refine w_ ?_
     refine Qb ?_
     subst hO
     refine QR (x:=((x1.1.1,(x1.1.2.1,x1.1.2.2)),((pkA 20 x1.2.1),(pkS code x1.2.1 x1.2.2 20)))) [(0,0)] ?_ (Res.one rfl (QD rfl rfl ZT rfl)) rfl ⟨rfl,trivial⟩ rfl rfl
     (dsimp only; omega)
    ·iterate 6 refine w_ ?_
     refine cd_ (fun hb8 hb8'=> ?_) fun hb8 hb8'=> ?_
     ·refine AC.skip ?_
      refine (?_:AC _ _ _ _ _)
      refine Zv<|AC.wk (Qy (p:=6) (off:=0) (q:=3) rfl rfl rfl)<|AC.wk (Qy (p:=6) (off:=1) (q:=4) rfl rfl rfl)<|AC.wk (Qy (p:=6) (off:=2) (q:=5) rfl rfl rfl) ?_
      iterate 4 refine w_ ?_
      refine Qb ?_
      subst hO
      refine QR (x:=((x1.1.1,(x1.1.2.1,x1.1.2.2)),((pkA 20 x1.2.1),(pkS code x1.2.1 x1.2.2 20)))) [(0,0)] ?_ (Res.one rfl (QD rfl rfl ZT rfl)) rfl ⟨rfl,trivial⟩ rfl rfl
      (dsimp only; omega)
     ·obtain ⟨x9,hx10⟩:∃z,x1.1.2.2[0]? =some z:=⟨_,aa (by omega)⟩
      apply dV (i4 49 _ _ _ _ [io 53 (lf (.ept 5 4 0 0)),io 54 (lf (.ept 5 4 0 2)),io 55 (lB x9.2.2.1),io 56 _,io 57 (lf (.ept 5 4 0 0)),io 58 (lf (.ept 5 4 0 2)),⟨none,lf (.val undef),[ar 5 46 (.pr .int (.pr .int (.pr .bool .int))) (x1.1.2.2.set 0 (x9.1,x9.2.1, !x9.2.2.1,x9.2.2.2))]⟩]) [0,0,3,3,3,3,3,3,0,0,0]
      iterate 4 refine z_ ?_
      refine zz (fun _ h_=>ac (QF (e:=(.pr .int (.pr .int (.pr .bool .int)))) (h_.v rfl) (h_.en 5 rfl) (Qk rfl) Qhc Qg3 rfl (by omega) (by first | omega | (simp only[ay]; omega))) rfl)<|zz (fun _ h_=>ac (Z9 (h_.v rfl) Qfe (by rw[(h_.en 5 rfl)]; rfl) rfl) rfl)<|zz (fun _ h_=>ac (Q4 (e:=(.pr .int (.pr .int (.pr .bool .int)))) (h_.v rfl) (h_.n 5 rfl) hx10 rfl XO rfl rfl) rfl) ?_
      refine z_ ?_
      refine zz (fun _ h_=>ac (QF (e:=(.pr .int (.pr .int (.pr .bool .int)))) (h_.v rfl) (h_.en 5 rfl) (Qk rfl) Qhc Qg3 rfl (by omega) (by first | omega | (simp only[ay]; omega))) rfl)<|zz (fun _ h_=>ac (Z9 (h_.v rfl) Qfe (by rw[(h_.en 5 rfl)]; rfl) rfl) rfl)<|zz (fun _ h_=>ac (Qp (e:=(.pr .int (.pr .int (.pr .bool .int)))) (z':=(x9.1,x9.2.1, !x9.2.2.1,x9.2.2.2)) (h_.v rfl) (h_.n 5 rfl) hx10 rfl (h_.w rfl) rfl XO rfl rfl) rfl) ?_
      exact zN
      refine (?_:AC _ _ _ _ _)
      refine Zv<|AC.wk (Qy (p:=6) (off:=0) (q:=3) rfl rfl rfl)<|AC.wk (Qy (p:=6) (off:=1) (q:=4) rfl rfl rfl)<|AC.wk (Qy (p:=6) (off:=2) (q:=5) rfl rfl rfl) ?_
      iterate 4 refine w_ ?_
      refine Qb ?_
      subst hO
      refine QR (x:=((x1.1.1,(x1.1.2.1,x1.1.2.2.set 0 (x9.1,x9.2.1, !x9.2.2.1,x9.2.2.2))),((pkA 20 x1.2.1),(pkS code x1.2.1 x1.2.2 20)))) [(0,0)] ?_ (Res.one rfl (QD rfl rfl ZT rfl)) rfl ⟨rfl,trivial⟩ rfl rfl
      (dsimp only; omega)
   ·obtain ⟨x11,hx12⟩:∃z,x1.1.2.1[0]? =some z:=⟨_,aa (by omega)⟩
    apply dV (i4 34 _ _ _ _ [io 38 (lf (.ept 4 1 0 0)),io 39 (lf (dS x11)),⟨some 40,lR 8,[ar 8 9 .str ([x11])]⟩,⟨some 41,lR 9,[ar 9 9 .str (x1.1.2.1++([x11])),(4,none),(8,none)]⟩,io 42 _,⟨none,lf (.val undef),[bx 6 27 [.ref 3, .ref 9, .ref 5]]⟩]) [0,0,3,3,3,3,3,0,0,0]
    iterate 4 refine z_ ?_
    refine zz (fun _ h_=>ac (QF (e:= .str) (h_.v rfl) (h_.en 4 rfl) (Qk rfl) J5 VL rfl (by omega) (by first | omega | (simp only[ay]; omega))) rfl)<|zz (fun _ h_=>ac (Q4 (e:= .str) (h_.v rfl) (h_.n 4 rfl) hx12 rfl VL rfl rfl) rfl) ?_
    refine zz (fun _ h_=>ac (dBs 8 (e:= .str) Hd) rfl) ?_
    refine zz (fun _ h_=>ac (dA 9 QcR (hb:=by (simp only[ax,aK]; omega))) rfl) ?_
    refine z_ ?_
    refine zz (fun _ h_=>ac (ZE (h_.v rfl) (h_.en 6 rfl) (h_.w rfl) (by simp only[Zb,UT,bt,co]; rw[(h_.en 9 rfl)]; rfl) Qo9 rfl) rfl) ?_
    exact zN
    refine (?_:AC _ _ _ _ _)
    refine Zv<|AC.wk (Qy (p:=6) (off:=0) (q:=3) rfl rfl rfl)<|AC.wk (Qy (p:=6) (off:=1) (q:=9) rfl rfl rfl)<|AC.wk (Qy (p:=6) (off:=2) (q:=5) rfl rfl rfl) ?_
    iterate 4 refine w_ ?_
    refine Qb ?_
    subst hO
    refine QR (x:=((x1.1.1,(x1.1.2.1++([x11]),x1.1.2.2)),((pkA 20 x1.2.1),(pkS code x1.2.1 x1.2.2 20)))) [(0,0)] ?_ (Res.one rfl (QD rfl rfl ZT rfl)) rfl ⟨rfl,trivial⟩ rfl rfl
    (dsimp only; simp only[ao,ay,ax,aK]; omega)
  ·iterate 6 refine w_ ?_
   refine cd_ (fun hb13 hb13'=> ?_) fun hb13 hb13'=> ?_
   ·refine AC.skip ?_
    refine (?_:AC _ _ _ _ _)
    refine Zv<|AC.wk (Qy (p:=6) (off:=0) (q:=3) rfl rfl rfl)<|AC.wk (Qy (p:=6) (off:=1) (q:=4) rfl rfl rfl)<|AC.wk (Qy (p:=6) (off:=2) (q:=5) rfl rfl rfl) ?_
    iterate 4 refine w_ ?_
    refine Qb ?_
    subst hO
    refine QR (x:=((x1.1.1,(x1.1.2.1,x1.1.2.2)),((pkA 20 x1.2.1),(pkS code x1.2.1 x1.2.2 20)))) [(0,0)] ?_ (Res.one rfl (QD rfl rfl ZT rfl)) rfl ⟨rfl,trivial⟩ rfl rfl
    (dsimp only; omega)
   ·have hp14:=ZA code (pkA 20 x1.2.1) (pkS code x1.2.1 x1.2.2 20) 9
    obtain ⟨x15,hx16⟩:∃z,x1.1.2.2[0]? =some z:=⟨_,aa (by omega)⟩
    apply dV (i3 25 _ _ _ [⟨some 28,lI (pkV code (pkA 20 x1.2.1) (pkS code x1.2.1 x1.2.2 20) 9),[bx 0 119 [.dat (.sl 5 .u8) code,dI (pkA 9 (pkA 20 x1.2.1)), .val (.int .u64 (pkS code (pkA 20 x1.2.1) (pkS code x1.2.1 x1.2.2 20) 9))],(0,none)]⟩,io 29 _,io 30 (lf (.ept 5 4 0 0)),io 31 (lf (.ept 5 4 0 3)),⟨none,lf (.val undef),[ar 5 46 (.pr .int (.pr .int (.pr .bool .int))) (x1.1.2.2.set 0 (x15.1,x15.2.1,x15.2.2.1,(pkV code (pkA 20 x1.2.1) (pkS code x1.2.1 x1.2.2 20) 9) - 1))]⟩]) [0,0,3,3,3,0,0,0]
    iterate 3 refine z_ ?_
    refine zz (fun _ h_=>ac (dP 10 [] (Qv code (pkA 20 x1.2.1) (pkS code x1.2.1 x1.2.2 20) 9 (by omega)) Zg) rfl) ?_
    refine z_ ?_
    refine zz (fun _ h_=>ac (QF (e:=(.pr .int (.pr .int (.pr .bool .int)))) (h_.v rfl) (h_.en 5 rfl) (Qk rfl) Qhc Qg3 rfl (by omega) (by first | omega | (simp only[ay]; omega))) rfl)<|zz (fun _ h_=>ac (Z9 (h_.v rfl) QmU (by rw[(h_.en 5 rfl)]; rfl) rfl) rfl)<|zz (fun _ h_=>ac (Qp (e:=(.pr .int (.pr .int (.pr .bool .int)))) (z':=(x15.1,x15.2.1,x15.2.2.1,(pkV code (pkA 20 x1.2.1) (pkS code x1.2.1 x1.2.2 20) 9) - 1)) (h_.v rfl) (h_.n 5 rfl) hx16 rfl (h_.w rfl) rfl Zn rfl rfl) rfl) ?_
    exact zN
    refine (?_:AC _ _ _ _ _)
    refine Zv<|AC.wk (Qy (p:=6) (off:=0) (q:=3) rfl rfl rfl)<|AC.wk (Qy (p:=6) (off:=1) (q:=4) rfl rfl rfl)<|AC.wk (Qy (p:=6) (off:=2) (q:=5) rfl rfl rfl) ?_
    iterate 4 refine w_ ?_
    refine Qb ?_
    subst hO
    refine QR (x:=((x1.1.1,(x1.1.2.1,x1.1.2.2.set 0 (x15.1,x15.2.1,x15.2.2.1,(pkV code (pkA 20 x1.2.1) (pkS code x1.2.1 x1.2.2 20) 9) - 1))),((pkA 9 (pkA 20 x1.2.1)),(pkS code (pkA 20 x1.2.1) (pkS code x1.2.1 x1.2.2 20) 9)))) [(0,0)] ?_ (Res.one rfl (QD rfl rfl ZT rfl)) rfl ⟨rfl,trivial⟩ rfl rfl
    (dsimp only; omega)
 ·obtain ⟨x17,hx18⟩:∃z,x1.1.2.1[0]? =some z:=⟨_,aa (by omega)⟩
  have hp19:=QpG code (⟨#[48,49,50]⟩:ByteArray) x17 (pkA 20 x1.2.1) (pkS code x1.2.1 x1.2.2 20)
  apply dV (i5 10 _ _ _ _ _ [io 15 (lf (.ept 4 1 0 0)),io 16 (lf (dS x17)),⟨some 17,lf (dS ((spV code (⟨#[48,49,50]⟩:ByteArray) x17 (pkA 20 x1.2.1) (pkS code x1.2.1 x1.2.2 20)).1)),[bx 0 119 [.dat (.sl 5 .u8) code,dI ((spV code (⟨#[48,49,50]⟩:ByteArray) x17 (pkA 20 x1.2.1) (pkS code x1.2.1 x1.2.2 20)).2.1), .val (.int .u64 ((spV code (⟨#[48,49,50]⟩:ByteArray) x17 (pkA 20 x1.2.1) (pkS code x1.2.1 x1.2.2 20)).2.2))],(0,none)]⟩,io 18 (lf (.ept 4 1 0 0)),⟨none,lf (.val undef),[ar 4 9 .str (x1.1.2.1.set 0 ((spV code (⟨#[48,49,50]⟩:ByteArray) x17 (pkA 20 x1.2.1) (pkS code x1.2.1 x1.2.2 20)).1))]⟩]) [0,0,3,7,7,7,7,3,0,0]
  iterate 5 refine z_ ?_
  refine zz (fun _ h_=>ac (QF (e:= .str) (h_.v rfl) (h_.en 4 rfl) (Qk rfl) J5 VL rfl (by omega) (by first | omega | (simp only[ay]; omega))) rfl)<|zz (fun _ h_=>ac (Q4 (e:= .str) (h_.v rfl) (h_.n 4 rfl) hx18 rfl VL rfl rfl) rfl) ?_
  refine zz (fun _ h_=>ac (dP 11 [] (Ua code (pkA 20 x1.2.1) (pkS code x1.2.1 x1.2.2 20) x17 (⟨#[48,49,50]⟩:ByteArray) (by omega) (by have h_:=‹(_∧_∧∀z∈_,ByteArray.size z≤2400)∧_›; have h2_:=h_.1.2.2 _ (aj (by assumption)); exact ⟨by omega,by decide⟩)) QhU) rfl) ?_
  refine zz (fun _ h_=>ac (QF (e:= .str) (h_.v rfl) (h_.en 4 rfl) (Qk rfl) J5 VL rfl (by omega) (by first | omega | (simp only[ay]; omega))) rfl)<|zz (fun _ h_=>ac (Qp (e:= .str) (z':=(spV code (⟨#[48,49,50]⟩:ByteArray) x17 (pkA 20 x1.2.1) (pkS code x1.2.1 x1.2.2 20)).1) (h_.v rfl) (h_.n 4 rfl) hx18 rfl (h_.w rfl) rfl VL rfl rfl) rfl) ?_
  exact zN
  refine (?_:AC _ _ _ _ _)
  refine Zv<|AC.wk (Qy (p:=6) (off:=0) (q:=3) rfl rfl rfl)<|AC.wk (Qy (p:=6) (off:=1) (q:=4) rfl rfl rfl)<|AC.wk (Qy (p:=6) (off:=2) (q:=5) rfl rfl rfl) ?_
  iterate 4 refine w_ ?_
  refine Qb ?_
  subst hO
  refine QR (x:=((x1.1.1,(x1.1.2.1.set 0 ((spV code (⟨#[48,49,50]⟩:ByteArray) x17 (pkA 20 x1.2.1) (pkS code x1.2.1 x1.2.2 20)).1),x1.1.2.2)),(((spV code (⟨#[48,49,50]⟩:ByteArray) x17 (pkA 20 x1.2.1) (pkS code x1.2.1 x1.2.2 20)).2.1),((spV code (⟨#[48,49,50]⟩:ByteArray) x17 (pkA 20 x1.2.1) (pkS code x1.2.1 x1.2.2 20)).2.2)))) [(0,0)] ?_ (Res.one rfl (QD rfl rfl ZT rfl)) rfl ⟨rfl,trivial⟩ rfl rfl
  (dsimp only; simp only[ao,ay,ax,aK]; omega)
end Go.Proofs.YtgpdhgadmjfokaaGreat
