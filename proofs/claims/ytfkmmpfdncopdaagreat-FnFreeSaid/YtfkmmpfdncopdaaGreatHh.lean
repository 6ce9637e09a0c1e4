/- Walks over abstract states: next-state sets and values, both sides; covers at a code (second part). -/
import Derived.Test.YtfkmmpfdncopdaaGreatHf
set_option linter.unusedSimpArgs false
set_option linter.unusedVariables false
set_option linter.unusedSectionVars false
namespace Go.Proofs.YtfkmmpfdncopdaaGreat
open Go.RowKit
set_option maxRecDepth 100000
set_option maxHeartbeats 4000000
section
variable {c:DSg}{k:Nat}{w way code:ByteArray}{u:UInt8}{sig q n:Int}{l:List ByteArray}
def Y4 (c:DSg)(sig:Int)(way:ByteArray):DOn:=QeP c (wOn c sig way) (wOf c sig way)
def Yf (c:DSg)(sig:Int)(way:ByteArray):Prop:=(SgOk c∧(0≤sig∧sig≤(c.1.length:Int) - 1)∧WZ c sig=false)∧XM c (wOn c sig way) (wOf c sig way)
instance [∀c,Decidable (SgOk c)] (c:DSg) (sig:Int) (way:ByteArray):Decidable (Yf c sig way):=inferInstanceAs (Decidable (_∧_))
abbrev QT:ByteArray:=⟨#[110,101,120,116]⟩
theorem KM:(wOn c sig QT)=(fun q=>nsB c sig q)∧(wOf c sig QT)=(fun q=> !(nsB c sig q)):=by
  have h1:¬QT=(⟨#[100,111,119,110]⟩:ByteArray):=by decide
  have h2:¬QT=(⟨#[117,112]⟩:ByteArray):=by decide
  constructor <;> funext q <;> simp only[wOn,wOf,VX,if_neg h1,if_neg h2,nsB] <;> cases Xa c q sig <;> cases decide (bAt (Xq c q) sig=49) <;> rfl
theorem Qiv:Y4 c sig QT=QeP c (fun q=>nsB c sig q) (fun q=> !(nsB c sig q)):=by unfold Y4; rw[KM.1,KM.2]
theorem HJ:XM c (wOn c sig QT) (wOf c sig QT)↔XM c (fun q=>nsB c sig q) (fun q=> !(nsB c sig q)):=by rw[KM.1,KM.2]
end
theorem Hn (c:(List (ByteArray×Int))×List ByteArray×(List (Int×Int×Bool×Int)))(sig:Int)(way:ByteArray)(hs:SgOk c)(hg:0≤sig∧sig≤(c.1.length:Int) - 1):FC Tryz.prog 177 [(true,[.dat (.sl 203 (.pr .str .int)) c.1, .dat (.sl 9 .str) c.2.1, .dat (.sl 136 (.pr .int (.pr .int (.pr .bool .int)))) c.2.2]),(false,[dI sig]),(false,[dS way])] [] 0 (QU (ag [.dat (.sl 9 .str) ((Y4 c sig way).1), .dat (.sl 9 .str) ((Y4 c sig way).2)])):=by
 have hn3:=hs.some_
 have hfw:=hs.few
 have h8:=hs.sigs.2.2
 refine Qj Tryz.func177 rfl rfl Tryz.ntmps177 fun O_ hO w0_ N0_ X_ h0_ f0_=> ?_
 refine acI 1 fun hi1=> ?_
 refine w_ ?_
 refine xbx 0 ?_
 refine lc (xal 1 (.pr (.sl 9 .str) (.sl 9 .str)) Z2) ?_
 iterate 2 refine w_ ?_
 refine lc (xal 2 (.pr (.sl 9 .str) (.sl 9 .str)) Z2) ?_
 iterate 5 refine w_ ?_
 refine alL 15 fun hl2=> ?_
 iterate 4 refine w_ ?_
 refine AC.wk (Qaf (p:=2) [.dat (.sl 9 .str) ([]), .val (.slice none 0 0)] rfl ⟨_,_,rfl, .inr ⟨_,_,rfl,rfl⟩,⟨_,_,rfl, .inl rfl,rfl⟩⟩)<|AC.wk (Qaf (p:=2) [.dat (.sl 9 .str) ([]), .dat (.sl 9 .str) ([])] rfl ⟨_,_,rfl, .inl rfl,⟨_,_,rfl, .inr ⟨_,_,rfl,rfl⟩,rfl⟩⟩) ?_
 refine QE (fun m_ s_=>∃(k:Nat) (o1:List ByteArray) (o2:List ByteArray),k≤c.2.1.length∧m_=c.2.1.length - k∧(o1=ofG ltB (pkL c (wOn c sig way) k))∧(o2=ofG ltB (pkL c (wOf c sig way) k))∧s_=⟨[(1,lI sig),(2,lf (dS way)),(3,lP 0 0),(6,lP 1 0),(7,lP 2 0),(15,lf (.dat (.sl 9 .str) c.2.1)),(16,lI (c.2.1.length:Int)),(17,lI (k:Int))],[bx 0 28 [.dat (.sl 203 (.pr .str .int)) c.1, .dat (.sl 9 .str) c.2.1, .dat (.sl 136 (.pr .int (.pr .int (.pr .bool .int)))) c.2.2],bx 1 47 [.val (.slice none 0 0), .val (.slice none 0 0)],bx 2 47 [.dat (.sl 9 .str) o1, .dat (.sl 9 .str) o2]]⟩) ⟨0,([]:((.sl 9 .str):Ty).Den),([]:((.sl 9 .str):Ty).Den),aS _,rfl,rfl,rfl,rfl⟩ ?_ ?_
 · exact Wk.of [] rfl ⟨rfl,rfl,rfl,rfl,rfl,rfl,rfl,rfl,trivial⟩ ⟨rfl,rfl,rfl,trivial⟩ rfl rfl
 rintro m_ s_ ⟨k,o1,o2,hk3,hm4,hO1,hO2,rfl⟩
 have h1l:o1.length≤k:=by rw[hO1]; exact QhD
 have h2l:o2.length≤k:=by rw[hO2]; exact QhD
 iterate 4 refine w_ ?_
 cases hb5:(decide ((k:Int) < (c.2.1.length:Int)))
 ·have hb5':=ab hb5
  refine w_ ?_
  refine Qi ?_
  refine (?_:AC _ _ _ _ _)
  iterate 4 refine w_ ?_
  refine Qb ?_
  have e6:(o1:((.sl 9 .str):Ty).Den)=((Y4 c sig way).1):=by
   (rw[hO1,show k=c.2.1.length by omega]; rfl)
  have e7:(o2:((.sl 9 .str):Ty).Den)=((Y4 c sig way).2):=by
   (rw[hO2,show k=c.2.1.length by omega]; rfl)
  exact fr_ hO (e:=((congrArg (fun z_=>ag [.dat (.sl 9 .str) z_, .dat (.sl 9 .str) o2]) e6)).trans (congrArg (fun z_=>ag [.dat (.sl 9 .str) ((Y4 c sig way).1), .dat (.sl 9 .str) z_]) e7))
 ·have hb5':=ae hb5
  iterate 6 refine w_ ?_
  obtain ⟨w,hx9⟩:∃z,c.2.1[k]? =some z:=⟨_,aa (by omega)⟩
  have hw:=hx9
  have hws:=(hs.codes _ (ao hx9)).2
  iterate 5 refine w_ ?_
  obtain ⟨u,hc11⟩:∃z,w[(sig).toNat]? =some z:=⟨_,b5 _ _ (by omega)⟩
  have hbit:decide (bAt (Xq c (k:Int)) sig=49)=decide (u=49):=by rw[XC hw,Q3 hc11]
  apply dW (i3 22 _ _ _ (io 25 (lB (decide (u=49))) :: i3 26 _ _ _ (io 29 (lB (Xa c (k:Int) sig)) :: i2 10 _ _ []))) [0,1,0,0,15,31,63,15,0,0]
  iterate 3 refine z_ ?_
  refine zz (fun _ h_=>ac (Zw (h_.v rfl) (QK 49 rfl) rfl) rfl) ?_
  iterate 3 refine z_ ?_
  refine zz (fun _ h_=>ac (dK (KS c (k:Int) sig) Qfi) rfl) ?_
  iterate 2 refine z_ ?_
  exact zN
  iterate 3 refine w_ ?_
  refine lc (ZI (Qa rfl) (Qa rfl) rfl Zc) ?_
  iterate 2 refine w_ ?_
  refine lc (QG (Qa rfl) (Qa rfl) rfl Zc) ?_
  iterate 8 refine w_ ?_
  cases hb12:(decide (way=(⟨#[117,112]⟩:ByteArray)))
  ·have hb12':=ab hb12
   iterate 7 refine w_ ?_
   cases hb13:(decide (way=(⟨#[100,111,119,110]⟩:ByteArray)))
   ·have hb13':=ab hb13
    iterate 3 refine w_ ?_
    refine Zl ?_
    have hon:wOn c sig way (k:Int)=(!((Xa c (k:Int) sig)==(decide (u=49)))):=by first | exact absurd ((by assumption:way=⟨#[117,112]⟩).symm.trans (by assumption:way=⟨#[100,111,119,110]⟩)) (by decide) | (simp only[wOn,wOf,VX,hbit]; simp[*]; done)
    have hof:wOf c sig way (k:Int)=((Xa c (k:Int) sig)==(decide (u=49))):=by first | exact absurd ((by assumption:way=⟨#[117,112]⟩).symm.trans (by assumption:way=⟨#[100,111,119,110]⟩)) (by decide) | (simp only[wOn,wOf,VX,hbit]; simp[*]; done)
    iterate 3 refine w_ ?_
    cases hb14:((Xa c (k:Int) sig)==(decide (u=49)))
    ·iterate 5 refine w_ ?_
     refine lc (dK (QQ o1 w (by omega) (by first | (rw[hO1]; exact QY QZ _) | (rw[hO2]; exact QY QZ _))) Zu) ?_
     iterate 7 refine w_ ?_
     refine AC.skip ?_
     refine (?_:AC _ _ _ _ _)
     iterate 3 refine w_ ?_
     refine Qd<|Q5 ⟨k+1,(Q2 ltB w o1),o2,by omega,rfl,(by rw[hO1]; first | exact absurd (by assumption:(true==true)=false) (by decide) | exact absurd (by assumption:(false==false)=false) (by decide) | exact absurd (by assumption:(true==false)=true) (by decide) | exact absurd (by assumption:(false==true)=true) (by decide) | exact Zm hw (by rw[hon]; first | done | (simp[*]; done)) | exact Zo (by rw[hon]; first | done | (simp[*]; done))),(by rw[hO2]; first | exact absurd (by assumption:(true==true)=false) (by decide) | exact absurd (by assumption:(false==false)=false) (by decide) | exact absurd (by assumption:(true==false)=true) (by decide) | exact absurd (by assumption:(false==true)=true) (by decide) | exact Zm hw (by rw[hof]; first | done | (simp[*]; done)) | exact Zo (by rw[hof]; first | done | (simp[*]; done))),rfl⟩ (by omega) ?_
     exact Wk.of [] rfl ⟨rfl,rfl,rfl,rfl,rfl,rfl,rfl,rfl,trivial⟩ ⟨rfl,rfl,rfl,trivial⟩ rfl rfl
    ·iterate 10 refine w_ ?_
     refine lc (dK (QQ o2 w (by omega) (by first | (rw[hO1]; exact QY QZ _) | (rw[hO2]; exact QY QZ _))) Zu) ?_
     iterate 2 refine w_ ?_
     refine Qd ?_
     refine (?_:AC _ _ _ _ _)
     iterate 3 refine w_ ?_
     refine Qd<|Q5 ⟨k+1,o1,(Q2 ltB w o2),by omega,rfl,(by rw[hO1]; first | exact absurd (by assumption:(true==true)=false) (by decide) | exact absurd (by assumption:(false==false)=false) (by decide) | exact absurd (by assumption:(true==false)=true) (by decide) | exact absurd (by assumption:(false==true)=true) (by decide) | exact Zm hw (by rw[hon]; first | done | (simp[*]; done)) | exact Zo (by rw[hon]; first | done | (simp[*]; done))),(by rw[hO2]; first | exact absurd (by assumption:(true==true)=false) (by decide) | exact absurd (by assumption:(false==false)=false) (by decide) | exact absurd (by assumption:(true==false)=true) (by decide) | exact absurd (by assumption:(false==true)=true) (by decide) | exact Zm hw (by rw[hof]; first | done | (simp[*]; done)) | exact Zo (by rw[hof]; first | done | (simp[*]; done))),rfl⟩ (by omega) ?_
     exact Wk.of [] rfl ⟨rfl,rfl,rfl,rfl,rfl,rfl,rfl,rfl,trivial⟩ ⟨rfl,rfl,rfl,trivial⟩ rfl rfl
   ·have hb13':=ae hb13
    iterate 4 refine w_ ?_
    cases hb15:(Xa c (k:Int) sig)
    ·iterate 4 refine w_ ?_
     refine lc (ZI (Qa rfl) (Qa rfl) rfl Zc) ?_
     iterate 4 refine w_ ?_
     refine Zl ?_
     have hon:wOn c sig way (k:Int)=(false):=by first | exact absurd ((by assumption:way=⟨#[117,112]⟩).symm.trans (by assumption:way=⟨#[100,111,119,110]⟩)) (by decide) | (simp only[wOn,wOf,VX,hbit]; simp[*]; done)
     have hof:wOf c sig way (k:Int)=(!(false==(decide (u=49)))):=by first | exact absurd ((by assumption:way=⟨#[117,112]⟩).symm.trans (by assumption:way=⟨#[100,111,119,110]⟩)) (by decide) | (simp only[wOn,wOf,VX,hbit]; simp[*]; done)
     iterate 8 refine w_ ?_
     cases hb16:(false==(decide (u=49)))
     ·iterate 5 refine w_ ?_
      refine lc (dK (QQ o2 w (by omega) (by first | (rw[hO1]; exact QY QZ _) | (rw[hO2]; exact QY QZ _))) Zu) ?_
      iterate 2 refine w_ ?_
      refine Qd ?_
      refine (?_:AC _ _ _ _ _)
      iterate 3 refine w_ ?_
      refine Qd<|Q5 ⟨k+1,o1,(Q2 ltB w o2),by omega,rfl,(by rw[hO1]; first | exact absurd (by assumption:(true==true)=false) (by decide) | exact absurd (by assumption:(false==false)=false) (by decide) | exact absurd (by assumption:(true==false)=true) (by decide) | exact absurd (by assumption:(false==true)=true) (by decide) | exact Zm hw (by rw[hon]; first | done | (simp[*]; done)) | exact Zo (by rw[hon]; first | done | (simp[*]; done))),(by rw[hO2]; first | exact absurd (by assumption:(true==true)=false) (by decide) | exact absurd (by assumption:(false==false)=false) (by decide) | exact absurd (by assumption:(true==false)=true) (by decide) | exact absurd (by assumption:(false==true)=true) (by decide) | exact Zm hw (by rw[hof]; first | done | (simp[*]; done)) | exact Zo (by rw[hof]; first | done | (simp[*]; done))),rfl⟩ (by omega) ?_
      exact Wk.of [] rfl ⟨rfl,rfl,rfl,rfl,rfl,rfl,rfl,rfl,trivial⟩ ⟨rfl,rfl,rfl,trivial⟩ rfl rfl
     ·refine w_ ?_
      refine AC.skip ?_
      refine (?_:AC _ _ _ _ _)
      iterate 3 refine w_ ?_
      refine Qd<|Q5 ⟨k+1,o1,o2,by omega,rfl,(by rw[hO1]; first | exact absurd (by assumption:(true==true)=false) (by decide) | exact absurd (by assumption:(false==false)=false) (by decide) | exact absurd (by assumption:(true==false)=true) (by decide) | exact absurd (by assumption:(false==true)=true) (by decide) | exact Zm hw (by rw[hon]; first | done | (simp[*]; done)) | exact Zo (by rw[hon]; first | done | (simp[*]; done))),(by rw[hO2]; first | exact absurd (by assumption:(true==true)=false) (by decide) | exact absurd (by assumption:(false==false)=false) (by decide) | exact absurd (by assumption:(true==false)=true) (by decide) | exact absurd (by assumption:(false==true)=true) (by decide) | exact Zm hw (by rw[hof]; first | done | (simp[*]; done)) | exact Zo (by rw[hof]; first | done | (simp[*]; done))),rfl⟩ (by omega) ?_
      exact Wk.of [] rfl ⟨rfl,rfl,rfl,rfl,rfl,rfl,rfl,rfl,trivial⟩ ⟨rfl,rfl,rfl,trivial⟩ rfl rfl
    ·iterate 4 refine w_ ?_
     refine lc (ZI (Qa rfl) (Qa rfl) rfl Zc) ?_
     iterate 4 refine w_ ?_
     refine Zl ?_
     have hon:wOn c sig way (k:Int)=(decide (u=49)):=by first | exact absurd ((by assumption:way=⟨#[117,112]⟩).symm.trans (by assumption:way=⟨#[100,111,119,110]⟩)) (by decide) | (simp only[wOn,wOf,VX,hbit]; simp[*]; done)
     have hof:wOf c sig way (k:Int)=(!(true==(decide (u=49)))):=by first | exact absurd ((by assumption:way=⟨#[117,112]⟩).symm.trans (by assumption:way=⟨#[100,111,119,110]⟩)) (by decide) | (simp only[wOn,wOf,VX,hbit]; simp[*]; done)
     iterate 3 refine w_ ?_
     cases hb17:(decide (u=49))
     ·have hb17':=ab hb17
      iterate 5 refine w_ ?_
      cases hb18:(true==false)
      ·iterate 5 refine w_ ?_
       refine lc (dK (QQ o2 w (by omega) (by first | (rw[hO1]; exact QY QZ _) | (rw[hO2]; exact QY QZ _))) Zu) ?_
       iterate 2 refine w_ ?_
       refine Qd ?_
       refine (?_:AC _ _ _ _ _)
       iterate 3 refine w_ ?_
       refine Qd<|Q5 ⟨k+1,o1,(Q2 ltB w o2),by omega,rfl,(by rw[hO1]; first | exact absurd (by assumption:(true==true)=false) (by decide) | exact absurd (by assumption:(false==false)=false) (by decide) | exact absurd (by assumption:(true==false)=true) (by decide) | exact absurd (by assumption:(false==true)=true) (by decide) | exact Zm hw (by rw[hon]; first | done | (simp[*]; done)) | exact Zo (by rw[hon]; first | done | (simp[*]; done))),(by rw[hO2]; first | exact absurd (by assumption:(true==true)=false) (by decide) | exact absurd (by assumption:(false==false)=false) (by decide) | exact absurd (by assumption:(true==false)=true) (by decide) | exact absurd (by assumption:(false==true)=true) (by decide) | exact Zm hw (by rw[hof]; first | done | (simp[*]; done)) | exact Zo (by rw[hof]; first | done | (simp[*]; done))),rfl⟩ (by omega) ?_
       exact Wk.of [] rfl ⟨rfl,rfl,rfl,rfl,rfl,rfl,rfl,rfl,trivial⟩ ⟨rfl,rfl,rfl,trivial⟩ rfl rfl
      ·refine w_ ?_
       refine AC.skip ?_
       refine (?_:AC _ _ _ _ _)
       iterate 3 refine w_ ?_
       refine Qd<|Q5 ⟨k+1,o1,o2,by omega,rfl,(by rw[hO1]; first | exact absurd (by assumption:(true==true)=false) (by decide) | exact absurd (by assumption:(false==false)=false) (by decide) | exact absurd (by assumption:(true==false)=true) (by decide) | exact absurd (by assumption:(false==true)=true) (by decide) | exact Zm hw (by rw[hon]; first | done | (simp[*]; done)) | exact Zo (by rw[hon]; first | done | (simp[*]; done))),(by rw[hO2]; first | exact absurd (by assumption:(true==true)=false) (by decide) | exact absurd (by assumption:(false==false)=false) (by decide) | exact absurd (by assumption:(true==false)=true) (by decide) | exact absurd (by assumption:(false==true)=true) (by decide) | exact Zm hw (by rw[hof]; first | done | (simp[*]; done)) | exact Zo (by rw[hof]; first | done | (simp[*]; done))),rfl⟩ (by omega) ?_
       exact Wk.of [] rfl ⟨rfl,rfl,rfl,rfl,rfl,rfl,rfl,rfl,trivial⟩ ⟨rfl,rfl,rfl,trivial⟩ rfl rfl
     ·have hb17':=ae hb17
      iterate 5 refine w_ ?_
      refine lc (dK (QQ o1 w (by omega) (by first | (rw[hO1]; exact QY QZ _) | (rw[hO2]; exact QY QZ _))) Zu) ?_
      iterate 6 refine w_ ?_
      cases hb19:(true==true)
      ·iterate 5 refine w_ ?_
       refine lc (dK (QQ o2 w (by omega) (by first | (rw[hO1]; exact QY QZ _) | (rw[hO2]; exact QY QZ _))) Zu) ?_
       iterate 2 refine w_ ?_
       refine Qd ?_
       refine (?_:AC _ _ _ _ _)
       iterate 3 refine w_ ?_
       refine Qd<|Q5 ⟨k+1,(Q2 ltB w o1),(Q2 ltB w o2),by omega,rfl,(by rw[hO1]; first | exact absurd (by assumption:(true==true)=false) (by decide) | exact absurd (by assumption:(false==false)=false) (by decide) | exact absurd (by assumption:(true==false)=true) (by decide) | exact absurd (by assumption:(false==true)=true) (by decide) | exact Zm hw (by rw[hon]; first | done | (simp[*]; done)) | exact Zo (by rw[hon]; first | done | (simp[*]; done))),(by rw[hO2]; first | exact absurd (by assumption:(true==true)=false) (by decide) | exact absurd (by assumption:(false==false)=false) (by decide) | exact absurd (by assumption:(true==false)=true) (by decide) | exact absurd (by assumption:(false==true)=true) (by decide) | exact Zm hw (by rw[hof]; first | done | (simp[*]; done)) | exact Zo (by rw[hof]; first | done | (simp[*]; done))),rfl⟩ (by omega) ?_
       exact Wk.of [] rfl ⟨rfl,rfl,rfl,rfl,rfl,rfl,rfl,rfl,trivial⟩ ⟨rfl,rfl,rfl,trivial⟩ rfl rfl
      ·refine w_ ?_
       refine AC.skip ?_
       refine (?_:AC _ _ _ _ _)
       iterate 3 refine w_ ?_
       refine Qd<|Q5 ⟨k+1,(Q2 ltB w o1),o2,by omega,rfl,(by rw[hO1]; first | exact absurd (by assumption:(true==true)=false) (by decide) | exact absurd (by assumption:(false==false)=false) (by decide) | exact absurd (by assumption:(true==false)=true) (by decide) | exact absurd (by assumption:(false==true)=true) (by decide) | exact Zm hw (by rw[hon]; first | done | (simp[*]; done)) | exact Zo (by rw[hon]; first | done | (simp[*]; done))),(by rw[hO2]; first | exact absurd (by assumption:(true==true)=false) (by decide) | exact absurd (by assumption:(false==false)=false) (by decide) | exact absurd (by assumption:(true==false)=true) (by decide) | exact absurd (by assumption:(false==true)=true) (by decide) | exact Zm hw (by rw[hof]; first | done | (simp[*]; done)) | exact Zo (by rw[hof]; first | done | (simp[*]; done))),rfl⟩ (by omega) ?_
       exact Wk.of [] rfl ⟨rfl,rfl,rfl,rfl,rfl,rfl,rfl,rfl,trivial⟩ ⟨rfl,rfl,rfl,trivial⟩ rfl rfl
  ·have hb12':=ae hb12
   iterate 4 refine w_ ?_
   cases hb20:(Xa c (k:Int) sig)
   ·iterate 5 refine w_ ?_
    refine lc (QG (Qa rfl) (Qa rfl) rfl Zc) ?_
    iterate 8 refine w_ ?_
    cases hb21:(decide (way=(⟨#[100,111,119,110]⟩:ByteArray)))
    ·have hb21':=ab hb21
     iterate 3 refine w_ ?_
     refine Zl ?_
     have hon:wOn c sig way (k:Int)=(false):=by first | exact absurd ((by assumption:way=⟨#[117,112]⟩).symm.trans (by assumption:way=⟨#[100,111,119,110]⟩)) (by decide) | (simp only[wOn,wOf,VX,hbit]; simp[*]; done)
     have hof:wOf c sig way (k:Int)=(false==(decide (u=49))):=by first | exact absurd ((by assumption:way=⟨#[117,112]⟩).symm.trans (by assumption:way=⟨#[100,111,119,110]⟩)) (by decide) | (simp only[wOn,wOf,VX,hbit]; simp[*]; done)
     iterate 8 refine w_ ?_
     cases hb22:(false==(decide (u=49)))
     ·refine w_ ?_
      refine AC.skip ?_
      refine (?_:AC _ _ _ _ _)
      iterate 3 refine w_ ?_
      refine Qd<|Q5 ⟨k+1,o1,o2,by omega,rfl,(by rw[hO1]; first | exact absurd (by assumption:(true==true)=false) (by decide) | exact absurd (by assumption:(false==false)=false) (by decide) | exact absurd (by assumption:(true==false)=true) (by decide) | exact absurd (by assumption:(false==true)=true) (by decide) | exact Zm hw (by rw[hon]; first | done | (simp[*]; done)) | exact Zo (by rw[hon]; first | done | (simp[*]; done))),(by rw[hO2]; first | exact absurd (by assumption:(true==true)=false) (by decide) | exact absurd (by assumption:(false==false)=false) (by decide) | exact absurd (by assumption:(true==false)=true) (by decide) | exact absurd (by assumption:(false==true)=true) (by decide) | exact Zm hw (by rw[hof]; first | done | (simp[*]; done)) | exact Zo (by rw[hof]; first | done | (simp[*]; done))),rfl⟩ (by omega) ?_
      exact Wk.of [] rfl ⟨rfl,rfl,rfl,rfl,rfl,rfl,rfl,rfl,trivial⟩ ⟨rfl,rfl,rfl,trivial⟩ rfl rfl
     ·iterate 5 refine w_ ?_
      refine lc (dK (QQ o2 w (by omega) (by first | (rw[hO1]; exact QY QZ _) | (rw[hO2]; exact QY QZ _))) Zu) ?_
      iterate 2 refine w_ ?_
      refine Qd ?_
      refine (?_:AC _ _ _ _ _)
      iterate 3 refine w_ ?_
      refine Qd<|Q5 ⟨k+1,o1,(Q2 ltB w o2),by omega,rfl,(by rw[hO1]; first | exact absurd (by assumption:(true==true)=false) (by decide) | exact absurd (by assumption:(false==false)=false) (by decide) | exact absurd (by assumption:(true==false)=true) (by decide) | exact absurd (by assumption:(false==true)=true) (by decide) | exact Zm hw (by rw[hon]; first | done | (simp[*]; done)) | exact Zo (by rw[hon]; first | done | (simp[*]; done))),(by rw[hO2]; first | exact absurd (by assumption:(true==true)=false) (by decide) | exact absurd (by assumption:(false==false)=false) (by decide) | exact absurd (by assumption:(true==false)=true) (by decide) | exact absurd (by assumption:(false==true)=true) (by decide) | exact Zm hw (by rw[hof]; first | done | (simp[*]; done)) | exact Zo (by rw[hof]; first | done | (simp[*]; done))),rfl⟩ (by omega) ?_
      exact Wk.of [] rfl ⟨rfl,rfl,rfl,rfl,rfl,rfl,rfl,rfl,trivial⟩ ⟨rfl,rfl,rfl,trivial⟩ rfl rfl
    ·have hb21':=ae hb21
     iterate 8 refine w_ ?_
     refine lc (ZI (Qa rfl) (Qa rfl) rfl Zc) ?_
     iterate 4 refine w_ ?_
     refine Zl ?_
     have hon:wOn c sig way (k:Int)=(false):=by first | exact absurd ((by assumption:way=⟨#[117,112]⟩).symm.trans (by assumption:way=⟨#[100,111,119,110]⟩)) (by decide) | (simp only[wOn,wOf,VX,hbit]; simp[*]; done)
     have hof:wOf c sig way (k:Int)=(!(false==(decide (u=49)))):=by first | exact absurd ((by assumption:way=⟨#[117,112]⟩).symm.trans (by assumption:way=⟨#[100,111,119,110]⟩)) (by decide) | (simp only[wOn,wOf,VX,hbit]; simp[*]; done)
     iterate 8 refine w_ ?_
     cases hb23:(false==(decide (u=49)))
     ·iterate 5 refine w_ ?_
      refine lc (dK (QQ o2 w (by omega) (by first | (rw[hO1]; exact QY QZ _) | (rw[hO2]; exact QY QZ _))) Zu) ?_
      iterate 2 refine w_ ?_
      refine Qd ?_
      refine (?_:AC _ _ _ _ _)
      iterate 3 refine w_ ?_
      refine Qd<|Q5 ⟨k+1,o1,(Q2 ltB w o2),by omega,rfl,(by rw[hO1]; first | exact absurd (by assumption:(true==true)=false) (by decide) | exact absurd (by assumption:(false==false)=false) (by decide) | exact absurd (by assumption:(true==false)=true) (by decide) | exact absurd (by assumption:(false==true)=true) (by decide) | exact Zm hw (by rw[hon]; first | done | (simp[*]; done)) | exact Zo (by rw[hon]; first | done | (simp[*]; done))),(by rw[hO2]; first | exact absurd (by assumption:(true==true)=false) (by decide) | exact absurd (by assumption:(false==false)=false) (by decide) | exact absurd (by assumption:(true==false)=true) (by decide) | exact absurd (by assumption:(false==true)=true) (by decide) | exact Zm hw (by rw[hof]; first | done | (simp[*]; done)) | exact Zo (by rw[hof]; first | done | (simp[*]; done))),rfl⟩ (by omega) ?_
      exact Wk.of [] rfl ⟨rfl,rfl,rfl,rfl,rfl,rfl,rfl,rfl,trivial⟩ ⟨rfl,rfl,rfl,trivial⟩ rfl rfl
     ·refine w_ ?_
      refine AC.skip ?_
      refine (?_:AC _ _ _ _ _)
      iterate 3 refine w_ ?_
      refine Qd<|Q5 ⟨k+1,o1,o2,by omega,rfl,(by rw[hO1]; first | exact absurd (by assumption:(true==true)=false) (by decide) | exact absurd (by assumption:(false==false)=false) (by decide) | exact absurd (by assumption:(true==false)=true) (by decide) | exact absurd (by assumption:(false==true)=true) (by decide) | exact Zm hw (by rw[hon]; first | done | (simp[*]; done)) | exact Zo (by rw[hon]; first | done | (simp[*]; done))),(by rw[hO2]; first | exact absurd (by assumption:(true==true)=false) (by decide) | exact absurd (by assumption:(false==false)=false) (by decide) | exact absurd (by assumption:(true==false)=true) (by decide) | exact absurd (by assumption:(false==true)=true) (by decide) | exact Zm hw (by rw[hof]; first | done | (simp[*]; done)) | exact Zo (by rw[hof]; first | done | (simp[*]; done))),rfl⟩ (by omega) ?_
      exact Wk.of [] rfl ⟨rfl,rfl,rfl,rfl,rfl,rfl,rfl,rfl,trivial⟩ ⟨rfl,rfl,rfl,trivial⟩ rfl rfl
   ·iterate 5 refine w_ ?_
    refine lc (QG (Qa rfl) (Qa rfl) rfl Zc) ?_
    iterate 8 refine w_ ?_
    cases hb24:(decide (way=(⟨#[100,111,119,110]⟩:ByteArray)))
    ·have hb24':=ab hb24
     iterate 3 refine w_ ?_
     refine Zl ?_
     have hon:wOn c sig way (k:Int)=(!(decide (u=49))):=by first | exact absurd ((by assumption:way=⟨#[117,112]⟩).symm.trans (by assumption:way=⟨#[100,111,119,110]⟩)) (by decide) | (simp only[wOn,wOf,VX,hbit]; simp[*]; done)
     have hof:wOf c sig way (k:Int)=(true==(decide (u=49))):=by first | exact absurd ((by assumption:way=⟨#[117,112]⟩).symm.trans (by assumption:way=⟨#[100,111,119,110]⟩)) (by decide) | (simp only[wOn,wOf,VX,hbit]; simp[*]; done)
     iterate 3 refine w_ ?_
     cases hb25:(decide (u=49))
     ·have hb25':=ab hb25
      iterate 5 refine w_ ?_
      refine lc (dK (QQ o1 w (by omega) (by first | (rw[hO1]; exact QY QZ _) | (rw[hO2]; exact QY QZ _))) Zu) ?_
      iterate 6 refine w_ ?_
      cases hb26:(true==false)
      ·refine w_ ?_
       refine AC.skip ?_
       refine (?_:AC _ _ _ _ _)
       iterate 3 refine w_ ?_
       refine Qd<|Q5 ⟨k+1,(Q2 ltB w o1),o2,by omega,rfl,(by rw[hO1]; first | exact absurd (by assumption:(true==true)=false) (by decide) | exact absurd (by assumption:(false==false)=false) (by decide) | exact absurd (by assumption:(true==false)=true) (by decide) | exact absurd (by assumption:(false==true)=true) (by decide) | exact Zm hw (by rw[hon]; first | done | (simp[*]; done)) | exact Zo (by rw[hon]; first | done | (simp[*]; done))),(by rw[hO2]; first | exact absurd (by assumption:(true==true)=false) (by decide) | exact absurd (by assumption:(false==false)=false) (by decide) | exact absurd (by assumption:(true==false)=true) (by decide) | exact absurd (by assumption:(false==true)=true) (by decide) | exact Zm hw (by rw[hof]; first | done | (simp[*]; done)) | exact Zo (by rw[hof]; first | done | (simp[*]; done))),rfl⟩ (by omega) ?_
       exact Wk.of [] rfl ⟨rfl,rfl,rfl,rfl,rfl,rfl,rfl,rfl,trivial⟩ ⟨rfl,rfl,rfl,trivial⟩ rfl rfl
      ·iterate 5 refine w_ ?_
       refine lc (dK (QQ o2 w (by omega) (by first | (rw[hO1]; exact QY QZ _) | (rw[hO2]; exact QY QZ _))) Zu) ?_
       iterate 2 refine w_ ?_
       refine Qd ?_
       refine (?_:AC _ _ _ _ _)
       iterate 3 refine w_ ?_
       refine Qd<|Q5 ⟨k+1,(Q2 ltB w o1),(Q2 ltB w o2),by omega,rfl,(by rw[hO1]; first | exact absurd (by assumption:(true==true)=false) (by decide) | exact absurd (by assumption:(false==false)=false) (by decide) | exact absurd (by assumption:(true==false)=true) (by decide) | exact absurd (by assumption:(false==true)=true) (by decide) | exact Zm hw (by rw[hon]; first | done | (simp[*]; done)) | exact Zo (by rw[hon]; first | done | (simp[*]; done))),(by rw[hO2]; first | exact absurd (by assumption:(true==true)=false) (by decide) | exact absurd (by assumption:(false==false)=false) (by decide) | exact absurd (by assumption:(true==false)=true) (by decide) | exact absurd (by assumption:(false==true)=true) (by decide) | exact Zm hw (by rw[hof]; first | done | (simp[*]; done)) | exact Zo (by rw[hof]; first | done | (simp[*]; done))),rfl⟩ (by omega) ?_
       exact Wk.of [] rfl ⟨rfl,rfl,rfl,rfl,rfl,rfl,rfl,rfl,trivial⟩ ⟨rfl,rfl,rfl,trivial⟩ rfl rfl
     ·have hb25':=ae hb25
      iterate 5 refine w_ ?_
      cases hb27:(true==true)
      ·refine w_ ?_
       refine AC.skip ?_
       refine (?_:AC _ _ _ _ _)
       iterate 3 refine w_ ?_
       refine Qd<|Q5 ⟨k+1,o1,o2,by omega,rfl,(by rw[hO1]; first | exact absurd (by assumption:(true==true)=false) (by decide) | exact absurd (by assumption:(false==false)=false) (by decide) | exact absurd (by assumption:(true==false)=true) (by decide) | exact absurd (by assumption:(false==true)=true) (by decide) | exact Zm hw (by rw[hon]; first | done | (simp[*]; done)) | exact Zo (by rw[hon]; first | done | (simp[*]; done))),(by rw[hO2]; first | exact absurd (by assumption:(true==true)=false) (by decide) | exact absurd (by assumption:(false==false)=false) (by decide) | exact absurd (by assumption:(true==false)=true) (by decide) | exact absurd (by assumption:(false==true)=true) (by decide) | exact Zm hw (by rw[hof]; first | done | (simp[*]; done)) | exact Zo (by rw[hof]; first | done | (simp[*]; done))),rfl⟩ (by omega) ?_
       exact Wk.of [] rfl ⟨rfl,rfl,rfl,rfl,rfl,rfl,rfl,rfl,trivial⟩ ⟨rfl,rfl,rfl,trivial⟩ rfl rfl
      ·iterate 5 refine w_ ?_
       refine lc (dK (QQ o2 w (by omega) (by first | (rw[hO1]; exact QY QZ _) | (rw[hO2]; exact QY QZ _))) Zu) ?_
       iterate 2 refine w_ ?_
       refine Qd ?_
       refine (?_:AC _ _ _ _ _)
       iterate 3 refine w_ ?_
       refine Qd<|Q5 ⟨k+1,o1,(Q2 ltB w o2),by omega,rfl,(by rw[hO1]; first | exact absurd (by assumption:(true==true)=false) (by decide) | exact absurd (by assumption:(false==false)=false) (by decide) | exact absurd (by assumption:(true==false)=true) (by decide) | exact absurd (by assumption:(false==true)=true) (by decide) | exact Zm hw (by rw[hon]; first | done | (simp[*]; done)) | exact Zo (by rw[hon]; first | done | (simp[*]; done))),(by rw[hO2]; first | exact absurd (by assumption:(true==true)=false) (by decide) | exact absurd (by assumption:(false==false)=false) (by decide) | exact absurd (by assumption:(true==false)=true) (by decide) | exact absurd (by assumption:(false==true)=true) (by decide) | exact Zm hw (by rw[hof]; first | done | (simp[*]; done)) | exact Zo (by rw[hof]; first | done | (simp[*]; done))),rfl⟩ (by omega) ?_
       exact Wk.of [] rfl ⟨rfl,rfl,rfl,rfl,rfl,rfl,rfl,rfl,trivial⟩ ⟨rfl,rfl,rfl,trivial⟩ rfl rfl
    ·have hb24':=ae hb24
     iterate 8 refine w_ ?_
     refine lc (ZI (Qa rfl) (Qa rfl) rfl Zc) ?_
     iterate 4 refine w_ ?_
     refine Zl ?_
     have hon:wOn c sig way (k:Int)=(decide (u=49)):=by first | exact absurd ((by assumption:way=⟨#[117,112]⟩).symm.trans (by assumption:way=⟨#[100,111,119,110]⟩)) (by decide) | (simp only[wOn,wOf,VX,hbit]; simp[*]; done)
     have hof:wOf c sig way (k:Int)=(!(true==(decide (u=49)))):=by first | exact absurd ((by assumption:way=⟨#[117,112]⟩).symm.trans (by assumption:way=⟨#[100,111,119,110]⟩)) (by decide) | (simp only[wOn,wOf,VX,hbit]; simp[*]; done)
     iterate 3 refine w_ ?_
     cases hb28:(decide (u=49))
     ·have hb28':=ab hb28
      iterate 5 refine w_ ?_
      cases hb29:(true==false)
      ·iterate 5 refine w_ ?_
       refine lc (dK (QQ o2 w (by omega) (by first | (rw[hO1]; exact QY QZ _) | (rw[hO2]; exact QY QZ _))) Zu) ?_
       iterate 2 refine w_ ?_
       refine Qd ?_
       refine (?_:AC _ _ _ _ _)
       iterate 3 refine w_ ?_
       refine Qd<|Q5 ⟨k+1,o1,(Q2 ltB w o2),by omega,rfl,(by rw[hO1]; first | exact absurd (by assumption:(true==true)=false) (by decide) | exact absurd (by assumption:(false==false)=false) (by decide) | exact absurd (by assumption:(true==false)=true) (by decide) | exact absurd (by assumption:(false==true)=true) (by decide) | exact Zm hw (by rw[hon]; first | done | (simp[*]; done)) | exact Zo (by rw[hon]; first | done | (simp[*]; done))),(by rw[hO2]; first | exact absurd (by assumption:(true==true)=false) (by decide) | exact absurd (by assumption:(false==false)=false) (by decide) | exact absurd (by assumption:(true==false)=true) (by decide) | exact absurd (by assumption:(false==true)=true) (by decide) | exact Zm hw (by rw[hof]; first | done | (simp[*]; done)) | exact Zo (by rw[hof]; first | done | (simp[*]; done))),rfl⟩ (by omega) ?_
       exact Wk.of [] rfl ⟨rfl,rfl,rfl,rfl,rfl,rfl,rfl,rfl,trivial⟩ ⟨rfl,rfl,rfl,trivial⟩ rfl rfl
      ·refine w_ ?_
       refine AC.skip ?_
       refine (?_:AC _ _ _ _ _)
       iterate 3 refine w_ ?_
       refine Qd<|Q5 ⟨k+1,o1,o2,by omega,rfl,(by rw[hO1]; first | exact absurd (by assumption:(true==true)=false) (by decide) | exact absurd (by assumption:(false==false)=false) (by decide) | exact absurd (by assumption:(true==false)=true) (by decide) | exact absurd (by assumption:(false==true)=true) (by decide) | exact Zm hw (by rw[hon]; first | done | (simp[*]; done)) | exact Zo (by rw[hon]; first | done | (simp[*]; done))),(by rw[hO2]; first | exact absurd (by assumption:(true==true)=false) (by decide) | exact absurd (by assumption:(false==false)=false) (by decide) | exact absurd (by assumption:(true==false)=true) (by decide) | exact absurd (by assumption:(false==true)=true) (by decide) | exact Zm hw (by rw[hof]; first | done | (simp[*]; done)) | exact Zo (by rw[hof]; first | done | (simp[*]; done))),rfl⟩ (by omega) ?_
       exact Wk.of [] rfl ⟨rfl,rfl,rfl,rfl,rfl,rfl,rfl,rfl,trivial⟩ ⟨rfl,rfl,rfl,trivial⟩ rfl rfl
     ·have hb28':=ae hb28
      iterate 5 refine w_ ?_
      refine lc (dK (QQ o1 w (by omega) (by first | (rw[hO1]; exact QY QZ _) | (rw[hO2]; exact QY QZ _))) Zu) ?_
      iterate 6 refine w_ ?_
      cases hb30:(true==true)
      ·iterate 5 refine w_ ?_
       refine lc (dK (QQ o2 w (by omega) (by first | (rw[hO1]; exact QY QZ _) | (rw[hO2]; exact QY QZ _))) Zu) ?_
       iterate 2 refine w_ ?_
       refine Qd ?_
       refine (?_:AC _ _ _ _ _)
       iterate 3 refine w_ ?_
       refine Qd<|Q5 ⟨k+1,(Q2 ltB w o1),(Q2 ltB w o2),by omega,rfl,(by rw[hO1]; first | exact absurd (by assumption:(true==true)=false) (by decide) | exact absurd (by assumption:(false==false)=false) (by decide) | exact absurd (by assumption:(true==false)=true) (by decide) | exact absurd (by assumption:(false==true)=true) (by decide) | exact Zm hw (by rw[hon]; first | done | (simp[*]; done)) | exact Zo (by rw[hon]; first | done | (simp[*]; done))),(by rw[hO2]; first | exact absurd (by assumption:(true==true)=false) (by decide) | exact absurd (by assumption:(false==false)=false) (by decide) | exact absurd (by assumption:(true==false)=true) (by decide) | exact absurd (by assumption:(false==true)=true) (by decide) | exact Zm hw (by rw[hof]; first | done | (simp[*]; done)) | exact Zo (by rw[hof]; first | done | (simp[*]; done))),rfl⟩ (by omega) ?_
       exact Wk.of [] rfl ⟨rfl,rfl,rfl,rfl,rfl,rfl,rfl,rfl,trivial⟩ ⟨rfl,rfl,rfl,trivial⟩ rfl rfl
      ·refine w_ ?_
       refine AC.skip ?_
       refine (?_:AC _ _ _ _ _)
       iterate 3 refine w_ ?_
       refine Qd<|Q5 ⟨k+1,(Q2 ltB w o1),o2,by omega,rfl,(by rw[hO1]; first | exact absurd (by assumption:(true==true)=false) (by decide) | exact absurd (by assumption:(false==false)=false) (by decide) | exact absurd (by assumption:(true==false)=true) (by decide) | exact absurd (by assumption:(false==true)=true) (by decide) | exact Zm hw (by rw[hon]; first | done | (simp[*]; done)) | exact Zo (by rw[hon]; first | done | (simp[*]; done))),(by rw[hO2]; first | exact absurd (by assumption:(true==true)=false) (by decide) | exact absurd (by assumption:(false==false)=false) (by decide) | exact absurd (by assumption:(true==false)=true) (by decide) | exact absurd (by assumption:(false==true)=true) (by decide) | exact Zm hw (by rw[hof]; first | done | (simp[*]; done)) | exact Zo (by rw[hof]; first | done | (simp[*]; done))),rfl⟩ (by omega) ?_
       exact Wk.of [] rfl ⟨rfl,rfl,rfl,rfl,rfl,rfl,rfl,rfl,trivial⟩ ⟨rfl,rfl,rfl,trivial⟩ rfl rfl
end Go.Proofs.YtfkmmpfdncopdaaGreat
namespace Go.Proofs.YtfkmmpfdncopdaaGreat
open Go.RowKit
set_option maxRecDepth 100000
set_option maxHeartbeats 4000000
section
variable [∀c,Decidable (SgOk c)]{c:DSg}{k:Nat}{w way code:ByteArray}{u:UInt8}{sig q n:Int}{l:List ByteArray}{x:Qy}
def QP (c:DSg)(sig:Int)(way:ByteArray):DOn:=if Yf c sig way then Y4 c sig way else ([],[])
abbrev QeQ (c:DSg)(sig:Int):Prop:=SgOk c∧(0≤sig∧sig≤(c.1.length:Int) - 1)∧WZ c sig=false
theorem Qoc (h:QeQ c sig)(h2:OOk (c.1.length:Int) (Y4 c sig way).1 (Y4 c sig way).2):Yf c sig way:=⟨h,h2⟩
theorem Qb4 (h:¬QeQ c sig):¬Yf c sig way:=fun g=>h g.1
theorem Qli (h2:¬OOk (c.1.length:Int) (Y4 c sig way).1 (Y4 c sig way).2):¬Yf c sig way:=fun g=>h2 g.2
theorem QnC (h:Yf c sig way):QP c sig way=Y4 c sig way:=if_pos h
theorem QcG (h:¬Yf c sig way):QP c sig way=([],[]):=if_neg h
theorem QbN (h:QeQ c sig):QeA c (fun q=>nsB c sig q) (fun q=> !(nsB c sig q))=QP c sig QT:=by
  unfold QeA QP
  rw[← Qiv]
  by_cases g:XM c (fun q=>nsB c sig q) (fun q=> !(nsB c sig q))
  · rw[if_pos g,if_pos ⟨h,HJ.2 g⟩]
  · rw[if_neg g,if_neg fun g2=>g (HJ.1 g2.2)]
theorem Qgx (h:QeQ c sig):decide (XM c (fun q=>nsB c sig q) (fun q=> !(nsB c sig q)))=decide (Yf c sig QT):=bQ.2 ⟨fun g=>⟨h,HJ.2 g⟩,fun g=>HJ.1 g.2⟩
def nvB (c:DSg)(code:ByteArray)(sig:Int):Bool:=decide (Yf c sig QT)&&(Y9 (QP c sig QT).1 code||Y9 (QP c sig QT).2 code)
def nvV (c:DSg)(code:ByteArray)(sig:Int):Bool:=nvB c code sig&&Y9 (QP c sig QT).1 code
theorem Qnj (h:¬Yf c sig QT):nvV c code sig=false∧nvB c code sig=false:=by
  have:nvB c code sig=false:=by unfold nvB; rw[az h]; rfl
  exact ⟨by unfold nvV; rw[this]; rfl,this⟩
theorem QqZ (h:Yf c sig QT)(h1:(QP c sig QT).1.any (fun y=>decide (code=y))=true):nvV c code sig=true∧nvB c code sig=true:=by
  have h1:Y9 (QP c sig QT).1 code=true:=h1
  have:nvB c code sig=true:=by unfold nvB; rw[aJ h,h1]; rfl
  exact ⟨by unfold nvV; rw[this,h1]; rfl,this⟩
theorem Qq7 (h:Yf c sig QT)(h1:(QP c sig QT).1.any (fun y=>decide (code=y))=false)(h2:(QP c sig QT).2.any (fun y=>decide (code=y))=true):nvV c code sig=false∧nvB c code sig=true:=by
  have h1:Y9 (QP c sig QT).1 code=false:=h1
  have h2:Y9 (QP c sig QT).2 code=true:=h2
  have:nvB c code sig=true:=by unfold nvB; rw[aJ h,h1,h2]; rfl
  exact ⟨by unfold nvV; rw[this,h1]; rfl,this⟩
theorem Qjl (h:Yf c sig QT)(g:Y9 (QP c sig QT).1 code=true∨Y9 (QP c sig QT).2 code=true):nvV c code sig=Y9 (QP c sig QT).1 code∧nvB c code sig=true:=by
  have:nvB c code sig=true:=by
    unfold nvB
    rw[aJ h]
    rcases g with g | g <;> rw[g] <;> simp
  exact ⟨by unfold nvV; rw[this]; rfl,this⟩
theorem Qnv (h1:(QP c sig QT).1.any (fun y=>decide (code=y))=false)(h2:(QP c sig QT).2.any (fun y=>decide (code=y))=false):nvV c code sig=false∧nvB c code sig=false:=by
  have h1:Y9 (QP c sig QT).1 code=false:=h1
  have h2:Y9 (QP c sig QT).2 code=false:=h2
  have:nvB c code sig=false:=by unfold nvB; rw[h1,h2]; simp
  exact ⟨by unfold nvV; rw[this]; rfl,this⟩
end
theorem JX (c:(List (ByteArray×Int))×List ByteArray×(List (Int×Int×Bool×Int)))(sig:Int)[∀c,Decidable (SgOk c)]:FC Tryz.prog 86 [(true,[.dat (.sl 203 (.pr .str .int)) c.1, .dat (.sl 9 .str) c.2.1, .dat (.sl 136 (.pr .int (.pr .int (.pr .bool .int)))) c.2.2]),(false,[dI sig])] [] 0 (QU (lB (decide (SgOk c∧(0≤sig∧sig≤(c.1.length:Int) - 1)∧WZ c sig=false)))):=by
 refine Qj Tryz.func86 rfl rfl Tryz.ntmps86 fun O_ hO w0_ N0_ X_ h0_ f0_=> ?_
 refine acI 1 fun hi1=> ?_
 refine w_ ?_
 refine xbx 0 ?_
 iterate 5 refine w_ ?_
 refine lc (dK (KN c sig) QgJ) ?_
 refine w_ ?_
 cases hb2:(decide (SgOk c∧0≤sig∧sig≤(c.1.length:Int) - 1))
 ·have hb2':=ab hb2
  iterate 10 refine w_ ?_
  refine Qb<|fqB hO ?_
  exact (az fun g=>absurd (⟨g.1,g.2.1⟩:SgOk c∧(0≤sig∧sig≤(c.1.length:Int) - 1)) (by assumption)).symm
 ·have hb2':=ae hb2
  iterate 3 refine w_ ?_
  obtain ⟨x3,hx4⟩:∃z,c.1[(sig).toNat]? =some z:=⟨_,aa (by omega)⟩
  iterate 7 refine w_ ?_
  refine Qb<|fqB hO ?_
  exact QnQ (‹SgOk c∧_›).1 (‹SgOk c∧_›).2 hx4
theorem Hq (c:(List (ByteArray×Int))×List ByteArray×(List (Int×Int×Bool×Int)))(sig:Int)(way:ByteArray)[∀c,Decidable (SgOk c)]:FC Tryz.prog 91 [(true,[.dat (.sl 203 (.pr .str .int)) c.1, .dat (.sl 9 .str) c.2.1, .dat (.sl 136 (.pr .int (.pr .int (.pr .bool .int)))) c.2.2]),(false,[dI sig]),(false,[dS way])] [] 0 (QU (PV.tup [(true,[.dat (.sl 9 .str) ((QP c sig way).1), .dat (.sl 9 .str) ((QP c sig way).2)]),(false,[dB (decide (Yf c sig way))])])):=by
 refine Qj Tryz.func91 rfl rfl Tryz.ntmps91 fun O_ hO w0_ N0_ X_ h0_ f0_=> ?_
 refine acI 1 fun hi1=> ?_
 refine w_ ?_
 refine xbx 0 ?_
 refine lc (xal 1 (.pr (.sl 9 .str) (.sl 9 .str)) Z2) ?_
 iterate 6 refine w_ ?_
 refine lc (dK (JC c sig) Qg0) ?_
 iterate 2 refine w_ ?_
 cases hb2:(decide (SgOk c∧(0≤sig∧sig≤(c.1.length:Int) - 1)∧WZ c sig=false))
 ·have hb2':=ab hb2
  iterate 2 refine w_ ?_
  refine lc (Qn V0 rfl (aw.1 rfl) rfl rfl) ?_
  iterate 3 refine w_ ?_
  refine AC.wk (Qaf (p:=1) [.dat (.sl 9 .str) ([]), .dat (.sl 9 .str) ([])] rfl ⟨_,_,rfl, .inr ⟨_,_,rfl,rfl⟩,⟨_,_,rfl, .inr ⟨_,_,rfl,rfl⟩,rfl⟩⟩)<|Qb ?_
  have e3:([]:((.sl 9 .str):Ty).Den)=((QP c sig way).1):=by
   (rw[QcG (Qb4 (by assumption))]; done)
  have e4:([]:((.sl 9 .str):Ty).Den)=((QP c sig way).2):=by
   (rw[QcG (Qb4 (by assumption))]; done)
  have e5:(false:Bool)=(decide (Yf c sig way)):=by
   exact (az (Qb4 (by assumption))).symm
  exact fr_ hO (e:=(((congrArg (fun z_=>PV.tup [(true,[.dat (.sl 9 .str) z_, .dat (.sl 9 .str) ([])]),(false,[dB false])]) e3)).trans (congrArg (fun z_=>PV.tup [(true,[.dat (.sl 9 .str) ((QP c sig way).1), .dat (.sl 9 .str) z_]),(false,[dB false])]) e4)).trans (congrArg (fun z_=>PV.tup [(true,[.dat (.sl 9 .str) ((QP c sig way).1), .dat (.sl 9 .str) ((QP c sig way).2)]),(false,[dB z_])]) e5))
 ·have hb2':=ae hb2
  iterate 6 refine w_ ?_
  refine lc (dK (Hn c sig way (by assumption:QeQ c sig).1 (by assumption:QeQ c sig).2.1) Qf3) ?_
  refine lc (xal 2 (.pr (.sl 9 .str) (.sl 9 .str)) Z2) ?_
  iterate 6 refine w_ ?_
  refine alL 19 fun hl6=> ?_
  iterate 5 refine w_ ?_
  refine lc (dK (Hf (c.1.length:Int) ((Y4 c sig way).1) ((Y4 c sig way).2)) Qf8) ?_
  iterate 2 refine w_ ?_
  cases hb7:(decide (OOk (c.1.length:Int) ((Y4 c sig way).1) ((Y4 c sig way).2)))
  ·have hb7':=ab hb7
   iterate 2 refine w_ ?_
   refine lc (Qn V0 rfl (aw.1 rfl) rfl rfl) ?_
   iterate 3 refine w_ ?_
   refine AC.wk (Qaf (p:=1) [.dat (.sl 9 .str) ([]), .dat (.sl 9 .str) ([])] rfl ⟨_,_,rfl, .inr ⟨_,_,rfl,rfl⟩,⟨_,_,rfl, .inr ⟨_,_,rfl,rfl⟩,rfl⟩⟩)<|Qb ?_
   have e8:([]:((.sl 9 .str):Ty).Den)=((QP c sig way).1):=by
    (rw[QcG (Qli (by assumption))]; done)
   have e9:([]:((.sl 9 .str):Ty).Den)=((QP c sig way).2):=by
    (rw[QcG (Qli (by assumption))]; done)
   have e10:(false:Bool)=(decide (Yf c sig way)):=by
    exact (az (Qli (by assumption))).symm
   exact fr_ hO (e:=(((congrArg (fun z_=>PV.tup [(true,[.dat (.sl 9 .str) z_, .dat (.sl 9 .str) ([])]),(false,[dB false])]) e8)).trans (congrArg (fun z_=>PV.tup [(true,[.dat (.sl 9 .str) ((QP c sig way).1), .dat (.sl 9 .str) z_]),(false,[dB false])]) e9)).trans (congrArg (fun z_=>PV.tup [(true,[.dat (.sl 9 .str) ((QP c sig way).1), .dat (.sl 9 .str) ((QP c sig way).2)]),(false,[dB z_])]) e10))
  ·have hb7':=ae hb7
   iterate 7 refine w_ ?_
   refine Qb ?_
   have e11:((Y4 c sig way).1:((.sl 9 .str):Ty).Den)=((QP c sig way).1):=by
    (rw[QnC (Qoc (by assumption) (by assumption))]; done)
   have e12:((Y4 c sig way).2:((.sl 9 .str):Ty).Den)=((QP c sig way).2):=by
    (rw[QnC (Qoc (by assumption) (by assumption))]; done)
   have e13:(true:Bool)=(decide (Yf c sig way)):=by
    exact (aJ (Qoc (by assumption) (by assumption))).symm
   exact fr_ hO (e:=(((congrArg (fun z_=>PV.tup [(true,[.dat (.sl 9 .str) z_, .dat (.sl 9 .str) ((Y4 c sig way).2)]),(false,[dB true])]) e11)).trans (congrArg (fun z_=>PV.tup [(true,[.dat (.sl 9 .str) ((QP c sig way).1), .dat (.sl 9 .str) z_]),(false,[dB true])]) e12)).trans (congrArg (fun z_=>PV.tup [(true,[.dat (.sl 9 .str) ((QP c sig way).1), .dat (.sl 9 .str) ((QP c sig way).2)]),(false,[dB z_])]) e13))
theorem VO (c:(List (ByteArray×Int))×List ByteArray×(List (Int×Int×Bool×Int)))(sig:Int)[∀c,Decidable (SgOk c)]:FC Tryz.prog 28 [(true,[.dat (.sl 203 (.pr .str .int)) c.1, .dat (.sl 9 .str) c.2.1, .dat (.sl 136 (.pr .int (.pr .int (.pr .bool .int)))) c.2.2]),(false,[dI sig])] [] 0 (QU (PV.tup [(true,[.dat (.sl 9 .str) ((QP c sig QT).1), .dat (.sl 9 .str) ((QP c sig QT).2)]),(false,[dB (decide (Yf c sig QT))])])):=by
 refine Qj Tryz.func28 rfl rfl Tryz.ntmps28 fun O_ hO w0_ N0_ X_ h0_ f0_=> ?_
 refine acI 1 fun hi1=> ?_
 refine w_ ?_
 refine xbx 0 ?_
 refine lc (xal 1 (.pr (.sl 9 .str) (.sl 9 .str)) Z2) ?_
 iterate 5 refine w_ ?_
 refine lc (dK (Hq c sig (⟨#[110,101,120,116]⟩:ByteArray)) QjK) ?_
 iterate 5 refine w_ ?_
 refine Qb ?_
 have e2:((QP c sig (⟨#[110,101,120,116]⟩:ByteArray)).1:((.sl 9 .str):Ty).Den)=((QP c sig QT).1):=by
  rfl
 have e3:((QP c sig (⟨#[110,101,120,116]⟩:ByteArray)).2:((.sl 9 .str):Ty).Den)=((QP c sig QT).2):=by
  rfl
 have e4:(decide (Yf c sig (⟨#[110,101,120,116]⟩:ByteArray)):Bool)=(decide (Yf c sig QT)):=by
  rfl
 exact fr_ hO (e:=(((congrArg (fun z_=>PV.tup [(true,[.dat (.sl 9 .str) z_, .dat (.sl 9 .str) ((QP c sig (⟨#[110,101,120,116]⟩:ByteArray)).2)]),(false,[dB (decide (Yf c sig (⟨#[110,101,120,116]⟩:ByteArray)))])]) e2)).trans (congrArg (fun z_=>PV.tup [(true,[.dat (.sl 9 .str) ((QP c sig QT).1), .dat (.sl 9 .str) z_]),(false,[dB (decide (Yf c sig (⟨#[110,101,120,116]⟩:ByteArray)))])]) e3)).trans (congrArg (fun z_=>PV.tup [(true,[.dat (.sl 9 .str) ((QP c sig QT).1), .dat (.sl 9 .str) ((QP c sig QT).2)]),(false,[dB z_])]) e4))
theorem VN (c:(List (ByteArray×Int))×List ByteArray×(List (Int×Int×Bool×Int)))(sig:Int)[∀c,Decidable (SgOk c)]:FC Tryz.prog 27 [(true,[.dat (.sl 203 (.pr .str .int)) c.1, .dat (.sl 9 .str) c.2.1, .dat (.sl 136 (.pr .int (.pr .int (.pr .bool .int)))) c.2.2]),(false,[dI sig])] [] 0 (Is (PV.tup [(true,[.ref 0, .ref 1]),(false,[dB (decide (Yf c sig QT))])]) [ar 0 9 .str ((QP c sig QT).1),ar 1 9 .str ((QP c sig QT).2)]):=by
 refine Qj Tryz.func27 rfl rfl Tryz.ntmps27 fun O_ hO w0_ N0_ X_ h0_ f0_=> ?_
 refine acI 1 fun hi1=> ?_
 refine w_ ?_
 refine xbx 0 ?_
 refine xbx 1 ?_
 refine lc (xal 2 (.pr (.sl 9 .str) (.sl 9 .str)) Z2) ?_
 iterate 6 refine w_ ?_
 refine lc (dK (JX c sig) Qjy) ?_
 iterate 2 refine w_ ?_
 cases hb2:(decide (SgOk c∧(0≤sig∧sig≤(c.1.length:Int) - 1)∧WZ c sig=false))
 ·have hb2':=ab hb2
  iterate 2 refine w_ ?_
  refine lc (Qn V0 rfl (aw.1 rfl) rfl rfl) ?_
  iterate 3 refine w_ ?_
  refine AC.wk (QB 3 (p:=2) (off:=0) 9 .str rfl rfl (Fresh.of rfl) (nlr rfl))<|AC.wk (QB 4 (p:=2) (off:=1) 9 .str rfl rfl (Fresh.of rfl) (nlr rfl))<|Qb ?_
  have e3:(false:Bool)=(decide (Yf c sig QT)):=by
   exact (az (Qb4 (by assumption))).symm
  exact fi_ [(0,3),(1,4)] hO ⟨(Qk (by (rw[QcG (Qb4 (by assumption))]; done))),(Qk (by (rw[QcG (Qb4 (by assumption))]; done))),trivial⟩ (h0:=(congrArg (fun z_=>PV.tup [(true,[.ref 3, .ref 4]),(false,[dB z_])]) e3))
 ·have hb2':=ae hb2
  iterate 4 refine w_ ?_
  refine lc (ZS ⟨_,_,rfl,(Qa rfl),rfl,⟨_,_,rfl,(Qa rfl),rfl,rfl⟩⟩ rfl)<|lc (ZS ⟨_,_,rfl,(Qa rfl),rfl,⟨_,_,rfl,(Qa rfl),rfl,rfl⟩⟩ rfl) ?_
  refine lc (dP 5 [] (Qar c c sig (by assumption:QeQ c sig).1 (by assumption:QeQ c sig).2.1 rfl) Qiq) ?_
  iterate 5 refine w_ ?_
  refine Qb ?_
  have e4:(decide (XM c (fun q=>nsB c sig q) (fun q=> !(nsB c sig q))):Bool)=(decide (Yf c sig QT)):=by
   exact Qgx (by assumption)
  exact fi_ [(0,7),(1,8)] hO ⟨(Qk (by (rw[QbN (by assumption)]; done))),(Qk (by (rw[QbN (by assumption)]; done))),trivial⟩ (h0:=(congrArg (fun z_=>PV.tup [(true,[.ref 7, .ref 8]),(false,[dB z_])]) e4))
theorem Yu (c:(List (ByteArray×Int))×List ByteArray×(List (Int×Int×Bool×Int)))(code:ByteArray)(sig:Int)[∀c,Decidable (SgOk c)]:FC Tryz.prog 21 [(true,[.dat (.sl 203 (.pr .str .int)) c.1, .dat (.sl 9 .str) c.2.1, .dat (.sl 136 (.pr .int (.pr .int (.pr .bool .int)))) c.2.2]),(false,[dS code]),(false,[dI sig])] [] 0 (QU (PV.tup [(false,[dB (nvV c code sig)]),(false,[dB (nvB c code sig)])])):=by
 refine Qj Tryz.func21 rfl rfl Tryz.ntmps21 fun O_ hO w0_ N0_ X_ h0_ f0_=> ?_
 refine acI 2 fun hi1=> ?_
 refine w_ ?_
 refine xbx 0 ?_
 iterate 6 refine w_ ?_
 refine lc (dG 1 (VN c sig) Qim) ?_
 iterate 3 refine w_ ?_
 refine lc (xal 3 (.pr (.sl 9 .str) (.sl 9 .str)) Z2) ?_
 iterate 7 refine w_ ?_
 refine lc (dB_ (Q1 ((QP c sig QT).1) code) UM) ?_
 iterate 7 refine w_ ?_
 cases hb2:(decide (Yf c sig QT))
 ·have hb2':=ab hb2
  iterate 3 refine w_ ?_
  refine Qo rfl rfl rfl ?_ rfl
  refine Qo rfl rfl rfl ?_ rfl
  refine Qo rfl rfl rfl ?_ rfl
  refine Qo rfl rfl rfl ?_ rfl
  refine Qo rfl rfl rfl ?_ rfl
  iterate 8 refine w_ ?_
  refine Qb ?_
  have e3:(false:Bool)=(nvV c code sig):=by
   exact (Qnj (by assumption)).1.symm
  have e4:(false:Bool)=(nvB c code sig):=by
   exact (Qnj (by assumption)).2.symm
  exact fr_ hO (e:=((congrArg (fun z_=>PV.tup [(false,[dB z_]),(false,[dB false])]) e3)).trans (congrArg (fun z_=>PV.tup [(false,[dB (nvV c code sig)]),(false,[dB z_])]) e4))
 ·have hb2':=ae hb2
  iterate 3 refine w_ ?_
  cases hb5:(((QP c sig QT).1).any (fun y=>decide (code=y)))
  ·iterate 3 refine w_ ?_
   refine lgy rfl rfl (dB_ (Q1 ((QP c sig QT).2) code) UM) ?_
   iterate 4 refine w_ ?_
   cases hb6:(((QP c sig QT).2).any (fun y=>decide (code=y)))
   ·iterate 5 refine w_ ?_
    refine Qb ?_
    have e7:(false:Bool)=(nvV c code sig):=by
     exact (Qnv (by assumption) (by assumption)).1.symm
    have e8:(false:Bool)=(nvB c code sig):=by
     exact (Qnv (by assumption) (by assumption)).2.symm
    exact fr_ hO (e:=((congrArg (fun z_=>PV.tup [(false,[dB z_]),(false,[dB false])]) e7)).trans (congrArg (fun z_=>PV.tup [(false,[dB (nvV c code sig)]),(false,[dB z_])]) e8))
   ·iterate 7 refine w_ ?_
    refine Qb ?_
    have e9:(false:Bool)=(nvV c code sig):=by
     exact (Qq7 (by assumption) (by assumption) (by assumption)).1.symm
    have e10:(true:Bool)=(nvB c code sig):=by
     exact (Qjl (by assumption) (.inr (by assumption))).2.symm
    exact fr_ hO (e:=((congrArg (fun z_=>PV.tup [(false,[dB z_]),(false,[dB true])]) e9)).trans (congrArg (fun z_=>PV.tup [(false,[dB (nvV c code sig)]),(false,[dB z_])]) e10))
  ·iterate 15 refine w_ ?_
   refine Qb ?_
   have e11:(true:Bool)=(nvV c code sig):=by
    exact (QqZ (by assumption) (by assumption)).1.symm
   have e12:(true:Bool)=(nvB c code sig):=by
    exact (Qjl (by assumption) (.inl (by assumption))).2.symm
   exact fr_ hO (e:=((congrArg (fun z_=>PV.tup [(false,[dB z_]),(false,[dB true])]) e11)).trans (congrArg (fun z_=>PV.tup [(false,[dB (nvV c code sig)]),(false,[dB z_])]) e12))
theorem Ys (c:(List (ByteArray×Int))×List ByteArray×(List (Int×Int×Bool×Int)))(code:ByteArray)(sig:Int)[∀c,Decidable (SgOk c)]:FC Tryz.prog 22 [(true,[.dat (.sl 203 (.pr .str .int)) c.1, .dat (.sl 9 .str) c.2.1, .dat (.sl 136 (.pr .int (.pr .int (.pr .bool .int)))) c.2.2]),(false,[dS code]),(false,[dI sig])] [] 0 (QU (PV.tup [(false,[dB (nvV c code sig)]),(false,[dB (nvB c code sig)])])):=by
 refine Qj Tryz.func22 rfl rfl Tryz.ntmps22 fun O_ hO w0_ N0_ X_ h0_ f0_=> ?_
 refine acI 2 fun hi1=> ?_
 refine w_ ?_
 refine xbx 0 ?_
 iterate 6 refine w_ ?_
 refine lc (dK (VO c sig) QjI) ?_
 iterate 3 refine w_ ?_
 refine lc (xal 1 (.pr (.sl 9 .str) (.sl 9 .str)) Z2) ?_
 iterate 8 refine w_ ?_
 cases hb2:(decide (Yf c sig QT))
 ·have hb2':=ab hb2
  iterate 6 refine w_ ?_
  refine Qo rfl rfl rfl ?_ rfl
  refine Qo rfl rfl rfl ?_ rfl
  refine Qo rfl rfl rfl ?_ rfl
  refine Qo rfl rfl rfl ?_ rfl
  refine Qo rfl rfl rfl ?_ rfl
  iterate 8 refine w_ ?_
  refine Qb ?_
  have e3:(false:Bool)=(nvV c code sig):=by
   exact (Qnj (by assumption)).1.symm
  have e4:(false:Bool)=(nvB c code sig):=by
   exact (Qnj (by assumption)).2.symm
  exact fr_ hO (e:=((congrArg (fun z_=>PV.tup [(false,[dB z_]),(false,[dB false])]) e3)).trans (congrArg (fun z_=>PV.tup [(false,[dB (nvV c code sig)]),(false,[dB z_])]) e4))
 ·have hb2':=ae hb2
  iterate 3 refine w_ ?_
  refine lgy rfl rfl (dK (ZW ((QP c sig QT).1) code) Xs) ?_
  iterate 2 refine w_ ?_
  cases hb5:(Y9 ((QP c sig QT).1) code)
  ·iterate 3 refine w_ ?_
   refine lgy rfl rfl (dK (ZW ((QP c sig QT).2) code) Xs) ?_
   iterate 4 refine w_ ?_
   refine cx_ (fun hb6=> ?_) fun hb6=> ?_
   ·iterate 4 refine w_ ?_
    refine Qb ?_
    have e7:(false:Bool)=(nvV c code sig):=by
     exact (Qnv (by assumption) (by assumption)).1.symm
    have e8:(false:Bool)=(nvB c code sig):=by
     exact (Qnv (by assumption) (by assumption)).2.symm
    exact fr_ hO (e:=((congrArg (fun z_=>PV.tup [(false,[dB z_]),(false,[dB false])]) e7)).trans (congrArg (fun z_=>PV.tup [(false,[dB (nvV c code sig)]),(false,[dB z_])]) e8))
   ·iterate 5 refine w_ ?_
    refine lc (dK (ZW ((QP c sig QT).1) code) Xs) ?_
    iterate 3 refine w_ ?_
    refine Qb ?_
    have e9:(Y9 ((QP c sig QT).1) code:Bool)=(nvV c code sig):=by
     exact (Qjl (by assumption) (.inr (by assumption))).1.symm
    have e10:(true:Bool)=(nvB c code sig):=by
     exact (Qjl (by assumption) (.inr (by assumption))).2.symm
    exact fr_ hO (e:=((congrArg (fun z_=>PV.tup [(false,[dB z_]),(false,[dB true])]) e9)).trans (congrArg (fun z_=>PV.tup [(false,[dB (nvV c code sig)]),(false,[dB z_])]) e10))
  ·iterate 14 refine w_ ?_
   refine lc (dK (ZW ((QP c sig QT).1) code) Xs) ?_
   iterate 3 refine w_ ?_
   refine Qb ?_
   have e11:(Y9 ((QP c sig QT).1) code:Bool)=(nvV c code sig):=by
    exact (Qjl (by assumption) (.inl (by assumption))).1.symm
   have e12:(true:Bool)=(nvB c code sig):=by
    exact (Qjl (by assumption) (.inl (by assumption))).2.symm
   exact fr_ hO (e:=((congrArg (fun z_=>PV.tup [(false,[dB z_]),(false,[dB true])]) e11)).trans (congrArg (fun z_=>PV.tup [(false,[dB (nvV c code sig)]),(false,[dB z_])]) e12))
end Go.Proofs.YtfkmmpfdncopdaaGreat
