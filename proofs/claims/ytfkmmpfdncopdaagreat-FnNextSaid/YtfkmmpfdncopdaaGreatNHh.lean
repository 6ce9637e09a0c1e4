/- Walks over abstract states: next-state sets and values, both sides; covers at a code (second part). -/
import Derived.Test.YtfkmmpfdncopdaaGreatNHf
set_option linter.unusedSimpArgs false
set_option linter.unusedVariables false
set_option linter.unusedSectionVars false
namespace Go.Proofs.YtfkmmpfdncopdaaGreat
open Go.RowKit
set_option maxRecDepth 100000
set_option maxHeartbeats 4000000
section
variable {c:DSg}{k:Nat}{w way code:ByteArray}{u:UInt8}{sig q n:Int}{l:List ByteArray}
def YA (c:DSg)(sig:Int)(way:ByteArray):DOn:=Uh c (wOn c sig way) (wOf c sig way)
def QB (c:DSg)(sig:Int)(way:ByteArray):Prop:=(SgOk c∧(0≤sig∧sig≤(c.1.length:Int) - 1)∧W5 c sig=false)∧ZU c (wOn c sig way) (wOf c sig way)
instance [∀c,Decidable (SgOk c)] (c:DSg) (sig:Int) (way:ByteArray):Decidable (QB c sig way):=inferInstanceAs (Decidable (_∧_))
abbrev Qq:ByteArray:=⟨#[110,101,120,116]⟩
theorem JL:(wOn c sig Qq)=(fun q=>nsB c sig q)∧(wOf c sig Qq)=(fun q=> !(nsB c sig q)):=by
  have h1:¬Qq=(⟨#[100,111,119,110]⟩:ByteArray):=by decide
  have h2:¬Qq=(⟨#[117,112]⟩:ByteArray):=by decide
  constructor <;> funext q <;> simp only[wOn,wOf,W6,if_neg h1,if_neg h2,nsB] <;> cases ZD c q sig <;> cases decide (bAt (Z8 c q) sig=49) <;> rfl
theorem Qd4:YA c sig Qq=Uh c (fun q=>nsB c sig q) (fun q=> !(nsB c sig q)):=by unfold YA; rw[JL.1,JL.2]
theorem QaV:ZU c (wOn c sig Qq) (wOf c sig Qq)↔ZU c (fun q=>nsB c sig q) (fun q=> !(nsB c sig q)):=by rw[JL.1,JL.2]
end
theorem Qaw (c:(List (ByteArray×Int))×List ByteArray×(List (Int×Int×Bool×Int)))(sig:Int)(way:ByteArray)(hs:SgOk c)(hg:0≤sig∧sig≤(c.1.length:Int) - 1):FC Tryz.prog 177 [(true,[.dat (.sl 203 (.pr .str .int)) c.1, .dat (.sl 9 .str) c.2.1, .dat (.sl 136 (.pr .int (.pr .int (.pr .bool .int)))) c.2.2]),(false,[dI sig]),(false,[dS way])] [] 0 (QH (ag [.dat (.sl 9 .str) ((YA c sig way).1), .dat (.sl 9 .str) ((YA c sig way).2)])):=by
 have hn3:=hs.some_
 have hfw:=hs.few
 have h8:=hs.sigs.2.2
 refine Ql Tryz.func177 rfl rfl Tryz.ntmps177 fun O_ hO w0_ N0_ X_ h0_ f0_=> ?_
 refine acI 1 fun hi1=> ?_
 refine w_ ?_
 refine xbx 0 ?_
 refine lc (xal 1 (.pr (.sl 9 .str) (.sl 9 .str)) Ze) ?_
 iterate 2 refine w_ ?_
 refine lc (xal 2 (.pr (.sl 9 .str) (.sl 9 .str)) Ze) ?_
 iterate 5 refine w_ ?_
 refine alL 15 fun hl2=> ?_
 iterate 4 refine w_ ?_
 refine AC.wk (U4 (p:=2) [.dat (.sl 9 .str) ([]), .val (.slice none 0 0)] rfl ⟨_,_,rfl, .inr ⟨_,_,rfl,rfl⟩,⟨_,_,rfl, .inl rfl,rfl⟩⟩)<|AC.wk (U4 (p:=2) [.dat (.sl 9 .str) ([]), .dat (.sl 9 .str) ([])] rfl ⟨_,_,rfl, .inl rfl,⟨_,_,rfl, .inr ⟨_,_,rfl,rfl⟩,rfl⟩⟩) ?_
 refine Qy (fun m_ s_=>∃(k:Nat) (o1:List ByteArray) (o2:List ByteArray),k≤c.2.1.length∧m_=c.2.1.length - k∧(o1=ofG ltB (pkL c (wOn c sig way) k))∧(o2=ofG ltB (pkL c (wOf c sig way) k))∧s_=⟨[(1,lI sig),(2,lf (dS way)),(3,lP 0 0),(6,lP 1 0),(7,lP 2 0),(15,lf (.dat (.sl 9 .str) c.2.1)),(16,lI (c.2.1.length:Int)),(17,lI (k:Int))],[bx 0 28 [.dat (.sl 203 (.pr .str .int)) c.1, .dat (.sl 9 .str) c.2.1, .dat (.sl 136 (.pr .int (.pr .int (.pr .bool .int)))) c.2.2],bx 1 47 [.val (.slice none 0 0), .val (.slice none 0 0)],bx 2 47 [.dat (.sl 9 .str) o1, .dat (.sl 9 .str) o2]]⟩) ⟨0,([]:((.sl 9 .str):Ty).Den),([]:((.sl 9 .str):Ty).Den),aR _,rfl,rfl,rfl,rfl⟩ ?_ ?_
 · exact Wk.of [] rfl ⟨rfl,rfl,rfl,rfl,rfl,rfl,rfl,rfl,trivial⟩ ⟨rfl,rfl,rfl,trivial⟩ rfl rfl
 rintro m_ s_ ⟨k,o1,o2,hk3,hm4,hO1,hO2,rfl⟩
 have h1l:o1.length≤k:=by rw[hO1]; exact QiC
 have h2l:o2.length≤k:=by rw[hO2]; exact QiC
 iterate 4 refine w_ ?_
 cases hb5:(decide ((k:Int) < (c.2.1.length:Int)))
 ·have hb5':=ab hb5
  refine w_ ?_
  refine Qj ?_
  refine (?_:AC _ _ _ _ _)
  iterate 4 refine w_ ?_
  refine Qb ?_
  have e6:(o1:((.sl 9 .str):Ty).Den)=((YA c sig way).1):=by
   (rw[hO1,show k=c.2.1.length by omega]; rfl)
  have e7:(o2:((.sl 9 .str):Ty).Den)=((YA c sig way).2):=by
   (rw[hO2,show k=c.2.1.length by omega]; rfl)
  exact fr_ hO (e:=((congrArg (fun z_=>ag [.dat (.sl 9 .str) z_, .dat (.sl 9 .str) o2]) e6)).trans (congrArg (fun z_=>ag [.dat (.sl 9 .str) ((YA c sig way).1), .dat (.sl 9 .str) z_]) e7))
 ·have hb5':=ae hb5
  iterate 6 refine w_ ?_
  obtain ⟨w,hx9⟩:∃z,c.2.1[k]? =some z:=⟨_,aa (by omega)⟩
  have hw:=hx9
  have hws:=(hs.codes _ (ap hx9)).2
  iterate 5 refine w_ ?_
  obtain ⟨u,hc11⟩:∃z,w[(sig).toNat]? =some z:=⟨_,aY _ _ (by omega)⟩
  have hbit:decide (bAt (Z8 c (k:Int)) sig=49)=decide (u=49):=by rw[Xo hw,Q2 hc11]
  apply dW (i3 22 _ _ _ (io 25 (lB (decide (u=49))) :: i3 26 _ _ _ (io 29 (lB (ZD c (k:Int) sig)) :: i2 10 _ _ []))) [0,1,0,0,15,31,63,15,0,0]
  iterate 3 refine z_ ?_
  refine zz (fun _ h_=>ac (Zm (h_.v rfl) (QG 49 rfl) rfl) rfl) ?_
  iterate 3 refine z_ ?_
  refine zz (fun _ h_=>ac (dK (JZ c (k:Int) sig) Qg2) rfl) ?_
  iterate 2 refine z_ ?_
  exact zN
  iterate 3 refine w_ ?_
  refine lc (ZA (Qa rfl) (Qa rfl) rfl Yc) ?_
  iterate 2 refine w_ ?_
  refine lc (Yf (Qa rfl) (Qa rfl) rfl Yc) ?_
  iterate 8 refine w_ ?_
  cases hb12:(decide (way=(⟨#[117,112]⟩:ByteArray)))
  ·have hb12':=ab hb12
   iterate 7 refine w_ ?_
   cases hb13:(decide (way=(⟨#[100,111,119,110]⟩:ByteArray)))
   ·have hb13':=ab hb13
    iterate 3 refine w_ ?_
    refine ZS ?_
    have hon:wOn c sig way (k:Int)=(!((ZD c (k:Int) sig)==(decide (u=49)))):=by first | exact absurd ((by assumption:way=⟨#[117,112]⟩).symm.trans (by assumption:way=⟨#[100,111,119,110]⟩)) (by decide) | (simp only[wOn,wOf,W6,hbit]; simp[*]; done)
    have hof:wOf c sig way (k:Int)=((ZD c (k:Int) sig)==(decide (u=49))):=by first | exact absurd ((by assumption:way=⟨#[117,112]⟩).symm.trans (by assumption:way=⟨#[100,111,119,110]⟩)) (by decide) | (simp only[wOn,wOf,W6,hbit]; simp[*]; done)
    iterate 3 refine w_ ?_
    cases hb14:((ZD c (k:Int) sig)==(decide (u=49)))
    ·iterate 5 refine w_ ?_
     refine lc (dK (QR o1 w (by omega) (by first | (rw[hO1]; exact Q1 QO _) | (rw[hO2]; exact Q1 QO _))) Zu) ?_
     iterate 7 refine w_ ?_
     refine AC.skip ?_
     refine (?_:AC _ _ _ _ _)
     iterate 3 refine w_ ?_
     refine Qd<|Q0 ⟨k+1,(QN ltB w o1),o2,by omega,rfl,(by rw[hO1]; first | exact absurd (by assumption:(true==true)=false) (by decide) | exact absurd (by assumption:(false==false)=false) (by decide) | exact absurd (by assumption:(true==false)=true) (by decide) | exact absurd (by assumption:(false==true)=true) (by decide) | exact Zs hw (by rw[hon]; first | done | (simp[*]; done)) | exact Zt (by rw[hon]; first | done | (simp[*]; done))),(by rw[hO2]; first | exact absurd (by assumption:(true==true)=false) (by decide) | exact absurd (by assumption:(false==false)=false) (by decide) | exact absurd (by assumption:(true==false)=true) (by decide) | exact absurd (by assumption:(false==true)=true) (by decide) | exact Zs hw (by rw[hof]; first | done | (simp[*]; done)) | exact Zt (by rw[hof]; first | done | (simp[*]; done))),rfl⟩ (by omega) ?_
     exact Wk.of [] rfl ⟨rfl,rfl,rfl,rfl,rfl,rfl,rfl,rfl,trivial⟩ ⟨rfl,rfl,rfl,trivial⟩ rfl rfl
    ·iterate 10 refine w_ ?_
     refine lc (dK (QR o2 w (by omega) (by first | (rw[hO1]; exact Q1 QO _) | (rw[hO2]; exact Q1 QO _))) Zu) ?_
     iterate 2 refine w_ ?_
     refine Qd ?_
     refine (?_:AC _ _ _ _ _)
     iterate 3 refine w_ ?_
     refine Qd<|Q0 ⟨k+1,o1,(QN ltB w o2),by omega,rfl,(by rw[hO1]; first | exact absurd (by assumption:(true==true)=false) (by decide) | exact absurd (by assumption:(false==false)=false) (by decide) | exact absurd (by assumption:(true==false)=true) (by decide) | exact absurd (by assumption:(false==true)=true) (by decide) | exact Zs hw (by rw[hon]; first | done | (simp[*]; done)) | exact Zt (by rw[hon]; first | done | (simp[*]; done))),(by rw[hO2]; first | exact absurd (by assumption:(true==true)=false) (by decide) | exact absurd (by assumption:(false==false)=false) (by decide) | exact absurd (by assumption:(true==false)=true) (by decide) | exact absurd (by assumption:(false==true)=true) (by decide) | exact Zs hw (by rw[hof]; first | done | (simp[*]; done)) | exact Zt (by rw[hof]; first | done | (simp[*]; done))),rfl⟩ (by omega) ?_
     exact Wk.of [] rfl ⟨rfl,rfl,rfl,rfl,rfl,rfl,rfl,rfl,trivial⟩ ⟨rfl,rfl,rfl,trivial⟩ rfl rfl
   ·have hb13':=ae hb13
    iterate 4 refine w_ ?_
    cases hb15:(ZD c (k:Int) sig)
    ·iterate 4 refine w_ ?_
     refine lc (ZA (Qa rfl) (Qa rfl) rfl Yc) ?_
     iterate 4 refine w_ ?_
     refine ZS ?_
     have hon:wOn c sig way (k:Int)=(false):=by first | exact absurd ((by assumption:way=⟨#[117,112]⟩).symm.trans (by assumption:way=⟨#[100,111,119,110]⟩)) (by decide) | (simp only[wOn,wOf,W6,hbit]; simp[*]; done)
     have hof:wOf c sig way (k:Int)=(!(false==(decide (u=49)))):=by first | exact absurd ((by assumption:way=⟨#[117,112]⟩).symm.trans (by assumption:way=⟨#[100,111,119,110]⟩)) (by decide) | (simp only[wOn,wOf,W6,hbit]; simp[*]; done)
     iterate 8 refine w_ ?_
     cases hb16:(false==(decide (u=49)))
     ·iterate 5 refine w_ ?_
      refine lc (dK (QR o2 w (by omega) (by first | (rw[hO1]; exact Q1 QO _) | (rw[hO2]; exact Q1 QO _))) Zu) ?_
      iterate 2 refine w_ ?_
      refine Qd ?_
      refine (?_:AC _ _ _ _ _)
      iterate 3 refine w_ ?_
      refine Qd<|Q0 ⟨k+1,o1,(QN ltB w o2),by omega,rfl,(by rw[hO1]; first | exact absurd (by assumption:(true==true)=false) (by decide) | exact absurd (by assumption:(false==false)=false) (by decide) | exact absurd (by assumption:(true==false)=true) (by decide) | exact absurd (by assumption:(false==true)=true) (by decide) | exact Zs hw (by rw[hon]; first | done | (simp[*]; done)) | exact Zt (by rw[hon]; first | done | (simp[*]; done))),(by rw[hO2]; first | exact absurd (by assumption:(true==true)=false) (by decide) | exact absurd (by assumption:(false==false)=false) (by decide) | exact absurd (by assumption:(true==false)=true) (by decide) | exact absurd (by assumption:(false==true)=true) (by decide) | exact Zs hw (by rw[hof]; first | done | (simp[*]; done)) | exact Zt (by rw[hof]; first | done | (simp[*]; done))),rfl⟩ (by omega) ?_
      exact Wk.of [] rfl ⟨rfl,rfl,rfl,rfl,rfl,rfl,rfl,rfl,trivial⟩ ⟨rfl,rfl,rfl,trivial⟩ rfl rfl
     ·refine w_ ?_
      refine AC.skip ?_
      refine (?_:AC _ _ _ _ _)
      iterate 3 refine w_ ?_
      refine Qd<|Q0 ⟨k+1,o1,o2,by omega,rfl,(by rw[hO1]; first | exact absurd (by assumption:(true==true)=false) (by decide) | exact absurd (by assumption:(false==false)=false) (by decide) | exact absurd (by assumption:(true==false)=true) (by decide) | exact absurd (by assumption:(false==true)=true) (by decide) | exact Zs hw (by rw[hon]; first | done | (simp[*]; done)) | exact Zt (by rw[hon]; first | done | (simp[*]; done))),(by rw[hO2]; first | exact absurd (by assumption:(true==true)=false) (by decide) | exact absurd (by assumption:(false==false)=false) (by decide) | exact absurd (by assumption:(true==false)=true) (by decide) | exact absurd (by assumption:(false==true)=true) (by decide) | exact Zs hw (by rw[hof]; first | done | (simp[*]; done)) | exact Zt (by rw[hof]; first | done | (simp[*]; done))),rfl⟩ (by omega) ?_
      exact Wk.of [] rfl ⟨rfl,rfl,rfl,rfl,rfl,rfl,rfl,rfl,trivial⟩ ⟨rfl,rfl,rfl,trivial⟩ rfl rfl
    ·iterate 4 refine w_ ?_
     refine lc (ZA (Qa rfl) (Qa rfl) rfl Yc) ?_
     iterate 4 refine w_ ?_
     refine ZS ?_
     have hon:wOn c sig way (k:Int)=(decide (u=49)):=by first | exact absurd ((by assumption:way=⟨#[117,112]⟩).symm.trans (by assumption:way=⟨#[100,111,119,110]⟩)) (by decide) | (simp only[wOn,wOf,W6,hbit]; simp[*]; done)
     have hof:wOf c sig way (k:Int)=(!(true==(decide (u=49)))):=by first | exact absurd ((by assumption:way=⟨#[117,112]⟩).symm.trans (by assumption:way=⟨#[100,111,119,110]⟩)) (by decide) | (simp only[wOn,wOf,W6,hbit]; simp[*]; done)
     iterate 3 refine w_ ?_
     cases hb17:(decide (u=49))
     ·have hb17':=ab hb17
      iterate 5 refine w_ ?_
      cases hb18:(true==false)
      ·iterate 5 refine w_ ?_
       refine lc (dK (QR o2 w (by omega) (by first | (rw[hO1]; exact Q1 QO _) | (rw[hO2]; exact Q1 QO _))) Zu) ?_
       iterate 2 refine w_ ?_
       refine Qd ?_
       refine (?_:AC _ _ _ _ _)
       iterate 3 refine w_ ?_
       refine Qd<|Q0 ⟨k+1,o1,(QN ltB w o2),by omega,rfl,(by rw[hO1]; first | exact absurd (by assumption:(true==true)=false) (by decide) | exact absurd (by assumption:(false==false)=false) (by decide) | exact absurd (by assumption:(true==false)=true) (by decide) | exact absurd (by assumption:(false==true)=true) (by decide) | exact Zs hw (by rw[hon]; first | done | (simp[*]; done)) | exact Zt (by rw[hon]; first | done | (simp[*]; done))),(by rw[hO2]; first | exact absurd (by assumption:(true==true)=false) (by decide) | exact absurd (by assumption:(false==false)=false) (by decide) | exact absurd (by assumption:(true==false)=true) (by decide) | exact absurd (by assumption:(false==true)=true) (by decide) | exact Zs hw (by rw[hof]; first | done | (simp[*]; done)) | exact Zt (by rw[hof]; first | done | (simp[*]; done))),rfl⟩ (by omega) ?_
       exact Wk.of [] rfl ⟨rfl,rfl,rfl,rfl,rfl,rfl,rfl,rfl,trivial⟩ ⟨rfl,rfl,rfl,trivial⟩ rfl rfl
      ·refine w_ ?_
       refine AC.skip ?_
       refine (?_:AC _ _ _ _ _)
       iterate 3 refine w_ ?_
       refine Qd<|Q0 ⟨k+1,o1,o2,by omega,rfl,(by rw[hO1]; first | exact absurd (by assumption:(true==true)=false) (by decide) | exact absurd (by assumption:(false==false)=false) (by decide) | exact absurd (by assumption:(true==false)=true) (by decide) | exact absurd (by assumption:(false==true)=true) (by decide) | exact Zs hw (by rw[hon]; first | done | (simp[*]; done)) | exact Zt (by rw[hon]; first | done | (simp[*]; done))),(by rw[hO2]; first | exact absurd (by assumption:(true==true)=false) (by decide) | exact absurd (by assumption:(false==false)=false) (by decide) | exact absurd (by assumption:(true==false)=true) (by decide) | exact absurd (by assumption:(false==true)=true) (by decide) | exact Zs hw (by rw[hof]; first | done | (simp[*]; done)) | exact Zt (by rw[hof]; first | done | (simp[*]; done))),rfl⟩ (by omega) ?_
       exact Wk.of [] rfl ⟨rfl,rfl,rfl,rfl,rfl,rfl,rfl,rfl,trivial⟩ ⟨rfl,rfl,rfl,trivial⟩ rfl rfl
     ·have hb17':=ae hb17
      iterate 5 refine w_ ?_
      refine lc (dK (QR o1 w (by omega) (by first | (rw[hO1]; exact Q1 QO _) | (rw[hO2]; exact Q1 QO _))) Zu) ?_
      iterate 6 refine w_ ?_
      cases hb19:(true==true)
      ·iterate 5 refine w_ ?_
       refine lc (dK (QR o2 w (by omega) (by first | (rw[hO1]; exact Q1 QO _) | (rw[hO2]; exact Q1 QO _))) Zu) ?_
       iterate 2 refine w_ ?_
       refine Qd ?_
       refine (?_:AC _ _ _ _ _)
       iterate 3 refine w_ ?_
       refine Qd<|Q0 ⟨k+1,(QN ltB w o1),(QN ltB w o2),by omega,rfl,(by rw[hO1]; first | exact absurd (by assumption:(true==true)=false) (by decide) | exact absurd (by assumption:(false==false)=false) (by decide) | exact absurd (by assumption:(true==false)=true) (by decide) | exact absurd (by assumption:(false==true)=true) (by decide) | exact Zs hw (by rw[hon]; first | done | (simp[*]; done)) | exact Zt (by rw[hon]; first | done | (simp[*]; done))),(by rw[hO2]; first | exact absurd (by assumption:(true==true)=false) (by decide) | exact absurd (by assumption:(false==false)=false) (by decide) | exact absurd (by assumption:(true==false)=true) (by decide) | exact absurd (by assumption:(false==true)=true) (by decide) | exact Zs hw (by rw[hof]; first | done | (simp[*]; done)) | exact Zt (by rw[hof]; first | done | (simp[*]; done))),rfl⟩ (by omega) ?_
       exact Wk.of [] rfl ⟨rfl,rfl,rfl,rfl,rfl,rfl,rfl,rfl,trivial⟩ ⟨rfl,rfl,rfl,trivial⟩ rfl rfl
      ·refine w_ ?_
       refine AC.skip ?_
       refine (?_:AC _ _ _ _ _)
       iterate 3 refine w_ ?_
       refine Qd<|Q0 ⟨k+1,(QN ltB w o1),o2,by omega,rfl,(by rw[hO1]; first | exact absurd (by assumption:(true==true)=false) (by decide) | exact absurd (by assumption:(false==false)=false) (by decide) | exact absurd (by assumption:(true==false)=true) (by decide) | exact absurd (by assumption:(false==true)=true) (by decide) | exact Zs hw (by rw[hon]; first | done | (simp[*]; done)) | exact Zt (by rw[hon]; first | done | (simp[*]; done))),(by rw[hO2]; first | exact absurd (by assumption:(true==true)=false) (by decide) | exact absurd (by assumption:(false==false)=false) (by decide) | exact absurd (by assumption:(true==false)=true) (by decide) | exact absurd (by assumption:(false==true)=true) (by decide) | exact Zs hw (by rw[hof]; first | done | (simp[*]; done)) | exact Zt (by rw[hof]; first | done | (simp[*]; done))),rfl⟩ (by omega) ?_
       exact Wk.of [] rfl ⟨rfl,rfl,rfl,rfl,rfl,rfl,rfl,rfl,trivial⟩ ⟨rfl,rfl,rfl,trivial⟩ rfl rfl
  ·have hb12':=ae hb12
   iterate 4 refine w_ ?_
   cases hb20:(ZD c (k:Int) sig)
   ·iterate 5 refine w_ ?_
    refine lc (Yf (Qa rfl) (Qa rfl) rfl Yc) ?_
    iterate 8 refine w_ ?_
    cases hb21:(decide (way=(⟨#[100,111,119,110]⟩:ByteArray)))
    ·have hb21':=ab hb21
     iterate 3 refine w_ ?_
     refine ZS ?_
     have hon:wOn c sig way (k:Int)=(false):=by first | exact absurd ((by assumption:way=⟨#[117,112]⟩).symm.trans (by assumption:way=⟨#[100,111,119,110]⟩)) (by decide) | (simp only[wOn,wOf,W6,hbit]; simp[*]; done)
     have hof:wOf c sig way (k:Int)=(false==(decide (u=49))):=by first | exact absurd ((by assumption:way=⟨#[117,112]⟩).symm.trans (by assumption:way=⟨#[100,111,119,110]⟩)) (by decide) | (simp only[wOn,wOf,W6,hbit]; simp[*]; done)
     iterate 8 refine w_ ?_
     cases hb22:(false==(decide (u=49)))
     ·refine w_ ?_
      refine AC.skip ?_
      refine (?_:AC _ _ _ _ _)
      iterate 3 refine w_ ?_
      refine Qd<|Q0 ⟨k+1,o1,o2,by omega,rfl,(by rw[hO1]; first | exact absurd (by assumption:(true==true)=false) (by decide) | exact absurd (by assumption:(false==false)=false) (by decide) | exact absurd (by assumption:(true==false)=true) (by decide) | exact absurd (by assumption:(false==true)=true) (by decide) | exact Zs hw (by rw[hon]; first | done | (simp[*]; done)) | exact Zt (by rw[hon]; first | done | (simp[*]; done))),(by rw[hO2]; first | exact absurd (by assumption:(true==true)=false) (by decide) | exact absurd (by assumption:(false==false)=false) (by decide) | exact absurd (by assumption:(true==false)=true) (by decide) | exact absurd (by assumption:(false==true)=true) (by decide) | exact Zs hw (by rw[hof]; first | done | (simp[*]; done)) | exact Zt (by rw[hof]; first | done | (simp[*]; done))),rfl⟩ (by omega) ?_
      exact Wk.of [] rfl ⟨rfl,rfl,rfl,rfl,rfl,rfl,rfl,rfl,trivial⟩ ⟨rfl,rfl,rfl,trivial⟩ rfl rfl
     ·iterate 5 refine w_ ?_
      refine lc (dK (QR o2 w (by omega) (by first | (rw[hO1]; exact Q1 QO _) | (rw[hO2]; exact Q1 QO _))) Zu) ?_
      iterate 2 refine w_ ?_
      refine Qd ?_
      refine (?_:AC _ _ _ _ _)
      iterate 3 refine w_ ?_
      refine Qd<|Q0 ⟨k+1,o1,(QN ltB w o2),by omega,rfl,(by rw[hO1]; first | exact absurd (by assumption:(true==true)=false) (by decide) | exact absurd (by assumption:(false==false)=false) (by decide) | exact absurd (by assumption:(true==false)=true) (by decide) | exact absurd (by assumption:(false==true)=true) (by decide) | exact Zs hw (by rw[hon]; first | done | (simp[*]; done)) | exact Zt (by rw[hon]; first | done | (simp[*]; done))),(by rw[hO2]; first | exact absurd (by assumption:(true==true)=false) (by decide) | exact absurd (by assumption:(false==false)=false) (by decide) | exact absurd (by assumption:(true==false)=true) (by decide) | exact absurd (by assumption:(false==true)=true) (by decide) | exact Zs hw (by rw[hof]; first | done | (simp[*]; done)) | exact Zt (by rw[hof]; first | done | (simp[*]; done))),rfl⟩ (by omega) ?_
      exact Wk.of [] rfl ⟨rfl,rfl,rfl,rfl,rfl,rfl,rfl,rfl,trivial⟩ ⟨rfl,rfl,rfl,trivial⟩ rfl rfl
    ·have hb21':=ae hb21
     iterate 8 refine w_ ?_
     refine lc (ZA (Qa rfl) (Qa rfl) rfl Yc) ?_
     iterate 4 refine w_ ?_
     refine ZS ?_
     have hon:wOn c sig way (k:Int)=(false):=by first | exact absurd ((by assumption:way=⟨#[117,112]⟩).symm.trans (by assumption:way=⟨#[100,111,119,110]⟩)) (by decide) | (simp only[wOn,wOf,W6,hbit]; simp[*]; done)
     have hof:wOf c sig way (k:Int)=(!(false==(decide (u=49)))):=by first | exact absurd ((by assumption:way=⟨#[117,112]⟩).symm.trans (by assumption:way=⟨#[100,111,119,110]⟩)) (by decide) | (simp only[wOn,wOf,W6,hbit]; simp[*]; done)
     iterate 8 refine w_ ?_
     cases hb23:(false==(decide (u=49)))
     ·iterate 5 refine w_ ?_
      refine lc (dK (QR o2 w (by omega) (by first | (rw[hO1]; exact Q1 QO _) | (rw[hO2]; exact Q1 QO _))) Zu) ?_
      iterate 2 refine w_ ?_
      refine Qd ?_
      refine (?_:AC _ _ _ _ _)
      iterate 3 refine w_ ?_
      refine Qd<|Q0 ⟨k+1,o1,(QN ltB w o2),by omega,rfl,(by rw[hO1]; first | exact absurd (by assumption:(true==true)=false) (by decide) | exact absurd (by assumption:(false==false)=false) (by decide) | exact absurd (by assumption:(true==false)=true) (by decide) | exact absurd (by assumption:(false==true)=true) (by decide) | exact Zs hw (by rw[hon]; first | done | (simp[*]; done)) | exact Zt (by rw[hon]; first | done | (simp[*]; done))),(by rw[hO2]; first | exact absurd (by assumption:(true==true)=false) (by decide) | exact absurd (by assumption:(false==false)=false) (by decide) | exact absurd (by assumption:(true==false)=true) (by decide) | exact absurd (by assumption:(false==true)=true) (by decide) | exact Zs hw (by rw[hof]; first | done | (simp[*]; done)) | exact Zt (by rw[hof]; first | done | (simp[*]; done))),rfl⟩ (by omega) ?_
      exact Wk.of [] rfl ⟨rfl,rfl,rfl,rfl,rfl,rfl,rfl,rfl,trivial⟩ ⟨rfl,rfl,rfl,trivial⟩ rfl rfl
     ·refine w_ ?_
      refine AC.skip ?_
      refine (?_:AC _ _ _ _ _)
      iterate 3 refine w_ ?_
      refine Qd<|Q0 ⟨k+1,o1,o2,by omega,rfl,(by rw[hO1]; first | exact absurd (by assumption:(true==true)=false) (by decide) | exact absurd (by assumption:(false==false)=false) (by decide) | exact absurd (by assumption:(true==false)=true) (by decide) | exact absurd (by assumption:(false==true)=true) (by decide) | exact Zs hw (by rw[hon]; first | done | (simp[*]; done)) | exact Zt (by rw[hon]; first | done | (simp[*]; done))),(by rw[hO2]; first | exact absurd (by assumption:(true==true)=false) (by decide) | exact absurd (by assumption:(false==false)=false) (by decide) | exact absurd (by assumption:(true==false)=true) (by decide) | exact absurd (by assumption:(false==true)=true) (by decide) | exact Zs hw (by rw[hof]; first | done | (simp[*]; done)) | exact Zt (by rw[hof]; first | done | (simp[*]; done))),rfl⟩ (by omega) ?_
      exact Wk.of [] rfl ⟨rfl,rfl,rfl,rfl,rfl,rfl,rfl,rfl,trivial⟩ ⟨rfl,rfl,rfl,trivial⟩ rfl rfl
   ·iterate 5 refine w_ ?_
    refine lc (Yf (Qa rfl) (Qa rfl) rfl Yc) ?_
    iterate 8 refine w_ ?_
    cases hb24:(decide (way=(⟨#[100,111,119,110]⟩:ByteArray)))
    ·have hb24':=ab hb24
     iterate 3 refine w_ ?_
     refine ZS ?_
     have hon:wOn c sig way (k:Int)=(!(decide (u=49))):=by first | exact absurd ((by assumption:way=⟨#[117,112]⟩).symm.trans (by assumption:way=⟨#[100,111,119,110]⟩)) (by decide) | (simp only[wOn,wOf,W6,hbit]; simp[*]; done)
     have hof:wOf c sig way (k:Int)=(true==(decide (u=49))):=by first | exact absurd ((by assumption:way=⟨#[117,112]⟩).symm.trans (by assumption:way=⟨#[100,111,119,110]⟩)) (by decide) | (simp only[wOn,wOf,W6,hbit]; simp[*]; done)
     iterate 3 refine w_ ?_
     cases hb25:(decide (u=49))
     ·have hb25':=ab hb25
      iterate 5 refine w_ ?_
      refine lc (dK (QR o1 w (by omega) (by first | (rw[hO1]; exact Q1 QO _) | (rw[hO2]; exact Q1 QO _))) Zu) ?_
      iterate 6 refine w_ ?_
      cases hb26:(true==false)
      ·refine w_ ?_
       refine AC.skip ?_
       refine (?_:AC _ _ _ _ _)
       iterate 3 refine w_ ?_
       refine Qd<|Q0 ⟨k+1,(QN ltB w o1),o2,by omega,rfl,(by rw[hO1]; first | exact absurd (by assumption:(true==true)=false) (by decide) | exact absurd (by assumption:(false==false)=false) (by decide) | exact absurd (by assumption:(true==false)=true) (by decide) | exact absurd (by assumption:(false==true)=true) (by decide) | exact Zs hw (by rw[hon]; first | done | (simp[*]; done)) | exact Zt (by rw[hon]; first | done | (simp[*]; done))),(by rw[hO2]; first | exact absurd (by assumption:(true==true)=false) (by decide) | exact absurd (by assumption:(false==false)=false) (by decide) | exact absurd (by assumption:(true==false)=true) (by decide) | exact absurd (by assumption:(false==true)=true) (by decide) | exact Zs hw (by rw[hof]; first | done | (simp[*]; done)) | exact Zt (by rw[hof]; first | done | (simp[*]; done))),rfl⟩ (by omega) ?_
       exact Wk.of [] rfl ⟨rfl,rfl,rfl,rfl,rfl,rfl,rfl,rfl,trivial⟩ ⟨rfl,rfl,rfl,trivial⟩ rfl rfl
      ·iterate 5 refine w_ ?_
       refine lc (dK (QR o2 w (by omega) (by first | (rw[hO1]; exact Q1 QO _) | (rw[hO2]; exact Q1 QO _))) Zu) ?_
       iterate 2 refine w_ ?_
       refine Qd ?_
       refine (?_:AC _ _ _ _ _)
       iterate 3 refine w_ ?_
       refine Qd<|Q0 ⟨k+1,(QN ltB w o1),(QN ltB w o2),by omega,rfl,(by rw[hO1]; first | exact absurd (by assumption:(true==true)=false) (by decide) | exact absurd (by assumption:(false==false)=false) (by decide) | exact absurd (by assumption:(true==false)=true) (by decide) | exact absurd (by assumption:(false==true)=true) (by decide) | exact Zs hw (by rw[hon]; first | done | (simp[*]; done)) | exact Zt (by rw[hon]; first | done | (simp[*]; done))),(by rw[hO2]; first | exact absurd (by assumption:(true==true)=false) (by decide) | exact absurd (by assumption:(false==false)=false) (by decide) | exact absurd (by assumption:(true==false)=true) (by decide) | exact absurd (by assumption:(false==true)=true) (by decide) | exact Zs hw (by rw[hof]; first | done | (simp[*]; done)) | exact Zt (by rw[hof]; first | done | (simp[*]; done))),rfl⟩ (by omega) ?_
       exact Wk.of [] rfl ⟨rfl,rfl,rfl,rfl,rfl,rfl,rfl,rfl,trivial⟩ ⟨rfl,rfl,rfl,trivial⟩ rfl rfl
     ·have hb25':=ae hb25
      iterate 5 refine w_ ?_
      cases hb27:(true==true)
      ·refine w_ ?_
       refine AC.skip ?_
       refine (?_:AC _ _ _ _ _)
       iterate 3 refine w_ ?_
       refine Qd<|Q0 ⟨k+1,o1,o2,by omega,rfl,(by rw[hO1]; first | exact absurd (by assumption:(true==true)=false) (by decide) | exact absurd (by assumption:(false==false)=false) (by decide) | exact absurd (by assumption:(true==false)=true) (by decide) | exact absurd (by assumption:(false==true)=true) (by decide) | exact Zs hw (by rw[hon]; first | done | (simp[*]; done)) | exact Zt (by rw[hon]; first | done | (simp[*]; done))),(by rw[hO2]; first | exact absurd (by assumption:(true==true)=false) (by decide) | exact absurd (by assumption:(false==false)=false) (by decide) | exact absurd (by assumption:(true==false)=true) (by decide) | exact absurd (by assumption:(false==true)=true) (by decide) | exact Zs hw (by rw[hof]; first | done | (simp[*]; done)) | exact Zt (by rw[hof]; first | done | (simp[*]; done))),rfl⟩ (by omega) ?_
       exact Wk.of [] rfl ⟨rfl,rfl,rfl,rfl,rfl,rfl,rfl,rfl,trivial⟩ ⟨rfl,rfl,rfl,trivial⟩ rfl rfl
      ·iterate 5 refine w_ ?_
       refine lc (dK (QR o2 w (by omega) (by first | (rw[hO1]; exact Q1 QO _) | (rw[hO2]; exact Q1 QO _))) Zu) ?_
       iterate 2 refine w_ ?_
       refine Qd ?_
       refine (?_:AC _ _ _ _ _)
       iterate 3 refine w_ ?_
       refine Qd<|Q0 ⟨k+1,o1,(QN ltB w o2),by omega,rfl,(by rw[hO1]; first | exact absurd (by assumption:(true==true)=false) (by decide) | exact absurd (by assumption:(false==false)=false) (by decide) | exact absurd (by assumption:(true==false)=true) (by decide) | exact absurd (by assumption:(false==true)=true) (by decide) | exact Zs hw (by rw[hon]; first | done | (simp[*]; done)) | exact Zt (by rw[hon]; first | done | (simp[*]; done))),(by rw[hO2]; first | exact absurd (by assumption:(true==true)=false) (by decide) | exact absurd (by assumption:(false==false)=false) (by decide) | exact absurd (by assumption:(true==false)=true) (by decide) | exact absurd (by assumption:(false==true)=true) (by decide) | exact Zs hw (by rw[hof]; first | done | (simp[*]; done)) | exact Zt (by rw[hof]; first | done | (simp[*]; done))),rfl⟩ (by omega) ?_
       exact Wk.of [] rfl ⟨rfl,rfl,rfl,rfl,rfl,rfl,rfl,rfl,trivial⟩ ⟨rfl,rfl,rfl,trivial⟩ rfl rfl
    ·have hb24':=ae hb24
     iterate 8 refine w_ ?_
     refine lc (ZA (Qa rfl) (Qa rfl) rfl Yc) ?_
     iterate 4 refine w_ ?_
     refine ZS ?_
     have hon:wOn c sig way (k:Int)=(decide (u=49)):=by first | exact absurd ((by assumption:way=⟨#[117,112]⟩).symm.trans (by assumption:way=⟨#[100,111,119,110]⟩)) (by decide) | (simp only[wOn,wOf,W6,hbit]; simp[*]; done)
     have hof:wOf c sig way (k:Int)=(!(true==(decide (u=49)))):=by first | exact absurd ((by assumption:way=⟨#[117,112]⟩).symm.trans (by assumption:way=⟨#[100,111,119,110]⟩)) (by decide) | (simp only[wOn,wOf,W6,hbit]; simp[*]; done)
     iterate 3 refine w_ ?_
     cases hb28:(decide (u=49))
     ·have hb28':=ab hb28
      iterate 5 refine w_ ?_
      cases hb29:(true==false)
      ·iterate 5 refine w_ ?_
       refine lc (dK (QR o2 w (by omega) (by first | (rw[hO1]; exact Q1 QO _) | (rw[hO2]; exact Q1 QO _))) Zu) ?_
       iterate 2 refine w_ ?_
       refine Qd ?_
       refine (?_:AC _ _ _ _ _)
       iterate 3 refine w_ ?_
       refine Qd<|Q0 ⟨k+1,o1,(QN ltB w o2),by omega,rfl,(by rw[hO1]; first | exact absurd (by assumption:(true==true)=false) (by decide) | exact absurd (by assumption:(false==false)=false) (by decide) | exact absurd (by assumption:(true==false)=true) (by decide) | exact absurd (by assumption:(false==true)=true) (by decide) | exact Zs hw (by rw[hon]; first | done | (simp[*]; done)) | exact Zt (by rw[hon]; first | done | (simp[*]; done))),(by rw[hO2]; first | exact absurd (by assumption:(true==true)=false) (by decide) | exact absurd (by assumption:(false==false)=false) (by decide) | exact absurd (by assumption:(true==false)=true) (by decide) | exact absurd (by assumption:(false==true)=true) (by decide) | exact Zs hw (by rw[hof]; first | done | (simp[*]; done)) | exact Zt (by rw[hof]; first | done | (simp[*]; done))),rfl⟩ (by omega) ?_
       exact Wk.of [] rfl ⟨rfl,rfl,rfl,rfl,rfl,rfl,rfl,rfl,trivial⟩ ⟨rfl,rfl,rfl,trivial⟩ rfl rfl
      ·refine w_ ?_
       refine AC.skip ?_
       refine (?_:AC _ _ _ _ _)
       iterate 3 refine w_ ?_
       refine Qd<|Q0 ⟨k+1,o1,o2,by omega,rfl,(by rw[hO1]; first | exact absurd (by assumption:(true==true)=false) (by decide) | exact absurd (by assumption:(false==false)=false) (by decide) | exact absurd (by assumption:(true==false)=true) (by decide) | exact absurd (by assumption:(false==true)=true) (by decide) | exact Zs hw (by rw[hon]; first | done | (simp[*]; done)) | exact Zt (by rw[hon]; first | done | (simp[*]; done))),(by rw[hO2]; first | exact absurd (by assumption:(true==true)=false) (by decide) | exact absurd (by assumption:(false==false)=false) (by decide) | exact absurd (by assumption:(true==false)=true) (by decide) | exact absurd (by assumption:(false==true)=true) (by decide) | exact Zs hw (by rw[hof]; first | done | (simp[*]; done)) | exact Zt (by rw[hof]; first | done | (simp[*]; done))),rfl⟩ (by omega) ?_
       exact Wk.of [] rfl ⟨rfl,rfl,rfl,rfl,rfl,rfl,rfl,rfl,trivial⟩ ⟨rfl,rfl,rfl,trivial⟩ rfl rfl
     ·have hb28':=ae hb28
      iterate 5 refine w_ ?_
      refine lc (dK (QR o1 w (by omega) (by first | (rw[hO1]; exact Q1 QO _) | (rw[hO2]; exact Q1 QO _))) Zu) ?_
      iterate 6 refine w_ ?_
      cases hb30:(true==true)
      ·iterate 5 refine w_ ?_
       refine lc (dK (QR o2 w (by omega) (by first | (rw[hO1]; exact Q1 QO _) | (rw[hO2]; exact Q1 QO _))) Zu) ?_
       iterate 2 refine w_ ?_
       refine Qd ?_
       refine (?_:AC _ _ _ _ _)
       iterate 3 refine w_ ?_
       refine Qd<|Q0 ⟨k+1,(QN ltB w o1),(QN ltB w o2),by omega,rfl,(by rw[hO1]; first | exact absurd (by assumption:(true==true)=false) (by decide) | exact absurd (by assumption:(false==false)=false) (by decide) | exact absurd (by assumption:(true==false)=true) (by decide) | exact absurd (by assumption:(false==true)=true) (by decide) | exact Zs hw (by rw[hon]; first | done | (simp[*]; done)) | exact Zt (by rw[hon]; first | done | (simp[*]; done))),(by rw[hO2]; first | exact absurd (by assumption:(true==true)=false) (by decide) | exact absurd (by assumption:(false==false)=false) (by decide) | exact absurd (by assumption:(true==false)=true) (by decide) | exact absurd (by assumption:(false==true)=true) (by decide) | exact Zs hw (by rw[hof]; first | done | (simp[*]; done)) | exact Zt (by rw[hof]; first | done | (simp[*]; done))),rfl⟩ (by omega) ?_
       exact Wk.of [] rfl ⟨rfl,rfl,rfl,rfl,rfl,rfl,rfl,rfl,trivial⟩ ⟨rfl,rfl,rfl,trivial⟩ rfl rfl
      ·refine w_ ?_
       refine AC.skip ?_
       refine (?_:AC _ _ _ _ _)
       iterate 3 refine w_ ?_
       refine Qd<|Q0 ⟨k+1,(QN ltB w o1),o2,by omega,rfl,(by rw[hO1]; first | exact absurd (by assumption:(true==true)=false) (by decide) | exact absurd (by assumption:(false==false)=false) (by decide) | exact absurd (by assumption:(true==false)=true) (by decide) | exact absurd (by assumption:(false==true)=true) (by decide) | exact Zs hw (by rw[hon]; first | done | (simp[*]; done)) | exact Zt (by rw[hon]; first | done | (simp[*]; done))),(by rw[hO2]; first | exact absurd (by assumption:(true==true)=false) (by decide) | exact absurd (by assumption:(false==false)=false) (by decide) | exact absurd (by assumption:(true==false)=true) (by decide) | exact absurd (by assumption:(false==true)=true) (by decide) | exact Zs hw (by rw[hof]; first | done | (simp[*]; done)) | exact Zt (by rw[hof]; first | done | (simp[*]; done))),rfl⟩ (by omega) ?_
       exact Wk.of [] rfl ⟨rfl,rfl,rfl,rfl,rfl,rfl,rfl,rfl,trivial⟩ ⟨rfl,rfl,rfl,trivial⟩ rfl rfl
end Go.Proofs.YtfkmmpfdncopdaaGreat
namespace Go.Proofs.YtfkmmpfdncopdaaGreat
open Go.RowKit
set_option maxRecDepth 100000
set_option maxHeartbeats 4000000
section
variable [∀c,Decidable (SgOk c)]{c:DSg}{k:Nat}{w way code:ByteArray}{u:UInt8}{sig q n:Int}{l:List ByteArray}{x:Qz}
def Qk (c:DSg)(sig:Int)(way:ByteArray):DOn:=if QB c sig way then YA c sig way else ([],[])
abbrev WT (c:DSg)(sig:Int):Prop:=SgOk c∧(0≤sig∧sig≤(c.1.length:Int) - 1)∧W5 c sig=false
theorem Qq5 (h:WT c sig)(h2:OOk (c.1.length:Int) (YA c sig way).1 (YA c sig way).2):QB c sig way:=⟨h,h2⟩
theorem H8 (h:¬WT c sig):¬QB c sig way:=fun g=>h g.1
theorem Qns (h2:¬OOk (c.1.length:Int) (YA c sig way).1 (YA c sig way).2):¬QB c sig way:=fun g=>h2 g.2
theorem Qd1 (h:QB c sig way):Qk c sig way=YA c sig way:=if_pos h
theorem JF (h:¬QB c sig way):Qk c sig way=([],[]):=if_neg h
theorem QdR (h:WT c sig):KN c (fun q=>nsB c sig q) (fun q=> !(nsB c sig q))=Qk c sig Qq:=by
  unfold KN Qk
  rw[← Qd4]
  by_cases g:ZU c (fun q=>nsB c sig q) (fun q=> !(nsB c sig q))
  · rw[if_pos g,if_pos ⟨h,QaV.2 g⟩]
  · rw[if_neg g,if_neg fun g2=>g (QaV.1 g2.2)]
theorem Qgv (h:WT c sig):decide (ZU c (fun q=>nsB c sig q) (fun q=> !(nsB c sig q)))=decide (QB c sig Qq):=bL.2 ⟨fun g=>⟨h,QaV.2 g⟩,fun g=>QaV.1 g.2⟩
def nvB (c:DSg)(code:ByteArray)(sig:Int):Bool:=decide (QB c sig Qq)&&(Yq (Qk c sig Qq).1 code||Yq (Qk c sig Qq).2 code)
def nvV (c:DSg)(code:ByteArray)(sig:Int):Bool:=nvB c code sig&&Yq (Qk c sig Qq).1 code
theorem Qsl (h:¬QB c sig Qq):nvV c code sig=false∧nvB c code sig=false:=by
  have:nvB c code sig=false:=by unfold nvB; rw[ay h]; rfl
  exact ⟨by unfold nvV; rw[this]; rfl,this⟩
theorem Qs7 (h:QB c sig Qq)(h1:(Qk c sig Qq).1.any (fun y=>decide (code=y))=true):nvV c code sig=true∧nvB c code sig=true:=by
  have h1:Yq (Qk c sig Qq).1 code=true:=h1
  have:nvB c code sig=true:=by unfold nvB; rw[aJ h,h1]; rfl
  exact ⟨by unfold nvV; rw[this,h1]; rfl,this⟩
theorem QtB (h:QB c sig Qq)(h1:(Qk c sig Qq).1.any (fun y=>decide (code=y))=false)(h2:(Qk c sig Qq).2.any (fun y=>decide (code=y))=true):nvV c code sig=false∧nvB c code sig=true:=by
  have h1:Yq (Qk c sig Qq).1 code=false:=h1
  have h2:Yq (Qk c sig Qq).2 code=true:=h2
  have:nvB c code sig=true:=by unfold nvB; rw[aJ h,h1,h2]; rfl
  exact ⟨by unfold nvV; rw[this,h1]; rfl,this⟩
theorem Qqp (h:QB c sig Qq)(g:Yq (Qk c sig Qq).1 code=true∨Yq (Qk c sig Qq).2 code=true):nvV c code sig=Yq (Qk c sig Qq).1 code∧nvB c code sig=true:=by
  have:nvB c code sig=true:=by
    unfold nvB
    rw[aJ h]
    rcases g with g | g <;> rw[g] <;> simp
  exact ⟨by unfold nvV; rw[this]; rfl,this⟩
theorem Qsd (h1:(Qk c sig Qq).1.any (fun y=>decide (code=y))=false)(h2:(Qk c sig Qq).2.any (fun y=>decide (code=y))=false):nvV c code sig=false∧nvB c code sig=false:=by
  have h1:Yq (Qk c sig Qq).1 code=false:=h1
  have h2:Yq (Qk c sig Qq).2 code=false:=h2
  have:nvB c code sig=false:=by unfold nvB; rw[h1,h2]; simp
  exact ⟨by unfold nvV; rw[this]; rfl,this⟩
end
theorem Ve (c:(List (ByteArray×Int))×List ByteArray×(List (Int×Int×Bool×Int)))(sig:Int)[∀c,Decidable (SgOk c)]:FC Tryz.prog 86 [(true,[.dat (.sl 203 (.pr .str .int)) c.1, .dat (.sl 9 .str) c.2.1, .dat (.sl 136 (.pr .int (.pr .int (.pr .bool .int)))) c.2.2]),(false,[dI sig])] [] 0 (QH (lB (decide (SgOk c∧(0≤sig∧sig≤(c.1.length:Int) - 1)∧W5 c sig=false)))):=by
 refine Ql Tryz.func86 rfl rfl Tryz.ntmps86 fun O_ hO w0_ N0_ X_ h0_ f0_=> ?_
 refine acI 1 fun hi1=> ?_
 refine w_ ?_
 refine xbx 0 ?_
 iterate 5 refine w_ ?_
 refine lc (dK (JN c sig) Qhb) ?_
 refine w_ ?_
 cases hb2:(decide (SgOk c∧0≤sig∧sig≤(c.1.length:Int) - 1))
 ·have hb2':=ab hb2
  iterate 10 refine w_ ?_
  refine Qb<|fqB hO ?_
  exact (ay fun g=>absurd (⟨g.1,g.2.1⟩:SgOk c∧(0≤sig∧sig≤(c.1.length:Int) - 1)) (by assumption)).symm
 ·have hb2':=ae hb2
  iterate 3 refine w_ ?_
  obtain ⟨x3,hx4⟩:∃z,c.1[(sig).toNat]? =some z:=⟨_,aa (by omega)⟩
  iterate 7 refine w_ ?_
  refine Qb<|fqB hO ?_
  exact Qpw (‹SgOk c∧_›).1 (‹SgOk c∧_›).2 hx4
theorem X1 (c:(List (ByteArray×Int))×List ByteArray×(List (Int×Int×Bool×Int)))(sig:Int)(way:ByteArray)[∀c,Decidable (SgOk c)]:FC Tryz.prog 91 [(true,[.dat (.sl 203 (.pr .str .int)) c.1, .dat (.sl 9 .str) c.2.1, .dat (.sl 136 (.pr .int (.pr .int (.pr .bool .int)))) c.2.2]),(false,[dI sig]),(false,[dS way])] [] 0 (QH (PV.tup [(true,[.dat (.sl 9 .str) ((Qk c sig way).1), .dat (.sl 9 .str) ((Qk c sig way).2)]),(false,[dB (decide (QB c sig way))])])):=by
 refine Ql Tryz.func91 rfl rfl Tryz.ntmps91 fun O_ hO w0_ N0_ X_ h0_ f0_=> ?_
 refine acI 1 fun hi1=> ?_
 refine w_ ?_
 refine xbx 0 ?_
 refine lc (xal 1 (.pr (.sl 9 .str) (.sl 9 .str)) Ze) ?_
 iterate 6 refine w_ ?_
 refine lc (dK (J5 c sig) QhV) ?_
 iterate 2 refine w_ ?_
 cases hb2:(decide (SgOk c∧(0≤sig∧sig≤(c.1.length:Int) - 1)∧W5 c sig=false))
 ·have hb2':=ab hb2
  iterate 2 refine w_ ?_
  refine lc (Qp UO rfl (aB.1 rfl) rfl rfl) ?_
  iterate 3 refine w_ ?_
  refine AC.wk (U4 (p:=1) [.dat (.sl 9 .str) ([]), .dat (.sl 9 .str) ([])] rfl ⟨_,_,rfl, .inr ⟨_,_,rfl,rfl⟩,⟨_,_,rfl, .inr ⟨_,_,rfl,rfl⟩,rfl⟩⟩)<|Qb ?_
  have e3:([]:((.sl 9 .str):Ty).Den)=((Qk c sig way).1):=by
   (rw[JF (H8 (by assumption))]; done)
  have e4:([]:((.sl 9 .str):Ty).Den)=((Qk c sig way).2):=by
   (rw[JF (H8 (by assumption))]; done)
  have e5:(false:Bool)=(decide (QB c sig way)):=by
   exact (ay (H8 (by assumption))).symm
  exact fr_ hO (e:=(((congrArg (fun z_=>PV.tup [(true,[.dat (.sl 9 .str) z_, .dat (.sl 9 .str) ([])]),(false,[dB false])]) e3)).trans (congrArg (fun z_=>PV.tup [(true,[.dat (.sl 9 .str) ((Qk c sig way).1), .dat (.sl 9 .str) z_]),(false,[dB false])]) e4)).trans (congrArg (fun z_=>PV.tup [(true,[.dat (.sl 9 .str) ((Qk c sig way).1), .dat (.sl 9 .str) ((Qk c sig way).2)]),(false,[dB z_])]) e5))
 ·have hb2':=ae hb2
  iterate 6 refine w_ ?_
  refine lc (dK (Qaw c sig way (by assumption:WT c sig).1 (by assumption:WT c sig).2.1) QgW) ?_
  refine lc (xal 2 (.pr (.sl 9 .str) (.sl 9 .str)) Ze) ?_
  iterate 6 refine w_ ?_
  refine alL 19 fun hl6=> ?_
  iterate 5 refine w_ ?_
  refine lc (dK (Ud (c.1.length:Int) ((YA c sig way).1) ((YA c sig way).2)) Qb9) ?_
  iterate 2 refine w_ ?_
  cases hb7:(decide (OOk (c.1.length:Int) ((YA c sig way).1) ((YA c sig way).2)))
  ·have hb7':=ab hb7
   iterate 2 refine w_ ?_
   refine lc (Qp UO rfl (aB.1 rfl) rfl rfl) ?_
   iterate 3 refine w_ ?_
   refine AC.wk (U4 (p:=1) [.dat (.sl 9 .str) ([]), .dat (.sl 9 .str) ([])] rfl ⟨_,_,rfl, .inr ⟨_,_,rfl,rfl⟩,⟨_,_,rfl, .inr ⟨_,_,rfl,rfl⟩,rfl⟩⟩)<|Qb ?_
   have e8:([]:((.sl 9 .str):Ty).Den)=((Qk c sig way).1):=by
    (rw[JF (Qns (by assumption))]; done)
   have e9:([]:((.sl 9 .str):Ty).Den)=((Qk c sig way).2):=by
    (rw[JF (Qns (by assumption))]; done)
   have e10:(false:Bool)=(decide (QB c sig way)):=by
    exact (ay (Qns (by assumption))).symm
   exact fr_ hO (e:=(((congrArg (fun z_=>PV.tup [(true,[.dat (.sl 9 .str) z_, .dat (.sl 9 .str) ([])]),(false,[dB false])]) e8)).trans (congrArg (fun z_=>PV.tup [(true,[.dat (.sl 9 .str) ((Qk c sig way).1), .dat (.sl 9 .str) z_]),(false,[dB false])]) e9)).trans (congrArg (fun z_=>PV.tup [(true,[.dat (.sl 9 .str) ((Qk c sig way).1), .dat (.sl 9 .str) ((Qk c sig way).2)]),(false,[dB z_])]) e10))
  ·have hb7':=ae hb7
   iterate 7 refine w_ ?_
   refine Qb ?_
   have e11:((YA c sig way).1:((.sl 9 .str):Ty).Den)=((Qk c sig way).1):=by
    (rw[Qd1 (Qq5 (by assumption) (by assumption))]; done)
   have e12:((YA c sig way).2:((.sl 9 .str):Ty).Den)=((Qk c sig way).2):=by
    (rw[Qd1 (Qq5 (by assumption) (by assumption))]; done)
   have e13:(true:Bool)=(decide (QB c sig way)):=by
    exact (aJ (Qq5 (by assumption) (by assumption))).symm
   exact fr_ hO (e:=(((congrArg (fun z_=>PV.tup [(true,[.dat (.sl 9 .str) z_, .dat (.sl 9 .str) ((YA c sig way).2)]),(false,[dB true])]) e11)).trans (congrArg (fun z_=>PV.tup [(true,[.dat (.sl 9 .str) ((Qk c sig way).1), .dat (.sl 9 .str) z_]),(false,[dB true])]) e12)).trans (congrArg (fun z_=>PV.tup [(true,[.dat (.sl 9 .str) ((Qk c sig way).1), .dat (.sl 9 .str) ((Qk c sig way).2)]),(false,[dB z_])]) e13))
theorem Xv (c:(List (ByteArray×Int))×List ByteArray×(List (Int×Int×Bool×Int)))(sig:Int)[∀c,Decidable (SgOk c)]:FC Tryz.prog 28 [(true,[.dat (.sl 203 (.pr .str .int)) c.1, .dat (.sl 9 .str) c.2.1, .dat (.sl 136 (.pr .int (.pr .int (.pr .bool .int)))) c.2.2]),(false,[dI sig])] [] 0 (QH (PV.tup [(true,[.dat (.sl 9 .str) ((Qk c sig Qq).1), .dat (.sl 9 .str) ((Qk c sig Qq).2)]),(false,[dB (decide (QB c sig Qq))])])):=by
 refine Ql Tryz.func28 rfl rfl Tryz.ntmps28 fun O_ hO w0_ N0_ X_ h0_ f0_=> ?_
 refine acI 1 fun hi1=> ?_
 refine w_ ?_
 refine xbx 0 ?_
 refine lc (xal 1 (.pr (.sl 9 .str) (.sl 9 .str)) Ze) ?_
 iterate 5 refine w_ ?_
 refine lc (dK (X1 c sig (⟨#[110,101,120,116]⟩:ByteArray)) Hh) ?_
 iterate 5 refine w_ ?_
 refine Qb ?_
 have e2:((Qk c sig (⟨#[110,101,120,116]⟩:ByteArray)).1:((.sl 9 .str):Ty).Den)=((Qk c sig Qq).1):=by
  rfl
 have e3:((Qk c sig (⟨#[110,101,120,116]⟩:ByteArray)).2:((.sl 9 .str):Ty).Den)=((Qk c sig Qq).2):=by
  rfl
 have e4:(decide (QB c sig (⟨#[110,101,120,116]⟩:ByteArray)):Bool)=(decide (QB c sig Qq)):=by
  rfl
 exact fr_ hO (e:=(((congrArg (fun z_=>PV.tup [(true,[.dat (.sl 9 .str) z_, .dat (.sl 9 .str) ((Qk c sig (⟨#[110,101,120,116]⟩:ByteArray)).2)]),(false,[dB (decide (QB c sig (⟨#[110,101,120,116]⟩:ByteArray)))])]) e2)).trans (congrArg (fun z_=>PV.tup [(true,[.dat (.sl 9 .str) ((Qk c sig Qq).1), .dat (.sl 9 .str) z_]),(false,[dB (decide (QB c sig (⟨#[110,101,120,116]⟩:ByteArray)))])]) e3)).trans (congrArg (fun z_=>PV.tup [(true,[.dat (.sl 9 .str) ((Qk c sig Qq).1), .dat (.sl 9 .str) ((Qk c sig Qq).2)]),(false,[dB z_])]) e4))
theorem Yx (c:(List (ByteArray×Int))×List ByteArray×(List (Int×Int×Bool×Int)))(sig:Int)[∀c,Decidable (SgOk c)]:FC Tryz.prog 27 [(true,[.dat (.sl 203 (.pr .str .int)) c.1, .dat (.sl 9 .str) c.2.1, .dat (.sl 136 (.pr .int (.pr .int (.pr .bool .int)))) c.2.2]),(false,[dI sig])] [] 0 (Is (PV.tup [(true,[.ref 0, .ref 1]),(false,[dB (decide (QB c sig Qq))])]) [ar 0 9 .str ((Qk c sig Qq).1),ar 1 9 .str ((Qk c sig Qq).2)]):=by
 refine Ql Tryz.func27 rfl rfl Tryz.ntmps27 fun O_ hO w0_ N0_ X_ h0_ f0_=> ?_
 refine acI 1 fun hi1=> ?_
 refine w_ ?_
 refine xbx 0 ?_
 refine xbx 1 ?_
 refine lc (xal 2 (.pr (.sl 9 .str) (.sl 9 .str)) Ze) ?_
 iterate 6 refine w_ ?_
 refine lc (dK (Ve c sig) Qdb) ?_
 iterate 2 refine w_ ?_
 cases hb2:(decide (SgOk c∧(0≤sig∧sig≤(c.1.length:Int) - 1)∧W5 c sig=false))
 ·have hb2':=ab hb2
  iterate 2 refine w_ ?_
  refine lc (Qp UO rfl (aB.1 rfl) rfl rfl) ?_
  iterate 3 refine w_ ?_
  refine AC.wk (Qu 3 (p:=2) (off:=0) 9 .str rfl rfl (Fresh.of rfl) (nlr rfl))<|AC.wk (Qu 4 (p:=2) (off:=1) 9 .str rfl rfl (Fresh.of rfl) (nlr rfl))<|Qb ?_
  have e3:(false:Bool)=(decide (QB c sig Qq)):=by
   exact (ay (H8 (by assumption))).symm
  exact fi_ [(0,3),(1,4)] hO ⟨(Qn (by (rw[JF (H8 (by assumption))]; done))),(Qn (by (rw[JF (H8 (by assumption))]; done))),trivial⟩ (h0:=(congrArg (fun z_=>PV.tup [(true,[.ref 3, .ref 4]),(false,[dB z_])]) e3))
 ·have hb2':=ae hb2
  iterate 4 refine w_ ?_
  refine lc (Zj ⟨_,_,rfl,(Qa rfl),rfl,⟨_,_,rfl,(Qa rfl),rfl,rfl⟩⟩ rfl)<|lc (Zj ⟨_,_,rfl,(Qa rfl),rfl,⟨_,_,rfl,(Qa rfl),rfl,rfl⟩⟩ rfl) ?_
  refine lc (dP 5 [] (QbZ c c sig (by assumption:WT c sig).1 (by assumption:WT c sig).2.1 rfl) Qdq) ?_
  iterate 5 refine w_ ?_
  refine Qb ?_
  have e4:(decide (ZU c (fun q=>nsB c sig q) (fun q=> !(nsB c sig q))):Bool)=(decide (QB c sig Qq)):=by
   exact Qgv (by assumption)
  exact fi_ [(0,7),(1,8)] hO ⟨(Qn (by (rw[QdR (by assumption)]; done))),(Qn (by (rw[QdR (by assumption)]; done))),trivial⟩ (h0:=(congrArg (fun z_=>PV.tup [(true,[.ref 7, .ref 8]),(false,[dB z_])]) e4))
theorem JD (c:(List (ByteArray×Int))×List ByteArray×(List (Int×Int×Bool×Int)))(code:ByteArray)(sig:Int)[∀c,Decidable (SgOk c)]:FC Tryz.prog 21 [(true,[.dat (.sl 203 (.pr .str .int)) c.1, .dat (.sl 9 .str) c.2.1, .dat (.sl 136 (.pr .int (.pr .int (.pr .bool .int)))) c.2.2]),(false,[dS code]),(false,[dI sig])] [] 0 (QH (PV.tup [(false,[dB (nvV c code sig)]),(false,[dB (nvB c code sig)])])):=by
 refine Ql Tryz.func21 rfl rfl Tryz.ntmps21 fun O_ hO w0_ N0_ X_ h0_ f0_=> ?_
 refine acI 2 fun hi1=> ?_
 refine w_ ?_
 refine xbx 0 ?_
 iterate 6 refine w_ ?_
 refine lc (dG 1 (Yx c sig) Hy) ?_
 iterate 3 refine w_ ?_
 refine lc (xal 3 (.pr (.sl 9 .str) (.sl 9 .str)) Ze) ?_
 iterate 7 refine w_ ?_
 refine lc (dB_ (Zv ((Qk c sig Qq).1) code) Hj) ?_
 iterate 7 refine w_ ?_
 cases hb2:(decide (QB c sig Qq))
 ·have hb2':=ab hb2
  iterate 3 refine w_ ?_
  refine Qf rfl rfl rfl ?_ rfl
  refine Qf rfl rfl rfl ?_ rfl
  refine Qf rfl rfl rfl ?_ rfl
  refine Qf rfl rfl rfl ?_ rfl
  refine Qf rfl rfl rfl ?_ rfl
  iterate 8 refine w_ ?_
  refine Qb ?_
  have e3:(false:Bool)=(nvV c code sig):=by
   exact (Qsl (by assumption)).1.symm
  have e4:(false:Bool)=(nvB c code sig):=by
   exact (Qsl (by assumption)).2.symm
  exact fr_ hO (e:=((congrArg (fun z_=>PV.tup [(false,[dB z_]),(false,[dB false])]) e3)).trans (congrArg (fun z_=>PV.tup [(false,[dB (nvV c code sig)]),(false,[dB z_])]) e4))
 ·have hb2':=ae hb2
  iterate 3 refine w_ ?_
  cases hb5:(((Qk c sig Qq).1).any (fun y=>decide (code=y)))
  ·iterate 3 refine w_ ?_
   refine lgy rfl rfl (dB_ (Zv ((Qk c sig Qq).2) code) Hj) ?_
   iterate 4 refine w_ ?_
   cases hb6:(((Qk c sig Qq).2).any (fun y=>decide (code=y)))
   ·iterate 5 refine w_ ?_
    refine Qb ?_
    have e7:(false:Bool)=(nvV c code sig):=by
     exact (Qsd (by assumption) (by assumption)).1.symm
    have e8:(false:Bool)=(nvB c code sig):=by
     exact (Qsd (by assumption) (by assumption)).2.symm
    exact fr_ hO (e:=((congrArg (fun z_=>PV.tup [(false,[dB z_]),(false,[dB false])]) e7)).trans (congrArg (fun z_=>PV.tup [(false,[dB (nvV c code sig)]),(false,[dB z_])]) e8))
   ·iterate 7 refine w_ ?_
    refine Qb ?_
    have e9:(false:Bool)=(nvV c code sig):=by
     exact (QtB (by assumption) (by assumption) (by assumption)).1.symm
    have e10:(true:Bool)=(nvB c code sig):=by
     exact (Qqp (by assumption) (.inr (by assumption))).2.symm
    exact fr_ hO (e:=((congrArg (fun z_=>PV.tup [(false,[dB z_]),(false,[dB true])]) e9)).trans (congrArg (fun z_=>PV.tup [(false,[dB (nvV c code sig)]),(false,[dB z_])]) e10))
  ·iterate 15 refine w_ ?_
   refine Qb ?_
   have e11:(true:Bool)=(nvV c code sig):=by
    exact (Qs7 (by assumption) (by assumption)).1.symm
   have e12:(true:Bool)=(nvB c code sig):=by
    exact (Qqp (by assumption) (.inl (by assumption))).2.symm
   exact fr_ hO (e:=((congrArg (fun z_=>PV.tup [(false,[dB z_]),(false,[dB true])]) e11)).trans (congrArg (fun z_=>PV.tup [(false,[dB (nvV c code sig)]),(false,[dB z_])]) e12))
end Go.Proofs.YtfkmmpfdncopdaaGreat
