/- Walks over abstract states: next-state sets and values, both sides; covers at a code (second part). -/
import Derived.Test.YtgpdhgadmjfokaaGreatHHf
set_option linter.unusedSimpArgs false
set_option linter.unusedVariables false
set_option linter.unusedSectionVars false
namespace Go.Proofs.YtgpdhgadmjfokaaGreat
open Go.RowKit
set_option maxRecDepth 100000
set_option maxHeartbeats 4000000
section
variable {c:DSg}{k:Nat}{w way code:ByteArray}{u:UInt8}{sig q n:Int}{l:List ByteArray}
def Y3 (c:DSg)(sig:Int)(way:ByteArray):DOn:=Qfq c (wOn c sig way) (wOf c sig way)
def Yl (c:DSg)(sig:Int)(way:ByteArray):Prop:=(SgOk c∧(0≤sig∧sig≤(c.1.length:Int) - 1)∧WW c sig=false)∧XF c (wOn c sig way) (wOf c sig way)
instance [∀c,Decidable (SgOk c)] (c:DSg) (sig:Int) (way:ByteArray):Decidable (Yl c sig way):=inferInstanceAs (Decidable (_∧_))
abbrev QW:ByteArray:=⟨#[110,101,120,116]⟩
theorem Jk:(wOn c sig QW)=(fun q=>nsB c sig q)∧(wOf c sig QW)=(fun q=> !(nsB c sig q)):=by
  have h1:¬QW=(⟨#[100,111,119,110]⟩:ByteArray):=by decide
  have h2:¬QW=(⟨#[117,112]⟩:ByteArray):=by decide
  constructor <;> funext q <;> simp only[wOn,wOf,Up,if_neg h1,if_neg h2,nsB] <;> cases YY c q sig <;> cases decide (bAt (Xj c q) sig=49) <;> rfl
theorem Qjh:Y3 c sig QW=Qfq c (fun q=>nsB c sig q) (fun q=> !(nsB c sig q)):=by unfold Y3; rw[Jk.1,Jk.2]
theorem HR:XF c (wOn c sig QW) (wOf c sig QW)↔XF c (fun q=>nsB c sig q) (fun q=> !(nsB c sig q)):=by rw[Jk.1,Jk.2]
end
theorem Ho (c:(List (ByteArray×Int))×List ByteArray×(List (Int×Int×Bool×Int)))(sig:Int)(way:ByteArray)(hs:SgOk c)(hg:0≤sig∧sig≤(c.1.length:Int) - 1):FC Tryz.prog 298 [(true,[.dat (.sl 44 (.pr .str .int)) c.1, .dat (.sl 9 .str) c.2.1, .dat (.sl 46 (.pr .int (.pr .int (.pr .bool .int)))) c.2.2]),(false,[dI sig]),(false,[dS way])] [] 0 (QV (ag [.dat (.sl 9 .str) ((Y3 c sig way).1), .dat (.sl 9 .str) ((Y3 c sig way).2)])):=by
 have hn3:=hs.some_
 have hfw:=hs.few
 have h8:=hs.sigs.2.2
 refine Qj Tryz.func298 rfl rfl Tryz.ntmps298 fun O_ hO w0_ N0_ X_ h0_ f0_=> ?_
 refine acI 1 fun hi1=> ?_
 refine w_ ?_
 refine xbx 0 ?_
 refine lc (xal 1 (.pr (.sl 9 .str) (.sl 9 .str)) ZC) ?_
 iterate 2 refine w_ ?_
 refine lc (xal 2 (.pr (.sl 9 .str) (.sl 9 .str)) ZC) ?_
 iterate 5 refine w_ ?_
 refine alL 15 fun hl2=> ?_
 iterate 4 refine w_ ?_
 refine AC.wk (Qaq (p:=2) [.dat (.sl 9 .str) ([]), .val (.slice none 0 0)] rfl ⟨_,_,rfl, .inr ⟨_,_,rfl,rfl⟩,⟨_,_,rfl, .inl rfl,rfl⟩⟩)<|AC.wk (Qaq (p:=2) [.dat (.sl 9 .str) ([]), .dat (.sl 9 .str) ([])] rfl ⟨_,_,rfl, .inl rfl,⟨_,_,rfl, .inr ⟨_,_,rfl,rfl⟩,rfl⟩⟩) ?_
 refine QF (fun m_ s_=>∃(k:Nat) (o1:List ByteArray) (o2:List ByteArray),k≤c.2.1.length∧m_=c.2.1.length - k∧(o1=ofG ltB (pkL c (wOn c sig way) k))∧(o2=ofG ltB (pkL c (wOf c sig way) k))∧s_=⟨[(1,lI sig),(2,lf (dS way)),(3,lP 0 0),(6,lP 1 0),(7,lP 2 0),(15,lf (.dat (.sl 9 .str) c.2.1)),(16,lI (c.2.1.length:Int)),(17,lI (k:Int))],[bx 0 27 [.dat (.sl 44 (.pr .str .int)) c.1, .dat (.sl 9 .str) c.2.1, .dat (.sl 46 (.pr .int (.pr .int (.pr .bool .int)))) c.2.2],bx 1 107 [.val (.slice none 0 0), .val (.slice none 0 0)],bx 2 107 [.dat (.sl 9 .str) o1, .dat (.sl 9 .str) o2]]⟩) ⟨0,([]:((.sl 9 .str):Ty).Den),([]:((.sl 9 .str):Ty).Den),aT _,rfl,rfl,rfl,rfl⟩ ?_ ?_
 · exact Wk.of [] rfl ⟨rfl,rfl,rfl,rfl,rfl,rfl,rfl,rfl,trivial⟩ ⟨rfl,rfl,rfl,trivial⟩ rfl rfl
 rintro m_ s_ ⟨k,o1,o2,hk3,hm4,hO1,hO2,rfl⟩
 have h1l:o1.length≤k:=by rw[hO1]; exact Qit
 have h2l:o2.length≤k:=by rw[hO2]; exact Qit
 iterate 4 refine w_ ?_
 cases hb5:(decide ((k:Int) < (c.2.1.length:Int)))
 ·have hb5':=ab hb5
  refine w_ ?_
  refine Qi ?_
  refine (?_:AC _ _ _ _ _)
  iterate 4 refine w_ ?_
  refine Qb ?_
  have e6:(o1:((.sl 9 .str):Ty).Den)=((Y3 c sig way).1):=by
   (rw[hO1,show k=c.2.1.length by omega]; rfl)
  have e7:(o2:((.sl 9 .str):Ty).Den)=((Y3 c sig way).2):=by
   (rw[hO2,show k=c.2.1.length by omega]; rfl)
  exact fr_ hO (e:=((congrArg (fun z_=>ag [.dat (.sl 9 .str) z_, .dat (.sl 9 .str) o2]) e6)).trans (congrArg (fun z_=>ag [.dat (.sl 9 .str) ((Y3 c sig way).1), .dat (.sl 9 .str) z_]) e7))
 ·have hb5':=ae hb5
  iterate 6 refine w_ ?_
  obtain ⟨w,hx9⟩:∃z,c.2.1[k]? =some z:=⟨_,aa (by omega)⟩
  have hw:=hx9
  have hws:=(hs.codes _ (ao hx9)).2
  iterate 5 refine w_ ?_
  obtain ⟨u,hc11⟩:∃z,w[(sig).toNat]? =some z:=⟨_,b6 _ _ (by omega)⟩
  have hbit:decide (bAt (Xj c (k:Int)) sig=49)=decide (u=49):=by rw[XH hw,Q3 hc11]
  apply dW (i3 22 _ _ _ (io 25 (lB (decide (u=49))) :: i3 26 _ _ _ (io 29 (lB (YY c (k:Int) sig)) :: i2 10 _ _ []))) [0,1,0,0,15,31,63,15,0,0]
  iterate 3 refine z_ ?_
  refine zz (fun _ h_=>ac (Zz (h_.v rfl) (QM 49 rfl) rfl) rfl) ?_
  iterate 3 refine z_ ?_
  refine zz (fun _ h_=>ac (dK (Jo c (k:Int) sig) Qhf) rfl) ?_
  iterate 2 refine z_ ?_
  exact zN
  iterate 3 refine w_ ?_
  refine lc (ZL (Qa rfl) (Qa rfl) rfl Zf) ?_
  iterate 2 refine w_ ?_
  refine lc (QG (Qa rfl) (Qa rfl) rfl Zf) ?_
  iterate 8 refine w_ ?_
  cases hb12:(decide (way=(⟨#[117,112]⟩:ByteArray)))
  ·have hb12':=ab hb12
   iterate 7 refine w_ ?_
   cases hb13:(decide (way=(⟨#[100,111,119,110]⟩:ByteArray)))
   ·have hb13':=ab hb13
    iterate 3 refine w_ ?_
    refine Zl ?_
    have hon:wOn c sig way (k:Int)=(!((YY c (k:Int) sig)==(decide (u=49)))):=by first | exact absurd ((by assumption:way=⟨#[117,112]⟩).symm.trans (by assumption:way=⟨#[100,111,119,110]⟩)) (by decide) | (simp only[wOn,wOf,Up,hbit]; simp[*]; done)
    have hof:wOf c sig way (k:Int)=((YY c (k:Int) sig)==(decide (u=49))):=by first | exact absurd ((by assumption:way=⟨#[117,112]⟩).symm.trans (by assumption:way=⟨#[100,111,119,110]⟩)) (by decide) | (simp only[wOn,wOf,Up,hbit]; simp[*]; done)
    iterate 3 refine w_ ?_
    cases hb14:((YY c (k:Int) sig)==(decide (u=49)))
    ·iterate 5 refine w_ ?_
     refine lc (dK (QS o1 w (by omega) (by first | (rw[hO1]; exact Q0 Q2 _) | (rw[hO2]; exact Q0 Q2 _))) Zy) ?_
     iterate 7 refine w_ ?_
     refine AC.skip ?_
     refine (?_:AC _ _ _ _ _)
     iterate 3 refine w_ ?_
     refine Qd<|Q8 ⟨k+1,(Q7 ltB w o1),o2,by omega,rfl,(by rw[hO1]; first | exact absurd (by assumption:(true==true)=false) (by decide) | exact absurd (by assumption:(false==false)=false) (by decide) | exact absurd (by assumption:(true==false)=true) (by decide) | exact absurd (by assumption:(false==true)=true) (by decide) | exact Zp hw (by rw[hon]; first | done | (simp[*]; done)) | exact Zo (by rw[hon]; first | done | (simp[*]; done))),(by rw[hO2]; first | exact absurd (by assumption:(true==true)=false) (by decide) | exact absurd (by assumption:(false==false)=false) (by decide) | exact absurd (by assumption:(true==false)=true) (by decide) | exact absurd (by assumption:(false==true)=true) (by decide) | exact Zp hw (by rw[hof]; first | done | (simp[*]; done)) | exact Zo (by rw[hof]; first | done | (simp[*]; done))),rfl⟩ (by omega) ?_
     exact Wk.of [] rfl ⟨rfl,rfl,rfl,rfl,rfl,rfl,rfl,rfl,trivial⟩ ⟨rfl,rfl,rfl,trivial⟩ rfl rfl
    ·iterate 10 refine w_ ?_
     refine lc (dK (QS o2 w (by omega) (by first | (rw[hO1]; exact Q0 Q2 _) | (rw[hO2]; exact Q0 Q2 _))) Zy) ?_
     iterate 2 refine w_ ?_
     refine Qd ?_
     refine (?_:AC _ _ _ _ _)
     iterate 3 refine w_ ?_
     refine Qd<|Q8 ⟨k+1,o1,(Q7 ltB w o2),by omega,rfl,(by rw[hO1]; first | exact absurd (by assumption:(true==true)=false) (by decide) | exact absurd (by assumption:(false==false)=false) (by decide) | exact absurd (by assumption:(true==false)=true) (by decide) | exact absurd (by assumption:(false==true)=true) (by decide) | exact Zp hw (by rw[hon]; first | done | (simp[*]; done)) | exact Zo (by rw[hon]; first | done | (simp[*]; done))),(by rw[hO2]; first | exact absurd (by assumption:(true==true)=false) (by decide) | exact absurd (by assumption:(false==false)=false) (by decide) | exact absurd (by assumption:(true==false)=true) (by decide) | exact absurd (by assumption:(false==true)=true) (by decide) | exact Zp hw (by rw[hof]; first | done | (simp[*]; done)) | exact Zo (by rw[hof]; first | done | (simp[*]; done))),rfl⟩ (by omega) ?_
     exact Wk.of [] rfl ⟨rfl,rfl,rfl,rfl,rfl,rfl,rfl,rfl,trivial⟩ ⟨rfl,rfl,rfl,trivial⟩ rfl rfl
   ·have hb13':=ae hb13
    iterate 4 refine w_ ?_
    cases hb15:(YY c (k:Int) sig)
    ·iterate 4 refine w_ ?_
     refine lc (ZL (Qa rfl) (Qa rfl) rfl Zf) ?_
     iterate 4 refine w_ ?_
     refine Zl ?_
     have hon:wOn c sig way (k:Int)=(false):=by first | exact absurd ((by assumption:way=⟨#[117,112]⟩).symm.trans (by assumption:way=⟨#[100,111,119,110]⟩)) (by decide) | (simp only[wOn,wOf,Up,hbit]; simp[*]; done)
     have hof:wOf c sig way (k:Int)=(!(false==(decide (u=49)))):=by first | exact absurd ((by assumption:way=⟨#[117,112]⟩).symm.trans (by assumption:way=⟨#[100,111,119,110]⟩)) (by decide) | (simp only[wOn,wOf,Up,hbit]; simp[*]; done)
     iterate 8 refine w_ ?_
     cases hb16:(false==(decide (u=49)))
     ·iterate 5 refine w_ ?_
      refine lc (dK (QS o2 w (by omega) (by first | (rw[hO1]; exact Q0 Q2 _) | (rw[hO2]; exact Q0 Q2 _))) Zy) ?_
      iterate 2 refine w_ ?_
      refine Qd ?_
      refine (?_:AC _ _ _ _ _)
      iterate 3 refine w_ ?_
      refine Qd<|Q8 ⟨k+1,o1,(Q7 ltB w o2),by omega,rfl,(by rw[hO1]; first | exact absurd (by assumption:(true==true)=false) (by decide) | exact absurd (by assumption:(false==false)=false) (by decide) | exact absurd (by assumption:(true==false)=true) (by decide) | exact absurd (by assumption:(false==true)=true) (by decide) | exact Zp hw (by rw[hon]; first | done | (simp[*]; done)) | exact Zo (by rw[hon]; first | done | (simp[*]; done))),(by rw[hO2]; first | exact absurd (by assumption:(true==true)=false) (by decide) | exact absurd (by assumption:(false==false)=false) (by decide) | exact absurd (by assumption:(true==false)=true) (by decide) | exact absurd (by assumption:(false==true)=true) (by decide) | exact Zp hw (by rw[hof]; first | done | (simp[*]; done)) | exact Zo (by rw[hof]; first | done | (simp[*]; done))),rfl⟩ (by omega) ?_
      exact Wk.of [] rfl ⟨rfl,rfl,rfl,rfl,rfl,rfl,rfl,rfl,trivial⟩ ⟨rfl,rfl,rfl,trivial⟩ rfl rfl
     ·refine w_ ?_
      refine AC.skip ?_
      refine (?_:AC _ _ _ _ _)
      iterate 3 refine w_ ?_
      refine Qd<|Q8 ⟨k+1,o1,o2,by omega,rfl,(by rw[hO1]; first | exact absurd (by assumption:(true==true)=false) (by decide) | exact absurd (by assumption:(false==false)=false) (by decide) | exact absurd (by assumption:(true==false)=true) (by decide) | exact absurd (by assumption:(false==true)=true) (by decide) | exact Zp hw (by rw[hon]; first | done | (simp[*]; done)) | exact Zo (by rw[hon]; first | done | (simp[*]; done))),(by rw[hO2]; first | exact absurd (by assumption:(true==true)=false) (by decide) | exact absurd (by assumption:(false==false)=false) (by decide) | exact absurd (by assumption:(true==false)=true) (by decide) | exact absurd (by assumption:(false==true)=true) (by decide) | exact Zp hw (by rw[hof]; first | done | (simp[*]; done)) | exact Zo (by rw[hof]; first | done | (simp[*]; done))),rfl⟩ (by omega) ?_
      exact Wk.of [] rfl ⟨rfl,rfl,rfl,rfl,rfl,rfl,rfl,rfl,trivial⟩ ⟨rfl,rfl,rfl,trivial⟩ rfl rfl
    ·iterate 4 refine w_ ?_
     refine lc (ZL (Qa rfl) (Qa rfl) rfl Zf) ?_
     iterate 4 refine w_ ?_
     refine Zl ?_
     have hon:wOn c sig way (k:Int)=(decide (u=49)):=by first | exact absurd ((by assumption:way=⟨#[117,112]⟩).symm.trans (by assumption:way=⟨#[100,111,119,110]⟩)) (by decide) | (simp only[wOn,wOf,Up,hbit]; simp[*]; done)
     have hof:wOf c sig way (k:Int)=(!(true==(decide (u=49)))):=by first | exact absurd ((by assumption:way=⟨#[117,112]⟩).symm.trans (by assumption:way=⟨#[100,111,119,110]⟩)) (by decide) | (simp only[wOn,wOf,Up,hbit]; simp[*]; done)
     iterate 3 refine w_ ?_
     cases hb17:(decide (u=49))
     ·have hb17':=ab hb17
      iterate 5 refine w_ ?_
      cases hb18:(true==false)
      ·iterate 5 refine w_ ?_
       refine lc (dK (QS o2 w (by omega) (by first | (rw[hO1]; exact Q0 Q2 _) | (rw[hO2]; exact Q0 Q2 _))) Zy) ?_
       iterate 2 refine w_ ?_
       refine Qd ?_
       refine (?_:AC _ _ _ _ _)
       iterate 3 refine w_ ?_
       refine Qd<|Q8 ⟨k+1,o1,(Q7 ltB w o2),by omega,rfl,(by rw[hO1]; first | exact absurd (by assumption:(true==true)=false) (by decide) | exact absurd (by assumption:(false==false)=false) (by decide) | exact absurd (by assumption:(true==false)=true) (by decide) | exact absurd (by assumption:(false==true)=true) (by decide) | exact Zp hw (by rw[hon]; first | done | (simp[*]; done)) | exact Zo (by rw[hon]; first | done | (simp[*]; done))),(by rw[hO2]; first | exact absurd (by assumption:(true==true)=false) (by decide) | exact absurd (by assumption:(false==false)=false) (by decide) | exact absurd (by assumption:(true==false)=true) (by decide) | exact absurd (by assumption:(false==true)=true) (by decide) | exact Zp hw (by rw[hof]; first | done | (simp[*]; done)) | exact Zo (by rw[hof]; first | done | (simp[*]; done))),rfl⟩ (by omega) ?_
       exact Wk.of [] rfl ⟨rfl,rfl,rfl,rfl,rfl,rfl,rfl,rfl,trivial⟩ ⟨rfl,rfl,rfl,trivial⟩ rfl rfl
      ·refine w_ ?_
       refine AC.skip ?_
       refine (?_:AC _ _ _ _ _)
       iterate 3 refine w_ ?_
       refine Qd<|Q8 ⟨k+1,o1,o2,by omega,rfl,(by rw[hO1]; first | exact absurd (by assumption:(true==true)=false) (by decide) | exact absurd (by assumption:(false==false)=false) (by decide) | exact absurd (by assumption:(true==false)=true) (by decide) | exact absurd (by assumption:(false==true)=true) (by decide) | exact Zp hw (by rw[hon]; first | done | (simp[*]; done)) | exact Zo (by rw[hon]; first | done | (simp[*]; done))),(by rw[hO2]; first | exact absurd (by assumption:(true==true)=false) (by decide) | exact absurd (by assumption:(false==false)=false) (by decide) | exact absurd (by assumption:(true==false)=true) (by decide) | exact absurd (by assumption:(false==true)=true) (by decide) | exact Zp hw (by rw[hof]; first | done | (simp[*]; done)) | exact Zo (by rw[hof]; first | done | (simp[*]; done))),rfl⟩ (by omega) ?_
       exact Wk.of [] rfl ⟨rfl,rfl,rfl,rfl,rfl,rfl,rfl,rfl,trivial⟩ ⟨rfl,rfl,rfl,trivial⟩ rfl rfl
     ·have hb17':=ae hb17
      iterate 5 refine w_ ?_
      refine lc (dK (QS o1 w (by omega) (by first | (rw[hO1]; exact Q0 Q2 _) | (rw[hO2]; exact Q0 Q2 _))) Zy) ?_
      iterate 6 refine w_ ?_
      cases hb19:(true==true)
      ·iterate 5 refine w_ ?_
       refine lc (dK (QS o2 w (by omega) (by first | (rw[hO1]; exact Q0 Q2 _) | (rw[hO2]; exact Q0 Q2 _))) Zy) ?_
       iterate 2 refine w_ ?_
       refine Qd ?_
       refine (?_:AC _ _ _ _ _)
       iterate 3 refine w_ ?_
       refine Qd<|Q8 ⟨k+1,(Q7 ltB w o1),(Q7 ltB w o2),by omega,rfl,(by rw[hO1]; first | exact absurd (by assumption:(true==true)=false) (by decide) | exact absurd (by assumption:(false==false)=false) (by decide) | exact absurd (by assumption:(true==false)=true) (by decide) | exact absurd (by assumption:(false==true)=true) (by decide) | exact Zp hw (by rw[hon]; first | done | (simp[*]; done)) | exact Zo (by rw[hon]; first | done | (simp[*]; done))),(by rw[hO2]; first | exact absurd (by assumption:(true==true)=false) (by decide) | exact absurd (by assumption:(false==false)=false) (by decide) | exact absurd (by assumption:(true==false)=true) (by decide) | exact absurd (by assumption:(false==true)=true) (by decide) | exact Zp hw (by rw[hof]; first | done | (simp[*]; done)) | exact Zo (by rw[hof]; first | done | (simp[*]; done))),rfl⟩ (by omega) ?_
       exact Wk.of [] rfl ⟨rfl,rfl,rfl,rfl,rfl,rfl,rfl,rfl,trivial⟩ ⟨rfl,rfl,rfl,trivial⟩ rfl rfl
      ·refine w_ ?_
       refine AC.skip ?_
       refine (?_:AC _ _ _ _ _)
       iterate 3 refine w_ ?_
       refine Qd<|Q8 ⟨k+1,(Q7 ltB w o1),o2,by omega,rfl,(by rw[hO1]; first | exact absurd (by assumption:(true==true)=false) (by decide) | exact absurd (by assumption:(false==false)=false) (by decide) | exact absurd (by assumption:(true==false)=true) (by decide) | exact absurd (by assumption:(false==true)=true) (by decide) | exact Zp hw (by rw[hon]; first | done | (simp[*]; done)) | exact Zo (by rw[hon]; first | done | (simp[*]; done))),(by rw[hO2]; first | exact absurd (by assumption:(true==true)=false) (by decide) | exact absurd (by assumption:(false==false)=false) (by decide) | exact absurd (by assumption:(true==false)=true) (by decide) | exact absurd (by assumption:(false==true)=true) (by decide) | exact Zp hw (by rw[hof]; first | done | (simp[*]; done)) | exact Zo (by rw[hof]; first | done | (simp[*]; done))),rfl⟩ (by omega) ?_
       exact Wk.of [] rfl ⟨rfl,rfl,rfl,rfl,rfl,rfl,rfl,rfl,trivial⟩ ⟨rfl,rfl,rfl,trivial⟩ rfl rfl
  ·have hb12':=ae hb12
   iterate 4 refine w_ ?_
   cases hb20:(YY c (k:Int) sig)
   ·iterate 5 refine w_ ?_
    refine lc (QG (Qa rfl) (Qa rfl) rfl Zf) ?_
    iterate 8 refine w_ ?_
    cases hb21:(decide (way=(⟨#[100,111,119,110]⟩:ByteArray)))
    ·have hb21':=ab hb21
     iterate 3 refine w_ ?_
     refine Zl ?_
     have hon:wOn c sig way (k:Int)=(false):=by first | exact absurd ((by assumption:way=⟨#[117,112]⟩).symm.trans (by assumption:way=⟨#[100,111,119,110]⟩)) (by decide) | (simp only[wOn,wOf,Up,hbit]; simp[*]; done)
     have hof:wOf c sig way (k:Int)=(false==(decide (u=49))):=by first | exact absurd ((by assumption:way=⟨#[117,112]⟩).symm.trans (by assumption:way=⟨#[100,111,119,110]⟩)) (by decide) | (simp only[wOn,wOf,Up,hbit]; simp[*]; done)
     iterate 8 refine w_ ?_
     cases hb22:(false==(decide (u=49)))
     ·refine w_ ?_
      refine AC.skip ?_
      refine (?_:AC _ _ _ _ _)
      iterate 3 refine w_ ?_
      refine Qd<|Q8 ⟨k+1,o1,o2,by omega,rfl,(by rw[hO1]; first | exact absurd (by assumption:(true==true)=false) (by decide) | exact absurd (by assumption:(false==false)=false) (by decide) | exact absurd (by assumption:(true==false)=true) (by decide) | exact absurd (by assumption:(false==true)=true) (by decide) | exact Zp hw (by rw[hon]; first | done | (simp[*]; done)) | exact Zo (by rw[hon]; first | done | (simp[*]; done))),(by rw[hO2]; first | exact absurd (by assumption:(true==true)=false) (by decide) | exact absurd (by assumption:(false==false)=false) (by decide) | exact absurd (by assumption:(true==false)=true) (by decide) | exact absurd (by assumption:(false==true)=true) (by decide) | exact Zp hw (by rw[hof]; first | done | (simp[*]; done)) | exact Zo (by rw[hof]; first | done | (simp[*]; done))),rfl⟩ (by omega) ?_
      exact Wk.of [] rfl ⟨rfl,rfl,rfl,rfl,rfl,rfl,rfl,rfl,trivial⟩ ⟨rfl,rfl,rfl,trivial⟩ rfl rfl
     ·iterate 5 refine w_ ?_
      refine lc (dK (QS o2 w (by omega) (by first | (rw[hO1]; exact Q0 Q2 _) | (rw[hO2]; exact Q0 Q2 _))) Zy) ?_
      iterate 2 refine w_ ?_
      refine Qd ?_
      refine (?_:AC _ _ _ _ _)
      iterate 3 refine w_ ?_
      refine Qd<|Q8 ⟨k+1,o1,(Q7 ltB w o2),by omega,rfl,(by rw[hO1]; first | exact absurd (by assumption:(true==true)=false) (by decide) | exact absurd (by assumption:(false==false)=false) (by decide) | exact absurd (by assumption:(true==false)=true) (by decide) | exact absurd (by assumption:(false==true)=true) (by decide) | exact Zp hw (by rw[hon]; first | done | (simp[*]; done)) | exact Zo (by rw[hon]; first | done | (simp[*]; done))),(by rw[hO2]; first | exact absurd (by assumption:(true==true)=false) (by decide) | exact absurd (by assumption:(false==false)=false) (by decide) | exact absurd (by assumption:(true==false)=true) (by decide) | exact absurd (by assumption:(false==true)=true) (by decide) | exact Zp hw (by rw[hof]; first | done | (simp[*]; done)) | exact Zo (by rw[hof]; first | done | (simp[*]; done))),rfl⟩ (by omega) ?_
      exact Wk.of [] rfl ⟨rfl,rfl,rfl,rfl,rfl,rfl,rfl,rfl,trivial⟩ ⟨rfl,rfl,rfl,trivial⟩ rfl rfl
    ·have hb21':=ae hb21
     iterate 8 refine w_ ?_
     refine lc (ZL (Qa rfl) (Qa rfl) rfl Zf) ?_
     iterate 4 refine w_ ?_
     refine Zl ?_
     have hon:wOn c sig way (k:Int)=(false):=by first | exact absurd ((by assumption:way=⟨#[117,112]⟩).symm.trans (by assumption:way=⟨#[100,111,119,110]⟩)) (by decide) | (simp only[wOn,wOf,Up,hbit]; simp[*]; done)
     have hof:wOf c sig way (k:Int)=(!(false==(decide (u=49)))):=by first | exact absurd ((by assumption:way=⟨#[117,112]⟩).symm.trans (by assumption:way=⟨#[100,111,119,110]⟩)) (by decide) | (simp only[wOn,wOf,Up,hbit]; simp[*]; done)
     iterate 8 refine w_ ?_
     cases hb23:(false==(decide (u=49)))
     ·iterate 5 refine w_ ?_
      refine lc (dK (QS o2 w (by omega) (by first | (rw[hO1]; exact Q0 Q2 _) | (rw[hO2]; exact Q0 Q2 _))) Zy) ?_
      iterate 2 refine w_ ?_
      refine Qd ?_
      refine (?_:AC _ _ _ _ _)
      iterate 3 refine w_ ?_
      refine Qd<|Q8 ⟨k+1,o1,(Q7 ltB w o2),by omega,rfl,(by rw[hO1]; first | exact absurd (by assumption:(true==true)=false) (by decide) | exact absurd (by assumption:(false==false)=false) (by decide) | exact absurd (by assumption:(true==false)=true) (by decide) | exact absurd (by assumption:(false==true)=true) (by decide) | exact Zp hw (by rw[hon]; first | done | (simp[*]; done)) | exact Zo (by rw[hon]; first | done | (simp[*]; done))),(by rw[hO2]; first | exact absurd (by assumption:(true==true)=false) (by decide) | exact absurd (by assumption:(false==false)=false) (by decide) | exact absurd (by assumption:(true==false)=true) (by decide) | exact absurd (by assumption:(false==true)=true) (by decide) | exact Zp hw (by rw[hof]; first | done | (simp[*]; done)) | exact Zo (by rw[hof]; first | done | (simp[*]; done))),rfl⟩ (by omega) ?_
      exact Wk.of [] rfl ⟨rfl,rfl,rfl,rfl,rfl,rfl,rfl,rfl,trivial⟩ ⟨rfl,rfl,rfl,trivial⟩ rfl rfl
     ·refine w_ ?_
      refine AC.skip ?_
      refine (?_:AC _ _ _ _ _)
      iterate 3 refine w_ ?_
      refine Qd<|Q8 ⟨k+1,o1,o2,by omega,rfl,(by rw[hO1]; first | exact absurd (by assumption:(true==true)=false) (by decide) | exact absurd (by assumption:(false==false)=false) (by decide) | exact absurd (by assumption:(true==false)=true) (by decide) | exact absurd (by assumption:(false==true)=true) (by decide) | exact Zp hw (by rw[hon]; first | done | (simp[*]; done)) | exact Zo (by rw[hon]; first | done | (simp[*]; done))),(by rw[hO2]; first | exact absurd (by assumption:(true==true)=false) (by decide) | exact absurd (by assumption:(false==false)=false) (by decide) | exact absurd (by assumption:(true==false)=true) (by decide) | exact absurd (by assumption:(false==true)=true) (by decide) | exact Zp hw (by rw[hof]; first | done | (simp[*]; done)) | exact Zo (by rw[hof]; first | done | (simp[*]; done))),rfl⟩ (by omega) ?_
      exact Wk.of [] rfl ⟨rfl,rfl,rfl,rfl,rfl,rfl,rfl,rfl,trivial⟩ ⟨rfl,rfl,rfl,trivial⟩ rfl rfl
   ·iterate 5 refine w_ ?_
    refine lc (QG (Qa rfl) (Qa rfl) rfl Zf) ?_
    iterate 8 refine w_ ?_
    cases hb24:(decide (way=(⟨#[100,111,119,110]⟩:ByteArray)))
    ·have hb24':=ab hb24
     iterate 3 refine w_ ?_
     refine Zl ?_
     have hon:wOn c sig way (k:Int)=(!(decide (u=49))):=by first | exact absurd ((by assumption:way=⟨#[117,112]⟩).symm.trans (by assumption:way=⟨#[100,111,119,110]⟩)) (by decide) | (simp only[wOn,wOf,Up,hbit]; simp[*]; done)
     have hof:wOf c sig way (k:Int)=(true==(decide (u=49))):=by first | exact absurd ((by assumption:way=⟨#[117,112]⟩).symm.trans (by assumption:way=⟨#[100,111,119,110]⟩)) (by decide) | (simp only[wOn,wOf,Up,hbit]; simp[*]; done)
     iterate 3 refine w_ ?_
     cases hb25:(decide (u=49))
     ·have hb25':=ab hb25
      iterate 5 refine w_ ?_
      refine lc (dK (QS o1 w (by omega) (by first | (rw[hO1]; exact Q0 Q2 _) | (rw[hO2]; exact Q0 Q2 _))) Zy) ?_
      iterate 6 refine w_ ?_
      cases hb26:(true==false)
      ·refine w_ ?_
       refine AC.skip ?_
       refine (?_:AC _ _ _ _ _)
       iterate 3 refine w_ ?_
       refine Qd<|Q8 ⟨k+1,(Q7 ltB w o1),o2,by omega,rfl,(by rw[hO1]; first | exact absurd (by assumption:(true==true)=false) (by decide) | exact absurd (by assumption:(false==false)=false) (by decide) | exact absurd (by assumption:(true==false)=true) (by decide) | exact absurd (by assumption:(false==true)=true) (by decide) | exact Zp hw (by rw[hon]; first | done | (simp[*]; done)) | exact Zo (by rw[hon]; first | done | (simp[*]; done))),(by rw[hO2]; first | exact absurd (by assumption:(true==true)=false) (by decide) | exact absurd (by assumption:(false==false)=false) (by decide) | exact absurd (by assumption:(true==false)=true) (by decide) | exact absurd (by assumption:(false==true)=true) (by decide) | exact Zp hw (by rw[hof]; first | done | (simp[*]; done)) | exact Zo (by rw[hof]; first | done | (simp[*]; done))),rfl⟩ (by omega) ?_
       exact Wk.of [] rfl ⟨rfl,rfl,rfl,rfl,rfl,rfl,rfl,rfl,trivial⟩ ⟨rfl,rfl,rfl,trivial⟩ rfl rfl
      ·iterate 5 refine w_ ?_
       refine lc (dK (QS o2 w (by omega) (by first | (rw[hO1]; exact Q0 Q2 _) | (rw[hO2]; exact Q0 Q2 _))) Zy) ?_
       iterate 2 refine w_ ?_
       refine Qd ?_
       refine (?_:AC _ _ _ _ _)
       iterate 3 refine w_ ?_
       refine Qd<|Q8 ⟨k+1,(Q7 ltB w o1),(Q7 ltB w o2),by omega,rfl,(by rw[hO1]; first | exact absurd (by assumption:(true==true)=false) (by decide) | exact absurd (by assumption:(false==false)=false) (by decide) | exact absurd (by assumption:(true==false)=true) (by decide) | exact absurd (by assumption:(false==true)=true) (by decide) | exact Zp hw (by rw[hon]; first | done | (simp[*]; done)) | exact Zo (by rw[hon]; first | done | (simp[*]; done))),(by rw[hO2]; first | exact absurd (by assumption:(true==true)=false) (by decide) | exact absurd (by assumption:(false==false)=false) (by decide) | exact absurd (by assumption:(true==false)=true) (by decide) | exact absurd (by assumption:(false==true)=true) (by decide) | exact Zp hw (by rw[hof]; first | done | (simp[*]; done)) | exact Zo (by rw[hof]; first | done | (simp[*]; done))),rfl⟩ (by omega) ?_
       exact Wk.of [] rfl ⟨rfl,rfl,rfl,rfl,rfl,rfl,rfl,rfl,trivial⟩ ⟨rfl,rfl,rfl,trivial⟩ rfl rfl
     ·have hb25':=ae hb25
      iterate 5 refine w_ ?_
      cases hb27:(true==true)
      ·refine w_ ?_
       refine AC.skip ?_
       refine (?_:AC _ _ _ _ _)
       iterate 3 refine w_ ?_
       refine Qd<|Q8 ⟨k+1,o1,o2,by omega,rfl,(by rw[hO1]; first | exact absurd (by assumption:(true==true)=false) (by decide) | exact absurd (by assumption:(false==false)=false) (by decide) | exact absurd (by assumption:(true==false)=true) (by decide) | exact absurd (by assumption:(false==true)=true) (by decide) | exact Zp hw (by rw[hon]; first | done | (simp[*]; done)) | exact Zo (by rw[hon]; first | done | (simp[*]; done))),(by rw[hO2]; first | exact absurd (by assumption:(true==true)=false) (by decide) | exact absurd (by assumption:(false==false)=false) (by decide) | exact absurd (by assumption:(true==false)=true) (by decide) | exact absurd (by assumption:(false==true)=true) (by decide) | exact Zp hw (by rw[hof]; first | done | (simp[*]; done)) | exact Zo (by rw[hof]; first | done | (simp[*]; done))),rfl⟩ (by omega) ?_
       exact Wk.of [] rfl ⟨rfl,rfl,rfl,rfl,rfl,rfl,rfl,rfl,trivial⟩ ⟨rfl,rfl,rfl,trivial⟩ rfl rfl
      ·iterate 5 refine w_ ?_
       refine lc (dK (QS o2 w (by omega) (by first | (rw[hO1]; exact Q0 Q2 _) | (rw[hO2]; exact Q0 Q2 _))) Zy) ?_
       iterate 2 refine w_ ?_
       refine Qd ?_
       refine (?_:AC _ _ _ _ _)
       iterate 3 refine w_ ?_
       refine Qd<|Q8 ⟨k+1,o1,(Q7 ltB w o2),by omega,rfl,(by rw[hO1]; first | exact absurd (by assumption:(true==true)=false) (by decide) | exact absurd (by assumption:(false==false)=false) (by decide) | exact absurd (by assumption:(true==false)=true) (by decide) | exact absurd (by assumption:(false==true)=true) (by decide) | exact Zp hw (by rw[hon]; first | done | (simp[*]; done)) | exact Zo (by rw[hon]; first | done | (simp[*]; done))),(by rw[hO2]; first | exact absurd (by assumption:(true==true)=false) (by decide) | exact absurd (by assumption:(false==false)=false) (by decide) | exact absurd (by assumption:(true==false)=true) (by decide) | exact absurd (by assumption:(false==true)=true) (by decide) | exact Zp hw (by rw[hof]; first | done | (simp[*]; done)) | exact Zo (by rw[hof]; first | done | (simp[*]; done))),rfl⟩ (by omega) ?_
       exact Wk.of [] rfl ⟨rfl,rfl,rfl,rfl,rfl,rfl,rfl,rfl,trivial⟩ ⟨rfl,rfl,rfl,trivial⟩ rfl rfl
    ·have hb24':=ae hb24
     iterate 8 refine w_ ?_
     refine lc (ZL (Qa rfl) (Qa rfl) rfl Zf) ?_
     iterate 4 refine w_ ?_
     refine Zl ?_
     have hon:wOn c sig way (k:Int)=(decide (u=49)):=by first | exact absurd ((by assumption:way=⟨#[117,112]⟩).symm.trans (by assumption:way=⟨#[100,111,119,110]⟩)) (by decide) | (simp only[wOn,wOf,Up,hbit]; simp[*]; done)
     have hof:wOf c sig way (k:Int)=(!(true==(decide (u=49)))):=by first | exact absurd ((by assumption:way=⟨#[117,112]⟩).symm.trans (by assumption:way=⟨#[100,111,119,110]⟩)) (by decide) | (simp only[wOn,wOf,Up,hbit]; simp[*]; done)
     iterate 3 refine w_ ?_
     cases hb28:(decide (u=49))
     ·have hb28':=ab hb28
      iterate 5 refine w_ ?_
      cases hb29:(true==false)
      ·iterate 5 refine w_ ?_
       refine lc (dK (QS o2 w (by omega) (by first | (rw[hO1]; exact Q0 Q2 _) | (rw[hO2]; exact Q0 Q2 _))) Zy) ?_
       iterate 2 refine w_ ?_
       refine Qd ?_
       refine (?_:AC _ _ _ _ _)
       iterate 3 refine w_ ?_
       refine Qd<|Q8 ⟨k+1,o1,(Q7 ltB w o2),by omega,rfl,(by rw[hO1]; first | exact absurd (by assumption:(true==true)=false) (by decide) | exact absurd (by assumption:(false==false)=false) (by decide) | exact absurd (by assumption:(true==false)=true) (by decide) | exact absurd (by assumption:(false==true)=true) (by decide) | exact Zp hw (by rw[hon]; first | done | (simp[*]; done)) | exact Zo (by rw[hon]; first | done | (simp[*]; done))),(by rw[hO2]; first | exact absurd (by assumption:(true==true)=false) (by decide) | exact absurd (by assumption:(false==false)=false) (by decide) | exact absurd (by assumption:(true==false)=true) (by decide) | exact absurd (by assumption:(false==true)=true) (by decide) | exact Zp hw (by rw[hof]; first | done | (simp[*]; done)) | exact Zo (by rw[hof]; first | done | (simp[*]; done))),rfl⟩ (by omega) ?_
       exact Wk.of [] rfl ⟨rfl,rfl,rfl,rfl,rfl,rfl,rfl,rfl,trivial⟩ ⟨rfl,rfl,rfl,trivial⟩ rfl rfl
      ·refine w_ ?_
       refine AC.skip ?_
       refine (?_:AC _ _ _ _ _)
       iterate 3 refine w_ ?_
       refine Qd<|Q8 ⟨k+1,o1,o2,by omega,rfl,(by rw[hO1]; first | exact absurd (by assumption:(true==true)=false) (by decide) | exact absurd (by assumption:(false==false)=false) (by decide) | exact absurd (by assumption:(true==false)=true) (by decide) | exact absurd (by assumption:(false==true)=true) (by decide) | exact Zp hw (by rw[hon]; first | done | (simp[*]; done)) | exact Zo (by rw[hon]; first | done | (simp[*]; done))),(by rw[hO2]; first | exact absurd (by assumption:(true==true)=false) (by decide) | exact absurd (by assumption:(false==false)=false) (by decide) | exact absurd (by assumption:(true==false)=true) (by decide) | exact absurd (by assumption:(false==true)=true) (by decide) | exact Zp hw (by rw[hof]; first | done | (simp[*]; done)) | exact Zo (by rw[hof]; first | done | (simp[*]; done))),rfl⟩ (by omega) ?_
       exact Wk.of [] rfl ⟨rfl,rfl,rfl,rfl,rfl,rfl,rfl,rfl,trivial⟩ ⟨rfl,rfl,rfl,trivial⟩ rfl rfl
     ·have hb28':=ae hb28
      iterate 5 refine w_ ?_
      refine lc (dK (QS o1 w (by omega) (by first | (rw[hO1]; exact Q0 Q2 _) | (rw[hO2]; exact Q0 Q2 _))) Zy) ?_
      iterate 6 refine w_ ?_
      cases hb30:(true==true)
      ·iterate 5 refine w_ ?_
       refine lc (dK (QS o2 w (by omega) (by first | (rw[hO1]; exact Q0 Q2 _) | (rw[hO2]; exact Q0 Q2 _))) Zy) ?_
       iterate 2 refine w_ ?_
       refine Qd ?_
       refine (?_:AC _ _ _ _ _)
       iterate 3 refine w_ ?_
       refine Qd<|Q8 ⟨k+1,(Q7 ltB w o1),(Q7 ltB w o2),by omega,rfl,(by rw[hO1]; first | exact absurd (by assumption:(true==true)=false) (by decide) | exact absurd (by assumption:(false==false)=false) (by decide) | exact absurd (by assumption:(true==false)=true) (by decide) | exact absurd (by assumption:(false==true)=true) (by decide) | exact Zp hw (by rw[hon]; first | done | (simp[*]; done)) | exact Zo (by rw[hon]; first | done | (simp[*]; done))),(by rw[hO2]; first | exact absurd (by assumption:(true==true)=false) (by decide) | exact absurd (by assumption:(false==false)=false) (by decide) | exact absurd (by assumption:(true==false)=true) (by decide) | exact absurd (by assumption:(false==true)=true) (by decide) | exact Zp hw (by rw[hof]; first | done | (simp[*]; done)) | exact Zo (by rw[hof]; first | done | (simp[*]; done))),rfl⟩ (by omega) ?_
       exact Wk.of [] rfl ⟨rfl,rfl,rfl,rfl,rfl,rfl,rfl,rfl,trivial⟩ ⟨rfl,rfl,rfl,trivial⟩ rfl rfl
      ·refine w_ ?_
       refine AC.skip ?_
       refine (?_:AC _ _ _ _ _)
       iterate 3 refine w_ ?_
       refine Qd<|Q8 ⟨k+1,(Q7 ltB w o1),o2,by omega,rfl,(by rw[hO1]; first | exact absurd (by assumption:(true==true)=false) (by decide) | exact absurd (by assumption:(false==false)=false) (by decide) | exact absurd (by assumption:(true==false)=true) (by decide) | exact absurd (by assumption:(false==true)=true) (by decide) | exact Zp hw (by rw[hon]; first | done | (simp[*]; done)) | exact Zo (by rw[hon]; first | done | (simp[*]; done))),(by rw[hO2]; first | exact absurd (by assumption:(true==true)=false) (by decide) | exact absurd (by assumption:(false==false)=false) (by decide) | exact absurd (by assumption:(true==false)=true) (by decide) | exact absurd (by assumption:(false==true)=true) (by decide) | exact Zp hw (by rw[hof]; first | done | (simp[*]; done)) | exact Zo (by rw[hof]; first | done | (simp[*]; done))),rfl⟩ (by omega) ?_
       exact Wk.of [] rfl ⟨rfl,rfl,rfl,rfl,rfl,rfl,rfl,rfl,trivial⟩ ⟨rfl,rfl,rfl,trivial⟩ rfl rfl
end Go.Proofs.YtgpdhgadmjfokaaGreat
namespace Go.Proofs.YtgpdhgadmjfokaaGreat
open Go.RowKit
set_option maxRecDepth 100000
set_option maxHeartbeats 4000000
section
variable [∀c,Decidable (SgOk c)]{c:DSg}{k:Nat}{w way code:ByteArray}{u:UInt8}{sig q n:Int}{l:List ByteArray}{x:Qz}
def QQ (c:DSg)(sig:Int)(way:ByteArray):DOn:=if Yl c sig way then Y3 c sig way else ([],[])
abbrev QeN (c:DSg)(sig:Int):Prop:=SgOk c∧(0≤sig∧sig≤(c.1.length:Int) - 1)∧WW c sig=false
theorem QpE (h:QeN c sig)(h2:OOk (c.1.length:Int) (Y3 c sig way).1 (Y3 c sig way).2):Yl c sig way:=⟨h,h2⟩
theorem QcX (h:¬QeN c sig):¬Yl c sig way:=fun g=>h g.1
theorem QkQ (h2:¬OOk (c.1.length:Int) (Y3 c sig way).1 (Y3 c sig way).2):¬Yl c sig way:=fun g=>h2 g.2
theorem Qoc (h:Yl c sig way):QQ c sig way=Y3 c sig way:=if_pos h
theorem Qcy (h:¬Yl c sig way):QQ c sig way=([],[]):=if_neg h
theorem Qc2 (h:QeN c sig):QfC c (fun q=>nsB c sig q) (fun q=> !(nsB c sig q))=QQ c sig QW:=by
  unfold QfC QQ
  rw[← Qjh]
  by_cases g:XF c (fun q=>nsB c sig q) (fun q=> !(nsB c sig q))
  · rw[if_pos g,if_pos ⟨h,HR.2 g⟩]
  · rw[if_neg g,if_neg fun g2=>g (HR.1 g2.2)]
theorem Qhx (h:QeN c sig):decide (XF c (fun q=>nsB c sig q) (fun q=> !(nsB c sig q)))=decide (Yl c sig QW):=bQ.2 ⟨fun g=>⟨h,HR.2 g⟩,fun g=>HR.1 g.2⟩
def nvB (c:DSg)(code:ByteArray)(sig:Int):Bool:=decide (Yl c sig QW)&&(Xc (QQ c sig QW).1 code||Xc (QQ c sig QW).2 code)
def nvV (c:DSg)(code:ByteArray)(sig:Int):Bool:=nvB c code sig&&Xc (QQ c sig QW).1 code
theorem QnP (h:¬Yl c sig QW):nvV c code sig=false∧nvB c code sig=false:=by
  have:nvB c code sig=false:=by unfold nvB; rw[az h]; rfl
  exact ⟨by unfold nvV; rw[this]; rfl,this⟩
theorem QrS (h:Yl c sig QW)(h1:(QQ c sig QW).1.any (fun y=>decide (code=y))=true):nvV c code sig=true∧nvB c code sig=true:=by
  have h1:Xc (QQ c sig QW).1 code=true:=h1
  have:nvB c code sig=true:=by unfold nvB; rw[aJ h,h1]; rfl
  exact ⟨by unfold nvV; rw[this,h1]; rfl,this⟩
theorem QrO (h:Yl c sig QW)(h1:(QQ c sig QW).1.any (fun y=>decide (code=y))=false)(h2:(QQ c sig QW).2.any (fun y=>decide (code=y))=true):nvV c code sig=false∧nvB c code sig=true:=by
  have h1:Xc (QQ c sig QW).1 code=false:=h1
  have h2:Xc (QQ c sig QW).2 code=true:=h2
  have:nvB c code sig=true:=by unfold nvB; rw[aJ h,h1,h2]; rfl
  exact ⟨by unfold nvV; rw[this,h1]; rfl,this⟩
theorem Qje (h:Yl c sig QW)(g:Xc (QQ c sig QW).1 code=true∨Xc (QQ c sig QW).2 code=true):nvV c code sig=Xc (QQ c sig QW).1 code∧nvB c code sig=true:=by
  have:nvB c code sig=true:=by
    unfold nvB
    rw[aJ h]
    rcases g with g | g <;> rw[g] <;> simp
  exact ⟨by unfold nvV; rw[this]; rfl,this⟩
theorem QmZ (h1:(QQ c sig QW).1.any (fun y=>decide (code=y))=false)(h2:(QQ c sig QW).2.any (fun y=>decide (code=y))=false):nvV c code sig=false∧nvB c code sig=false:=by
  have h1:Xc (QQ c sig QW).1 code=false:=h1
  have h2:Xc (QQ c sig QW).2 code=false:=h2
  have:nvB c code sig=false:=by unfold nvB; rw[h1,h2]; simp
  exact ⟨by unfold nvV; rw[this]; rfl,this⟩
end
theorem JK (c:(List (ByteArray×Int))×List ByteArray×(List (Int×Int×Bool×Int)))(sig:Int)[∀c,Decidable (SgOk c)]:FC Tryz.prog 181 [(true,[.dat (.sl 44 (.pr .str .int)) c.1, .dat (.sl 9 .str) c.2.1, .dat (.sl 46 (.pr .int (.pr .int (.pr .bool .int)))) c.2.2]),(false,[dI sig])] [] 0 (QV (lB (decide (SgOk c∧(0≤sig∧sig≤(c.1.length:Int) - 1)∧WW c sig=false)))):=by
 refine Qj Tryz.func181 rfl rfl Tryz.ntmps181 fun O_ hO w0_ N0_ X_ h0_ f0_=> ?_
 refine acI 1 fun hi1=> ?_
 refine w_ ?_
 refine xbx 0 ?_
 iterate 5 refine w_ ?_
 refine lc (dK (KW c sig) QhG) ?_
 refine w_ ?_
 cases hb2:(decide (SgOk c∧0≤sig∧sig≤(c.1.length:Int) - 1))
 ·have hb2':=ab hb2
  iterate 10 refine w_ ?_
  refine Qb<|fqB hO ?_
  exact (az fun g=>absurd (⟨g.1,g.2.1⟩:SgOk c∧(0≤sig∧sig≤(c.1.length:Int) - 1)) (by assumption)).symm
 ·have hb2':=ae hb2
  iterate 3 refine w_ ?_
  obtain ⟨x3,hx4⟩:∃z,c.1[(sig).toNat]? =some z:=⟨_,aa (by omega)⟩
  iterate 7 refine w_ ?_
  refine Qb<|fqB hO ?_
  exact Qoi (‹SgOk c∧_›).1 (‹SgOk c∧_›).2 hx4
theorem HG (c:(List (ByteArray×Int))×List ByteArray×(List (Int×Int×Bool×Int)))(sig:Int)(way:ByteArray)[∀c,Decidable (SgOk c)]:FC Tryz.prog 186 [(true,[.dat (.sl 44 (.pr .str .int)) c.1, .dat (.sl 9 .str) c.2.1, .dat (.sl 46 (.pr .int (.pr .int (.pr .bool .int)))) c.2.2]),(false,[dI sig]),(false,[dS way])] [] 0 (QV (PV.tup [(true,[.dat (.sl 9 .str) ((QQ c sig way).1), .dat (.sl 9 .str) ((QQ c sig way).2)]),(false,[dB (decide (Yl c sig way))])])):=by
 refine Qj Tryz.func186 rfl rfl Tryz.ntmps186 fun O_ hO w0_ N0_ X_ h0_ f0_=> ?_
 refine acI 1 fun hi1=> ?_
 refine w_ ?_
 refine xbx 0 ?_
 refine lc (xal 1 (.pr (.sl 9 .str) (.sl 9 .str)) ZC) ?_
 iterate 6 refine w_ ?_
 refine lc (dK (J1 c sig) Qg7) ?_
 iterate 2 refine w_ ?_
 cases hb2:(decide (SgOk c∧(0≤sig∧sig≤(c.1.length:Int) - 1)∧WW c sig=false))
 ·have hb2':=ab hb2
  iterate 2 refine w_ ?_
  refine lc (Qn WF rfl (aw.1 rfl) rfl rfl) ?_
  iterate 3 refine w_ ?_
  refine AC.wk (Qaq (p:=1) [.dat (.sl 9 .str) ([]), .dat (.sl 9 .str) ([])] rfl ⟨_,_,rfl, .inr ⟨_,_,rfl,rfl⟩,⟨_,_,rfl, .inr ⟨_,_,rfl,rfl⟩,rfl⟩⟩)<|Qb ?_
  have e3:([]:((.sl 9 .str):Ty).Den)=((QQ c sig way).1):=by
   (rw[Qcy (QcX (by assumption))]; done)
  have e4:([]:((.sl 9 .str):Ty).Den)=((QQ c sig way).2):=by
   (rw[Qcy (QcX (by assumption))]; done)
  have e5:(false:Bool)=(decide (Yl c sig way)):=by
   exact (az (QcX (by assumption))).symm
  exact fr_ hO (e:=(((congrArg (fun z_=>PV.tup [(true,[.dat (.sl 9 .str) z_, .dat (.sl 9 .str) ([])]),(false,[dB false])]) e3)).trans (congrArg (fun z_=>PV.tup [(true,[.dat (.sl 9 .str) ((QQ c sig way).1), .dat (.sl 9 .str) z_]),(false,[dB false])]) e4)).trans (congrArg (fun z_=>PV.tup [(true,[.dat (.sl 9 .str) ((QQ c sig way).1), .dat (.sl 9 .str) ((QQ c sig way).2)]),(false,[dB z_])]) e5))
 ·have hb2':=ae hb2
  iterate 6 refine w_ ?_
  refine lc (dK (Ho c sig way (by assumption:QeN c sig).1 (by assumption:QeN c sig).2.1) QfE) ?_
  refine lc (xal 2 (.pr (.sl 9 .str) (.sl 9 .str)) ZC) ?_
  iterate 6 refine w_ ?_
  refine alL 19 fun hl6=> ?_
  iterate 5 refine w_ ?_
  refine lc (dK (Hn (c.1.length:Int) ((Y3 c sig way).1) ((Y3 c sig way).2)) QgF) ?_
  iterate 2 refine w_ ?_
  cases hb7:(decide (OOk (c.1.length:Int) ((Y3 c sig way).1) ((Y3 c sig way).2)))
  ·have hb7':=ab hb7
   iterate 2 refine w_ ?_
   refine lc (Qn WF rfl (aw.1 rfl) rfl rfl) ?_
   iterate 3 refine w_ ?_
   refine AC.wk (Qaq (p:=1) [.dat (.sl 9 .str) ([]), .dat (.sl 9 .str) ([])] rfl ⟨_,_,rfl, .inr ⟨_,_,rfl,rfl⟩,⟨_,_,rfl, .inr ⟨_,_,rfl,rfl⟩,rfl⟩⟩)<|Qb ?_
   have e8:([]:((.sl 9 .str):Ty).Den)=((QQ c sig way).1):=by
    (rw[Qcy (QkQ (by assumption))]; done)
   have e9:([]:((.sl 9 .str):Ty).Den)=((QQ c sig way).2):=by
    (rw[Qcy (QkQ (by assumption))]; done)
   have e10:(false:Bool)=(decide (Yl c sig way)):=by
    exact (az (QkQ (by assumption))).symm
   exact fr_ hO (e:=(((congrArg (fun z_=>PV.tup [(true,[.dat (.sl 9 .str) z_, .dat (.sl 9 .str) ([])]),(false,[dB false])]) e8)).trans (congrArg (fun z_=>PV.tup [(true,[.dat (.sl 9 .str) ((QQ c sig way).1), .dat (.sl 9 .str) z_]),(false,[dB false])]) e9)).trans (congrArg (fun z_=>PV.tup [(true,[.dat (.sl 9 .str) ((QQ c sig way).1), .dat (.sl 9 .str) ((QQ c sig way).2)]),(false,[dB z_])]) e10))
  ·have hb7':=ae hb7
   iterate 7 refine w_ ?_
   refine Qb ?_
   have e11:((Y3 c sig way).1:((.sl 9 .str):Ty).Den)=((QQ c sig way).1):=by
    (rw[Qoc (QpE (by assumption) (by assumption))]; done)
   have e12:((Y3 c sig way).2:((.sl 9 .str):Ty).Den)=((QQ c sig way).2):=by
    (rw[Qoc (QpE (by assumption) (by assumption))]; done)
   have e13:(true:Bool)=(decide (Yl c sig way)):=by
    exact (aJ (QpE (by assumption) (by assumption))).symm
   exact fr_ hO (e:=(((congrArg (fun z_=>PV.tup [(true,[.dat (.sl 9 .str) z_, .dat (.sl 9 .str) ((Y3 c sig way).2)]),(false,[dB true])]) e11)).trans (congrArg (fun z_=>PV.tup [(true,[.dat (.sl 9 .str) ((QQ c sig way).1), .dat (.sl 9 .str) z_]),(false,[dB true])]) e12)).trans (congrArg (fun z_=>PV.tup [(true,[.dat (.sl 9 .str) ((QQ c sig way).1), .dat (.sl 9 .str) ((QQ c sig way).2)]),(false,[dB z_])]) e13))
theorem VR (c:(List (ByteArray×Int))×List ByteArray×(List (Int×Int×Bool×Int)))(sig:Int)[∀c,Decidable (SgOk c)]:FC Tryz.prog 78 [(true,[.dat (.sl 44 (.pr .str .int)) c.1, .dat (.sl 9 .str) c.2.1, .dat (.sl 46 (.pr .int (.pr .int (.pr .bool .int)))) c.2.2]),(false,[dI sig])] [] 0 (QV (PV.tup [(true,[.dat (.sl 9 .str) ((QQ c sig QW).1), .dat (.sl 9 .str) ((QQ c sig QW).2)]),(false,[dB (decide (Yl c sig QW))])])):=by
 refine Qj Tryz.func78 rfl rfl Tryz.ntmps78 fun O_ hO w0_ N0_ X_ h0_ f0_=> ?_
 refine acI 1 fun hi1=> ?_
 refine w_ ?_
 refine xbx 0 ?_
 refine lc (xal 1 (.pr (.sl 9 .str) (.sl 9 .str)) ZC) ?_
 iterate 5 refine w_ ?_
 refine lc (dK (HG c sig (⟨#[110,101,120,116]⟩:ByteArray)) Qgl) ?_
 iterate 5 refine w_ ?_
 refine Qb ?_
 have e2:((QQ c sig (⟨#[110,101,120,116]⟩:ByteArray)).1:((.sl 9 .str):Ty).Den)=((QQ c sig QW).1):=by
  rfl
 have e3:((QQ c sig (⟨#[110,101,120,116]⟩:ByteArray)).2:((.sl 9 .str):Ty).Den)=((QQ c sig QW).2):=by
  rfl
 have e4:(decide (Yl c sig (⟨#[110,101,120,116]⟩:ByteArray)):Bool)=(decide (Yl c sig QW)):=by
  rfl
 exact fr_ hO (e:=(((congrArg (fun z_=>PV.tup [(true,[.dat (.sl 9 .str) z_, .dat (.sl 9 .str) ((QQ c sig (⟨#[110,101,120,116]⟩:ByteArray)).2)]),(false,[dB (decide (Yl c sig (⟨#[110,101,120,116]⟩:ByteArray)))])]) e2)).trans (congrArg (fun z_=>PV.tup [(true,[.dat (.sl 9 .str) ((QQ c sig QW).1), .dat (.sl 9 .str) z_]),(false,[dB (decide (Yl c sig (⟨#[110,101,120,116]⟩:ByteArray)))])]) e3)).trans (congrArg (fun z_=>PV.tup [(true,[.dat (.sl 9 .str) ((QQ c sig QW).1), .dat (.sl 9 .str) ((QQ c sig QW).2)]),(false,[dB z_])]) e4))
theorem VU (c:(List (ByteArray×Int))×List ByteArray×(List (Int×Int×Bool×Int)))(sig:Int)[∀c,Decidable (SgOk c)]:FC Tryz.prog 77 [(true,[.dat (.sl 44 (.pr .str .int)) c.1, .dat (.sl 9 .str) c.2.1, .dat (.sl 46 (.pr .int (.pr .int (.pr .bool .int)))) c.2.2]),(false,[dI sig])] [] 0 (Is (PV.tup [(true,[.ref 0, .ref 1]),(false,[dB (decide (Yl c sig QW))])]) [ar 0 9 .str ((QQ c sig QW).1),ar 1 9 .str ((QQ c sig QW).2)]):=by
 refine Qj Tryz.func77 rfl rfl Tryz.ntmps77 fun O_ hO w0_ N0_ X_ h0_ f0_=> ?_
 refine acI 1 fun hi1=> ?_
 refine w_ ?_
 refine xbx 0 ?_
 refine xbx 1 ?_
 refine lc (xal 2 (.pr (.sl 9 .str) (.sl 9 .str)) ZC) ?_
 iterate 6 refine w_ ?_
 refine lc (dK (JK c sig) Qg4) ?_
 iterate 2 refine w_ ?_
 cases hb2:(decide (SgOk c∧(0≤sig∧sig≤(c.1.length:Int) - 1)∧WW c sig=false))
 ·have hb2':=ab hb2
  iterate 2 refine w_ ?_
  refine lc (Qn WF rfl (aw.1 rfl) rfl rfl) ?_
  iterate 3 refine w_ ?_
  refine AC.wk (QD 3 (p:=2) (off:=0) 9 .str rfl rfl (Fresh.of rfl) (nlr rfl))<|AC.wk (QD 4 (p:=2) (off:=1) 9 .str rfl rfl (Fresh.of rfl) (nlr rfl))<|Qb ?_
  have e3:(false:Bool)=(decide (Yl c sig QW)):=by
   exact (az (QcX (by assumption))).symm
  exact fi_ [(0,3),(1,4)] hO ⟨(Qk (by (rw[Qcy (QcX (by assumption))]; done))),(Qk (by (rw[Qcy (QcX (by assumption))]; done))),trivial⟩ (h0:=(congrArg (fun z_=>PV.tup [(true,[.ref 3, .ref 4]),(false,[dB z_])]) e3))
 ·have hb2':=ae hb2
  iterate 4 refine w_ ?_
  refine lc (ZV ⟨_,_,rfl,(Qa rfl),rfl,⟨_,_,rfl,(Qa rfl),rfl,rfl⟩⟩ rfl)<|lc (ZV ⟨_,_,rfl,(Qa rfl),rfl,⟨_,_,rfl,(Qa rfl),rfl,rfl⟩⟩ rfl) ?_
  refine lc (dP 5 [] (Qba c c sig (by assumption:QeN c sig).1 (by assumption:QeN c sig).2.1 rfl) Qgm) ?_
  iterate 5 refine w_ ?_
  refine Qb ?_
  have e4:(decide (XF c (fun q=>nsB c sig q) (fun q=> !(nsB c sig q))):Bool)=(decide (Yl c sig QW)):=by
   exact Qhx (by assumption)
  exact fi_ [(0,7),(1,8)] hO ⟨(Qk (by (rw[Qc2 (by assumption)]; done))),(Qk (by (rw[Qc2 (by assumption)]; done))),trivial⟩ (h0:=(congrArg (fun z_=>PV.tup [(true,[.ref 7, .ref 8]),(false,[dB z_])]) e4))
theorem Yv (c:(List (ByteArray×Int))×List ByteArray×(List (Int×Int×Bool×Int)))(code:ByteArray)(sig:Int)[∀c,Decidable (SgOk c)]:FC Tryz.prog 71 [(true,[.dat (.sl 44 (.pr .str .int)) c.1, .dat (.sl 9 .str) c.2.1, .dat (.sl 46 (.pr .int (.pr .int (.pr .bool .int)))) c.2.2]),(false,[dS code]),(false,[dI sig])] [] 0 (QV (PV.tup [(false,[dB (nvV c code sig)]),(false,[dB (nvB c code sig)])])):=by
 refine Qj Tryz.func71 rfl rfl Tryz.ntmps71 fun O_ hO w0_ N0_ X_ h0_ f0_=> ?_
 refine acI 2 fun hi1=> ?_
 refine w_ ?_
 refine xbx 0 ?_
 iterate 6 refine w_ ?_
 refine lc (dG 1 (VU c sig) Qjl) ?_
 iterate 3 refine w_ ?_
 refine lc (xal 3 (.pr (.sl 9 .str) (.sl 9 .str)) ZC) ?_
 iterate 7 refine w_ ?_
 refine lc (dB_ (Q5 ((QQ c sig QW).1) code) VI) ?_
 iterate 7 refine w_ ?_
 cases hb2:(decide (Yl c sig QW))
 ·have hb2':=ab hb2
  iterate 3 refine w_ ?_
  refine Qo rfl rfl rfl ?_ rfl
  refine Qo rfl rfl rfl ?_ rfl
  refine Qo rfl rfl rfl ?_ rfl
  refine Qo rfl rfl rfl ?_ rfl
  refine Qo rfl rfl rfl ?_ rfl
  iterate 8 refine w_ ?_
  refine Qb ?_
  have e3:(false:Bool)=(nvV c code sig):=by
   exact (QnP (by assumption)).1.symm
  have e4:(false:Bool)=(nvB c code sig):=by
   exact (QnP (by assumption)).2.symm
  exact fr_ hO (e:=((congrArg (fun z_=>PV.tup [(false,[dB z_]),(false,[dB false])]) e3)).trans (congrArg (fun z_=>PV.tup [(false,[dB (nvV c code sig)]),(false,[dB z_])]) e4))
 ·have hb2':=ae hb2
  iterate 3 refine w_ ?_
  cases hb5:(((QQ c sig QW).1).any (fun y=>decide (code=y)))
  ·iterate 3 refine w_ ?_
   refine lgy rfl rfl (dB_ (Q5 ((QQ c sig QW).2) code) VI) ?_
   iterate 4 refine w_ ?_
   cases hb6:(((QQ c sig QW).2).any (fun y=>decide (code=y)))
   ·iterate 5 refine w_ ?_
    refine Qb ?_
    have e7:(false:Bool)=(nvV c code sig):=by
     exact (QmZ (by assumption) (by assumption)).1.symm
    have e8:(false:Bool)=(nvB c code sig):=by
     exact (QmZ (by assumption) (by assumption)).2.symm
    exact fr_ hO (e:=((congrArg (fun z_=>PV.tup [(false,[dB z_]),(false,[dB false])]) e7)).trans (congrArg (fun z_=>PV.tup [(false,[dB (nvV c code sig)]),(false,[dB z_])]) e8))
   ·iterate 7 refine w_ ?_
    refine Qb ?_
    have e9:(false:Bool)=(nvV c code sig):=by
     exact (QrO (by assumption) (by assumption) (by assumption)).1.symm
    have e10:(true:Bool)=(nvB c code sig):=by
     exact (Qje (by assumption) (.inr (by assumption))).2.symm
    exact fr_ hO (e:=((congrArg (fun z_=>PV.tup [(false,[dB z_]),(false,[dB true])]) e9)).trans (congrArg (fun z_=>PV.tup [(false,[dB (nvV c code sig)]),(false,[dB z_])]) e10))
  ·iterate 15 refine w_ ?_
   refine Qb ?_
   have e11:(true:Bool)=(nvV c code sig):=by
    exact (QrS (by assumption) (by assumption)).1.symm
   have e12:(true:Bool)=(nvB c code sig):=by
    exact (Qje (by assumption) (.inl (by assumption))).2.symm
   exact fr_ hO (e:=((congrArg (fun z_=>PV.tup [(false,[dB z_]),(false,[dB true])]) e11)).trans (congrArg (fun z_=>PV.tup [(false,[dB (nvV c code sig)]),(false,[dB z_])]) e12))
theorem Yu (c:(List (ByteArray×Int))×List ByteArray×(List (Int×Int×Bool×Int)))(code:ByteArray)(sig:Int)[∀c,Decidable (SgOk c)]:FC Tryz.prog 72 [(true,[.dat (.sl 44 (.pr .str .int)) c.1, .dat (.sl 9 .str) c.2.1, .dat (.sl 46 (.pr .int (.pr .int (.pr .bool .int)))) c.2.2]),(false,[dS code]),(false,[dI sig])] [] 0 (QV (PV.tup [(false,[dB (nvV c code sig)]),(false,[dB (nvB c code sig)])])):=by
 refine Qj Tryz.func72 rfl rfl Tryz.ntmps72 fun O_ hO w0_ N0_ X_ h0_ f0_=> ?_
 refine acI 2 fun hi1=> ?_
 refine w_ ?_
 refine xbx 0 ?_
 iterate 6 refine w_ ?_
 refine lc (dK (VR c sig) Qj5) ?_
 iterate 3 refine w_ ?_
 refine lc (xal 1 (.pr (.sl 9 .str) (.sl 9 .str)) ZC) ?_
 iterate 8 refine w_ ?_
 cases hb2:(decide (Yl c sig QW))
 ·have hb2':=ab hb2
  iterate 6 refine w_ ?_
  refine Qo rfl rfl rfl ?_ rfl
  refine Qo rfl rfl rfl ?_ rfl
  refine Qo rfl rfl rfl ?_ rfl
  refine Qo rfl rfl rfl ?_ rfl
  refine Qo rfl rfl rfl ?_ rfl
  iterate 8 refine w_ ?_
  refine Qb ?_
  have e3:(false:Bool)=(nvV c code sig):=by
   exact (QnP (by assumption)).1.symm
  have e4:(false:Bool)=(nvB c code sig):=by
   exact (QnP (by assumption)).2.symm
  exact fr_ hO (e:=((congrArg (fun z_=>PV.tup [(false,[dB z_]),(false,[dB false])]) e3)).trans (congrArg (fun z_=>PV.tup [(false,[dB (nvV c code sig)]),(false,[dB z_])]) e4))
 ·have hb2':=ae hb2
  iterate 3 refine w_ ?_
  refine lgy rfl rfl (dK (ZZ ((QQ c sig QW).1) code) YX) ?_
  iterate 2 refine w_ ?_
  cases hb5:(Xc ((QQ c sig QW).1) code)
  ·iterate 3 refine w_ ?_
   refine lgy rfl rfl (dK (ZZ ((QQ c sig QW).2) code) YX) ?_
   iterate 4 refine w_ ?_
   refine cx_ (fun hb6=> ?_) fun hb6=> ?_
   ·iterate 4 refine w_ ?_
    refine Qb ?_
    have e7:(false:Bool)=(nvV c code sig):=by
     exact (QmZ (by assumption) (by assumption)).1.symm
    have e8:(false:Bool)=(nvB c code sig):=by
     exact (QmZ (by assumption) (by assumption)).2.symm
    exact fr_ hO (e:=((congrArg (fun z_=>PV.tup [(false,[dB z_]),(false,[dB false])]) e7)).trans (congrArg (fun z_=>PV.tup [(false,[dB (nvV c code sig)]),(false,[dB z_])]) e8))
   ·iterate 5 refine w_ ?_
    refine lc (dK (ZZ ((QQ c sig QW).1) code) YX) ?_
    iterate 3 refine w_ ?_
    refine Qb ?_
    have e9:(Xc ((QQ c sig QW).1) code:Bool)=(nvV c code sig):=by
     exact (Qje (by assumption) (.inr (by assumption))).1.symm
    have e10:(true:Bool)=(nvB c code sig):=by
     exact (Qje (by assumption) (.inr (by assumption))).2.symm
    exact fr_ hO (e:=((congrArg (fun z_=>PV.tup [(false,[dB z_]),(false,[dB true])]) e9)).trans (congrArg (fun z_=>PV.tup [(false,[dB (nvV c code sig)]),(false,[dB z_])]) e10))
  ·iterate 14 refine w_ ?_
   refine lc (dK (ZZ ((QQ c sig QW).1) code) YX) ?_
   iterate 3 refine w_ ?_
   refine Qb ?_
   have e11:(Xc ((QQ c sig QW).1) code:Bool)=(nvV c code sig):=by
    exact (Qje (by assumption) (.inl (by assumption))).1.symm
   have e12:(true:Bool)=(nvB c code sig):=by
    exact (Qje (by assumption) (.inl (by assumption))).2.symm
   exact fr_ hO (e:=((congrArg (fun z_=>PV.tup [(false,[dB z_]),(false,[dB true])]) e11)).trans (congrArg (fun z_=>PV.tup [(false,[dB (nvV c code sig)]),(false,[dB z_])]) e12))
end Go.Proofs.YtgpdhgadmjfokaaGreat
