/- Least covers and next-state functions: what the law asks of them. -/
import Derived.Test.YtfkmmpfdncopdaaGreatNHv
import Derived.Test.YtfkmmpfdncopdaaGreatNHn
import Derived.Test.YtfkmmpfdncopdaaGreatNHx
set_option linter.unusedSimpArgs false
set_option linter.unusedVariables false
set_option linter.unusedSectionVars false
namespace Go.Proofs.YtfkmmpfdncopdaaGreat
open Go.RowKit
set_option maxRecDepth 100000
set_option maxHeartbeats 4000000
def mcV (n:Int)(on off:List ByteArray):List ByteArray:=if PrP n on off then (fmV (Yy (QL n on off) on) 7 0).1 else []
def mcB (n:Int)(on off:List ByteArray):Bool:=decide (PrP n on off)&&(fmV (Yy (QL n on off) on) 7 0).2
def nfV [∀c,Decidable (SgOk c)](c:DSg)(sig:Int):List ByteArray:=if QB c sig Qq then mcV (c.1.length:Int) (Qk c sig Qq).1 (Qk c sig Qq).2 else []
def nfB [∀c,Decidable (SgOk c)](c:DSg)(sig:Int):Bool:=decide (QB c sig Qq)&&mcB (c.1.length:Int) (Qk c sig Qq).1 (Qk c sig Qq).2
section
variable {n:Int}{ps on off l tk:List ByteArray}{x c p code:ByteArray}{k m:Nat}{f:Nat→List ByteArray×Bool}{s:DSg}{sig:Int}
theorem Ql7 (h:PrP n on off):mcV n on off=(fmV (Yy (QL n on off) on) 7 0).1∧mcB n on off=(fmV (Yy (QL n on off) on) 7 0).2:=by
  refine ⟨if_pos h, ?_⟩
  unfold mcB; rw[aJ h]; rfl
theorem Qn0 (h:¬PrP n on off):mcV n on off=[]∧mcB n on off=false:=by
  refine ⟨if_neg h, ?_⟩
  unfold mcB; rw[ay h]; rfl
theorem QmJ:∀(n k:Nat),(fmV f n k).2=true→∃i,i < n∧fmV f n k=f (k+i)∧(f (k+i)).2=true
  | 0,_,h=>by cases h
  | n+1,k,h=>by
    rw[fmV] at h ⊢
    by_cases e:(f k).2=true
    · rw[if_pos e]; exact ⟨0,by omega,rfl,e⟩
    · rw [if_neg e] at h ⊢
      obtain ⟨i,h1,h2,h3⟩:=QmJ n (k+1) h
      exact ⟨i+1,by omega,by rw[h2,show k+1+i=k+(i+1) by omega],by rw[show k+(i+1)=k+1+i by omega]; exact h3⟩
theorem QiX:∀(m:Nat) {tk x:List ByteArray},x∈leS ps on m tk→WW on x=none∧∀p∈x,p∈ps∨p∈tk
  | m,tk,x,h=>by
    cases hf:WW on tk with
    | none=>
      rw[YO hf,aC] at h
      subst h; exact ⟨hf,fun p hp=> .inr hp⟩
    | some c=>
      cases m with
      | zero=>simp only[leS,hf] at h; cases h
      | succ m=>
        simp only[leS,hf] at h
        obtain ⟨p,hpm,hx⟩:=cj.1 h
        split at hx
        · obtain ⟨h1, h2⟩ := QiX m hx
          refine ⟨h1,fun q hq=> ?_⟩
          rcases h2 q hq with g | g
          · exact .inl g
          · rcases ZO.1 g with rfl | g
            · exact .inl hpm
            · exact .inr g
        · cases hx
theorem Qob (h:WW on l=none):∀c∈on,inC l c=true:=fun c hc=>by
  have:=List.find?_eq_none.1 h c hc
  simpa using this
theorem QcB {a:ByteArray}{u:UInt8}(ha:∀v∈a.toList,Vy v)(hu:Vy u):∀v∈(a++⟨#[u]⟩:ByteArray).toList,Vy v:=fun v hv=>by
  rw[bc,ByteArray.data_append,Array.toList_append,aK] at hv
  rcases hv with hv | hv
  · exact ha v (by rw[bc]; exact hv)
  · have : v = u := by simpa using hv
    rw[this]; exact hu
theorem QdV:∀{n:Nat} {x:ByteArray},x∈Zl n→∀u∈x.toList,Vy u
  | 0,x,h=>fun u hu=>by
    rw[Zl,aC] at h; subst h
    rw[bc] at hu; cases hu
  | n+1,x,h=>by
    rw[Zl,cj] at h
    obtain ⟨c,hc,h⟩:=h
    have:=QdV hc
    simp only[cuF,aE,bW,or_false] at h
    rcases h with rfl | rfl | rfl
    · exact QcB this (.inr (.inr rfl))
    · exact QcB this (.inl rfl)
    · exact QcB this (.inr (.inl rfl))
theorem QoA (h:mcB n on off=true):Ub n (mcV n on off)∧(∀c∈on,inC (mcV n on off) c=true)∧∀c∈off,inC (mcV n on off) c=false:=by
  have hP:PrP n on off:=by
    unfold mcB at h
    rw[aL,aV] at h; exact h.1
  rw[(Ql7 hP).2] at h
  rw[(Ql7 hP).1]
  obtain ⟨i,hi,e,h2⟩:=QmJ 7 0 h
  rw[bn] at e h2
  rw[e]
  have hn:=hP.1.1
  have key:WW on (Yy (QL n on off) on i).1=none∧(∀p∈(Yy (QL n on off) on i).1,p∈QL n on off)∧(Yy (QL n on off) on i).1.length≤6:=by
    refine Qgh (fun l=>WW on l=none∧(∀p∈l,p∈QL n on off)∧l.length≤6) (xs:=leS (QL n on off) on i []) (st:=([],false)) (fun l hl=> ?_) (fun h=>by cases h) h2
    obtain ⟨h1,h2⟩:=QiX i hl
    obtain ⟨j,h3,h4,_⟩:=QaB i hl
    rw[aF] at h4
    exact ⟨h1,fun p hp=>(h2 p hp).elim id fun g=>(by cases g),by omega⟩
  obtain ⟨k1,k2,k3⟩:=key
  refine ⟨⟨hn,by omega,fun c hc=> ?_⟩,Qob k1,fun c hc=> ?_⟩
  · have hm := (bR.1 (k2 c hc)).1
    exact ⟨QdV hm,by rw[YE hm]; omega,hn⟩
  · cases e2 : inC (Yy (QL n on off) on i).1 c with
    | false=>rfl
    | true=>
      obtain ⟨p,hp,h5⟩:=bC.1 e2
      have h6:=(bR.1 (k2 p hp)).2
      unfold prB at h6
      rw[aL,aL] at h6
      have:WZ p off=true:=bC.2 ⟨c,hc,h5⟩
      rw[this] at h6
      exact absurd h6.2.1 (by decide)
section
variable [∀c,Decidable (SgOk c)](hT:QB s sig Qq)(hx:s.2.1[k]? =some x)
theorem Qlm {f:Int→Bool}:x∈pkL s f k↔∃i:Nat,i < k∧f (i:Int)=true∧cdA s i=x:=by
  unfold pkL rg
  rw[List.mem_filterMap]
  constructor
  · rintro ⟨i, hi, h⟩
    unfold pkF at h
    split at h
    · rename_i hf
      exact ⟨i,bY.1 hi,hf,Option.some.inj h⟩
    · cases h
  · rintro ⟨i, hi, hf, e⟩
    exact ⟨i,bY.2 hi,by unfold pkF; rw[if_pos hf,e]⟩
theorem JP {f g:Int→Bool}:x∈(Uh s f g).1↔∃i:Nat,i < s.2.1.length∧f (i:Int)=true∧cdA s i=x:=by
  rw[← Qlm (k:=s.2.1.length)]; exact XI QO _
theorem Qbs {f g:Int→Bool}:x∈(Uh s f g).2↔∃i:Nat,i < s.2.1.length∧g (i:Int)=true∧cdA s i=x:=by
  rw[← Qlm (k:=s.2.1.length)]; exact XI QO _
include hT
theorem Qbj:Qk s sig Qq=Uh s (fun q=>nsB s sig q) (fun q=> !(nsB s sig q)):=by rw[Qd1 hT,Qd4]
theorem QeO (h1:x∈(Qk s sig Qq).1)(h2:x∈(Qk s sig Qq).2):False:=by
  have hO:OOk (s.1.length:Int) (Qk s sig Qq).1 (Qk s sig Qq).2:=by rw[Qd1 hT]; exact hT.2
  have h3:=cq.1 hO.2.2.2 x h1
  exact h3 (bC.2 ⟨x,h2,aJ rfl⟩)
include hx
theorem J4:Yq (Qk s sig Qq).1 x=nsB s sig (k:Int):=by
  have hk:=(ah.1 hx).1
  have hc:=QgJ hx
  cases h:nsB s sig (k:Int) with
  | true=>exact Yt.2 (by rw[Qbj hT]; exact JP.2 ⟨k,hk,h,hc⟩)
  | false=>
    cases h2:Yq (Qk s sig Qq).1 x with
    | false=>rfl
    | true=>exact (QeO hT (Yt.1 h2) (by rw[Qbj hT]; exact Qbs.2 ⟨k,hk,by show (!(nsB s sig (k:Int)))=true; rw[h]; rfl,hc⟩)).elim
theorem Qmp:Yq (Qk s sig Qq).1 x=true∨Yq (Qk s sig Qq).2 x=true:=by
  have hk:=(ah.1 hx).1
  have hc:=QgJ hx
  cases h:nsB s sig (k:Int) with
  | true=>exact .inl (by rw[J4 hT hx,h])
  | false=>exact .inr (Yt.2 (by rw[Qbj hT]; exact Qbs.2 ⟨k,hk,by show (!(nsB s sig (k:Int)))=true; rw[h]; rfl,hc⟩))
theorem Qmg:nvV s x sig=nsB s sig (k:Int)∧nvB s x sig=true:=by
  obtain ⟨h1,h2⟩:=Qqp hT (Qmp hT hx)
  exact ⟨h1.trans (J4 hT hx),h2⟩
theorem QqV (h:x∈(Qk s sig Zp).1):nsB s sig (k:Int)=false:=by
  by_cases hD:QB s sig Zp
  · rw [Qd1 hD] at h
    obtain ⟨i,hi,hf,hc⟩:=JP.1 h
    have h1:nsB s sig (i:Int)=false:=by
      have e:Zp=(⟨#[100,111,119,110]⟩:ByteArray):=rfl
      simp only[wOn,W6,if_pos e,if_true,aL] at hf
      unfold nsB
      rw[hf.1,hf.2]; rfl
    cases h2:nsB s sig (k:Int) with
    | false=>rfl
    | true=>
      have h3:x∈(Qk s sig Qq).1:=Yt.1 (by rw[J4 hT hx,h2])
      exact (QeO hT h3 (by rw[Qbj hT]; exact Qbs.2 ⟨i,hi,by show (!(nsB s sig (i:Int)))=true; rw[h1]; rfl,hc⟩)).elim
  · rw[JF hD] at h; cases h
theorem QpQ (h:x∈(Qk s sig upT).1):nsB s sig (k:Int)=true:=by
  by_cases hD:QB s sig upT
  · rw [Qd1 hD] at h
    obtain ⟨i,hi,hf,hc⟩:=JP.1 h
    have h1:nsB s sig (i:Int)=true:=by
      have e1:¬upT=(⟨#[100,111,119,110]⟩:ByteArray):=by decide
      have e:upT=(⟨#[117,112]⟩:ByteArray):=rfl
      simp only[wOn,W6,if_neg e1,if_pos e,if_true,if_false,aL,bM] at hf
      unfold nsB
      rw[hf.1,hf.2]; rfl
    rw[← J4 hT hx]
    exact Yt.2 (by rw[Qbj hT]; exact JP.2 ⟨i,hi,h1,hc⟩)
  · rw[JF hD] at h; cases h
theorem QeB (hB:nfB s sig=true):ccP (nfV s sig) x∧ccV (nfV s sig) x=nsB s sig (k:Int):=by
  have hb:mcB (s.1.length:Int) (Qk s sig Qq).1 (Qk s sig Qq).2=true:=by
    unfold nfB at hB
    rw[aL] at hB; exact hB.2
  have e:nfV s sig=mcV (s.1.length:Int) (Qk s sig Qq).1 (Qk s sig Qq).2:=if_pos hT
  obtain ⟨h1,h2,h3⟩:=QoA hb
  rw[← e] at h1 h2 h3
  have hc:=hT.1.1.codes x (ap hx)
  have hz:(x.size:Int)=(s.1.length:Int):=hc.2
  have hP:ccP (nfV s sig) x:=⟨by rw[hz]; exact h1,⟨⟨hc.1,rfl⟩,by have:=h1.1; omega⟩⟩
  refine ⟨hP, ?_⟩
  have e2:ccV (nfV s sig) x=inC (nfV s sig) x:=by unfold ccV; rw[aJ hP]; rfl
  rw[e2,← J4 hT hx]
  rcases Qmp hT hx with h | h
  · rw[h]; exact h2 x (Yt.1 h)
  · rw [h3 x (Yt.1 h)]
    cases h4:Yq (Qk s sig Qq).1 x with
    | false=>rfl
    | true=>exact (QeO hT (Yt.1 h4) (Yt.1 h)).elim
end
end
end Go.Proofs.YtfkmmpfdncopdaaGreat
namespace Go.Proofs.YtfkmmpfdncopdaaGreat
open Go.RowKit
set_option maxRecDepth 100000
set_option maxHeartbeats 4000000
section
variable {n:Int}{on off:List ByteArray}
theorem Qr8 (h:OOk n on off):mnV n on off=(mcV n on off,mcB n on off):=by
  by_cases h2:((QL n on off).length:Int)≤60
  · obtain ⟨h3, h4⟩ := Ql7 (n := n) (on := on) (off := off) ⟨h, h2⟩
    rw[QqU h2,h3,h4,QpR]
  · obtain ⟨h3, h4⟩ := Qn0 (n := n) (on := on) (off := off) fun g => h2 g.2
    rw[Qp3 h2,h3,h4]
theorem Qrq (h:¬OOk n on off):mcV n on off=[]∧mcB n on off=false:=Qn0 fun g=>h g.1
theorem QmG (h:OOk n on off):on.length≤1000:=by have:=h.2.1.2; omega
section
variable [∀c,Decidable (SgOk c)]{c:DSg}{sig:Int}
theorem QnO (h:QB c sig Qq):nfV c sig=mcV (c.1.length:Int) (Qk c sig Qq).1 (Qk c sig Qq).2∧nfB c sig=mcB (c.1.length:Int) (Qk c sig Qq).1 (Qk c sig Qq).2:=by
  refine ⟨if_pos h, ?_⟩
  unfold nfB; rw[aJ h]; rfl
theorem Qn6 (h:¬QB c sig Qq):nfV c sig=[]∧nfB c sig=false:=by
  refine ⟨if_neg h, ?_⟩
  unfold nfB; rw[ay h]; rfl
end
end
theorem UV (n:Int)(on:List ByteArray)(off:List ByteArray):FC Tryz.prog 93 [(false,[dI n]),(false,[.dat (.sl 9 .str) on]),(false,[.dat (.sl 9 .str) off])] [] 0 (QH (PV.tup [(false,[.dat (.sl 9 .str) (mcV n on off)]),(false,[dB (mcB n on off)])])):=by
 refine Ql Tryz.func93 rfl rfl Tryz.ntmps93 fun O_ hO w0_ N0_ X_ h0_ f0_=> ?_
 refine acI 0 fun hi1=> ?_
 iterate 9 refine w_ ?_
 refine lc (dK (YL n on off) K0) ?_
 iterate 2 refine w_ ?_
 cases hb2:(decide (OOk n on off))
 ·have hb2':=ab hb2
  iterate 5 refine w_ ?_
  refine AC.wk (VN (i:=6) 9 .str rfl)<|Qb ?_
  have e3:([]:((.sl 9 .str):Ty).Den)=(mcV n on off):=by
   exact (Qrq (by assumption)).1.symm
  have e4:(false:Bool)=(mcB n on off):=by
   exact (Qrq (by assumption)).2.symm
  exact fr_ hO (e:=((congrArg (fun z_=>PV.tup [(false,[.dat (.sl 9 .str) z_]),(false,[dB false])]) e3)).trans (congrArg (fun z_=>PV.tup [(false,[.dat (.sl 9 .str) (mcV n on off)]),(false,[dB z_])]) e4))
 ·have hb2':=ae hb2
  iterate 6 refine w_ ?_
  refine lc (dK (Qak n on off (by have:=(by assumption:OOk n on off).1; omega) (QmE (by assumption:OOk n on off)) (Qik (by assumption:OOk n on off)) (QmG (by assumption:OOk n on off))) Qih) ?_
  iterate 5 refine w_ ?_
  refine Qb ?_
  have e5:((mnV n on off).1:((.sl 9 .str):Ty).Den)=(mcV n on off):=by
   exact congrArg Prod.fst (Qr8 (by assumption))
  have e6:((mnV n on off).2:Bool)=(mcB n on off):=by
   exact congrArg Prod.snd (Qr8 (by assumption))
  exact fr_ hO (e:=((congrArg (fun z_=>PV.tup [(false,[.dat (.sl 9 .str) z_]),(false,[dB ((mnV n on off).2)])]) e5)).trans (congrArg (fun z_=>PV.tup [(false,[.dat (.sl 9 .str) (mcV n on off)]),(false,[dB z_])]) e6))
theorem UN (n:Int)(on:List ByteArray)(off:List ByteArray):FC Tryz.prog 96 [(false,[dI n]),(false,[.dat (.sl 9 .str) on]),(false,[.dat (.sl 9 .str) off])] [] 0 (QH (PV.tup [(false,[.dat (.sl 9 .str) (mcV n on off)]),(false,[dB (mcB n on off)])])):=by
 refine Ql Tryz.func96 rfl rfl Tryz.ntmps96 fun O_ hO w0_ N0_ X_ h0_ f0_=> ?_
 refine acI 0 fun hi1=> ?_
 iterate 9 refine w_ ?_
 refine lc (dG 0 (QbH n on off) QhU) ?_
 iterate 10 refine w_ ?_
 cases hb2:(decide (PrP n on off))
 ·have hb2':=ab hb2
  iterate 5 refine w_ ?_
  refine AC.wk (VN (i:=6) 9 .str rfl)<|Qb ?_
  have e3:([]:((.sl 9 .str):Ty).Den)=(mcV n on off):=by
   exact (Qn0 (by assumption)).1.symm
  have e4:(false:Bool)=(mcB n on off):=by
   exact (Qn0 (by assumption)).2.symm
  exact fr_ hO (e:=((congrArg (fun z_=>PV.tup [(false,[.dat (.sl 9 .str) z_]),(false,[dB false])]) e3)).trans (congrArg (fun z_=>PV.tup [(false,[.dat (.sl 9 .str) (mcV n on off)]),(false,[dB z_])]) e4))
 ·have hb2':=ae hb2
  iterate 6 refine w_ ?_
  refine lc (dK (HZ n on off (by have:=(by assumption:PrP n on off).1.1; omega) (QmE (by assumption:PrP n on off).1) (Qik (by assumption:PrP n on off).1) (QmG (by assumption:PrP n on off).1)) Qhh) ?_
  iterate 5 refine w_ ?_
  refine Qb ?_
  have e5:((fmV (Yy (QL n on off) on) 7 0).1:((.sl 9 .str):Ty).Den)=(mcV n on off):=by
   exact (Ql7 (by assumption)).1.symm
  have e6:((fmV (Yy (QL n on off) on) 7 0).2:Bool)=(mcB n on off):=by
   exact (Ql7 (by assumption)).2.symm
  exact fr_ hO (e:=((congrArg (fun z_=>PV.tup [(false,[.dat (.sl 9 .str) z_]),(false,[dB ((fmV (Yy (QL n on off) on) 7 0).2)])]) e5)).trans (congrArg (fun z_=>PV.tup [(false,[.dat (.sl 9 .str) (mcV n on off)]),(false,[dB z_])]) e6))
theorem Z1 (c:(List (ByteArray×Int))×List ByteArray×(List (Int×Int×Bool×Int)))(sig:Int)[∀c,Decidable (SgOk c)]:FC Tryz.prog 31 [(true,[.dat (.sl 203 (.pr .str .int)) c.1, .dat (.sl 9 .str) c.2.1, .dat (.sl 136 (.pr .int (.pr .int (.pr .bool .int)))) c.2.2]),(false,[dI sig])] [] 0 (QH (PV.tup [(false,[.dat (.sl 9 .str) (nfV c sig)]),(false,[dB (nfB c sig)])])):=by
 refine Ql Tryz.func31 rfl rfl Tryz.ntmps31 fun O_ hO w0_ N0_ X_ h0_ f0_=> ?_
 refine acI 1 fun hi1=> ?_
 refine w_ ?_
 refine xbx 0 ?_
 iterate 6 refine w_ ?_
 refine lc (dK (Yx c sig).frozenG Hy) ?_
 iterate 3 refine w_ ?_
 refine lc (xal 1 (.pr (.sl 9 .str) (.sl 9 .str)) Ze) ?_
 iterate 8 refine w_ ?_
 cases hb2:(decide (QB c sig Qq))
 ·have hb2':=ab hb2
  iterate 5 refine w_ ?_
  refine AC.wk (VN (i:=4) 9 .str rfl)<|Qb ?_
  have e3:([]:((.sl 9 .str):Ty).Den)=(nfV c sig):=by
   exact (Qn6 (by assumption)).1.symm
  have e4:(false:Bool)=(nfB c sig):=by
   exact (Qn6 (by assumption)).2.symm
  exact fr_ hO (e:=((congrArg (fun z_=>PV.tup [(false,[.dat (.sl 9 .str) z_]),(false,[dB false])]) e3)).trans (congrArg (fun z_=>PV.tup [(false,[.dat (.sl 9 .str) (nfV c sig)]),(false,[dB z_])]) e4))
 ·have hb2':=ae hb2
  iterate 5 refine w_ ?_
  refine alL 17 fun hl5=> ?_
  iterate 5 refine w_ ?_
  refine lc (dK (UV (c.1.length:Int) ((Qk c sig Qq).1) ((Qk c sig Qq).2)) Qkq) ?_
  iterate 5 refine w_ ?_
  refine Qb ?_
  have e6:(mcV (c.1.length:Int) ((Qk c sig Qq).1) ((Qk c sig Qq).2):((.sl 9 .str):Ty).Den)=(nfV c sig):=by
   exact (QnO (by assumption)).1.symm
  have e7:(mcB (c.1.length:Int) ((Qk c sig Qq).1) ((Qk c sig Qq).2):Bool)=(nfB c sig):=by
   exact (QnO (by assumption)).2.symm
  exact fr_ hO (e:=((congrArg (fun z_=>PV.tup [(false,[.dat (.sl 9 .str) z_]),(false,[dB (mcB (c.1.length:Int) ((Qk c sig Qq).1) ((Qk c sig Qq).2))])]) e6)).trans (congrArg (fun z_=>PV.tup [(false,[.dat (.sl 9 .str) (nfV c sig)]),(false,[dB z_])]) e7))
theorem YZ (c:(List (ByteArray×Int))×List ByteArray×(List (Int×Int×Bool×Int)))(sig:Int)[∀c,Decidable (SgOk c)]:FC Tryz.prog 36 [(true,[.dat (.sl 203 (.pr .str .int)) c.1, .dat (.sl 9 .str) c.2.1, .dat (.sl 136 (.pr .int (.pr .int (.pr .bool .int)))) c.2.2]),(false,[dI sig])] [] 0 (QH (PV.tup [(false,[.dat (.sl 9 .str) (nfV c sig)]),(false,[dB (nfB c sig)])])):=by
 refine Ql Tryz.func36 rfl rfl Tryz.ntmps36 fun O_ hO w0_ N0_ X_ h0_ f0_=> ?_
 refine acI 1 fun hi1=> ?_
 refine w_ ?_
 refine xbx 0 ?_
 iterate 6 refine w_ ?_
 refine lc (dK (Xv c sig) Qdf) ?_
 iterate 3 refine w_ ?_
 refine lc (xal 1 (.pr (.sl 9 .str) (.sl 9 .str)) Ze) ?_
 iterate 8 refine w_ ?_
 cases hb2:(decide (QB c sig Qq))
 ·have hb2':=ab hb2
  iterate 5 refine w_ ?_
  refine AC.wk (VN (i:=4) 9 .str rfl)<|Qb ?_
  have e3:([]:((.sl 9 .str):Ty).Den)=(nfV c sig):=by
   exact (Qn6 (by assumption)).1.symm
  have e4:(false:Bool)=(nfB c sig):=by
   exact (Qn6 (by assumption)).2.symm
  exact fr_ hO (e:=((congrArg (fun z_=>PV.tup [(false,[.dat (.sl 9 .str) z_]),(false,[dB false])]) e3)).trans (congrArg (fun z_=>PV.tup [(false,[.dat (.sl 9 .str) (nfV c sig)]),(false,[dB z_])]) e4))
 ·have hb2':=ae hb2
  iterate 5 refine w_ ?_
  refine alL 17 fun hl5=> ?_
  iterate 5 refine w_ ?_
  refine lc (dK (UN (c.1.length:Int) ((Qk c sig Qq).1) ((Qk c sig Qq).2)) Qku) ?_
  iterate 5 refine w_ ?_
  refine Qb ?_
  have e6:(mcV (c.1.length:Int) ((Qk c sig Qq).1) ((Qk c sig Qq).2):((.sl 9 .str):Ty).Den)=(nfV c sig):=by
   exact (QnO (by assumption)).1.symm
  have e7:(mcB (c.1.length:Int) ((Qk c sig Qq).1) ((Qk c sig Qq).2):Bool)=(nfB c sig):=by
   exact (QnO (by assumption)).2.symm
  exact fr_ hO (e:=((congrArg (fun z_=>PV.tup [(false,[.dat (.sl 9 .str) z_]),(false,[dB (mcB (c.1.length:Int) ((Qk c sig Qq).1) ((Qk c sig Qq).2))])]) e6)).trans (congrArg (fun z_=>PV.tup [(false,[.dat (.sl 9 .str) (nfV c sig)]),(false,[dB z_])]) e7))
section
variable [∀c,Decidable (SgOk c)]{c:DSg}{sig:Int}{k:Nat}{x:ByteArray}{u:UInt8}{l:List ByteArray}
theorem Qhp:decide ((0:Int)≤Q4 (fun y=>decide (y=x)) l)=Yq l x:=by
  rcases VR (fun y=>decide (y=x)) l with ⟨h1,h2⟩ | ⟨i,y,h1,h2,h3,_⟩
  · rw [h1]
    cases h:Yq l x with
    | false=>rfl
    | true=>
      have:=h2 x (Yt.1 h)
      simp at this
  · rw [h1]
    have e:y=x:=by simpa using h3
    subst e
    rw[Yt.2 (ap h2)]
    exact aJ (by omega)
theorem Qp5 (hT:QB c sig Qq)(hx:c.2.1[k]? =some x):decide ((0:Int)≤Q4 (fun y=>decide (y=x)) (Qk c sig Qq).1)=nsB c sig (k:Int):=by rw[Qhp,J4 hT hx]
theorem QqK (hT:QB c sig Qq)(hx:c.2.1[k]? =some x)(h:nsB c sig (k:Int)=true):decide ((0:Int)≤Q4 (fun y=>decide (y=x)) (Qk c sig Zp).1)=false:=by
  rw[Qhp]
  cases h2:Yq (Qk c sig Zp).1 x with
  | false=>rfl
  | true=>rw[QqV hT hx (Yt.1 h2)] at h; cases h
theorem QpT (hT:QB c sig Qq)(hx:c.2.1[k]? =some x)(h:nsB c sig (k:Int)=false):decide ((0:Int)≤Q4 (fun y=>decide (y=x)) (Qk c sig upT).1)=false:=by
  rw[Qhp]
  cases h2:Yq (Qk c sig upT).1 x with
  | false=>rfl
  | true=>rw[QpQ hT hx (Yt.1 h2)] at h; cases h
theorem Qqd (hx:c.2.1[k]? =some x)(hu:x[sig.toNat]? =some u):nsB c sig (k:Int)= !(ZD c (k:Int) sig==decide (u=49)):=by
  rw[← Qps (q:=(k:Int)) (sig:=sig) hx hu]
  cases ZD c (k:Int) sig <;> cases decide (u=49) <;> rfl
end
theorem Qb4 (code:List UInt8)(more:List UInt8):FC Tryz.prog 4 [(false,[.dat (.sl 5 .u8) code]),(false,[.dat (.sl 5 .u8) more])] [] 0 (QH (lB true)):=by
 classical
 refine Ql Tryz.func4 rfl rfl Tryz.ntmps4 fun O_ hO w0_ N0_ X_ h0_ f0_=> ?_
 iterate 7 refine w_ ?_
 refine lc (dK (Qf7 code more) Qll) ?_
 refine w_ ?_
 refine cd_ (fun hb1 hb1'=> ?_) fun hb1 hb1'=> ?_
 ·iterate 3 refine w_ ?_
  refine Yv 0 [] (YY code) QdD e1_ trivial rfl (fun _=>rfl) (fun _=>trivial) (nlr rfl) fun xa hxa=> ?_
  iterate 3 refine w_ ?_
  refine lc (xal 0 (.pr (.sl 203 (.pr .str .int)) (.pr (.sl 9 .str) (.sl 136 (.pr .int (.pr .int (.pr .bool .int)))))) Xe) ?_
  iterate 6 refine w_ ?_
  refine lc (dK (Yx xa.1 xa.2).frozenG Hy) ?_
  iterate 3 refine w_ ?_
  refine lc (xal 1 (.pr (.sl 9 .str) (.sl 9 .str)) Ze) ?_
  iterate 6 refine w_ ?_
  refine lc (dK (Xv xa.1 xa.2) Qdf) ?_
  iterate 3 refine w_ ?_
  refine lc (xal 2 (.pr (.sl 9 .str) (.sl 9 .str)) Ze) ?_
  iterate 7 refine w_ ?_
  refine lc (ZA (Qa rfl) (Qa rfl) rfl Yc) ?_
  refine w_ ?_
  cases hb4:((decide (QB xa.1 xa.2 Qq))==(decide (QB xa.1 xa.2 Qq)))
  ·iterate 10 refine w_ ?_
   refine Qb<|fqB hO ?_
   (exfalso; simp_all; done)
  ·iterate 2 refine w_ ?_
   refine lgy rfl rfl (dK (Zx (Qk xa.1 xa.2 Qq) (Qk xa.1 xa.2 Qq)) Vn) ?_
   iterate 3 refine w_ ?_
   cases hb5:(decide ((Qk xa.1 xa.2 Qq).1=(Qk xa.1 xa.2 Qq).1∧(Qk xa.1 xa.2 Qq).2=(Qk xa.1 xa.2 Qq).2))
   ·have hb5':=ab hb5
    iterate 4 refine w_ ?_
    refine Qb<|fqB hO ?_
    (exfalso; simp_all; done)
   ·have hb5':=ae hb5
    iterate 6 refine w_ ?_
    refine cd_ (fun hb6 hb6'=> ?_) fun hb6 hb6'=> ?_
    ·iterate 3 refine w_ ?_
     refine Yv 3 [] (YC more) Qc8 e1_ trivial rfl (fun _=>rfl) (fun _=>trivial) (nlr rfl) fun xb hxb=> ?_
     iterate 3 refine w_ ?_
     refine lc (xal 3 (.pr (.sl 203 (.pr .str .int)) (.pr (.sl 9 .str) (.sl 136 (.pr .int (.pr .int (.pr .bool .int)))))) Xe) ?_
     iterate 6 refine w_ ?_
     refine lc (dK (Yi xb.1 xb.2).frozenG HG) ?_
     iterate 3 refine w_ ?_
     refine lc (xal 4 (.pr (.sl 9 .str) (.sl 9 .str)) Ze) ?_
     iterate 6 refine w_ ?_
     refine lc (dK (Yl xb.1 xb.2) He) ?_
     iterate 3 refine w_ ?_
     refine lc (xal 5 (.pr (.sl 9 .str) (.sl 9 .str)) Ze) ?_
     iterate 6 refine w_ ?_
     refine lc (dK (Z3 xb.1 xb.2).frozenG HU) ?_
     iterate 3 refine w_ ?_
     refine lc (xal 6 (.pr (.sl 9 .str) (.sl 9 .str)) Ze) ?_
     iterate 6 refine w_ ?_
     refine lc (dK (Z0 xb.1 xb.2) Ht) ?_
     iterate 3 refine w_ ?_
     refine lc (xal 7 (.pr (.sl 9 .str) (.sl 9 .str)) Ze) ?_
     iterate 6 refine w_ ?_
     refine lc (dK (Z1 xb.1 xb.2) Hn) ?_
     iterate 9 refine w_ ?_
     refine lc (dK (YZ xb.1 xb.2) QdJ) ?_
     iterate 9 refine w_ ?_
     refine lc (Yf (Qa rfl) (Qa rfl) rfl Yc) ?_
     refine w_ ?_
     cases hb9:((decide (QB xb.1 xb.2 upT))==(decide (QB xb.1 xb.2 upT)))
     ·iterate 26 refine w_ ?_
      refine Qb<|fqB hO ?_
      (exfalso; simp_all; done)
     ·iterate 2 refine w_ ?_
      refine lgy rfl rfl (dK (Zx (Qk xb.1 xb.2 upT) (Qk xb.1 xb.2 upT)) Vn) ?_
      iterate 2 refine w_ ?_
      cases hb10:(decide ((Qk xb.1 xb.2 upT).1=(Qk xb.1 xb.2 upT).1∧(Qk xb.1 xb.2 upT).2=(Qk xb.1 xb.2 upT).2))
      ·have hb10':=ab hb10
       iterate 21 refine w_ ?_
       refine Qb<|fqB hO ?_
       (exfalso; simp_all; done)
      ·have hb10':=ae hb10
       iterate 2 refine w_ ?_
       refine lgy rfl rfl (Yf (Qa rfl) (Qa rfl) rfl Yc) ?_
       iterate 2 refine w_ ?_
       cases hb11:((decide (QB xb.1 xb.2 Zp))==(decide (QB xb.1 xb.2 Zp)))
       ·iterate 16 refine w_ ?_
        refine Qb<|fqB hO ?_
        (exfalso; simp_all; done)
       ·iterate 2 refine w_ ?_
        refine lgy rfl rfl (dK (Zx (Qk xb.1 xb.2 Zp) (Qk xb.1 xb.2 Zp)) Vn) ?_
        iterate 2 refine w_ ?_
        cases hb12:(decide ((Qk xb.1 xb.2 Zp).1=(Qk xb.1 xb.2 Zp).1∧(Qk xb.1 xb.2 Zp).2=(Qk xb.1 xb.2 Zp).2))
        ·have hb12':=ab hb12
         iterate 11 refine w_ ?_
         refine Qb<|fqB hO ?_
         (exfalso; simp_all; done)
        ·have hb12':=ae hb12
         iterate 2 refine w_ ?_
         refine lgy rfl rfl (Yf (Qa rfl) (Qa rfl) rfl Yc) ?_
         iterate 2 refine w_ ?_
         cases hb13:((nfB xb.1 xb.2)==(nfB xb.1 xb.2))
         ·iterate 6 refine w_ ?_
          refine Qb<|fqB hO ?_
          (exfalso; simp_all; done)
         ·iterate 2 refine w_ ?_
          refine lgy rfl rfl (dK (WJ (nfV xb.1 xb.2) (nfV xb.1 xb.2) rfl) QdF) ?_
          iterate 3 refine w_ ?_
          refine Qb ?_
          exact fe_ hO
    ·refine ZS ?_
     have hT:=(by assumption:QB xa.1 xa.2 Qq)
     obtain ⟨hs,hg,_⟩:=id hT.1
     have hn3:=hs.some_
     iterate 3 refine w_ ?_
     refine lc (dK (Yi xa.1 xa.2).frozenG HG) ?_
     iterate 3 refine w_ ?_
     refine lc (xal 8 (.pr (.sl 9 .str) (.sl 9 .str)) Ze) ?_
     iterate 6 refine w_ ?_
     refine lc (dK (Z3 xa.1 xa.2).frozenG HU) ?_
     iterate 3 refine w_ ?_
     refine lc (xal 9 (.pr (.sl 9 .str) (.sl 9 .str)) Ze) ?_
     iterate 6 refine w_ ?_
     refine lc (dK (Z1 xa.1 xa.2) Hn) ?_
     iterate 9 refine w_ ?_
     refine lc (dK (Yl xa.1 xa.2) He) ?_
     iterate 3 refine w_ ?_
     refine lc (xal 10 (.pr (.sl 9 .str) (.sl 9 .str)) Ze) ?_
     iterate 6 refine w_ ?_
     refine lc (dK (Z0 xa.1 xa.2) Ht) ?_
     iterate 3 refine w_ ?_
     refine lc (xal 11 (.pr (.sl 9 .str) (.sl 9 .str)) Ze) ?_
     iterate 7 refine w_ ?_
     refine lc (ZA (Qa rfl) (Qa rfl) rfl Yc) ?_
     refine w_ ?_
     cases hb14:((decide (QB xa.1 xa.2 upT))==(decide (QB xa.1 xa.2 upT)))
     ·iterate 9 refine w_ ?_
      refine Qb<|fqB hO ?_
      (exfalso; simp_all; done)
     ·iterate 2 refine w_ ?_
      refine lgy rfl rfl (ZA (Qa rfl) (Qa rfl) rfl Yc) ?_
      iterate 2 refine w_ ?_
      cases hb15:((decide (QB xa.1 xa.2 Zp))==(decide (QB xa.1 xa.2 Zp)))
      ·iterate 4 refine w_ ?_
       refine Qb<|fqB hO ?_
       (exfalso; simp_all; done)
      ·iterate 5 refine w_ ?_
       refine alL 112 fun hl16=> ?_
       iterate 4 refine w_ ?_
       refine lp0 xa.1.2.1.length (fun k=>⟨[(1,lf (.dat (.sl 5 .u8) more)),(5,lP 0 0),(6,lI xa.2),(7,lP 1 0),(11,lP 8 0),(13,lP 9 0),(15,lf (.dat (.sl 9 .str) (nfV xa.1 xa.2))),(16,lB (nfB xa.1 xa.2)),(112,lf (.dat (.sl 9 .str) xa.1.2.1)),(113,lI (xa.1.2.1.length:Int)),(114,lI (k:Int))],[bx 0 28 [.dat (.sl 203 (.pr .str .int)) xa.1.1, .dat (.sl 9 .str) xa.1.2.1, .dat (.sl 136 (.pr .int (.pr .int (.pr .bool .int)))) xa.1.2.2],bx 1 47 [.dat (.sl 9 .str) ((Qk xa.1 xa.2 Qq).1), .dat (.sl 9 .str) ((Qk xa.1 xa.2 Qq).2)],bx 8 47 [.dat (.sl 9 .str) ((Qk xa.1 xa.2 upT).1), .dat (.sl 9 .str) ((Qk xa.1 xa.2 upT).2)],bx 9 47 [.dat (.sl 9 .str) ((Qk xa.1 xa.2 Zp).1), .dat (.sl 9 .str) ((Qk xa.1 xa.2 Zp).2)]]⟩) ?_ fun k hk17=> ?_
       · exact Wk.of [] rfl ⟨rfl,rfl,rfl,rfl,rfl,rfl,rfl,rfl,rfl,rfl,rfl,trivial⟩ ⟨rfl,rfl,rfl,rfl,trivial⟩ rfl rfl
       iterate 4 refine w_ ?_
       cases hb18:(decide ((k:Int) < (xa.1.2.1.length:Int)))
       ·have hb18':=ab hb18
        refine w_ ?_
        refine Qj ?_
        refine (?_:AC _ _ _ _ _)
        iterate 2 refine w_ ?_
        refine Yv 12 [] (YC more) Qc8 e1_ trivial rfl (fun _=>rfl) (fun _=>trivial) (nlr rfl) fun xb hxb=> ?_
        iterate 3 refine w_ ?_
        refine lc (xal 12 (.pr (.sl 203 (.pr .str .int)) (.pr (.sl 9 .str) (.sl 136 (.pr .int (.pr .int (.pr .bool .int)))))) Xe) ?_
        iterate 6 refine w_ ?_
        refine lc (dK (Yi xb.1 xb.2).frozenG HG) ?_
        iterate 3 refine w_ ?_
        refine lc (xal 13 (.pr (.sl 9 .str) (.sl 9 .str)) Ze) ?_
        iterate 6 refine w_ ?_
        refine lc (dK (Yl xb.1 xb.2) He) ?_
        iterate 3 refine w_ ?_
        refine lc (xal 14 (.pr (.sl 9 .str) (.sl 9 .str)) Ze) ?_
        iterate 6 refine w_ ?_
        refine lc (dK (Z3 xb.1 xb.2).frozenG HU) ?_
        iterate 3 refine w_ ?_
        refine lc (xal 15 (.pr (.sl 9 .str) (.sl 9 .str)) Ze) ?_
        iterate 6 refine w_ ?_
        refine lc (dK (Z0 xb.1 xb.2) Ht) ?_
        iterate 3 refine w_ ?_
        refine lc (xal 16 (.pr (.sl 9 .str) (.sl 9 .str)) Ze) ?_
        iterate 6 refine w_ ?_
        refine lc (dK (Z1 xb.1 xb.2) Hn) ?_
        iterate 9 refine w_ ?_
        refine lc (dK (YZ xb.1 xb.2) QdJ) ?_
        iterate 9 refine w_ ?_
        refine lc (Yf (Qa rfl) (Qa rfl) rfl Yc) ?_
        refine w_ ?_
        cases hb21:((decide (QB xb.1 xb.2 upT))==(decide (QB xb.1 xb.2 upT)))
        ·iterate 26 refine w_ ?_
         refine Qb<|fqB hO ?_
         (exfalso; simp_all; done)
        ·iterate 2 refine w_ ?_
         refine lgy rfl rfl (dK (Zx (Qk xb.1 xb.2 upT) (Qk xb.1 xb.2 upT)) Vn) ?_
         iterate 2 refine w_ ?_
         cases hb22:(decide ((Qk xb.1 xb.2 upT).1=(Qk xb.1 xb.2 upT).1∧(Qk xb.1 xb.2 upT).2=(Qk xb.1 xb.2 upT).2))
         ·have hb22':=ab hb22
          iterate 21 refine w_ ?_
          refine Qb<|fqB hO ?_
          (exfalso; simp_all; done)
         ·have hb22':=ae hb22
          iterate 2 refine w_ ?_
          refine lgy rfl rfl (Yf (Qa rfl) (Qa rfl) rfl Yc) ?_
          iterate 2 refine w_ ?_
          cases hb23:((decide (QB xb.1 xb.2 Zp))==(decide (QB xb.1 xb.2 Zp)))
          ·iterate 16 refine w_ ?_
           refine Qb<|fqB hO ?_
           (exfalso; simp_all; done)
          ·iterate 2 refine w_ ?_
           refine lgy rfl rfl (dK (Zx (Qk xb.1 xb.2 Zp) (Qk xb.1 xb.2 Zp)) Vn) ?_
           iterate 2 refine w_ ?_
           cases hb24:(decide ((Qk xb.1 xb.2 Zp).1=(Qk xb.1 xb.2 Zp).1∧(Qk xb.1 xb.2 Zp).2=(Qk xb.1 xb.2 Zp).2))
           ·have hb24':=ab hb24
            iterate 11 refine w_ ?_
            refine Qb<|fqB hO ?_
            (exfalso; simp_all; done)
           ·have hb24':=ae hb24
            iterate 2 refine w_ ?_
            refine lgy rfl rfl (Yf (Qa rfl) (Qa rfl) rfl Yc) ?_
            iterate 2 refine w_ ?_
            cases hb25:((nfB xb.1 xb.2)==(nfB xb.1 xb.2))
            ·iterate 6 refine w_ ?_
             refine Qb<|fqB hO ?_
             (exfalso; simp_all; done)
            ·iterate 2 refine w_ ?_
             refine lgy rfl rfl (dK (WJ (nfV xb.1 xb.2) (nfV xb.1 xb.2) rfl) QdF) ?_
             iterate 3 refine w_ ?_
             refine Qb ?_
             exact fe_ hO
       ·have hb18':=ae hb18
        iterate 6 refine w_ ?_
        obtain ⟨cx,hx27⟩:∃z,xa.1.2.1[k]? =some z:=⟨_,aa (by omega)⟩
        have hcx:=hx27
        have hws:=(hs.codes _ (ap hx27)).2
        have hpi:=Qp5 hT hcx
        have hpd:=QqK hT hcx
        have hpu:=QpT hT hcx
        iterate 9 refine w_ ?_
        refine lc (dK (J0 xa.1 (k:Int) xa.2) Qkf) ?_
        iterate 6 refine w_ ?_
        refine ZS ?_
        have hZ:SgOk xa.1∧(0≤(k:Int)∧(k:Int)≤(xa.1.2.1.length:Int) - 1)∧(0≤xa.2∧xa.2≤(xa.1.1.length:Int) - 1):=⟨hs,by omega,hg⟩
        rw[show (decide (SgOk xa.1∧(0≤(k:Int)∧(k:Int)≤(xa.1.2.1.length:Int) - 1)∧(0≤xa.2∧xa.2≤(xa.1.1.length:Int) - 1))&&ZD xa.1 (k:Int) xa.2)=ZD xa.1 (k:Int) xa.2 from (by rw[aJ hZ,Bool.true_and])]
        rw[show (decide (SgOk xa.1∧(0≤(k:Int)∧(k:Int)≤(xa.1.2.1.length:Int) - 1)∧(0≤xa.2∧xa.2≤(xa.1.1.length:Int) - 1)))=true from aJ hZ]
        iterate 4 refine w_ ?_
        refine lc (dK (JD xa.1 cx xa.2) QkG) ?_
        iterate 7 refine w_ ?_
        refine ZS ?_
        rw[show (nvV xa.1 cx xa.2)=nsB xa.1 xa.2 (k:Int) from (Qmg hT hcx).1]
        rw[show (nvB xa.1 cx xa.2)=true from (Qmg hT hcx).2]
        iterate 12 refine w_ ?_
        obtain ⟨u,hc29⟩:∃z,cx[(xa.2).toNat]? =some z:=⟨_,aY _ _ (by omega)⟩
        have hns:=Qqd hcx hc29
        refine w_ ?_
        refine lgy rfl rfl (Zm (Qa rfl) (QG 49 rfl) rfl)<|lgy rfl rfl (ZA (Qa rfl) (Qa rfl) rfl Yc)<|lgy rfl rfl (ZA (Qa rfl) (Qa rfl) rfl Yc) ?_
        iterate 2 refine w_ ?_
        cases hb30:((nsB xa.1 xa.2 (k:Int))==(!((ZD xa.1 (k:Int) xa.2)==(decide (u=49)))))
        ·iterate 11 refine w_ ?_
         refine Qf rfl rfl rfl ?_ rfl
         refine Qf rfl rfl rfl ?_ rfl
         refine Qf rfl rfl rfl ?_ rfl
         refine Qf rfl rfl rfl ?_ rfl
         refine Qf rfl rfl rfl ?_ rfl
         iterate 6 refine w_ ?_
         refine Qf rfl rfl rfl ?_ rfl
         refine Qf rfl rfl rfl ?_ rfl
         refine Qf rfl rfl rfl ?_ rfl
         refine Qf rfl rfl rfl ?_ rfl
         refine Qf rfl rfl rfl ?_ rfl
         iterate 7 refine w_ ?_
         refine Qb<|fqB hO ?_
         (exfalso; rw[hpi] at*; simp_all; done)
        ·iterate 3 refine w_ ?_
         refine lgy rfl rfl (dK (X0 ((Qk xa.1 xa.2 Qq).1) cx) HR) ?_
         iterate 2 refine w_ ?_
         refine lgy rfl rfl (ZA (Qa rfl) (Qa rfl) rfl Yc) ?_
         iterate 2 refine w_ ?_
         cases hb31:((decide (0≤(Q4 (fun y=>decide (y=cx)) ((Qk xa.1 xa.2 Qq).1))))==(nsB xa.1 xa.2 (k:Int)))
         ·iterate 2 refine w_ ?_
          refine Qf rfl rfl rfl ?_ rfl
          refine Qf rfl rfl rfl ?_ rfl
          refine Qf rfl rfl rfl ?_ rfl
          refine Qf rfl rfl rfl ?_ rfl
          refine Qf rfl rfl rfl ?_ rfl
          iterate 6 refine w_ ?_
          refine Qf rfl rfl rfl ?_ rfl
          refine Qf rfl rfl rfl ?_ rfl
          refine Qf rfl rfl rfl ?_ rfl
          refine Qf rfl rfl rfl ?_ rfl
          refine Qf rfl rfl rfl ?_ rfl
          iterate 7 refine w_ ?_
          refine Qb<|fqB hO ?_
          (exfalso; rw[hpi] at*; simp_all; done)
         ·iterate 2 refine w_ ?_
          cases hb32:(nsB xa.1 xa.2 (k:Int))
          ·iterate 14 refine w_ ?_
           refine lgy rfl rfl (dK (X0 ((Qk xa.1 xa.2 upT).1) cx) HR) ?_
           iterate 4 refine w_ ?_
           cases hb33:(decide (0≤(Q4 (fun y=>decide (y=cx)) ((Qk xa.1 xa.2 upT).1))))
           ·have hb33':=ab hb33
            iterate 5 refine w_ ?_
            refine lc (dK (Xw (nfV xa.1 xa.2) cx) QdE) ?_
            iterate 9 refine w_ ?_
            cases hb34:(nfB xa.1 xa.2)
            ·iterate 3 refine w_ ?_
             refine Qf rfl rfl rfl ?_ rfl
             refine Qf rfl rfl rfl ?_ rfl
             refine Qf rfl rfl rfl ?_ rfl
             iterate 4 refine w_ ?_
             refine AC.skip ?_
             refine (?_:AC _ _ _ _ _)
             iterate 3 refine w_ ?_
             refine Qd ?_
             refine l0_ ?_
             exact Wk.of [] rfl ⟨rfl,rfl,rfl,rfl,rfl,rfl,rfl,rfl,rfl,rfl,rfl,trivial⟩ ⟨rfl,rfl,rfl,rfl,trivial⟩ rfl rfl
            ·iterate 3 refine w_ ?_
             cases hb35:(decide (ccP (nfV xa.1 xa.2) cx))
             ·have hb35':=ab hb35
              iterate 10 refine w_ ?_
              refine Qb<|fqB hO ?_
              (exfalso; exact absurd (QeB hT hcx (by assumption)).1 (by assumption))
             ·have hb35':=ae hb35
              iterate 2 refine w_ ?_
              refine lgy rfl rfl (ZA (Qa rfl) (Qa rfl) rfl Yc) ?_
              iterate 3 refine w_ ?_
              cases hb36:((ccV (nfV xa.1 xa.2) cx)==false)
              ·iterate 4 refine w_ ?_
               refine Qb<|fqB hO ?_
               (exfalso; have h_:=(QeB hT hcx (by assumption)).2; simp_all; done)
              ·refine w_ ?_
               refine AC.skip ?_
               refine (?_:AC _ _ _ _ _)
               iterate 3 refine w_ ?_
               refine Qd ?_
               refine l0_ ?_
               exact Wk.of [] rfl ⟨rfl,rfl,rfl,rfl,rfl,rfl,rfl,rfl,rfl,rfl,rfl,trivial⟩ ⟨rfl,rfl,rfl,rfl,trivial⟩ rfl rfl
           ·have hb33':=ae hb33
            iterate 4 refine w_ ?_
            refine Qb<|fqB hO ?_
            (exfalso; have h_:=hpu (by assumption); simp_all; done)
          ·iterate 3 refine w_ ?_
           refine lgy rfl rfl (dK (X0 ((Qk xa.1 xa.2 Zp).1) cx) HR) ?_
           iterate 4 refine w_ ?_
           cases hb37:(decide (0≤(Q4 (fun y=>decide (y=cx)) ((Qk xa.1 xa.2 Zp).1))))
           ·have hb37':=ab hb37
            iterate 16 refine w_ ?_
            refine lc (dK (Xw (nfV xa.1 xa.2) cx) QdE) ?_
            iterate 9 refine w_ ?_
            cases hb38:(nfB xa.1 xa.2)
            ·iterate 3 refine w_ ?_
             refine Qf rfl rfl rfl ?_ rfl
             refine Qf rfl rfl rfl ?_ rfl
             refine Qf rfl rfl rfl ?_ rfl
             iterate 4 refine w_ ?_
             refine AC.skip ?_
             refine (?_:AC _ _ _ _ _)
             iterate 3 refine w_ ?_
             refine Qd ?_
             refine l0_ ?_
             exact Wk.of [] rfl ⟨rfl,rfl,rfl,rfl,rfl,rfl,rfl,rfl,rfl,rfl,rfl,trivial⟩ ⟨rfl,rfl,rfl,rfl,trivial⟩ rfl rfl
            ·iterate 3 refine w_ ?_
             cases hb39:(decide (ccP (nfV xa.1 xa.2) cx))
             ·have hb39':=ab hb39
              iterate 10 refine w_ ?_
              refine Qb<|fqB hO ?_
              (exfalso; exact absurd (QeB hT hcx (by assumption)).1 (by assumption))
             ·have hb39':=ae hb39
              iterate 2 refine w_ ?_
              refine lgy rfl rfl (ZA (Qa rfl) (Qa rfl) rfl Yc) ?_
              iterate 3 refine w_ ?_
              cases hb40:((ccV (nfV xa.1 xa.2) cx)==true)
              ·iterate 4 refine w_ ?_
               refine Qb<|fqB hO ?_
               (exfalso; have h_:=(QeB hT hcx (by assumption)).2; simp_all; done)
              ·refine w_ ?_
               refine AC.skip ?_
               refine (?_:AC _ _ _ _ _)
               iterate 3 refine w_ ?_
               refine Qd ?_
               refine l0_ ?_
               exact Wk.of [] rfl ⟨rfl,rfl,rfl,rfl,rfl,rfl,rfl,rfl,rfl,rfl,rfl,trivial⟩ ⟨rfl,rfl,rfl,rfl,trivial⟩ rfl rfl
           ·have hb37':=ae hb37
            iterate 3 refine w_ ?_
            refine Qf rfl rfl rfl ?_ rfl
            refine Qf rfl rfl rfl ?_ rfl
            refine Qf rfl rfl rfl ?_ rfl
            refine Qf rfl rfl rfl ?_ rfl
            refine Qf rfl rfl rfl ?_ rfl
            iterate 7 refine w_ ?_
            refine Qb<|fqB hO ?_
            (exfalso; have h_:=hpd (by assumption); simp_all; done)
 ·iterate 3 refine w_ ?_
  refine Qb ?_
  exact fe_ hO
end Go.Proofs.YtfkmmpfdncopdaaGreat
