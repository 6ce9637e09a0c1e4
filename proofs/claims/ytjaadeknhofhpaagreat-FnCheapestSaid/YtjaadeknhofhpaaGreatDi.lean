/- Walks over abstract states: graphs built from words, an arc. -/
import Derived.Test.YtjaadeknhofhpaaGreatDe
import Derived.Test.YtjaadeknhofhpaaGreatWk
import Derived.Test.YtjaadeknhofhpaaGreatUa
import Derived.Test.YtjaadeknhofhpaaGreatAk
import Derived.Test.YtjaadeknhofhpaaGreatStr
import Derived.Test.YtjaadeknhofhpaaGreatProg
import Derived.KernelRfl
import Derived.Test.YtjaadeknhofhpaaGreatAt
import Derived.Test.YtjaadeknhofhpaaGreatCj
import Derived.Test.YtjaadeknhofhpaaGreatWv
set_option linter.unusedSimpArgs false
set_option linter.unusedVariables false
set_option linter.unusedSectionVars false
namespace Go.Proofs.YtjaadeknhofhpaaGreat
open Go.RowKit
set_option maxRecDepth 100000
set_option maxHeartbeats 4000000
section
variable {text tx fr to_ nm:ByteArray}{c c0:UInt8}{b b1:DB}{p:Int}
theorem QtY (h:okA text=true):1≤text.size∧2≤(ZW (Hi text) 62).length∧(1≤(XJ text 0).size∧(b0 (XJ text 0)=95∨1≤(Qao (XJ text 0)).size))∧1≤(XJ text 1).size∧(b0 (XJ text 1)=95∨1≤(Qao (XJ text 1)).size):=by
  unfold okA okW at h
  simp only[aG,bA,aN] at h
  exact ⟨h.1,h.2.1,h.2.2.1,h.2.2.2⟩
theorem WB (hc:text[(0:Int).toNat]? =some c):b0 text=c:=by unfold b0; rw[show text[0]? =some c from hc]; rfl
theorem Qu0 (hc:text[(0:Int).toNat]? =some c)(h:c=42):text.extract (1:Int).toNat text.size=Hi text:=by unfold Hi; rw[WB hc,if_pos h]; rfl
theorem QuL (hc:text[(0:Int).toNat]? =some c)(h:¬c=42):text=Hi text:=by unfold Hi; rw[WB hc,if_neg h]
theorem YY {k:Nat}(hx:tx=Hi text)(h:(ZW tx 62)[k]? =some fr):XJ text k=fr:=by unfold XJ; rw[← hx,h]; rfl
theorem QsL (h1:XJ text 1=to_)(hc:to_[(0:Int).toNat]? =some c)(h:c=95):to_=QaK text:=by unfold QaK; rw[h1,WB hc,if_pos h]
theorem Qut (h1:XJ text 1=to_)(hc:to_[(0:Int).toNat]? =some c)(h:¬c=95)(h0:XJ text 0=fr)(hc0:fr[(0:Int).toNat]? =some c0)(h2:c0=95):fr=QaK text:=by unfold QaK; rw[h1,WB hc,if_neg h,h0,WB hc0,if_pos h2]
theorem Quc (h1:XJ text 1=to_)(hc:to_[(0:Int).toNat]? =some c)(h:¬c=95)(h0:XJ text 0=fr)(hc0:fr[(0:Int).toNat]? =some c0)(h2:¬c0=95)(hx:tx=Hi text):tx=QaK text:=by unfold QaK; rw[h1,WB hc,if_neg h,h0,WB hc0,if_neg h2,hx]
theorem QuK (h0:XJ text 0=fr)(hc0:fr[(0:Int).toNat]? =some c0)(h:c0=95):b=ar1 p b text:=by unfold ar1; rw[h0,WB hc0,if_pos h]
theorem Qux (h0:XJ text 1=to_)(hc0:to_[(0:Int).toNat]? =some c0)(h:c0=95):b=ar2 p b text:=by unfold ar2; rw[h0,WB hc0,if_pos h]
theorem QuO (h0:XJ text 0=fr)(hc0:fr[(0:Int).toNat]? =some c0)(h:¬c0=95):((((trV b fr).1.1.1,QdN (trV b fr).1.1.2 (trI b fr) p),(trV b fr).1.2.1,(trV b fr).1.2.2.1,(trV b fr).1.2.2.2),(trV b fr).2.1,(trV b fr).2.2)=ar1 p b text:=by unfold ar1; rw[h0,WB hc0,if_neg h]
theorem Quq (h0:XJ text 1=to_)(hc0:to_[(0:Int).toNat]? =some c0)(h:¬c0=95):((((trV b to_).1.1.1,QeH (trV b to_).1.1.2 (trI b to_) p),(trV b to_).1.2.1,(trV b to_).1.2.2.1,(trV b to_).1.2.2.2),(trV b to_).2.1,(trV b to_).2.2)=ar2 p b text:=by unfold ar2; rw[h0,WB hc0,if_neg h]
theorem Qhy {k:Nat}(hx:tx=Hi text)(hf:(ZW tx 62)[k]? =some fr)(hs:text.size≤1000)(ho:b0 (XJ text k)=95∨1≤(Qao (XJ text k)).size)(hc:fr[(0:Int).toNat]? =some c)(h:¬c=95):fr.size≤1000∧1≤(Qao fr).size:=by
  have h1:=H8 (a8 hf)
  have h2:(Hi text).size≤text.size:=by unfold Hi; split; simp only[aP]; omega; exact aO _
  rw[YY hx hf,WB hc] at ho
  rw[hx] at h1
  exact ⟨by omega,ho.resolve_left h⟩
theorem Qj0 {b2:DB}(hc:text[(0:Int).toNat]? =some c)(h:¬c=42)(hm:nm=QaK text)(h1:b1=ar1 (plI b nm) (plV b nm) text)(h2:b2=ar2 (plI b nm) b1 text):arV b text=b2:=by
  rw[h2,h1,hm]; unfold arV; dsimp only; rw[WB hc,if_neg h]
theorem Qjz {b2:DB}(hc:text[(0:Int).toNat]? =some c)(h:c=42)(hm:nm=QaK text)(h1:b1=ar1 (plI b nm) (plV b nm) text)(h2:b2=ar2 (plI b nm) b1 text):arV b text=((b2.1.1,b2.1.2.1,b2.1.2.2.1,Qo3 b2.1.2.2.2 (plI b nm)),b2.2.1,b2.2.2):=by
  rw[h2,h1,hm]; unfold arV; dsimp only; rw[WB hc,if_pos h]
theorem Qp4:(Hi text).size≤text.size:=by unfold Hi; split; simp only[aP]; omega; exact aO _
end
theorem Qcr (b:DB)(text:ByteArray)(n_:Nat)(hI:DBJ b n_ (2*n_) (2*n_))(hn:n_≤1000)(ht:okA text=true)(hs:text.size≤1000):FC Tryz.prog 336 [(false,[.ptr 0 0]),(false,[dS text])] [(0,some (.box 347 [dI b.1.1.1, .ref 2, .ref 1, .ref 3,dS b.1.2.2.2, .ref 4, .ref 5])),(2,some (.arr 198 Zw b.1.1.2)),(1,some (.arr 90 QK b.1.2.1)),(3,some (.arr 55 Qw b.1.2.2.1)),(4,some (.arr 9 .str b.2.1)),(5,some (.arr 9 .str b.2.2))] 2 (Is (PV.tup []) [(0,some (.box 347 [dI ((arV b text).1.1.1), .ref 2, .ref 1, .ref 3,dS ((arV b text).1.2.2.2), .ref 4, .ref 5])),(2,some (.arr 198 Zw ((arV b text).1.1.2))),(1,some (.arr 90 QK ((arV b text).1.2.1))),(3,some (.arr 55 Qw ((arV b text).1.2.2.1))),(4,some (.arr 9 .str ((arV b text).2.1))),(5,some (.arr 9 .str ((arV b text).2.2)))]):=by
 obtain ⟨ho1,ho2,⟨ho3,ho4⟩,ho5,ho6⟩:=QtY ht
 have hbs:=Qp4 (text:=text)
 have hi0:=hI.p0
 have hi1:=hI.pl
 have hi2:=hI.st
 have hi3:=hI.tr
 have hi4:=hI.la
 have hi5:=hI.ws
 refine Qy Tryz.func336 rfl rfl Tryz.ntmps336 fun O_ hO w0_ N0_ X_ h0_ f0_=> ?_
 iterate 2 refine w_ ?_
 obtain ⟨tc,hc2⟩:=gs text ((0:Int).toNat)
 have htc:=hc2
 refine w_ ?_
 refine lc (Qt (Qa rfl) (QB 42 rfl) rfl) ?_
 iterate 2 refine w_ ?_
 refine VW (fun s_=>∃(tx:ByteArray),(tx=Hi text)∧s_=⟨[(0,lP 0 0),(1,lf (dS tx)),(4,lB (decide (tc=42)))],[(0,some (.box 347 [dI b.1.1.1, .ref 2, .ref 1, .ref 3,dS b.1.2.2.2, .ref 4, .ref 5])),(1,some (.arr 90 QK b.1.2.1)),(2,some (.arr 198 Zw b.1.1.2)),(3,some (.arr 55 Qw b.1.2.2.1)),(4,some (.arr 9 .str b.2.1)),(5,some (.arr 9 .str b.2.2))]⟩) ?_ fun J3=> ?_
 rintro s_ ⟨tx,hx,rfl⟩
 have hx2:2≤(ZW tx 62).length:=by rw[hx]; exact ho2
 iterate 2 refine w_ ?_
 refine lc (JO (Vj tx 62 (by rw[hx]; omega)).frozen H7 ⟨_,_,rfl,(Qf rfl),⟨_,_,rfl,(Evl.ev (QB 62 rfl)),rfl⟩⟩ rfl rfl) ?_
 iterate 2 refine w_ ?_
 obtain ⟨fr,hx5⟩:=gx (ZW tx 62) 0
 have hfr:=hx5
 have hsfr:1≤fr.size:=by first | (rw[← YY (k:=0) hx hx5]; exact ho3) | (rw[← YY (k:=1) hx hx5]; exact ho5)
 obtain ⟨to_,hx7⟩:=gx (ZW tx 62) 1
 have hto_:=hx7
 have hsto_:1≤to_.size:=by first | (rw[← YY (k:=0) hx hx7]; exact ho3) | (rw[← YY (k:=1) hx hx7]; exact ho5)
 apply dW [io 20 _,io 21 _,io 22 _,io 23 _,io 24 _,io 25 _,io 6 _,io 7 _] [0,0,0,7,7,7,56,0]
 iterate 8 refine z_ ?_
 exact zN
 refine Qpt (fun s_=>∃(nm:ByteArray),(nm=QaK text)∧s_=⟨[(0,lP 0 0),(4,lB (decide (tc=42))),(6,lf (dS fr)),(7,lf (dS to_)),(8,lf (dS nm))],[(0,some (.box 347 [dI b.1.1.1, .ref 2, .ref 1, .ref 3,dS b.1.2.2.2, .ref 4, .ref 5])),(1,some (.arr 90 QK b.1.2.1)),(2,some (.arr 198 Zw b.1.1.2)),(3,some (.arr 55 Qw b.1.2.2.1)),(4,some (.arr 9 .str b.2.1)),(5,some (.arr 9 .str b.2.2))]⟩) ?_ fun J8=> ?_
 rintro s_ ⟨nm,hm,rfl⟩
 have hk:=hI.pl_ (name:=nm)
 have hk1:=hk.tr
 have hk2:=hk.la
 have hk3:=hk.ws
 have hpr:=Ql2 (b:=b) (name:=nm)
 iterate 3 refine w_ ?_
 refine lc (dP 6 [(1,2),(2,1),(4,5),(5,4)] (Qay b nm (by omega) (by omega)) Qlv) ?_
 iterate 2 refine w_ ?_
 refine VW (fun s_=>∃(b1:((Int×(List (List Int×List Int)))×(List (ByteArray×Int))×(List (Int×Bool))×ByteArray)×List ByteArray×List ByteArray),(b1=ar1 (plI b nm) (plV b nm) text)∧s_=⟨[(0,lP 0 0),(4,lB (decide (tc=42))),(7,lf (dS to_)),(9,lI (plI b nm))],[(0,some (.box 347 [dI b1.1.1.1, .ref 12, .ref 1, .ref 13,dS b1.1.2.2.2, .ref 14, .ref 15])),(1,some (.arr 90 QK b1.1.2.1)),(12,some (.arr 198 Zw b1.1.1.2)),(13,some (.arr 55 Qw b1.1.2.2.1)),(14,some (.arr 9 .str b1.2.1)),(15,some (.arr 9 .str b1.2.2))]⟩) ?_ fun J9=> ?_
 rintro s_ ⟨b1,hb1,rfl⟩
 have hI1:DBJ b1 (n_+1) (2*n_+1) (2*n_+1):=by rw[hb1]; exact hk.ar1_
 have hj1:=hI1.tr
 have hj2:=hI1.la
 have hj3:=hI1.ws
 refine VW (fun s_=>∃(b2:((Int×(List (List Int×List Int)))×(List (ByteArray×Int))×(List (Int×Bool))×ByteArray)×List ByteArray×List ByteArray),(b2=ar2 (plI b nm) b1 text)∧s_=⟨[(0,lP 0 0),(4,lB (decide (tc=42))),(9,lI (plI b nm))],[(0,some (.box 347 [dI b2.1.1.1, .ref 16, .ref 1, .ref 17,dS b2.1.2.2.2, .ref 18, .ref 19])),(1,some (.arr 90 QK b2.1.2.1)),(16,some (.arr 198 Zw b2.1.1.2)),(17,some (.arr 55 Qw b2.1.2.2.1)),(18,some (.arr 9 .str b2.2.1)),(19,some (.arr 9 .str b2.2.2))]⟩) ?_ fun J10=> ?_
 rintro s_ ⟨b2,hb2,rfl⟩
 have hI2:DBJ b2 (n_+1) (2*n_+2) (2*n_+2):=by rw[hb2]; exact hI1.ar2_
 have hst2:=hI2.st
 have hpl2:b2.2.1=(plV b nm).2.1:=by rw[hb2,Qqy,hb1,Qqk]
 rw[hpl2] at hst2
 have hkp:=hk.pl
 iterate 3 refine w_ ?_
 cases hb11:(decide (tc=42))
 have hb11':=a6 hb11
 iterate 2 refine w_ ?_
 refine (?_:fin _ _ _ _ .normal _)
 subst hO
 exact QF _ _ [(2,16),(3,17),(4,18),(5,19)] (JH rfl) (rfl) ⟨(((congrArg (fun z_=>some (Ent.box 347 [dI z_, .ref 16, .ref 1, .ref 17,dS b2.1.2.2.2, .ref 18, .ref 19])) (show (b2.1.1.1:Int)=(arV b text).1.1.1 by (rw[Qj0 htc ‹_› hm hb1 hb2]; done)))).trans (congrArg (fun z_=>some (Ent.box 347 [dI ((arV b text).1.1.1), .ref 16, .ref 1, .ref 17,dS z_, .ref 18, .ref 19])) (show (b2.1.2.2.2:ByteArray)=(arV b text).1.2.2.2 by (rw[Qj0 htc ‹_› hm hb1 hb2]; done)))),(Qh (by (rw[Qj0 htc ‹_› hm hb1 hb2]; done))),(Qh (by (rw[Qj0 htc ‹_› hm hb1 hb2]; done))),(Qh (by (rw[Qj0 htc ‹_› hm hb1 hb2]; done))),(Qh (by (rw[Qj0 htc ‹_› hm hb1 hb2]; done))),(Qh (by (rw[Qj0 htc ‹_› hm hb1 hb2]; done))),trivial⟩ rfl rfl
 have hb11':=a7 hb11
 refine w_ ?_
 apply dV [io 93 _,io 94 _,io 95 _,io 96 _,io 97 _,io 98 _,io 99 _,io 100 (lf (dS (b2.1.2.2.2.extract 0 (plI b nm).toNat))),io 101 (lf (dS ((b2.1.2.2.2.extract 0 (plI b nm).toNat)++(⟨#[49]⟩:ByteArray)))),io 102 _,io 103 _,io 104 _,io 105 _,io 106 _,io 107 _,io 108 _,io 109 (lf (dS (b2.1.2.2.2.extract ((plI b nm)+1).toNat b2.1.2.2.2.size))),io 110 (lf (dS (((b2.1.2.2.2.extract 0 (plI b nm).toNat)++(⟨#[49]⟩:ByteArray))++(b2.1.2.2.2.extract ((plI b nm)+1).toNat b2.1.2.2.2.size)))),io 111 _,io 112 _,io 113 _,⟨none,lf (.val undef),[(0,some (.box 347 [dI b2.1.1.1, .ref 16, .ref 1, .ref 17,dS (((b2.1.2.2.2.extract 0 (plI b nm).toNat)++(⟨#[49]⟩:ByteArray))++(b2.1.2.2.2.extract ((plI b nm)+1).toNat b2.1.2.2.2.size)), .ref 18, .ref 19]))]⟩] [0,1,1,1,1,1,63,1,1,511,511,511,511,511,16383,16383,511,1,0,0,0,0]
 iterate 7 refine z_ ?_
 refine zz (fun _ h_=>ac (show Does _ _ _ _ (St.put _ 100 (lf (dS (b2.1.2.2.2.extract 0 (plI b nm).toNat)))) from Zm (l:=none) (h:=(some (plI b nm))) (h_.v rfl) (by exact trivial) (by exact (h_.v rfl)) Zo rfl (by first | omega | (simp only[aj,ae]; omega)) (by first | omega | (simp only[aj,ae]; omega)) (by first | omega | (simp only[aj,ae]; omega))) rfl)<|zz (fun _ h_=>ac (ZR (h_.v rfl) (Evl.str rfl) rfl (by (simp only[aU,aP,X5]; omega))) rfl) ?_
 iterate 7 refine z_ ?_
 refine zz (fun _ h_=>ac (show Does _ _ _ _ (St.put _ 109 (lf (dS (b2.1.2.2.2.extract ((plI b nm)+1).toNat b2.1.2.2.2.size)))) from Zm (l:=(some ((plI b nm)+1))) (h:=none) (h_.v rfl) (by exact (h_.v rfl)) (by exact trivial) Zo rfl (by first | omega | (simp only[aj,ae]; omega)) (by first | omega | (simp only[aj,ae]; omega)) (by first | omega | (simp only[aj,ae]; omega))) rfl)<|zz (fun _ h_=>ac (ZR (h_.v rfl) (h_.v rfl) rfl (by (simp only[aU,aP,X5]; omega))) rfl) ?_
 iterate 4 refine z_ ?_
 exact zN
 refine (?_:fin _ _ _ _ .normal _)
 subst hO
 exact QF _ _ [(2,16),(3,17),(4,18),(5,19)] (JH rfl) (rfl) ⟨(((congrArg (fun z_=>some (Ent.box 347 [dI z_, .ref 16, .ref 1, .ref 17,dS (((b2.1.2.2.2.extract 0 (plI b nm).toNat)++(⟨#[49]⟩:ByteArray))++(b2.1.2.2.2.extract ((plI b nm)+1).toNat b2.1.2.2.2.size)), .ref 18, .ref 19])) (show (b2.1.1.1:Int)=(arV b text).1.1.1 by (rw[Qjz htc ‹_› hm hb1 hb2]; done)))).trans (congrArg (fun z_=>some (Ent.box 347 [dI ((arV b text).1.1.1), .ref 16, .ref 1, .ref 17,dS z_, .ref 18, .ref 19])) (show (((b2.1.2.2.2.extract 0 (plI b nm).toNat)++(⟨#[49]⟩:ByteArray))++(b2.1.2.2.2.extract ((plI b nm)+1).toNat b2.1.2.2.2.size):ByteArray)=(arV b text).1.2.2.2 by (rw[Qjz htc ‹_› hm hb1 hb2]; rfl)))),(Qh (by (rw[Qjz htc ‹_› hm hb1 hb2]; done))),(Qh (by (rw[Qjz htc ‹_› hm hb1 hb2]; done))),(Qh (by (rw[Qjz htc ‹_› hm hb1 hb2]; done))),(Qh (by (rw[Qjz htc ‹_› hm hb1 hb2]; done))),(Qh (by (rw[Qjz htc ‹_› hm hb1 hb2]; done))),trivial⟩ rfl rfl
 iterate 3 refine w_ ?_
 obtain ⟨tc2,hc13⟩:=gs to_ ((0:Int).toNat)
 have htc2:=hc13
 refine w_ ?_
 refine lc (Q7 (Qa rfl) (QB 95 rfl) rfl) ?_
 refine w_ ?_
 cases hb14:(!decide (tc2=95))
 have hb14':(tc2=95):=QT hb14
 iterate 2 refine w_ ?_
 refine XP (J10 _ ⟨b1,(by exact Qux (YY hx hto_) htc2 ‹_›),rfl⟩) ?_
 exact wo [(16,12),(17,13),(18,14),(19,15)]
 have hb14':¬(tc2=95):=Q0 hb14
 iterate 4 refine w_ ?_
 refine lc (dP 20 [(2,14),(3,12),(4,13),(5,15)] (Uk b1 to_ (by first | exact Qhy hx hfr hs ho4 hfc ‹_› | exact Qhy hx hto_ hs ho6 htc2 ‹_›) (by omega)) Qei) ?_
 iterate 2 refine w_ ?_
 have hkI:=hI1.tr_ (word:=to_)
 have hkt:=hkI.tr
 have hkr:=QmH (b:=b1) (word:=to_)
 obtain ⟨y,hy⟩:=gx ((trV b1 to_).1.1.2) ((trI b1 to_).toNat)
 have hc:=(QiT hy).2
 have hyi:=hkI.inn y (a8 hy)
 have hpp:(trI b1 to_).toNat*2+0 < (Zr Zw ((trV b1 to_).1.1.2)).length:=by rw[V4]; exact Qvr (by omega)
 refine AC.wk (QcW (q:=23) rfl (by omega))<|AC.wk (Hb 26 (q:=23) (p:=(trI b1 to_).toNat*2+0) (E':=3) (e':= .int) (ys:=y.1) rfl (hc) (Fresh.of rfl) (aE rfl)) ?_
 apply dZ [io 71 _,io 72 _,io 73 _,io 74 _,io 75 _,io 76 _,io 77 _,io 78 _,io 79 _,io 80 _,io 81 _,io 82 _,io 83 _,io 84 _,io 85 (lf (.ept 23 2 ((trI b1 to_).toNat) 0)),io 86 (lf (.ept 23 2 ((trI b1 to_).toNat) 0)),io 87 (lR 26),io 88 _,⟨some 89,lR 27,[(27,some (.arr 3 .int (YF ltI (plI b nm) y.1))),(26,none)]⟩,io 90 (lf (.ept 23 2 ((trI b1 to_).toNat) 0)),io 91 (lf (.ept 23 2 ((trI b1 to_).toNat) 0)),⟨none,lf (.val undef),[(23,some (.obx 198 2 (((trV b1 to_).1.1.2).length) (Zr Zw ((trV b1 to_).1.1.2)) [((trI b1 to_).toNat*2+0, .ref 27),((trI b1 to_).toNat*2+0, .ref 26)]))]⟩] [0,0,0,0,0,0,63,127,127,127,127,127,127,8191,127,127,127,131071,127,0,0,0]
 iterate 14 refine z_ ?_
 refine zz (fun _ h_=>ac (YU (h_.v rfl) (h_.en 23 rfl) (h_.v rfl) QbR JX rfl (by omega) (by omega)) rfl)<|zz (fun _ h_=>ac (YV (h_.v rfl) Qfs (by rw[(h_.en 23 rfl)]; rfl) rfl) rfl) ?_
 refine zz (fun _ h_=>ac (KD (h_.v rfl) (h_.en 23 rfl) (by simp only[ovr,bm,au,hpp,hc,da,if_true,if_false,↓reduceIte]) (h_.en 26 rfl) X4 rfl) rfl) ?_
 refine z_ ?_
 refine zz (fun _ h_=>ac (dP 27 [(0,26)] (Xd y.1 (plI b nm) (by omega)) WU) rfl) ?_
 refine zz (fun _ h_=>ac (YU (h_.v rfl) (h_.en 23 rfl) (h_.v rfl) QbR JX rfl (by omega) (by omega)) rfl)<|zz (fun _ h_=>ac (YV (h_.v rfl) Qfs (by rw[(h_.en 23 rfl)]; rfl) rfl) rfl) ?_
 refine zz (fun _ h_=>ac (Ue (t:=26) (h_.v rfl) (h_.en 23 rfl) (by simp only[ovr,bm,au,hpp,hc,da,if_true,if_false,↓reduceIte]) (h_.v rfl) (h_.en 27 rfl) X4) rfl) ?_
 exact zN
 refine XP (J10 _ ⟨((((trV b1 to_).1.1.1,QeH ((trV b1 to_).1.1.2) (trI b1 to_) (plI b nm)),(trV b1 to_).1.2.1,(trV b1 to_).1.2.2.1,(trV b1 to_).1.2.2.2),(trV b1 to_).2.1,(trV b1 to_).2.2),(by exact Quq (YY hx hto_) htc2 ‹_›),rfl⟩) ?_
 refine Wk.trans (QaZ (q:=23) (t:=27) (p:=(trI b1 to_).toNat*2+0) rfl (by simp only[ovr,bm,au,hpp,hc,da,if_true,if_false,↓reduceIte]) rfl) ?_
 refine Wk.trans (QaV (q:=23) (e:=Zw) (QeH ((trV b1 to_).1.1.2) (trI b1 to_) (plI b nm)) rfl (by simp[QeH]) (by simp only[ovr]; rw[cR,cR,Qka hy,Qnm hy])) ?_
 exact wp [(16,23),(17,24),(18,14),(19,25)] ⟨rfl,(Qh (by first | rfl | simp)),(Qh (by first | rfl | simp)),(Qh (by first | rfl | simp)),(Qh (by first | rfl | simp)),(Qh (by first | rfl | simp)),trivial⟩
 iterate 3 refine w_ ?_
 obtain ⟨fc,hc16⟩:=gs fr ((0:Int).toNat)
 have hfc:=hc16
 refine w_ ?_
 refine lc (Q7 (Qa rfl) (QB 95 rfl) rfl) ?_
 refine w_ ?_
 cases hb17:(!decide (fc=95))
 have hb17':(fc=95):=QT hb17
 iterate 2 refine w_ ?_
 refine XP (J9 _ ⟨(plV b nm),(by exact QuK (YY hx hfr) hfc ‹_›),rfl⟩) ?_
 exact wo [(12,2),(13,3),(14,11),(15,5)]
 have hb17':¬(fc=95):=Q0 hb17
 iterate 4 refine w_ ?_
 refine lc (dP 28 [(2,11),(3,2),(4,3)] (Uk (plV b nm) fr (by first | exact Qhy hx hfr hs ho4 hfc ‹_› | exact Qhy hx hto_ hs ho6 htc2 ‹_›) (by omega)) Qei) ?_
 iterate 2 refine w_ ?_
 have hkI:=hk.tr_ (word:=fr)
 have hkt:=hkI.tr
 have hkr:=QmH (b:=plV b nm) (word:=fr)
 obtain ⟨y,hy⟩:=gx ((trV (plV b nm) fr).1.1.2) ((trI (plV b nm) fr).toNat)
 have hc:=(QiT hy).1
 have hyi:=hkI.inn y (a8 hy)
 have hpp:(trI (plV b nm) fr).toNat*2+1 < (Zr Zw ((trV (plV b nm) fr).1.1.2)).length:=by rw[V4]; exact QvB (by omega)
 refine AC.wk (QcW (q:=31) rfl (by omega))<|AC.wk (Hb 34 (q:=31) (p:=(trI (plV b nm) fr).toNat*2+1) (E':=3) (e':= .int) (ys:=y.2) rfl (hc) (Fresh.of rfl) (aE rfl)) ?_
 apply dZ [io 44 _,io 45 _,io 46 _,io 47 _,io 48 _,io 49 _,io 50 _,io 51 _,io 52 _,io 53 _,io 54 _,io 55 _,io 56 _,io 57 _,io 58 (lf (.ept 31 2 ((trI (plV b nm) fr).toNat) 0)),io 59 (lf (.ept 31 2 ((trI (plV b nm) fr).toNat) 1)),io 60 (lR 34),io 61 _,⟨some 62,lR 35,[(35,some (.arr 3 .int (YF ltI (plI b nm) y.2))),(34,none)]⟩,io 63 (lf (.ept 31 2 ((trI (plV b nm) fr).toNat) 0)),io 64 (lf (.ept 31 2 ((trI (plV b nm) fr).toNat) 1)),⟨none,lf (.val undef),[(31,some (.obx 198 2 (((trV (plV b nm) fr).1.1.2).length) (Zr Zw ((trV (plV b nm) fr).1.1.2)) [((trI (plV b nm) fr).toNat*2+1, .ref 35),((trI (plV b nm) fr).toNat*2+1, .ref 34)]))]⟩] [0,0,0,0,0,0,63,127,127,127,127,127,127,8191,127,127,127,131071,127,0,0,0]
 iterate 14 refine z_ ?_
 refine zz (fun _ h_=>ac (YU (h_.v rfl) (h_.en 31 rfl) (h_.v rfl) QbR JX rfl (by omega) (by omega)) rfl)<|zz (fun _ h_=>ac (YV (h_.v rfl) Qgq (by rw[(h_.en 31 rfl)]; rfl) rfl) rfl) ?_
 refine zz (fun _ h_=>ac (KD (h_.v rfl) (h_.en 31 rfl) (by simp only[ovr,bm,au,hpp,hc,da,if_true,if_false,↓reduceIte]) (h_.en 34 rfl) X4 rfl) rfl) ?_
 refine z_ ?_
 refine zz (fun _ h_=>ac (dP 35 [(0,34)] (Xd y.2 (plI b nm) (by omega)) WU) rfl) ?_
 refine zz (fun _ h_=>ac (YU (h_.v rfl) (h_.en 31 rfl) (h_.v rfl) QbR JX rfl (by omega) (by omega)) rfl)<|zz (fun _ h_=>ac (YV (h_.v rfl) Qgq (by rw[(h_.en 31 rfl)]; rfl) rfl) rfl) ?_
 refine zz (fun _ h_=>ac (Ue (t:=34) (h_.v rfl) (h_.en 31 rfl) (by simp only[ovr,bm,au,hpp,hc,da,if_true,if_false,↓reduceIte]) (h_.v rfl) (h_.en 35 rfl) X4) rfl) ?_
 exact zN
 refine XP (J9 _ ⟨((((trV (plV b nm) fr).1.1.1,QdN ((trV (plV b nm) fr).1.1.2) (trI (plV b nm) fr) (plI b nm)),(trV (plV b nm) fr).1.2.1,(trV (plV b nm) fr).1.2.2.1,(trV (plV b nm) fr).1.2.2.2),(trV (plV b nm) fr).2.1,(trV (plV b nm) fr).2.2),(by exact QuO (YY hx hfr) hfc ‹_›),rfl⟩) ?_
 refine Wk.trans (QaZ (q:=31) (t:=35) (p:=(trI (plV b nm) fr).toNat*2+1) rfl (by simp only[ovr,bm,au,hpp,hc,da,if_true,if_false,↓reduceIte]) rfl) ?_
 refine Wk.trans (QaV (q:=31) (e:=Zw) (QdN ((trV (plV b nm) fr).1.1.2) (trI (plV b nm) fr) (plI b nm)) rfl (by simp[QdN]) (by simp only[ovr]; rw[cR,cR,Qkt hy,Qn1 hy])) ?_
 exact wp [(12,31),(13,32),(14,11),(15,33)] ⟨rfl,(Qh (by first | rfl | simp)),(Qh (by first | rfl | simp)),(Qh (by first | rfl | simp)),(Qh (by first | rfl | simp)),(Qh (by first | rfl | simp)),trivial⟩
 iterate 7 refine w_ ?_
 obtain ⟨fc,hc19⟩:=gs fr ((0:Int).toNat)
 have hfc:=hc19
 refine w_ ?_
 refine lc (Qt (Qa rfl) (QB 95 rfl) rfl) ?_
 refine w_ ?_
 cases hb20:(decide (fc=95))
 have hb20':=a6 hb20
 iterate 5 refine w_ ?_
 obtain ⟨tc2,hc22⟩:=gs to_ ((0:Int).toNat)
 have htc2:=hc22
 refine w_ ?_
 refine lc (Qt (Qa rfl) (QB 95 rfl) rfl) ?_
 refine w_ ?_
 cases hb23:(decide (tc2=95))
 have hb23':=a6 hb23
 iterate 2 refine w_ ?_
 refine XP (J8 _ ⟨tx,(by exact Quc (YY hx hto_) htc2 ‹_› (YY hx hfr) hfc ‹_› hx),rfl⟩) ?_
 exact wo []
 have hb23':=a7 hb23
 iterate 5 refine w_ ?_
 refine XP (J8 _ ⟨to_,(by exact QsL (YY hx hto_) htc2 ‹_›),rfl⟩) ?_
 exact wo []
 have hb20':=a7 hb20
 iterate 8 refine w_ ?_
 obtain ⟨tc2,hc25⟩:=gs to_ ((0:Int).toNat)
 have htc2:=hc25
 refine w_ ?_
 refine lc (Qt (Qa rfl) (QB 95 rfl) rfl) ?_
 refine w_ ?_
 cases hb26:(decide (tc2=95))
 have hb26':=a6 hb26
 iterate 2 refine w_ ?_
 refine XP (J8 _ ⟨fr,(by exact Qut (YY hx hto_) htc2 ‹_› (YY hx hfr) hfc ‹_›),rfl⟩) ?_
 exact wo []
 have hb26':=a7 hb26
 iterate 5 refine w_ ?_
 refine XP (J8 _ ⟨to_,(by exact QsL (YY hx hto_) htc2 ‹_›),rfl⟩) ?_
 exact wo []
 iterate 4 refine w_ ?_
 cases hb27:(decide (tc=42))
 have hb27':=a6 hb27
 iterate 2 refine w_ ?_
 refine XP (J3 _ ⟨text,(by exact QuL htc ‹_›),rfl⟩) ?_
 exact Wk.of [] rfl ⟨rfl,rfl,(congrArg (fun z_=>some (lB z_)) ((hb27).symm)),trivial⟩ ⟨rfl,rfl,rfl,rfl,rfl,rfl,trivial⟩ rfl rfl
 have hb27':=a7 hb27
 iterate 3 refine w_ ?_
 refine lc (show Does _ _ _ _ (St.put _ 17 (lf (dS (text.extract (1:Int).toNat text.size)))) from Zm (l:=(some 1)) (h:=none) (Qa rfl) (by exact (Qu rfl)) (by exact trivial) Zo rfl (by first | omega | (simp only[aj,ae]; omega)) (by first | omega | (simp only[aj,ae]; omega)) (by first | omega | (simp only[aj,ae]; omega))) ?_
 iterate 2 refine w_ ?_
 refine XP (J3 _ ⟨(text.extract (1:Int).toNat text.size),(by exact Qu0 htc ‹_›),rfl⟩) ?_
 exact Wk.of [] rfl ⟨rfl,rfl,(congrArg (fun z_=>some (lB z_)) ((hb27).symm)),trivial⟩ ⟨rfl,rfl,rfl,rfl,rfl,rfl,trivial⟩ rfl rfl
end Go.Proofs.YtjaadeknhofhpaaGreat
namespace Go.Proofs.YtjaadeknhofhpaaGreat
open Go.RowKit
set_option maxRecDepth 100000
set_option maxHeartbeats 4000000
def unN (a b:Xz):Xz:=(a.1+b.1,a.2++b.2.map (QkT a.1))
def unL (n:Nat)(l:Zy):Zy:=if 0≤l.1 then (l.1+(n:Int),l.2) else l
def unS (a b:Q9):Q9:=(unN a.1 b.1,a.2.1++b.2.1,a.2.2.1++b.2.2.1.map (unL a.2.1.length),a.2.2.2++b.2.2.2)
theorem Ql8 {l:List Int}{hi:Int}(h:JF l hi):∀x∈l,0≤x∧x≤hi:=fun x hx=>by
  obtain ⟨k,hk⟩:=aJ.1 hx
  exact (h k (ab.1 hk).1 x hk).1
theorem Ql5:∀{l:List Int} {hi:Int},JF l hi→ -1≤hi→(l.length:Int)≤hi+1:=fun {l hi} h h0=>by
  have hstep:∀(k:Nat) x,l[k]? =some x→(k:Int)≤x:=fun k=>by
    induction k with
    | zero=>intro x hx; exact (h 0 (ab.1 hx).1 x hx).1.1
    | succ k ih=>
      intro x hx
      have h1:=(ab.1 hx).1
      obtain ⟨y,hy⟩:∃y,l[k]? =some y:=⟨_,ai (by omega)⟩
      have h2:=ih y hy
      have h3:=(h (k+1) h1 x hx).2 k y rfl hy
      omega
  by_cases hl:l.length=0
  · omega
  · obtain ⟨x, hx⟩ : ∃ x, l[l.length - 1]? = some x := ⟨_, ai (by omega)⟩
    have h1:=hstep _ x hx
    have h2:=(h _ (ab.1 hx).1 x hx).1.2
    omega
theorem Vn {n:Xz}(h:XG n):(1≤n.1∧n.1≤30)∧n.2.length≤24∧∀t∈n.2,(t.1.length≤30∧t.2.length≤30)∧(∀x∈t.1,0≤x∧x≤29)∧∀x∈t.2,0≤x∧x≤29:=by
  obtain ⟨h1,h2,h3⟩:=h
  refine ⟨h1,h2,fun t ht=> ?_⟩
  obtain ⟨_,k1,k2⟩:=h3 t ht
  have l1:=Ql5 k1 (by omega)
  have l2:=Ql5 k2 (by omega)
  exact ⟨⟨by omega,by omega⟩,fun x hx=>by have:=Ql8 k1 x hx; omega,fun x hx=>by have:=Ql8 k2 x hx; omega⟩
theorem KQ (l:List Int)(d:Int)(hl:l.length≤100000)(hb:∀x∈l, -9223372036854775808≤x+d∧x+d≤9223372036854775807):FC Tryz.prog 378 [(false,[.dat QI l]),(false,[dI d])] [] 0 (Xe 3 .int (l.map fun x=>x+d)):=by
 refine Qy Tryz.func378 rfl rfl Tryz.ntmps378 fun O_ hO w0_ N0_ X_ h0_ f0_=> ?_
 refine AC.fact (Ql (x:= .tmp 1) (Qa rfl)) fun hi1=> ?_
 iterate 9 refine w_ ?_
 refine AL.fact (Qp (x:= .tmp 8) (Qa rfl)) fun hl2=> ?_
 iterate 4 refine w_ ?_
 refine AC.wk (Wk.nilS 0 5 3 .int rfl (Fresh.of rfl) (nlr rfl)) ?_
 refine Qm (fun m_ s_=>∃(k:Nat),k≤l.length∧m_=l.length - k∧s_=⟨[(1,lI d),(4,lf (.val (.slice none 0 0))),(5,lR 1),(8,lf (.dat QI l)),(9,lI (l.length:Int)),(10,lI (k:Int))],[(1,some (.arr 3 .int ((l.take k).map fun x=>x+d)))]⟩) ⟨0,ap _,rfl,rfl⟩ ?_ ?_
 exact wp [(1,0)] ⟨(Qh (by simp)),trivial⟩
 rintro m_ s_ ⟨k,hk3,hm4,rfl⟩
 iterate 4 refine w_ ?_
 cases hb5:(decide ((k:Int) < (l.length:Int)))
 have hb5':=a6 hb5
 iterate 8 refine w_ ?_
 subst hO
 refine Zc (e:= .int) (xs:=((l.take k).map fun x=>x+d)) (Res.one rfl (Qb rfl)) rfl ?_
 ·(rw[QN (by omega)]; done)
 have hb5':=a7 hb5
 iterate 5 refine w_ ?_
 obtain ⟨x6,hx7⟩:=gx l k
 have hbz:=hb _ (a8 hx7)
 iterate 2 refine w_ ?_
 refine AL.fact (Ql (x:= .tmp 13) (Qa rfl)) fun hi8=> ?_
 iterate 7 refine w_ ?_
 refine lc (dBs 2 (e:= .int) YD) ?_
 refine lc (dA 3 XR) ?_
 refine w_ ?_
 refine Qc ?_
 iterate 4 refine w_ ?_
 refine Qc<|QE ⟨k+1,by omega,rfl,rfl⟩ (by omega) ?_
 exact wp [(1,3)] ⟨(Qh (by rw[QO hx7]; simp)),trivial⟩
theorem VO (n:Xz)[Decidable (XG n)]:FC Tryz.prog 170 [(true,leaves Qb6 n)] [] 0 (Zk (lf (dB (decide (XG n))))):=QbN fun gh w vs h=>by
  obtain ⟨us,rfl,hr⟩:=h.agg1
  have hl:=hr.len
  match us,hl with
  | [a0,a1],_=>exact (Qdi a0 a1 n w hr).mono fun _ _ h=>U8 h
theorem QuS {n:Nat}{l:Zy}(h:Qgd n l): -1≤l.1∧l.1≤(n:Int):=by
  unfold Qgd at h; omega
theorem Qbf (a:Int×(List (List Int×List Int)))(b:Int×(List (List Int×List Int)))[∀s,Decidable (StgOk s)][∀s,Decidable (XG s)](hz:Ty.tot Qb6 a≤2000000):FC Tryz.prog 337 [(true,[dI a.1, .dat X3 a.2]),(true,[dI b.1, .dat X3 b.2])] [] 0 (Ex (fun x:Xz×Bool=>x.2=true→x.1=unN a b) (fun x:Xz×Bool=>PV.tup [(true,[dI x.1.1, .ref 0]),(false,[dB x.2])]) (fun x:Xz×Bool=>[(0,some (.arr 198 Zw x.1.2))])):=by
 refine Qy Tryz.func337 rfl rfl Tryz.ntmps337 fun O_ hO w0_ N0_ X_ h0_ f0_=> ?_
 refine AC.fact (QH (x:= .tmp 0) (i:=0) (Qf rfl) rfl) fun hi1=>AC.fact (QH (x:= .tmp 1) (i:=0) (Qf rfl) rfl) fun hi2=> ?_
 refine w_ ?_
 refine xbx 0 ?_
 refine xbx 1 ?_
 refine lc (xal 2 Qqw Qbt) ?_
 iterate 5 refine w_ ?_
 refine lc (dK (VO a) H3) ?_
 iterate 2 refine w_ ?_
 cases hb3:(decide (XG a))
 have hb3':=a6 hb3
 iterate 7 refine w_ ?_
 refine lc (Qi Qgx rfl (ah.1 rfl) rfl rfl) ?_
 iterate 3 refine w_ ?_
 refine AC.wk (Qv 3 (p:=2) (off:=1) 198 Zw rfl rfl (Fresh.of rfl) (nlr rfl))<|Zf ?_
 subst hO
 refine Zl (x:=((0,[]),false)) [(0,3)] ?_ (QM rfl (Qz rfl rfl Qdx rfl) (Qb rfl)) rfl ⟨rfl,trivial⟩ rfl rfl
 exact fun h=>absurd h (by decide)
 have hb3':=a7 hb3
 refine w_ ?_
 refine lgy rfl rfl (dK (VO b) H3) ?_
 iterate 3 refine w_ ?_
 cases hb4:(decide (XG b))
 have hb4':=a6 hb4
 iterate 2 refine w_ ?_
 refine lc (Qi Qgx rfl (ah.1 rfl) rfl rfl) ?_
 iterate 3 refine w_ ?_
 refine AC.wk (Qv 4 (p:=2) (off:=1) 198 Zw rfl rfl (Fresh.of rfl) (nlr rfl))<|Zf ?_
 subst hO
 refine Zl (x:=((0,[]),false)) [(0,4)] ?_ (QM rfl (Qz rfl rfl Qdx rfl) (Qb rfl)) rfl ⟨rfl,trivial⟩ rfl rfl
 exact fun h=>absurd h (by decide)
 have hb4':=a7 hb4
 iterate 4 refine w_ ?_
 refine lc (dG 5 (Qdg a hz) QkN) ?_
 refine lc (xal 6 Qqw Qbt) ?_
 iterate 7 refine w_ ?_
 refine lc (XS (Qa rfl) (Qa rfl) rfl (by first | omega | (have h1:=(Vn ‹XG a›).1; have h2:=(Vn ‹XG b›).1; omega))) ?_
 iterate 7 refine w_ ?_
 refine AL.fact (Qp (x:= .tmp 27) (Qa rfl)) fun hl5=> ?_
 iterate 4 refine w_ ?_
 refine Qm (fun m_ s_=>∃(k:Nat),k≤b.2.length∧m_=b.2.length - k∧s_=⟨[(2,lP 0 0),(4,lP 2 0),(5,lB false),(6,lP 6 0),(27,lf (.dat X3 b.2)),(28,lI (b.2.length:Int)),(29,lI (k:Int))],[(0,some (.box 25 [dI a.1, .dat X3 a.2])),(2,some (.box 25 [dI 0, .val (.slice none 0 0)])),(6,some (.box 25 [dI (a.1+b.1), .ref 7])),(7,some (.arr 198 Zw (a.2++(b.2.take k).map (QkT a.1))))]⟩) ⟨0,ap _,rfl,rfl⟩ ?_ ?_
 exact wp [(7,5)] ⟨rfl,rfl,rfl,(Qh (by simp)),trivial⟩
 rintro m_ s_ ⟨k,hk6,hm7,rfl⟩
 iterate 4 refine w_ ?_
 cases hb8:(decide ((k:Int) < (b.2.length:Int)))
 have hb8':=a6 hb8
 iterate 6 refine w_ ?_
 refine lc (XA (VO (a.1+b.1,a.2++(b.2.take k).map (QkT a.1))) H3 ⟨_,_,rfl,(K6 (Qf rfl) ⟨_,_,rfl, .inl rfl,⟨_,_,rfl, .inr ⟨_,_,_,_,rfl,rfl,rfl⟩,rfl⟩⟩),rfl⟩ rfl rfl rfl) ?_
 iterate 2 refine w_ ?_
 cases hb9:(decide (XG (a.1+b.1,a.2++(b.2.take k).map (QkT a.1))))
 have hb9':=a6 hb9
 iterate 2 refine w_ ?_
 refine lc (Qi Qgx rfl (ah.1 rfl) rfl rfl) ?_
 iterate 3 refine w_ ?_
 refine AC.wk (Qv 8 (p:=2) (off:=1) 198 Zw rfl rfl (Fresh.of rfl) (nlr rfl))<|Zf ?_
 subst hO
 refine Zl (x:=((0,[]),false)) [(0,8)] ?_ (QM rfl (Qz rfl rfl Qdx rfl) (Qb rfl)) rfl ⟨rfl,trivial⟩ rfl rfl
 exact fun h=>absurd h (by decide)
 have hb9':=a7 hb9
 iterate 8 refine w_ ?_
 subst hO
 refine Zl (x:=((a.1+b.1,a.2++(b.2.take k).map (QkT a.1)),true)) [(0,7)] ?_ (QM rfl (Qz rfl rfl Qdx rfl) (Qb rfl)) rfl ⟨rfl,trivial⟩ rfl rfl
 (intro _; rw[QN (by omega)]; rfl)
 have hb8':=a7 hb8
 iterate 5 refine w_ ?_
 obtain ⟨x10,hx11⟩:=gx b.2 k
 iterate 2 refine w_ ?_
 refine lc (xal 9 Zw Ky) ?_
 iterate 2 refine w_ ?_
 apply dV [io 33 _,io 34 _,io 35 _,io 36 _,io 37 _,io 38 _,⟨some 39,lR 10,[(10,some (.arr 3 .int (x10.1.map fun x=>x+a.1)))]⟩,io 40 (lP 9 1),io 41 (lf (.dat QI x10.2)),io 42 (lP 0 0),io 43 (lI a.1),⟨some 44,lR 11,[(11,some (.arr 3 .int (x10.2.map fun x=>x+a.1)))]⟩,io 45 (ag [.ref 10, .ref 11]),⟨some 46,lR 12,[(12,some (.arr 198 Zw ([(x10.1.map fun x=>x+a.1,x10.2.map fun x=>x+a.1)]))),(10,none),(11,none)]⟩,⟨some 47,lR 13,[(13,some (.arr 198 Zw ((a.2++(b.2.take k).map (QkT a.1))++([(x10.1.map fun x=>x+a.1,x10.2.map fun x=>x+a.1)])))),(7,none),(12,none)]⟩,io 48 _,⟨none,lf (.val undef),[(6,some (.box 25 [dI (a.1+b.1), .ref 13]))]⟩] [0,0,3,3,15,15,3,127,127,511,511,3,3,3,0,0,0]
 iterate 6 refine z_ ?_
 refine zz (fun _ h_=>ac (dO 10 (KQ x10.1 a.1 (by have:=((Vn ‹XG b›).2.2 _ (a8 hx11)).1; omega) (fun z hz_=>by have h1:=((Vn ‹XG b›).2.2 _ (a8 hx11)).2.1 z hz_; have h2:=(Vn ‹XG a›).1; omega)) Qd8) rfl) ?_
 iterate 4 refine z_ ?_
 refine zz (fun _ h_=>ac (dO 11 (KQ x10.2 a.1 (by have:=((Vn ‹XG b›).2.2 _ (a8 hx11)).1; omega) (fun z hz_=>by have h1:=((Vn ‹XG b›).2.2 _ (a8 hx11)).2.2 z hz_; have h2:=(Vn ‹XG a›).1; omega)) Qd8) rfl) ?_
 refine zz (fun _ h_=>ac (Qi Qdd ⟨_,_,rfl,(h_.w rfl),⟨_,_,rfl,(h_.w rfl),rfl⟩⟩ (ah.1 (by simp only[Q6,Wx,aW,bc]; rw[(h_.en 10 rfl),(h_.en 11 rfl)]; rfl)) rfl rfl) rfl)<|zz (fun _ h_=>ac (Vo 12 (e:=Zw) QbR JX Ky rfl ⟨_,_,rfl,(h_.w rfl),rfl⟩ (ah.1 (by simp only[Q6,Wx,aW,bc]; rw[(h_.en 10 rfl),(h_.en 11 rfl)]; rfl)) ⟨_,_,_,_,rfl,⟨[.ref 10],[.ref 11],_,_,_,_,rfl,rfl,(.inl ⟨_,rfl,(h_.en 10 rfl),rfl⟩),(.inl ⟨_,rfl,(h_.en 11 rfl),rfl⟩),rfl⟩,⟨rfl,rfl⟩,rfl⟩ (by decide) rfl rfl (h_.fr 12 rfl) (nlr rfl)) rfl) ?_
 refine zz (fun _ h_=>ac (dA 13 Qc1 (hb:=by (have h1:=(Vn ‹XG a›).2.1; have h2:=(Vn ‹XG b›).2.1; simp only[aa,aF,ak,ao,aD]; omega))) rfl) ?_
 refine z_ ?_
 refine zz (fun _ h_=>ac (QZ (h_.v rfl) (h_.en 6 rfl) (h_.w rfl) (by simp only[Q6,Wx,aW,bc]; rw[(h_.en 13 rfl)]; rfl) Qp2 rfl) rfl) ?_
 exact zN
 iterate 2 refine w_ ?_
 refine lc (XS (Qa rfl) (Qu rfl) rfl (by first | omega | (have h1:=(Vn ‹XG a›).1; have h2:=(Vn ‹XG b›).1; omega))) ?_
 refine w_ ?_
 refine Qc<|QE ⟨k+1,by omega,rfl,rfl⟩ (by omega) ?_
 exact wp [(7,13)] ⟨rfl,rfl,rfl,(Qh (by rw[QO hx11]; simp[QkT])),trivial⟩
theorem QaD (a:(Int×(List (List Int×List Int)))×(List (ByteArray×Int))×(List (Int×Bool))×ByteArray)(b:(Int×(List (List Int×List Int)))×(List (ByteArray×Int))×(List (Int×Bool))×ByteArray)[∀s,Decidable (StgOk s)][∀s,Decidable (XG s)](hz:Ty.tot Qco a≤2000000)(hzb:Ty.tot Qco b≤2000000):FC Tryz.prog 260 [(true,[dI a.1.1, .dat X3 a.1.2, .dat Qo a.2.1, .dat YQ a.2.2.1,dS a.2.2.2]),(true,[dI b.1.1, .dat X3 b.1.2, .dat Qo b.2.1, .dat YQ b.2.2.1,dS b.2.2.2])] [] 0 (Ex (fun x:Q9×Bool=>x.2=true→x.1=unS a b) (fun x:Q9×Bool=>PV.tup [(true,[dI x.1.1.1, .ref 0, .ref 1, .ref 2,dS x.1.2.2.2]),(false,[dB x.2])]) (fun x:Q9×Bool=>[(0,some (.arr 198 Zw x.1.1.2)),(1,some (.arr 90 QK x.1.2.1)),(2,some (.arr 55 Qw x.1.2.2.1))])):=by
 obtain ⟨hz1,hz2,hz3⟩:=Qgc hz
 obtain ⟨hy1,hy2,hy3⟩:=Qgc hzb
 refine Qy Tryz.func260 rfl rfl Tryz.ntmps260 fun O_ hO w0_ N0_ X_ h0_ f0_=> ?_
 refine AC.fact (QH (x:= .tmp 0) (i:=0) (Qf rfl) rfl) fun hi1=>AC.fact (QH (x:= .tmp 1) (i:=0) (Qf rfl) rfl) fun hi2=> ?_
 refine w_ ?_
 refine xbx 0 ?_
 refine xbx 1 ?_
 refine lc (xal 2 Qnz Qab) ?_
 iterate 7 refine w_ ?_
 refine Y7 3 [] (Qbf a.1 b.1 hz1) QkM e2_ trivial rfl (fun _=>rfl) (fun _=>⟨(Fresh.of rfl),trivial⟩) (nlr rfl) fun x3 hx4=> ?_
 iterate 3 refine w_ ?_
 refine lc (xal 4 Qqw Qbt) ?_
 iterate 8 refine w_ ?_
 cases hb5:(x3.2)
 iterate 12 refine w_ ?_
 refine lc (Qi QeQ rfl (ah.1 rfl) rfl rfl) ?_
 iterate 3 refine w_ ?_
 refine AC.wk (Qv 5 (p:=2) (off:=1) 198 Zw rfl rfl (Fresh.of rfl) (nlr rfl))<|AC.wk (Qv 6 (p:=2) (off:=2) 90 QK rfl rfl (Fresh.of rfl) (nlr rfl))<|AC.wk (Qv 7 (p:=2) (off:=3) 55 Qw rfl rfl (Fresh.of rfl) (nlr rfl))<|Zf ?_
 subst hO
 refine Zl (x:=(((0,[]),([],([],ByteArray.empty))),false)) [(0,5),(1,6),(2,7)] ?_ (QM rfl (Qz rfl rfl YB rfl) (Qb rfl)) rfl ⟨rfl,rfl,rfl,trivial⟩ rfl rfl
 exact fun h=>absurd h (by decide)
 refine w_ ?_
 refine lgy rfl rfl (dK (WD a) JZ) ?_
 iterate 3 refine w_ ?_
 cases hb6:(decide (StgOk a))
 have hb6':=a6 hb6
 iterate 7 refine w_ ?_
 refine lc (Qi QeQ rfl (ah.1 rfl) rfl rfl) ?_
 iterate 3 refine w_ ?_
 refine AC.wk (Qv 8 (p:=2) (off:=1) 198 Zw rfl rfl (Fresh.of rfl) (nlr rfl))<|AC.wk (Qv 9 (p:=2) (off:=2) 90 QK rfl rfl (Fresh.of rfl) (nlr rfl))<|AC.wk (Qv 10 (p:=2) (off:=3) 55 Qw rfl rfl (Fresh.of rfl) (nlr rfl))<|Zf ?_
 subst hO
 refine Zl (x:=(((0,[]),([],([],ByteArray.empty))),false)) [(0,8),(1,9),(2,10)] ?_ (QM rfl (Qz rfl rfl YB rfl) (Qb rfl)) rfl ⟨rfl,rfl,rfl,trivial⟩ rfl rfl
 exact fun h=>absurd h (by decide)
 have hb6':=a7 hb6
 refine w_ ?_
 refine lgy rfl rfl (dK (WD b) JZ) ?_
 iterate 3 refine w_ ?_
 cases hb7:(decide (StgOk b))
 have hb7':=a6 hb7
 iterate 2 refine w_ ?_
 refine lc (Qi QeQ rfl (ah.1 rfl) rfl rfl) ?_
 iterate 3 refine w_ ?_
 refine AC.wk (Qv 11 (p:=2) (off:=1) 198 Zw rfl rfl (Fresh.of rfl) (nlr rfl))<|AC.wk (Qv 12 (p:=2) (off:=2) 90 QK rfl rfl (Fresh.of rfl) (nlr rfl))<|AC.wk (Qv 13 (p:=2) (off:=3) 55 Qw rfl rfl (Fresh.of rfl) (nlr rfl))<|Zf ?_
 subst hO
 refine Zl (x:=(((0,[]),([],([],ByteArray.empty))),false)) [(0,11),(1,12),(2,13)] ?_ (QM rfl (Qz rfl rfl YB rfl) (Qb rfl)) rfl ⟨rfl,rfl,rfl,trivial⟩ rfl rfl
 exact fun h=>absurd h (by decide)
 have hb7':=a7 hb7
 iterate 2 refine w_ ?_
 apply dW [io 32 _,⟨some 33,lR 14,[(14,some (.arr 90 QK ([])))]⟩,io 34 (lP 0 2),io 35 (lf (.dat Qo a.2.1)),⟨some 36,lR 15,[(15,some (.arr 90 QK (([])++a.2.1))),(14,none)]⟩,io 37 (lP 1 2),io 38 (lf (.dat Qo b.2.1)),⟨some 39,lR 16,[(16,some (.arr 90 QK ((([])++a.2.1)++b.2.1))),(15,none)]⟩,⟨some 40,lR 17,[(17,some (.arr 55 Qw ([])))]⟩,io 41 (lP 0 3),io 42 (lf (.dat YQ a.2.2.1)),⟨some 43,lR 18,[(18,some (.arr 55 Qw (([])++a.2.2.1))),(17,none)]⟩,io 44 (lP 0 4),io 45 (lf (dS a.2.2.2)),io 46 (lP 1 4),io 47 (lf (dS b.2.2.2)),io 48 (lf (dS (a.2.2.2++b.2.2.2))),io 49 (ag [dI x3.1.1, .ref 3, .ref 16, .ref 18,dS (a.2.2.2++b.2.2.2)]),⟨some 8,lP 19 0,[(19,some (.box 29 [dI 0, .val (.slice none 0 0), .val (.slice none 0 0), .val (.slice none 0 0),dS ByteArray.empty]))]⟩,⟨none,lf (.val undef),[(19,some (.box 29 [dI x3.1.1, .ref 3, .ref 16, .ref 18,dS (a.2.2.2++b.2.2.2)]))]⟩] [0,1,3,3,1,31,31,1,255,511,511,1,4095,4095,16383,16383,4095,0,262143,0]
 refine z_ ?_
 refine zz (fun _ h_=>ac (dBs 14 (e:=QK) Vp) rfl) ?_
 iterate 2 refine z_ ?_
 refine zz (fun _ h_=>ac (ZH 15 (h_.v rfl) (h_.en 14 rfl) (Evl.rep (h_.v rfl)) rfl QbU Jg (by (simp only[aa,aF,ak,ao,aD]; omega)) rfl (h_.fr 15 rfl) (nlr rfl)) rfl) ?_
 iterate 2 refine z_ ?_
 refine zz (fun _ h_=>ac (ZH 16 (h_.v rfl) (h_.en 15 rfl) (Evl.rep (h_.v rfl)) rfl QbU Jg (by (simp only[aa,aF,ak,ao,aD]; omega)) rfl (h_.fr 16 rfl) (nlr rfl)) rfl) ?_
 refine zz (fun _ h_=>ac (dBs 17 (e:=Qw) Ys) rfl) ?_
 iterate 2 refine z_ ?_
 refine zz (fun _ h_=>ac (ZH 18 (h_.v rfl) (h_.en 17 rfl) (Evl.rep (h_.v rfl)) rfl Qtb Qaa (by (simp only[aa,aF,ak,ao,aD]; omega)) rfl (h_.fr 18 rfl) (nlr rfl)) rfl) ?_
 iterate 4 refine z_ ?_
 refine zz (fun _ h_=>ac (ZR (h_.v rfl) (h_.v rfl) rfl (by (have h1:=Qfo hz; have h2:=Qfo hzb; omega))) rfl)<|zz (fun _ h_=>ac (Qi QeQ ⟨_,_,rfl,(h_.w rfl),⟨_,_,rfl,(h_.w rfl),⟨_,_,rfl,(h_.w rfl),⟨_,_,rfl,(h_.w rfl),rfl⟩⟩⟩⟩ (ah.1 (by show ((Q6 _ [dI x3.1.1, .ref 3]&&(Q6 _ [.ref 16]&&(Q6 _ [.ref 18]&&(Q6 _ [dS (a.2.2.2++b.2.2.2)]&&true)))))=true; simp only[Q6,Wx,aW,bc]; rw[(h_.en 3 rfl),(h_.en 16 rfl),(h_.en 18 rfl)]; rfl)) rfl rfl) rfl)<|zz (fun _ h_=>ac (Xp 19 Qnz Qab rfl rfl (h_.fr 19 rfl) (nlr rfl)) rfl)<|zz (fun _ h_=>ac (QZ (h_.v rfl) (h_.en 19 rfl) (h_.w rfl) (by show Q6 _ [dI x3.1.1, .ref 3, .ref 16, .ref 18,dS (a.2.2.2++b.2.2.2)]=true; simp only[Q6,Wx,aW,bc]; rw[(h_.en 3 rfl),(h_.en 16 rfl),(h_.en 18 rfl)]; rfl) YB rfl) rfl) ?_
 exact zN
 iterate 4 refine w_ ?_
 refine AL.fact (Qp (x:= .tmp 51) (Qa rfl)) fun hl8=> ?_
 iterate 4 refine w_ ?_
 refine Qm (fun m_ s_=>∃(k:Nat),k≤b.2.2.1.length∧m_=b.2.2.1.length - k∧s_=⟨[(2,lP 0 0),(4,lP 2 0),(5,lB false),(8,lP 19 0),(51,lf (.dat YQ b.2.2.1)),(52,lI (b.2.2.1.length:Int)),(53,lI (k:Int))],[(0,some (.box 29 [dI a.1.1, .dat X3 a.1.2, .dat Qo a.2.1, .dat YQ a.2.2.1,dS a.2.2.2])),(2,some (.box 29 [dI 0, .val (.slice none 0 0), .val (.slice none 0 0), .val (.slice none 0 0),dS ByteArray.empty])),(3,some (.arr 198 Zw x3.1.2)),(16,some (.arr 90 QK ((([])++a.2.1)++b.2.1))),(19,some (.box 29 [dI x3.1.1, .ref 3, .ref 16, .ref 20,dS (a.2.2.2++b.2.2.2)])),(20,some (.arr 55 Qw (a.2.2.1++(b.2.2.1.take k).map (unL a.2.1.length))))]⟩) ⟨0,ap _,rfl,rfl⟩ ?_ ?_
 exact wp [(20,18)] ⟨rfl,rfl,rfl,rfl,rfl,(Qh (by simp)),trivial⟩
 rintro m_ s_ ⟨k,hk9,hm10,rfl⟩
 iterate 4 refine w_ ?_
 cases hb11:(decide ((k:Int) < (b.2.2.1.length:Int)))
 have hb11':=a6 hb11
 iterate 6 refine w_ ?_
 refine lc (XA (WD (x3.1,(([])++a.2.1)++b.2.1,a.2.2.1++(b.2.2.1.take k).map (unL a.2.1.length),a.2.2.2++b.2.2.2)) JZ ⟨_,_,rfl,(K6 (Qf rfl) ⟨_,_,rfl, .inl rfl,⟨_,_,rfl, .inr ⟨_,_,_,_,rfl,rfl,rfl⟩,⟨_,_,rfl, .inr ⟨_,_,_,_,rfl,rfl,rfl⟩,⟨_,_,rfl, .inr ⟨_,_,_,_,rfl,rfl,rfl⟩,⟨_,_,rfl, .inl rfl,rfl⟩⟩⟩⟩⟩),rfl⟩ rfl rfl rfl) ?_
 iterate 2 refine w_ ?_
 cases hb12:(decide (StgOk (x3.1,(([])++a.2.1)++b.2.1,a.2.2.1++(b.2.2.1.take k).map (unL a.2.1.length),a.2.2.2++b.2.2.2)))
 have hb12':=a6 hb12
 iterate 2 refine w_ ?_
 refine lc (Qi QeQ rfl (ah.1 rfl) rfl rfl) ?_
 iterate 3 refine w_ ?_
 refine AC.wk (Qv 21 (p:=2) (off:=1) 198 Zw rfl rfl (Fresh.of rfl) (nlr rfl))<|AC.wk (Qv 22 (p:=2) (off:=2) 90 QK rfl rfl (Fresh.of rfl) (nlr rfl))<|AC.wk (Qv 23 (p:=2) (off:=3) 55 Qw rfl rfl (Fresh.of rfl) (nlr rfl))<|Zf ?_
 subst hO
 refine Zl (x:=(((0,[]),([],([],ByteArray.empty))),false)) [(0,21),(1,22),(2,23)] ?_ (QM rfl (Qz rfl rfl YB rfl) (Qb rfl)) rfl ⟨rfl,rfl,rfl,trivial⟩ rfl rfl
 exact fun h=>absurd h (by decide)
 have hb12':=a7 hb12
 iterate 8 refine w_ ?_
 subst hO
 refine Zl (x:=(((x3.1.1,x3.1.2),((([])++a.2.1)++b.2.1,(a.2.2.1++(b.2.2.1.take k).map (unL a.2.1.length),a.2.2.2++b.2.2.2))),true)) [(0,3),(1,16),(2,20)] ?_ (QM rfl (Qz rfl rfl YB rfl) (Qb rfl)) rfl ⟨rfl,rfl,rfl,trivial⟩ rfl rfl
 ·(intro _; rw[QN (by omega)]; simp_all [unS]; done)
 have hb11':=a7 hb11
 iterate 5 refine w_ ?_
 obtain ⟨x13,hx14⟩:=gx b.2.2.1 k
 have hlb:=QuS (StgOk.labs ‹StgOk b› _ (a8 hx14))
 iterate 2 refine w_ ?_
 refine lc (xal 24 Qw Ys) ?_
 iterate 6 refine w_ ?_
 refine AL.fact (Ql (x:= .tmp 58) (Qa rfl)) fun hi15=> ?_
 iterate 2 refine w_ ?_
 cases hb16:(decide (0≤x13.1))
 have hb16':=a6 hb16
 iterate 6 refine w_ ?_
 refine lc (dBs 25 (e:=Qw) Ys (hab:=by exact ⟨_,_,_,_,rfl,⟨[dI x13.1],[dB x13.2],_,_,_,_,rfl,rfl,⟨rfl,rfl⟩,⟨rfl,rfl⟩,rfl⟩,⟨rfl,rfl⟩,rfl⟩)) ?_
 refine lc (dA 26 Qaa (hb:=by (simp only[aa,aF,ak,ao,aD]; omega))) ?_
 iterate 2 refine w_ ?_
 refine Qc ?_
 iterate 4 refine w_ ?_
 refine Qc<|QE ⟨k+1,by omega,rfl,rfl⟩ (by omega) ?_
 exact wp [(20,26)] ⟨rfl,rfl,rfl,rfl,rfl,(Qh (by rw[QO hx14]; simp[unL, *])),trivial⟩
 have hb16':=a7 hb16
 iterate 6 refine w_ ?_
 refine AL.fact (Qp (x:= .tmp 63) (Qa rfl)) fun hl17=> ?_
 iterate 9 refine w_ ?_
 refine lc (dBs 27 (e:=Qw) Ys (hab:=by exact ⟨_,_,_,_,rfl,⟨[dI (x13.1+(a.2.1.length:Int))],[dB x13.2],_,_,_,_,rfl,rfl,⟨rfl,rfl⟩,⟨rfl,rfl⟩,rfl⟩,⟨rfl,rfl⟩,rfl⟩)) ?_
 refine lc (dA 28 Qaa (hb:=by (simp only[aa,aF,ak,ao,aD]; omega))) ?_
 iterate 2 refine w_ ?_
 refine Qc ?_
 iterate 4 refine w_ ?_
 refine Qc<|QE ⟨k+1,by omega,rfl,rfl⟩ (by omega) ?_
 exact wp [(20,28)] ⟨rfl,rfl,rfl,rfl,rfl,(Qh (by rw[QO hx14]; simp[unL, *])),trivial⟩
end Go.Proofs.YtjaadeknhofhpaaGreat
namespace Go.Proofs.YtjaadeknhofhpaaGreat
open Go.RowKit
set_option maxRecDepth 100000
set_option maxHeartbeats 4000000
theorem QoJ (n:Int): -9223372036854775808≤IntKind.i64.wrap n∧IntKind.i64.wrap n≤9223372036854775807:=by
  simp only[IntKind.wrap,IntKind.bits,IntKind.signed]
  simp
  split <;> omega
theorem QoG {A:Amb}{P:Program}{s:St}{x y:Operand}{d:Nat}{T T' ty:TypeId}{pos:String}{af:Array Edge}{g:Option (Nat×Bool)}{m n:Int}(hx:Evl A s x (dI m))(hy:Evl A s y (dI n))(hn:Nat.blt d A.n=true):Does A P ⟨some d, .binOp .add T x y T',ty,pos,af,g⟩ s (s.put d (lf (dI (IntKind.i64.wrap (m+n))))):=
  Qn rfl hn fun gh a w r=>⟨.int .i64 (IntKind.i64.wrap (m+n)),by
    have h1:=hx.i r
    have h2:=hy.i r
    simp only[execOp,h1,h2,eqGuard_at_int,binOp,Op.intArith]
    simp,_,rfl,Yo (QoJ _)⟩
theorem Js (a:List ((Int×Bool)×(Int×Bool)))(b:List ((Int×Bool)×(Int×Bool)))(h:a=b):FC Tryz.prog 29 [(false,[.dat QnB a]),(false,[.dat QnB b])] [] 0 (Zk (lB true)):=by
 have hlx:a.length=b.length:=by rw[h]
 refine Qy Tryz.func29 rfl rfl Tryz.ntmps29 fun O_ hO w0_ N0_ X_ h0_ f0_=> ?_
 iterate 6 refine w_ ?_
 refine AL.fact (Qp (x:= .tmp 6) (Qa rfl)) fun hl1=> ?_
 iterate 2 refine w_ ?_
 refine AL.fact (Qp (x:= .tmp 8) (Qa rfl)) fun hl2=> ?_
 iterate 3 refine w_ ?_
 cases hb3:(!decide ((a.length:Int)=(b.length:Int)))
 have hb3':((a.length:Int)=(b.length:Int)):=QT hb3
 iterate 5 refine w_ ?_
 refine AL.fact (Qp (x:= .tmp 11) (Qa rfl)) fun hl4=> ?_
 iterate 4 refine w_ ?_
 refine Qm (fun m_ s_=>∃(k:Nat),k≤a.length∧m_=a.length - k∧s_=⟨[(0,lf (.dat QnB a)),(1,lf (.dat QnB b)),(12,lI (a.length:Int)),(13,lI (k:Int))],[]⟩) ⟨0,ap _,rfl,rfl⟩ ?_ ?_
 exact wo []
 rintro m_ s_ ⟨k,hk5,hm6,rfl⟩
 iterate 4 refine w_ ?_
 cases hb7:(decide ((k:Int) < (a.length:Int)))
 have hb7':=a6 hb7
 iterate 7 refine w_ ?_
 subst hO
 exact Qe (Res.one rfl (Qb rfl)) rfl rfl
 have hb7':=a7 hb7
 iterate 8 refine w_ ?_
 obtain ⟨x8,hx9⟩:=gx a k
 obtain ⟨x10,hx11⟩:=gx b k
 apply dW [io 16 _,io 17 _,io 18 _,io 19 _,io 20 _,io 21 _,io 22 _,io 23 _,io 24 (lB (!(Ty.beq YW x8 x10)))] [0,1,0,0,15,31,15,15,0]
 iterate 8 refine z_ ?_
 refine zz (fun _ h_=>ac (UJ Qpd QpS (h_.w rfl) (h_.w rfl) (p:=x8) (q:=x10) rfl rfl rfl) rfl) ?_
 exact zN
 cases hb12:(Ty.beq YW x8 x10)
 iterate 5 refine w_ ?_
 subst hO
 have e13:(false:Bool)=true:=by
  (exfalso; subst h; have e_:=cu ((hx9).symm.trans hx11); rw[e_,Z2] at hb12; exact absurd hb12 (by decide))
 exact Qe (Res.one rfl (Qb rfl)) (by rw[← e13] <;> rfl) rfl
 iterate 6 refine w_ ?_
 refine Qc<|QE ⟨k+1,by omega,rfl,rfl⟩ (by omega) ?_
 exact wo []
 have hb3':¬((a.length:Int)=(b.length:Int)):=Q0 hb3
 iterate 5 refine w_ ?_
 subst hO
 have e14:(false:Bool)=true:=by
  (exfalso; subst h; simp_all; done)
 exact Qe (Res.one rfl (Qb rfl)) (by rw[← e14] <;> rfl) rfl
end Go.Proofs.YtjaadeknhofhpaaGreat
