/- Walks over abstract states: graphs built from words, an arc. -/
import Derived.Test.YtfkmmpfdncopdaaGreatDe
import Derived.Test.YtfkmmpfdncopdaaGreatWk
import Derived.Test.YtfkmmpfdncopdaaGreatTb
import Derived.Test.YtfkmmpfdncopdaaGreatAk
import Derived.Test.YtfkmmpfdncopdaaGreatStr
import Derived.Test.YtfkmmpfdncopdaaGreatProg
import Derived.KernelRfl
import Derived.Test.YtfkmmpfdncopdaaGreatAl
set_option linter.unusedSimpArgs false
set_option linter.unusedVariables false
set_option linter.unusedSectionVars false
namespace Go.Proofs.YtfkmmpfdncopdaaGreat
open Go.RowKit
set_option maxRecDepth 100000
set_option maxHeartbeats 4000000
section
variable {text tx fr to_ nm:ByteArray}{c c0:UInt8}{b b1:DB}{p:Int}
theorem Qon (h:okA text=true):1≤text.size∧2≤(Zt (UX text) 62).length∧(1≤(YN text 0).size∧(b0 (YN text 0)=95∨1≤(KO (YN text 0)).size))∧1≤(YN text 1).size∧(b0 (YN text 1)=95∨1≤(KO (YN text 1)).size):=by
  unfold okA okW at h
  simp only[aN,bO,aT] at h
  exact ⟨h.1,h.2.1,h.2.2.1,h.2.2.2⟩
theorem Xe (hc:text[(0:Int).toNat]? =some c):b0 text=c:=by unfold b0; rw[show text[0]? =some c from hc]; rfl
theorem Qqb (hc:text[(0:Int).toNat]? =some c)(h:c=42):text.extract (1:Int).toNat text.size=UX text:=by unfold UX; rw[Xe hc,if_pos h]; rfl
theorem QpI (hc:text[(0:Int).toNat]? =some c)(h:¬c=42):text=UX text:=by unfold UX; rw[Xe hc,if_neg h]
theorem Yo {k:Nat}(hx:tx=UX text)(h:(Zt tx 62)[k]? =some fr):YN text k=fr:=by unfold YN; rw[← hx,h]; rfl
theorem QnI (h1:YN text 1=to_)(hc:to_[(0:Int).toNat]? =some c)(h:c=95):to_=KR text:=by unfold KR; rw[h1,Xe hc,if_pos h]
theorem QpQ (h1:YN text 1=to_)(hc:to_[(0:Int).toNat]? =some c)(h:¬c=95)(h0:YN text 0=fr)(hc0:fr[(0:Int).toNat]? =some c0)(h2:c0=95):fr=KR text:=by unfold KR; rw[h1,Xe hc,if_neg h,h0,Xe hc0,if_pos h2]
theorem Qpe (h1:YN text 1=to_)(hc:to_[(0:Int).toNat]? =some c)(h:¬c=95)(h0:YN text 0=fr)(hc0:fr[(0:Int).toNat]? =some c0)(h2:¬c0=95)(hx:tx=UX text):tx=KR text:=by unfold KR; rw[h1,Xe hc,if_neg h,h0,Xe hc0,if_neg h2,hx]
theorem QpN (h0:YN text 0=fr)(hc0:fr[(0:Int).toNat]? =some c0)(h:c0=95):b=ar1 p b text:=by unfold ar1; rw[h0,Xe hc0,if_pos h]
theorem Qp1 (h0:YN text 1=to_)(hc0:to_[(0:Int).toNat]? =some c0)(h:c0=95):b=ar2 p b text:=by unfold ar2; rw[h0,Xe hc0,if_pos h]
theorem Qpz (h0:YN text 0=fr)(hc0:fr[(0:Int).toNat]? =some c0)(h:¬c0=95):((((Zg b fr).1.1.1,QaM (Zg b fr).1.1.2 (trI b fr) p),(Zg b fr).1.2.1,(Zg b fr).1.2.2.1,(Zg b fr).1.2.2.2),(Zg b fr).2.1,(Zg b fr).2.2)=ar1 p b text:=by unfold ar1; rw[h0,Xe hc0,if_neg h]
theorem Qqj (h0:YN text 1=to_)(hc0:to_[(0:Int).toNat]? =some c0)(h:¬c0=95):((((Zg b to_).1.1.1,QaU (Zg b to_).1.1.2 (trI b to_) p),(Zg b to_).1.2.1,(Zg b to_).1.2.2.1,(Zg b to_).1.2.2.2),(Zg b to_).2.1,(Zg b to_).2.2)=ar2 p b text:=by unfold ar2; rw[h0,Xe hc0,if_neg h]
theorem Qc2 {k:Nat}(hx:tx=UX text)(hf:(Zt tx 62)[k]? =some fr)(hs:text.size≤1000)(ho:b0 (YN text k)=95∨1≤(KO (YN text k)).size)(hc:fr[(0:Int).toNat]? =some c)(h:¬c=95):fr.size≤1000∧1≤(KO fr).size:=by
  have h1:=KE (ao hf)
  have h2:(UX text).size≤text.size:=by unfold UX; split; simp only[aL]; omega; exact aO _
  rw[Yo hx hf,Xe hc] at ho
  rw[hx] at h1
  exact ⟨by omega,ho.resolve_left h⟩
theorem Qgc {b2:DB}(hc:text[(0:Int).toNat]? =some c)(h:¬c=42)(hm:nm=KR text)(h1:b1=ar1 (plI b nm) (plV b nm) text)(h2:b2=ar2 (plI b nm) b1 text):arV b text=b2:=by
  rw[h2,h1,hm]; unfold arV; dsimp only; rw[Xe hc,if_neg h]
theorem QfU {b2:DB}(hc:text[(0:Int).toNat]? =some c)(h:c=42)(hm:nm=KR text)(h1:b1=ar1 (plI b nm) (plV b nm) text)(h2:b2=ar2 (plI b nm) b1 text):arV b text=((b2.1.1,b2.1.2.1,b2.1.2.2.1,QlF b2.1.2.2.2 (plI b nm)),b2.2.1,b2.2.2):=by
  rw[h2,h1,hm]; unfold arV; dsimp only; rw[Xe hc,if_pos h]
theorem QjU:(UX text).size≤text.size:=by unfold UX; split; simp only[aL]; omega; exact aO _
end
theorem Hk (b:DB)(text:ByteArray)(n_:Nat)(hI:DBJ b n_ (2*n_) (2*n_))(hn:n_≤1000)(ht:okA text=true)(hs:text.size≤1000):FC Tryz.prog 260 [(false,[.ptr 0 0]),(false,[dS text])] [bx 0 274 [dI b.1.1.1, .ref 2, .ref 1, .ref 3,dS b.1.2.2.2, .ref 4, .ref 5],ar 2 237 (.pr (.sl 3 .int) (.sl 3 .int)) b.1.1.2,ar 1 203 (.pr .str .int) b.1.2.1,ar 3 120 (.pr .int .bool) b.1.2.2.1,ar 4 9 .str b.2.1,ar 5 9 .str b.2.2] 2 (Is (PV.tup []) [bx 0 274 [dI ((arV b text).1.1.1), .ref 2, .ref 1, .ref 3,dS ((arV b text).1.2.2.2), .ref 4, .ref 5],ar 2 237 (.pr (.sl 3 .int) (.sl 3 .int)) ((arV b text).1.1.2),ar 1 203 (.pr .str .int) ((arV b text).1.2.1),ar 3 120 (.pr .int .bool) ((arV b text).1.2.2.1),ar 4 9 .str ((arV b text).2.1),ar 5 9 .str ((arV b text).2.2)]):=by
 obtain ⟨ho1,ho2,⟨ho3,ho4⟩,ho5,ho6⟩:=Qon ht
 have hbs:=QjU (text:=text)
 have hi0:=hI.p0
 have hi1:=hI.pl
 have hi2:=hI.st
 have hi3:=hI.tr
 have hi4:=hI.la
 have hi5:=hI.ws
 refine Qj Tryz.func260 rfl rfl Tryz.ntmps260 fun O_ hO w0_ N0_ X_ h0_ f0_=> ?_
 iterate 2 refine w_ ?_
 obtain ⟨tc,hc2⟩:∃z,text[(0:Int).toNat]? =some z:=⟨_,b5 _ _ (by omega)⟩
 have htc:=hc2
 refine w_ ?_
 refine lc (Zw (Qa rfl) (QK 42 rfl) rfl) ?_
 iterate 2 refine w_ ?_
 refine Qaw (fun s_=>∃(tx:ByteArray),(tx=UX text)∧s_=⟨[(0,lP 0 0),(1,lf (dS tx)),(4,lB (decide (tc=42)))],[bx 0 274 [dI b.1.1.1, .ref 2, .ref 1, .ref 3,dS b.1.2.2.2, .ref 4, .ref 5],ar 1 203 (.pr .str .int) b.1.2.1,ar 2 237 (.pr (.sl 3 .int) (.sl 3 .int)) b.1.1.2,ar 3 120 (.pr .int .bool) b.1.2.2.1,ar 4 9 .str b.2.1,ar 5 9 .str b.2.2]⟩) ?_ fun J3=> ?_
 ·rintro s_ ⟨tx,hx,rfl⟩
  have hx2:2≤(Zt tx 62).length:=by rw[hx]; exact ho2
  iterate 2 refine w_ ?_
  refine lc (UD (XQ tx 62 (by rw[hx]; omega)).frozen KB ⟨_,_,rfl,(Qm rfl),⟨_,_,rfl,(Evl.ev (QK 62 rfl)),rfl⟩⟩ rfl rfl) ?_
  iterate 2 refine w_ ?_
  obtain ⟨fr,hx5⟩:∃z,(Zt tx 62)[0]? =some z:=⟨_,aa (by omega)⟩
  have hfr:=hx5
  have hsfr:1≤fr.size:=by first | (rw[← Yo (k:=0) hx hx5]; exact ho3) | (rw[← Yo (k:=1) hx hx5]; exact ho5)
  obtain ⟨to_,hx7⟩:∃z,(Zt tx 62)[1]? =some z:=⟨_,aa (by omega)⟩
  have hto_:=hx7
  have hsto_:1≤to_.size:=by first | (rw[← Yo (k:=0) hx hx7]; exact ho3) | (rw[← Yo (k:=1) hx hx7]; exact ho5)
  apply dW (i6 20 _ _ _ _ _ _ (i2 6 _ _ [])) [0,0,0,7,7,7,56,0]
  iterate 8 refine z_ ?_
  exact zN
  refine QkS (fun s_=>∃(nm:ByteArray),(nm=KR text)∧s_=⟨[(0,lP 0 0),(4,lB (decide (tc=42))),(6,lf (dS fr)),(7,lf (dS to_)),(8,lf (dS nm))],[bx 0 274 [dI b.1.1.1, .ref 2, .ref 1, .ref 3,dS b.1.2.2.2, .ref 4, .ref 5],ar 1 203 (.pr .str .int) b.1.2.1,ar 2 237 (.pr (.sl 3 .int) (.sl 3 .int)) b.1.1.2,ar 3 120 (.pr .int .bool) b.1.2.2.1,ar 4 9 .str b.2.1,ar 5 9 .str b.2.2]⟩) ?_ fun J8=> ?_
  ·rintro s_ ⟨nm,hm,rfl⟩
   have hk:=hI.pl_ (name:=nm)
   have hk1:=hk.tr
   have hk2:=hk.la
   have hk3:=hk.ws
   have hpr:=Qif (b:=b) (name:=nm)
   iterate 3 refine w_ ?_
   refine lc (dP 6 [(1,2),(2,1),(4,5),(5,4)] (Jk b nm (by omega) (by omega)) QfL) ?_
   iterate 2 refine w_ ?_
   refine Qaw (fun s_=>∃(b1:((Int×(List (List Int×List Int)))×(List (ByteArray×Int))×(List (Int×Bool))×ByteArray)×List ByteArray×List ByteArray),(b1=ar1 (plI b nm) (plV b nm) text)∧s_=⟨[(0,lP 0 0),(4,lB (decide (tc=42))),(7,lf (dS to_)),(9,lI (plI b nm))],[bx 0 274 [dI b1.1.1.1, .ref 12, .ref 1, .ref 13,dS b1.1.2.2.2, .ref 14, .ref 15],ar 1 203 (.pr .str .int) b1.1.2.1,ar 12 237 (.pr (.sl 3 .int) (.sl 3 .int)) b1.1.1.2,ar 13 120 (.pr .int .bool) b1.1.2.2.1,ar 14 9 .str b1.2.1,ar 15 9 .str b1.2.2]⟩) ?_ fun J9=> ?_
   ·rintro s_ ⟨b1,hb1,rfl⟩
    have hI1:DBJ b1 (n_+1) (2*n_+1) (2*n_+1):=by rw[hb1]; exact hk.ar1_
    have hj1:=hI1.tr
    have hj2:=hI1.la
    have hj3:=hI1.ws
    refine Qaw (fun s_=>∃(b2:((Int×(List (List Int×List Int)))×(List (ByteArray×Int))×(List (Int×Bool))×ByteArray)×List ByteArray×List ByteArray),(b2=ar2 (plI b nm) b1 text)∧s_=⟨[(0,lP 0 0),(4,lB (decide (tc=42))),(9,lI (plI b nm))],[bx 0 274 [dI b2.1.1.1, .ref 16, .ref 1, .ref 17,dS b2.1.2.2.2, .ref 18, .ref 19],ar 1 203 (.pr .str .int) b2.1.2.1,ar 16 237 (.pr (.sl 3 .int) (.sl 3 .int)) b2.1.1.2,ar 17 120 (.pr .int .bool) b2.1.2.2.1,ar 18 9 .str b2.2.1,ar 19 9 .str b2.2.2]⟩) ?_ fun J10=> ?_
    ·rintro s_ ⟨b2,hb2,rfl⟩
     have hI2:DBJ b2 (n_+1) (2*n_+2) (2*n_+2):=by rw[hb2]; exact hI1.ar2_
     have hst2:=hI2.st
     have hpl2:b2.2.1=(plV b nm).2.1:=by rw[hb2,Qj3,hb1,Qkf]
     rw[hpl2] at hst2
     have hkp:=hk.pl
     iterate 3 refine w_ ?_
     refine cd_ (fun hb11 hb11'=> ?_) fun hb11 hb11'=> ?_
     ·refine AC.skip ?_
      refine (?_:fin _ _ _ _ .normal _)
      exact fi_ [(2,16),(3,17),(4,18),(5,19)] hO ⟨(((congrArg (fun z_=>some (Ent.box 274 [dI z_, .ref 16, .ref 1, .ref 17,dS b2.1.2.2.2, .ref 18, .ref 19])) (show (b2.1.1.1:Int)=(arV b text).1.1.1 by (rw[Qgc htc (by assumption) hm hb1 hb2]; done)))).trans (congrArg (fun z_=>some (Ent.box 274 [dI ((arV b text).1.1.1), .ref 16, .ref 1, .ref 17,dS z_, .ref 18, .ref 19])) (show (b2.1.2.2.2:ByteArray)=(arV b text).1.2.2.2 by (rw[Qgc htc (by assumption) hm hb1 hb2]; done)))),(Qk (by (rw[Qgc htc (by assumption) hm hb1 hb2]; done))),(Qk (by (rw[Qgc htc (by assumption) hm hb1 hb2]; done))),(Qk (by (rw[Qgc htc (by assumption) hm hb1 hb2]; done))),(Qk (by (rw[Qgc htc (by assumption) hm hb1 hb2]; done))),(Qk (by (rw[Qgc htc (by assumption) hm hb1 hb2]; done))),trivial⟩
     ·apply dV (i7 93 _ _ _ _ _ _ _ (io 100 (lf (dS (b2.1.2.2.2.extract 0 (plI b nm).toNat))) :: io 101 (lf (dS ((b2.1.2.2.2.extract 0 (plI b nm).toNat)++(⟨#[49]⟩:ByteArray)))) :: i7 102 _ _ _ _ _ _ _ (io 109 (lf (dS (b2.1.2.2.2.extract ((plI b nm)+1).toNat b2.1.2.2.2.size))) :: io 110 (lf (dS (((b2.1.2.2.2.extract 0 (plI b nm).toNat)++(⟨#[49]⟩:ByteArray))++(b2.1.2.2.2.extract ((plI b nm)+1).toNat b2.1.2.2.2.size)))) :: i3 111 _ _ _ [⟨none,lf (.val undef),[bx 0 274 [dI b2.1.1.1, .ref 16, .ref 1, .ref 17,dS (((b2.1.2.2.2.extract 0 (plI b nm).toNat)++(⟨#[49]⟩:ByteArray))++(b2.1.2.2.2.extract ((plI b nm)+1).toNat b2.1.2.2.2.size)), .ref 18, .ref 19]]⟩]))) [0,1,1,1,1,1,63,1,1,511,511,511,511,511,16383,16383,511,1,0,0,0,0]
      iterate 7 refine z_ ?_
      refine zz (fun _ h_=>ac (show Does _ _ _ _ (St.put _ 100 (lf (dS (b2.1.2.2.2.extract 0 (plI b nm).toNat)))) from Qw (l:=none) (h:=(some (plI b nm))) (h_.v rfl) (by exact trivial) (by exact (h_.v rfl)) QR rfl (by first | omega | (simp only[ai,ah]; omega)) (by first | omega | (simp only[ai,ah]; omega)) (by first | omega | (simp only[ai,ah]; omega))) rfl)<|zz (fun _ h_=>ac (QH (h_.v rfl) (Evl.str rfl) rfl (by (simp only[aK,aL,ZB]; omega))) rfl) ?_
      iterate 7 refine z_ ?_
      refine zz (fun _ h_=>ac (show Does _ _ _ _ (St.put _ 109 (lf (dS (b2.1.2.2.2.extract ((plI b nm)+1).toNat b2.1.2.2.2.size)))) from Qw (l:=(some ((plI b nm)+1))) (h:=none) (h_.v rfl) (by exact (h_.v rfl)) (by exact trivial) QR rfl (by first | omega | (simp only[ai,ah]; omega)) (by first | omega | (simp only[ai,ah]; omega)) (by first | omega | (simp only[ai,ah]; omega))) rfl)<|zz (fun _ h_=>ac (QH (h_.v rfl) (h_.v rfl) rfl (by (simp only[aK,aL,ZB]; omega))) rfl) ?_
      iterate 4 refine z_ ?_
      exact zN
      refine (?_:fin _ _ _ _ .normal _)
      exact fi_ [(2,16),(3,17),(4,18),(5,19)] hO ⟨(((congrArg (fun z_=>some (Ent.box 274 [dI z_, .ref 16, .ref 1, .ref 17,dS (((b2.1.2.2.2.extract 0 (plI b nm).toNat)++(⟨#[49]⟩:ByteArray))++(b2.1.2.2.2.extract ((plI b nm)+1).toNat b2.1.2.2.2.size)), .ref 18, .ref 19])) (show (b2.1.1.1:Int)=(arV b text).1.1.1 by (rw[QfU htc (by assumption) hm hb1 hb2]; done)))).trans (congrArg (fun z_=>some (Ent.box 274 [dI ((arV b text).1.1.1), .ref 16, .ref 1, .ref 17,dS z_, .ref 18, .ref 19])) (show (((b2.1.2.2.2.extract 0 (plI b nm).toNat)++(⟨#[49]⟩:ByteArray))++(b2.1.2.2.2.extract ((plI b nm)+1).toNat b2.1.2.2.2.size):ByteArray)=(arV b text).1.2.2.2 by (rw[QfU htc (by assumption) hm hb1 hb2]; rfl)))),(Qk (by (rw[QfU htc (by assumption) hm hb1 hb2]; done))),(Qk (by (rw[QfU htc (by assumption) hm hb1 hb2]; done))),(Qk (by (rw[QfU htc (by assumption) hm hb1 hb2]; done))),(Qk (by (rw[QfU htc (by assumption) hm hb1 hb2]; done))),(Qk (by (rw[QfU htc (by assumption) hm hb1 hb2]; done))),trivial⟩
    ·iterate 3 refine w_ ?_
     obtain ⟨tc2,hc13⟩:∃z,to_[(0:Int).toNat]? =some z:=⟨_,b5 _ _ (by omega)⟩
     have htc2:=hc13
     refine w_ ?_
     refine lc (QF (Qa rfl) (QK 95 rfl) rfl) ?_
     refine w_ ?_
     refine cn_ (fun hb14 hb14'=> ?_) fun hb14 hb14'=> ?_
     ·refine w_ ?_
      refine QbG (J10 _ ⟨b1,(by exact Qp1 (Yo hx hto_) htc2 (by assumption)),rfl⟩) ?_
      exact Wk.of [(16,12),(17,13),(18,14),(19,15)] rfl ⟨rfl,rfl,rfl,trivial⟩ ⟨rfl,rfl,rfl,rfl,rfl,rfl,trivial⟩ rfl rfl
     ·iterate 3 refine w_ ?_
      refine lc (dP 20 [(2,14),(3,12),(4,13),(5,15)] (WE b1 to_ (by first | exact Qc2 hx hfr hs ho4 hfc (by assumption) | exact Qc2 hx hto_ hs ho6 htc2 (by assumption)) (by omega)) Qbg) ?_
      iterate 2 refine w_ ?_
      have hkI:=hI1.tr_ (word:=to_)
      have hkt:=hkI.tr
      have hkr:=Qhq (b:=b1) (word:=to_)
      obtain ⟨y,hy⟩:∃z,((Zg b1 to_).1.1.2)[(trI b1 to_).toNat]? =some z:=⟨_,aa (by omega)⟩
      have hc:=(Qec hy).2
      have hyi:=hkI.inn y (ao hy)
      have hpp:(trI b1 to_).toNat*2+0 < (Q8 (.pr (.sl 3 .int) (.sl 3 .int)) ((Zg b1 to_).1.1.2)).length:=by rw[Vn]; exact QqP (by omega)
      refine AC.wk (QdF (q:=23) rfl (by omega))<|AC.wk (JJ 26 (q:=23) (p:=(trI b1 to_).toNat*2+0) (E':=3) (e':= .int) (ys:=y.1) rfl (hc) (Fresh.of rfl) (aG rfl)) ?_
      apply dZ (i9 71 _ _ _ _ _ _ _ _ _ (i5 80 _ _ _ _ _ [io 85 (lf (.ept 23 2 ((trI b1 to_).toNat) 0)),io 86 (lf (.ept 23 2 ((trI b1 to_).toNat) 0)),io 87 (lR 26),io 88 _,⟨some 89,lR 27,[ar 27 3 .int (Q2 ltI (plI b nm) y.1),(26,none)]⟩,io 90 (lf (.ept 23 2 ((trI b1 to_).toNat) 0)),io 91 (lf (.ept 23 2 ((trI b1 to_).toNat) 0)),⟨none,lf (.val undef),[(23,some (.obx 237 2 (((Zg b1 to_).1.1.2).length) (Q8 (.pr (.sl 3 .int) (.sl 3 .int)) ((Zg b1 to_).1.1.2)) [((trI b1 to_).toNat*2+0, .ref 27),((trI b1 to_).toNat*2+0, .ref 26)]))]⟩])) [0,0,0,0,0,0,63,127,127,127,127,127,127,8191,127,127,127,131071,127,0,0,0]
      iterate 14 refine z_ ?_
      refine zz (fun _ h_=>ac (YY (h_.v rfl) (h_.en 23 rfl) (h_.v rfl) JW UO rfl (by omega) (by omega)) rfl)<|zz (fun _ h_=>ac (Yl (h_.v rfl) Qcd (by rw[(h_.en 23 rfl)]; rfl) rfl) rfl) ?_
      refine zz (fun _ h_=>ac (Ki (h_.v rfl) (h_.en 23 rfl) (by simp only[ovr,br,aA,hpp,hc,eq_self,if_true,if_false,↓reduceIte]) (h_.en 26 rfl) Ub rfl) rfl) ?_
      refine z_ ?_
      refine zz (fun _ h_=>ac (dP 27 [(0,26)] (U7 y.1 (plI b nm) (by omega)) Qah) rfl) ?_
      refine zz (fun _ h_=>ac (YY (h_.v rfl) (h_.en 23 rfl) (h_.v rfl) JW UO rfl (by omega) (by omega)) rfl)<|zz (fun _ h_=>ac (Yl (h_.v rfl) Qcd (by rw[(h_.en 23 rfl)]; rfl) rfl) rfl) ?_
      refine zz (fun _ h_=>ac (V3 (t:=26) (h_.v rfl) (h_.en 23 rfl) (by simp only[ovr,br,aA,hpp,hc,eq_self,if_true,if_false,↓reduceIte]) (h_.v rfl) (h_.en 27 rfl) Ub) rfl) ?_
      exact zN
      refine QbG (J10 _ ⟨((((Zg b1 to_).1.1.1,QaU ((Zg b1 to_).1.1.2) (trI b1 to_) (plI b nm)),(Zg b1 to_).1.2.1,(Zg b1 to_).1.2.2.1,(Zg b1 to_).1.2.2.2),(Zg b1 to_).2.1,(Zg b1 to_).2.2),(by exact Qqj (Yo hx hto_) htc2 (by assumption)),rfl⟩) ?_
      refine Wk.trans (Qbd (q:=23) (t:=27) (p:=(trI b1 to_).toNat*2+0) rfl (by simp only[ovr,br,aA,hpp,hc,eq_self,if_true,if_false,↓reduceIte]) rfl) ?_
      refine Wk.trans (QaW (q:=23) (e:=(.pr (.sl 3 .int) (.sl 3 .int))) (QaU ((Zg b1 to_).1.1.2) (trI b1 to_) (plI b nm)) rfl (by simp[QaU]) (by simp only[ovr]; rw[db,db,QfF hy,Qis hy])) ?_
      exact Wk.of [(16,23),(17,24),(18,14),(19,25)] rfl ⟨rfl,rfl,rfl,trivial⟩ ⟨rfl,(Qk (by first | rfl | simp)),(Qk (by first | rfl | simp)),(Qk (by first | rfl | simp)),(Qk (by first | rfl | simp)),(Qk (by first | rfl | simp)),trivial⟩ rfl rfl
   ·iterate 3 refine w_ ?_
    obtain ⟨fc,hc16⟩:∃z,fr[(0:Int).toNat]? =some z:=⟨_,b5 _ _ (by omega)⟩
    have hfc:=hc16
    refine w_ ?_
    refine lc (QF (Qa rfl) (QK 95 rfl) rfl) ?_
    refine w_ ?_
    refine cn_ (fun hb17 hb17'=> ?_) fun hb17 hb17'=> ?_
    ·refine w_ ?_
     refine QbG (J9 _ ⟨(plV b nm),(by exact QpN (Yo hx hfr) hfc (by assumption)),rfl⟩) ?_
     exact Wk.of [(12,2),(13,3),(14,11),(15,5)] rfl ⟨rfl,rfl,rfl,rfl,trivial⟩ ⟨rfl,rfl,rfl,rfl,rfl,rfl,trivial⟩ rfl rfl
    ·iterate 3 refine w_ ?_
     refine lc (dP 28 [(2,11),(3,2),(4,3)] (WE (plV b nm) fr (by first | exact Qc2 hx hfr hs ho4 hfc (by assumption) | exact Qc2 hx hto_ hs ho6 htc2 (by assumption)) (by omega)) Qbg) ?_
     iterate 2 refine w_ ?_
     have hkI:=hk.tr_ (word:=fr)
     have hkt:=hkI.tr
     have hkr:=Qhq (b:=plV b nm) (word:=fr)
     obtain ⟨y,hy⟩:∃z,((Zg (plV b nm) fr).1.1.2)[(trI (plV b nm) fr).toNat]? =some z:=⟨_,aa (by omega)⟩
     have hc:=(Qec hy).1
     have hyi:=hkI.inn y (ao hy)
     have hpp:(trI (plV b nm) fr).toNat*2+1 < (Q8 (.pr (.sl 3 .int) (.sl 3 .int)) ((Zg (plV b nm) fr).1.1.2)).length:=by rw[Vn]; exact Qq6 (by omega)
     refine AC.wk (QdF (q:=31) rfl (by omega))<|AC.wk (JJ 34 (q:=31) (p:=(trI (plV b nm) fr).toNat*2+1) (E':=3) (e':= .int) (ys:=y.2) rfl (hc) (Fresh.of rfl) (aG rfl)) ?_
     apply dZ (i9 44 _ _ _ _ _ _ _ _ _ (i5 53 _ _ _ _ _ [io 58 (lf (.ept 31 2 ((trI (plV b nm) fr).toNat) 0)),io 59 (lf (.ept 31 2 ((trI (plV b nm) fr).toNat) 1)),io 60 (lR 34),io 61 _,⟨some 62,lR 35,[ar 35 3 .int (Q2 ltI (plI b nm) y.2),(34,none)]⟩,io 63 (lf (.ept 31 2 ((trI (plV b nm) fr).toNat) 0)),io 64 (lf (.ept 31 2 ((trI (plV b nm) fr).toNat) 1)),⟨none,lf (.val undef),[(31,some (.obx 237 2 (((Zg (plV b nm) fr).1.1.2).length) (Q8 (.pr (.sl 3 .int) (.sl 3 .int)) ((Zg (plV b nm) fr).1.1.2)) [((trI (plV b nm) fr).toNat*2+1, .ref 35),((trI (plV b nm) fr).toNat*2+1, .ref 34)]))]⟩])) [0,0,0,0,0,0,63,127,127,127,127,127,127,8191,127,127,127,131071,127,0,0,0]
     iterate 14 refine z_ ?_
     refine zz (fun _ h_=>ac (YY (h_.v rfl) (h_.en 31 rfl) (h_.v rfl) JW UO rfl (by omega) (by omega)) rfl)<|zz (fun _ h_=>ac (Yl (h_.v rfl) Qcb (by rw[(h_.en 31 rfl)]; rfl) rfl) rfl) ?_
     refine zz (fun _ h_=>ac (Ki (h_.v rfl) (h_.en 31 rfl) (by simp only[ovr,br,aA,hpp,hc,eq_self,if_true,if_false,↓reduceIte]) (h_.en 34 rfl) Ub rfl) rfl) ?_
     refine z_ ?_
     refine zz (fun _ h_=>ac (dP 35 [(0,34)] (U7 y.2 (plI b nm) (by omega)) Qah) rfl) ?_
     refine zz (fun _ h_=>ac (YY (h_.v rfl) (h_.en 31 rfl) (h_.v rfl) JW UO rfl (by omega) (by omega)) rfl)<|zz (fun _ h_=>ac (Yl (h_.v rfl) Qcb (by rw[(h_.en 31 rfl)]; rfl) rfl) rfl) ?_
     refine zz (fun _ h_=>ac (V3 (t:=34) (h_.v rfl) (h_.en 31 rfl) (by simp only[ovr,br,aA,hpp,hc,eq_self,if_true,if_false,↓reduceIte]) (h_.v rfl) (h_.en 35 rfl) Ub) rfl) ?_
     exact zN
     refine QbG (J9 _ ⟨((((Zg (plV b nm) fr).1.1.1,QaM ((Zg (plV b nm) fr).1.1.2) (trI (plV b nm) fr) (plI b nm)),(Zg (plV b nm) fr).1.2.1,(Zg (plV b nm) fr).1.2.2.1,(Zg (plV b nm) fr).1.2.2.2),(Zg (plV b nm) fr).2.1,(Zg (plV b nm) fr).2.2),(by exact Qpz (Yo hx hfr) hfc (by assumption)),rfl⟩) ?_
     refine Wk.trans (Qbd (q:=31) (t:=35) (p:=(trI (plV b nm) fr).toNat*2+1) rfl (by simp only[ovr,br,aA,hpp,hc,eq_self,if_true,if_false,↓reduceIte]) rfl) ?_
     refine Wk.trans (QaW (q:=31) (e:=(.pr (.sl 3 .int) (.sl 3 .int))) (QaM ((Zg (plV b nm) fr).1.1.2) (trI (plV b nm) fr) (plI b nm)) rfl (by simp[QaM]) (by simp only[ovr]; rw[db,db,QgK hy,Qji hy])) ?_
     exact Wk.of [(12,31),(13,32),(14,11),(15,33)] rfl ⟨rfl,rfl,rfl,rfl,trivial⟩ ⟨rfl,(Qk (by first | rfl | simp)),(Qk (by first | rfl | simp)),(Qk (by first | rfl | simp)),(Qk (by first | rfl | simp)),(Qk (by first | rfl | simp)),trivial⟩ rfl rfl
  ·iterate 7 refine w_ ?_
   obtain ⟨fc,hc19⟩:∃z,fr[(0:Int).toNat]? =some z:=⟨_,b5 _ _ (by omega)⟩
   have hfc:=hc19
   refine w_ ?_
   refine lc (Zw (Qa rfl) (QK 95 rfl) rfl) ?_
   refine w_ ?_
   refine cd_ (fun hb20 hb20'=> ?_) fun hb20 hb20'=> ?_
   ·iterate 4 refine w_ ?_
    obtain ⟨tc2,hc22⟩:∃z,to_[(0:Int).toNat]? =some z:=⟨_,b5 _ _ (by omega)⟩
    have htc2:=hc22
    refine w_ ?_
    refine lc (Zw (Qa rfl) (QK 95 rfl) rfl) ?_
    refine w_ ?_
    refine cd_ (fun hb23 hb23'=> ?_) fun hb23 hb23'=> ?_
    ·refine w_ ?_
     refine QbG (J8 _ ⟨tx,(by exact Qpe (Yo hx hto_) htc2 (by assumption) (Yo hx hfr) hfc (by assumption) hx),rfl⟩) ?_
     exact Wk.of [] rfl ⟨rfl,rfl,rfl,rfl,rfl,trivial⟩ ⟨rfl,rfl,rfl,rfl,rfl,rfl,trivial⟩ rfl rfl
    ·iterate 4 refine w_ ?_
     refine QbG (J8 _ ⟨to_,(by exact QnI (Yo hx hto_) htc2 (by assumption)),rfl⟩) ?_
     exact Wk.of [] rfl ⟨rfl,rfl,rfl,rfl,rfl,trivial⟩ ⟨rfl,rfl,rfl,rfl,rfl,rfl,trivial⟩ rfl rfl
   ·iterate 7 refine w_ ?_
    obtain ⟨tc2,hc25⟩:∃z,to_[(0:Int).toNat]? =some z:=⟨_,b5 _ _ (by omega)⟩
    have htc2:=hc25
    refine w_ ?_
    refine lc (Zw (Qa rfl) (QK 95 rfl) rfl) ?_
    refine w_ ?_
    refine cd_ (fun hb26 hb26'=> ?_) fun hb26 hb26'=> ?_
    ·refine w_ ?_
     refine QbG (J8 _ ⟨fr,(by exact QpQ (Yo hx hto_) htc2 (by assumption) (Yo hx hfr) hfc (by assumption)),rfl⟩) ?_
     exact Wk.of [] rfl ⟨rfl,rfl,rfl,rfl,rfl,trivial⟩ ⟨rfl,rfl,rfl,rfl,rfl,rfl,trivial⟩ rfl rfl
    ·iterate 4 refine w_ ?_
     refine QbG (J8 _ ⟨to_,(by exact QnI (Yo hx hto_) htc2 (by assumption)),rfl⟩) ?_
     exact Wk.of [] rfl ⟨rfl,rfl,rfl,rfl,rfl,trivial⟩ ⟨rfl,rfl,rfl,rfl,rfl,rfl,trivial⟩ rfl rfl
 ·iterate 4 refine w_ ?_
  cases hb27:(decide (tc=42))
  ·have hb27':=ab hb27
   iterate 2 refine w_ ?_
   refine QbG (J3 _ ⟨text,(by exact QpI htc (by assumption)),rfl⟩) ?_
   exact Wk.of [] rfl ⟨rfl,rfl,(congrArg (fun z_=>some (lB z_)) ((hb27).symm)),trivial⟩ ⟨rfl,rfl,rfl,rfl,rfl,rfl,trivial⟩ rfl rfl
  ·have hb27':=ae hb27
   iterate 3 refine w_ ?_
   refine lc (show Does _ _ _ _ (St.put _ 17 (lf (dS (text.extract (1:Int).toNat text.size)))) from Qw (l:=(some 1)) (h:=none) (Qa rfl) (by exact (Ql rfl)) (by exact trivial) QR rfl (by first | omega | (simp only[ai,ah]; omega)) (by first | omega | (simp only[ai,ah]; omega)) (by first | omega | (simp only[ai,ah]; omega))) ?_
   iterate 2 refine w_ ?_
   refine QbG (J3 _ ⟨(text.extract (1:Int).toNat text.size),(by exact Qqb htc (by assumption)),rfl⟩) ?_
   exact Wk.of [] rfl ⟨rfl,rfl,(congrArg (fun z_=>some (lB z_)) ((hb27).symm)),trivial⟩ ⟨rfl,rfl,rfl,rfl,rfl,rfl,trivial⟩ rfl rfl
end Go.Proofs.YtfkmmpfdncopdaaGreat
namespace Go.Proofs.YtfkmmpfdncopdaaGreat
open Go.RowKit
set_option maxRecDepth 100000
set_option maxHeartbeats 4000000
def unN (a b:YM):YM:=(a.1+b.1,a.2++b.2.map (Qfo a.1))
def unL (n:Nat)(l:ZA):ZA:=if 0≤l.1 then (l.1+(n:Int),l.2) else l
def unS (a b:Zk):Zk:=(unN a.1 b.1,a.2.1++b.2.1,a.2.2.1++b.2.2.1.map (unL a.2.1.length),a.2.2.2++b.2.2.2)
theorem Qhi {l:List Int}{hi:Int}(h:Uj l hi):∀x∈l,0≤x∧x≤hi:=fun x hx=>by
  obtain ⟨k,hk⟩:=aM.1 hx
  exact (h k (aj.1 hk).1 x hk).1
theorem Qh9:∀{l:List Int} {hi:Int},Uj l hi→ -1≤hi→(l.length:Int)≤hi+1:=fun {l hi} h h0=>by
  have hstep:∀(k:Nat) x,l[k]? =some x→(k:Int)≤x:=fun k=>by
    induction k with
    | zero=>intro x hx; exact (h 0 (aj.1 hx).1 x hx).1.1
    | succ k ih=>
      intro x hx
      have h1:=(aj.1 hx).1
      obtain ⟨y,hy⟩:∃y,l[k]? =some y:=⟨_,aa (by omega)⟩
      have h2:=ih y hy
      have h3:=(h (k+1) h1 x hx).2 k y rfl hy
      omega
  by_cases hl:l.length=0
  · omega
  · obtain ⟨x, hx⟩ : ∃ x, l[l.length - 1]? = some x := ⟨_, aa (by omega)⟩
    have h1:=hstep _ x hx
    have h2:=(h _ (aj.1 hx).1 x hx).1.2
    omega
theorem XP {n:YM}(h:YP n):(1≤n.1∧n.1≤30)∧n.2.length≤24∧∀t∈n.2,(t.1.length≤30∧t.2.length≤30)∧(∀x∈t.1,0≤x∧x≤29)∧∀x∈t.2,0≤x∧x≤29:=by
  obtain ⟨h1,h2,h3⟩:=h
  refine ⟨h1,h2,fun t ht=> ?_⟩
  obtain ⟨_,k1,k2⟩:=h3 t ht
  have l1:=Qh9 k1 (by omega)
  have l2:=Qh9 k2 (by omega)
  exact ⟨⟨by omega,by omega⟩,fun x hx=>by have:=Qhi k1 x hx; omega,fun x hx=>by have:=Qhi k2 x hx; omega⟩
theorem VF (l:List Int)(d:Int)(hl:l.length≤100000)(hb:∀x∈l, -9223372036854775808≤x+d∧x+d≤9223372036854775807):FC Tryz.prog 378 [(false,[.dat (.sl 3 .int) l]),(false,[dI d])] [] 0 (Wv 3 .int (l.map fun x=>x+d)):=by
 refine Qj Tryz.func378 rfl rfl Tryz.ntmps378 fun O_ hO w0_ N0_ X_ h0_ f0_=> ?_
 refine acI 1 fun hi1=> ?_
 iterate 9 refine w_ ?_
 refine alL 8 fun hl2=> ?_
 iterate 4 refine w_ ?_
 refine AC.wk (Wk.nilS 0 5 3 .int rfl (Fresh.of rfl) (nlr rfl)) ?_
 refine lp0 l.length (fun k=>⟨[(1,lI d),(4,lf (.val (.slice none 0 0))),(5,lR 1),(8,lf (.dat (.sl 3 .int) l)),(9,lI (l.length:Int)),(10,lI (k:Int))],[ar 1 3 .int ((l.take k).map fun x=>x+d)]⟩) ?_ fun k hk3=> ?_
 · exact Wk.of [(1,0)] rfl ⟨rfl,rfl,rfl,rfl,rfl,rfl,trivial⟩ ⟨(Qk (by simp)),trivial⟩ rfl rfl
 iterate 4 refine w_ ?_
 cases hb4:(decide ((k:Int) < (l.length:Int)))
 ·have hb4':=ab hb4
  refine w_ ?_
  refine Qi ?_
  refine (?_:AC _ _ _ _ _)
  iterate 4 refine w_ ?_
  refine Qb<|fo_ hO ?_
  (rw[ZG (by omega)]; done)
 ·have hb4':=ae hb4
  iterate 5 refine w_ ?_
  obtain ⟨x5,hx6⟩:∃z,l[k]? =some z:=⟨_,aa (by omega)⟩
  have hbz:=hb _ (ao hx6)
  iterate 2 refine w_ ?_
  refine alI 13 fun hi7=> ?_
  iterate 7 refine w_ ?_
  refine lc (dBs 2 (e:= .int) Xy) ?_
  refine lc (dA 3 Wo) ?_
  refine w_ ?_
  refine Qd ?_
  refine (?_:AC _ _ _ _ _)
  iterate 3 refine w_ ?_
  refine Qd ?_
  refine l0_ ?_
  exact Wk.of [(1,3)] rfl ⟨rfl,rfl,rfl,rfl,rfl,rfl,trivial⟩ ⟨(Qk (by rw[Q0 hx6]; simp)),trivial⟩ rfl rfl
theorem Wm (n:YM)[Decidable (YP n)]:FC Tryz.prog 231 [(true,leaves JI n)] [] 0 (QU (lf (dB (decide (YP n))))):=QdS fun gh w vs h=>by
  obtain ⟨us,rfl,hr⟩:=h.agg1
  have hl:=hr.len
  match us,hl with
  | [a0,a1],_=>exact (Qbs a0 a1 n w hr).mono fun _ _ h=>KP h
theorem QpD {n:Nat}{l:ZA}(h:QbT n l): -1≤l.1∧l.1≤(n:Int):=by
  unfold QbT at h; omega
theorem Ju (a:Int×(List (List Int×List Int)))(b:Int×(List (List Int×List Int)))[∀s,Decidable (StgOk s)][∀s,Decidable (YP s)](hz:Ty.tot JI a≤2000000):FC Tryz.prog 354 [(true,[dI a.1, .dat (.sl 237 (.pr (.sl 3 .int) (.sl 3 .int))) a.2]),(true,[dI b.1, .dat (.sl 237 (.pr (.sl 3 .int) (.sl 3 .int))) b.2])] [] 0 (Ex (fun x:YM×Bool=>x.2=true→x.1=unN a b) (fun x:YM×Bool=>PV.tup [(true,[dI x.1.1, .ref 0]),(false,[dB x.2])]) (fun x:YM×Bool=>[ar 0 237 (.pr (.sl 3 .int) (.sl 3 .int)) x.1.2])):=by
 refine Qj Tryz.func354 rfl rfl Tryz.ntmps354 fun O_ hO w0_ N0_ X_ h0_ f0_=> ?_
 refine acG 0 0 fun hi1=> ?_
 refine acG 1 0 fun hi2=> ?_
 refine w_ ?_
 refine xbx 0 ?_
 refine xbx 1 ?_
 refine lc (xal 2 (.pr .int (.sl 237 (.pr (.sl 3 .int) (.sl 3 .int)))) JE) ?_
 iterate 5 refine w_ ?_
 refine lc (dK (Wm a) Km) ?_
 iterate 2 refine w_ ?_
 cases hb3:(decide (YP a))
 ·have hb3':=ab hb3
  iterate 7 refine w_ ?_
  refine lc (Qn Qc0 rfl (aw.1 rfl) rfl rfl) ?_
  iterate 3 refine w_ ?_
  refine AC.wk (QB 3 (p:=2) (off:=1) 237 (.pr (.sl 3 .int) (.sl 3 .int)) rfl rfl (Fresh.of rfl) (nlr rfl))<|Qb ?_
  subst hO
  refine QJ (x:=((0,[]),false)) [(0,3)] ?_ (Yn rfl (QD rfl rfl Qdg rfl) (Zf rfl)) rfl ⟨rfl,trivial⟩ rfl rfl
  exact fun h=>absurd h (by decide)
 ·have hb3':=ae hb3
  refine w_ ?_
  refine lgy rfl rfl (dK (Wm b) Km) ?_
  iterate 3 refine w_ ?_
  cases hb4:(decide (YP b))
  ·have hb4':=ab hb4
   iterate 2 refine w_ ?_
   refine lc (Qn Qc0 rfl (aw.1 rfl) rfl rfl) ?_
   iterate 3 refine w_ ?_
   refine AC.wk (QB 4 (p:=2) (off:=1) 237 (.pr (.sl 3 .int) (.sl 3 .int)) rfl rfl (Fresh.of rfl) (nlr rfl))<|Qb ?_
   subst hO
   refine QJ (x:=((0,[]),false)) [(0,4)] ?_ (Yn rfl (QD rfl rfl Qdg rfl) (Zf rfl)) rfl ⟨rfl,trivial⟩ rfl rfl
   exact fun h=>absurd h (by decide)
  ·have hb4':=ae hb4
   iterate 4 refine w_ ?_
   refine lc (dG 5 (QaP a hz) QfH) ?_
   refine lc (xal 6 (.pr .int (.sl 237 (.pr (.sl 3 .int) (.sl 3 .int)))) JE) ?_
   iterate 7 refine w_ ?_
   refine lc (Wg (Qa rfl) (Qa rfl) rfl (by first | omega | (have h1:=(XP ‹YP a›).1; have h2:=(XP ‹YP b›).1; omega))) ?_
   iterate 7 refine w_ ?_
   refine alL 27 fun hl5=> ?_
   iterate 4 refine w_ ?_
   refine lp0 b.2.length (fun k=>⟨[(2,lP 0 0),(4,lP 2 0),(5,lB false),(6,lP 6 0),(27,lf (.dat (.sl 237 (.pr (.sl 3 .int) (.sl 3 .int))) b.2)),(28,lI (b.2.length:Int)),(29,lI (k:Int))],[bx 0 80 [dI a.1, .dat (.sl 237 (.pr (.sl 3 .int) (.sl 3 .int))) a.2],bx 2 80 [dI 0, .val (.slice none 0 0)],bx 6 80 [dI (a.1+b.1), .ref 7],ar 7 237 (.pr (.sl 3 .int) (.sl 3 .int)) (a.2++(b.2.take k).map (Qfo a.1))]⟩) ?_ fun k hk6=> ?_
   · exact Wk.of [(7,5)] rfl ⟨rfl,rfl,rfl,rfl,rfl,rfl,rfl,trivial⟩ ⟨rfl,rfl,rfl,(Qk (by simp)),trivial⟩ rfl rfl
   iterate 4 refine w_ ?_
   cases hb7:(decide ((k:Int) < (b.2.length:Int)))
   ·have hb7':=ab hb7
    refine w_ ?_
    refine Qi ?_
    refine (?_:AC _ _ _ _ _)
    iterate 3 refine w_ ?_
    refine lc (VB (Wm (a.1+b.1,a.2++(b.2.take k).map (Qfo a.1))) Km ⟨_,_,rfl,(QbO (Qm rfl) ⟨_,_,rfl, .inl rfl,⟨_,_,rfl, .inr ⟨_,_,_,_,rfl,rfl,rfl⟩,rfl⟩⟩),rfl⟩ rfl rfl rfl) ?_
    iterate 2 refine w_ ?_
    cases hb8:(decide (YP (a.1+b.1,a.2++(b.2.take k).map (Qfo a.1))))
    ·have hb8':=ab hb8
     iterate 2 refine w_ ?_
     refine lc (Qn Qc0 rfl (aw.1 rfl) rfl rfl) ?_
     iterate 3 refine w_ ?_
     refine AC.wk (QB 8 (p:=2) (off:=1) 237 (.pr (.sl 3 .int) (.sl 3 .int)) rfl rfl (Fresh.of rfl) (nlr rfl))<|Qb ?_
     subst hO
     refine QJ (x:=((0,[]),false)) [(0,8)] ?_ (Yn rfl (QD rfl rfl Qdg rfl) (Zf rfl)) rfl ⟨rfl,trivial⟩ rfl rfl
     exact fun h=>absurd h (by decide)
    ·have hb8':=ae hb8
     iterate 7 refine w_ ?_
     refine Qb ?_
     subst hO
     refine QJ (x:=((a.1+b.1,a.2++(b.2.take k).map (Qfo a.1)),true)) [(0,7)] ?_ (Yn rfl (QD rfl rfl Qdg rfl) (Zf rfl)) rfl ⟨rfl,trivial⟩ rfl rfl
     (intro _; rw[ZG (by omega)]; rfl)
   ·have hb7':=ae hb7
    iterate 5 refine w_ ?_
    obtain ⟨x9,hx10⟩:∃z,b.2[k]? =some z:=⟨_,aa (by omega)⟩
    iterate 2 refine w_ ?_
    refine lc (xal 9 (.pr (.sl 3 .int) (.sl 3 .int)) Vp) ?_
    iterate 2 refine w_ ?_
    apply dV (i6 33 _ _ _ _ _ _ [⟨some 39,lR 10,[ar 10 3 .int (x9.1.map fun x=>x+a.1)]⟩,io 40 (lP 9 1),io 41 (lf (.dat (.sl 3 .int) x9.2)),io 42 (lP 0 0),io 43 (lI a.1),⟨some 44,lR 11,[ar 11 3 .int (x9.2.map fun x=>x+a.1)]⟩,io 45 (ag [.ref 10, .ref 11]),⟨some 46,lR 12,[ar 12 237 (.pr (.sl 3 .int) (.sl 3 .int)) ([(x9.1.map fun x=>x+a.1,x9.2.map fun x=>x+a.1)]),(10,none),(11,none)]⟩,⟨some 47,lR 13,[ar 13 237 (.pr (.sl 3 .int) (.sl 3 .int)) ((a.2++(b.2.take k).map (Qfo a.1))++([(x9.1.map fun x=>x+a.1,x9.2.map fun x=>x+a.1)])),(7,none),(12,none)]⟩,io 48 _,⟨none,lf (.val undef),[bx 6 80 [dI (a.1+b.1), .ref 13]]⟩]) [0,0,3,3,15,15,3,127,127,511,511,3,3,3,0,0,0]
    iterate 6 refine z_ ?_
    refine zz (fun _ h_=>ac (dO 10 (VF x9.1 a.1 (by have:=((XP ‹YP b›).2.2 _ (ao hx10)).1; omega) (fun z hz_=>by have h1:=((XP ‹YP b›).2.2 _ (ao hx10)).2.1 z hz_; have h2:=(XP ‹YP a›).1; omega)) QaZ) rfl) ?_
    iterate 4 refine z_ ?_
    refine zz (fun _ h_=>ac (dO 11 (VF x9.2 a.1 (by have:=((XP ‹YP b›).2.2 _ (ao hx10)).1; omega) (fun z hz_=>by have h1:=((XP ‹YP b›).2.2 _ (ao hx10)).2.2 z hz_; have h2:=(XP ‹YP a›).1; omega)) QaZ) rfl) ?_
    refine zz (fun _ h_=>ac (Qn H4 ⟨_,_,rfl,(h_.w rfl),⟨_,_,rfl,(h_.w rfl),rfl⟩⟩ (aw.1 (by simp only[Q9,VM,bm,bI]; rw[(h_.en 10 rfl),(h_.en 11 rfl)]; rfl)) rfl rfl) rfl)<|zz (fun _ h_=>ac (XO 12 (e:=(.pr (.sl 3 .int) (.sl 3 .int))) JW UO Vp rfl ⟨_,_,rfl,(h_.w rfl),rfl⟩ (aw.1 (by simp only[Q9,VM,bm,bI]; rw[(h_.en 10 rfl),(h_.en 11 rfl)]; rfl)) ⟨_,_,_,_,rfl,⟨[.ref 10],[.ref 11],_,_,_,_,rfl,rfl,(.inl ⟨_,rfl,(h_.en 10 rfl),rfl⟩),(.inl ⟨_,rfl,(h_.en 11 rfl),rfl⟩),rfl⟩,⟨rfl,rfl⟩,rfl⟩ (by decide) rfl rfl (h_.fr 12 rfl) (nlr rfl)) rfl) ?_
    refine zz (fun _ h_=>ac (dA 13 H7 (hb:=by (have h1:=(XP ‹YP a›).2.1; have h2:=(XP ‹YP b›).2.1; simp only[ak,aQ,ap,aq,aD]; omega))) rfl) ?_
    refine z_ ?_
    refine zz (fun _ h_=>ac (Zy (h_.v rfl) (h_.en 6 rfl) (h_.w rfl) (by simp only[Q9,VM,bm,bI]; rw[(h_.en 13 rfl)]; rfl) Qj1 rfl) rfl) ?_
    exact zN
    refine (?_:AC _ _ _ _ _)
    refine w_ ?_
    refine lc (Wg (Qa rfl) (Ql rfl) rfl (by first | omega | (have h1:=(XP ‹YP a›).1; have h2:=(XP ‹YP b›).1; omega))) ?_
    refine w_ ?_
    refine Qd ?_
    refine l0_ ?_
    exact Wk.of [(7,13)] rfl ⟨rfl,rfl,rfl,rfl,rfl,rfl,rfl,trivial⟩ ⟨rfl,rfl,rfl,(Qk (by rw[Q0 hx10]; simp[Qfo])),trivial⟩ rfl rfl
theorem KZ (a:(Int×(List (List Int×List Int)))×(List (ByteArray×Int))×(List (Int×Bool))×ByteArray)(b:(Int×(List (List Int×List Int)))×(List (ByteArray×Int))×(List (Int×Bool))×ByteArray)[∀s,Decidable (StgOk s)][∀s,Decidable (YP s)](hz:Ty.tot Hj a≤2000000)(hzb:Ty.tot Hj b≤2000000):FC Tryz.prog 304 [(true,[dI a.1.1, .dat (.sl 237 (.pr (.sl 3 .int) (.sl 3 .int))) a.1.2, .dat (.sl 203 (.pr .str .int)) a.2.1, .dat (.sl 120 (.pr .int .bool)) a.2.2.1,dS a.2.2.2]),(true,[dI b.1.1, .dat (.sl 237 (.pr (.sl 3 .int) (.sl 3 .int))) b.1.2, .dat (.sl 203 (.pr .str .int)) b.2.1, .dat (.sl 120 (.pr .int .bool)) b.2.2.1,dS b.2.2.2])] [] 0 (Ex (fun x:Zk×Bool=>x.2=true→x.1=unS a b) (fun x:Zk×Bool=>PV.tup [(true,[dI x.1.1.1, .ref 0, .ref 1, .ref 2,dS x.1.2.2.2]),(false,[dB x.2])]) (fun x:Zk×Bool=>[ar 0 237 (.pr (.sl 3 .int) (.sl 3 .int)) x.1.1.2,ar 1 203 (.pr .str .int) x.1.2.1,ar 2 120 (.pr .int .bool) x.1.2.2.1])):=by
 obtain ⟨hz1,hz2,hz3⟩:=QcE hz
 obtain ⟨hy1,hy2,hy3⟩:=QcE hzb
 refine Qj Tryz.func304 rfl rfl Tryz.ntmps304 fun O_ hO w0_ N0_ X_ h0_ f0_=> ?_
 refine acG 0 0 fun hi1=> ?_
 refine acG 1 0 fun hi2=> ?_
 refine w_ ?_
 refine xbx 0 ?_
 refine xbx 1 ?_
 refine lc (xal 2 (.pr (.pr .int (.sl 237 (.pr (.sl 3 .int) (.sl 3 .int)))) (.pr (.sl 203 (.pr .str .int)) (.pr (.sl 120 (.pr .int .bool)) .str))) Kg) ?_
 iterate 7 refine w_ ?_
 refine Q4 3 [] (Ju a.1 b.1 hz1) Qfs e2_ trivial rfl (fun _=>rfl) (fun _=>⟨(Fresh.of rfl),trivial⟩) (nlr rfl) fun x3 hx4=> ?_
 iterate 3 refine w_ ?_
 refine lc (xal 4 (.pr .int (.sl 237 (.pr (.sl 3 .int) (.sl 3 .int)))) JE) ?_
 iterate 8 refine w_ ?_
 cases hb5:(x3.2)
 ·iterate 12 refine w_ ?_
  refine lc (Qn Qa3 rfl (aw.1 rfl) rfl rfl) ?_
  iterate 3 refine w_ ?_
  refine AC.wk (QB 5 (p:=2) (off:=1) 237 (.pr (.sl 3 .int) (.sl 3 .int)) rfl rfl (Fresh.of rfl) (nlr rfl))<|AC.wk (QB 6 (p:=2) (off:=2) 203 (.pr .str .int) rfl rfl (Fresh.of rfl) (nlr rfl))<|AC.wk (QB 7 (p:=2) (off:=3) 120 (.pr .int .bool) rfl rfl (Fresh.of rfl) (nlr rfl))<|Qb ?_
  subst hO
  refine QJ (x:=(((0,[]),([],([],ByteArray.empty))),false)) [(0,5),(1,6),(2,7)] ?_ (Yn rfl (QD rfl rfl Yh rfl) (Zf rfl)) rfl ⟨rfl,rfl,rfl,trivial⟩ rfl rfl
  exact fun h=>absurd h (by decide)
 ·refine w_ ?_
  refine lgy rfl rfl (dK (Xd a) VD) ?_
  iterate 3 refine w_ ?_
  cases hb6:(decide (StgOk a))
  ·have hb6':=ab hb6
   iterate 7 refine w_ ?_
   refine lc (Qn Qa3 rfl (aw.1 rfl) rfl rfl) ?_
   iterate 3 refine w_ ?_
   refine AC.wk (QB 8 (p:=2) (off:=1) 237 (.pr (.sl 3 .int) (.sl 3 .int)) rfl rfl (Fresh.of rfl) (nlr rfl))<|AC.wk (QB 9 (p:=2) (off:=2) 203 (.pr .str .int) rfl rfl (Fresh.of rfl) (nlr rfl))<|AC.wk (QB 10 (p:=2) (off:=3) 120 (.pr .int .bool) rfl rfl (Fresh.of rfl) (nlr rfl))<|Qb ?_
   subst hO
   refine QJ (x:=(((0,[]),([],([],ByteArray.empty))),false)) [(0,8),(1,9),(2,10)] ?_ (Yn rfl (QD rfl rfl Yh rfl) (Zf rfl)) rfl ⟨rfl,rfl,rfl,trivial⟩ rfl rfl
   exact fun h=>absurd h (by decide)
  ·have hb6':=ae hb6
   refine w_ ?_
   refine lgy rfl rfl (dK (Xd b) VD) ?_
   iterate 3 refine w_ ?_
   cases hb7:(decide (StgOk b))
   ·have hb7':=ab hb7
    iterate 2 refine w_ ?_
    refine lc (Qn Qa3 rfl (aw.1 rfl) rfl rfl) ?_
    iterate 3 refine w_ ?_
    refine AC.wk (QB 11 (p:=2) (off:=1) 237 (.pr (.sl 3 .int) (.sl 3 .int)) rfl rfl (Fresh.of rfl) (nlr rfl))<|AC.wk (QB 12 (p:=2) (off:=2) 203 (.pr .str .int) rfl rfl (Fresh.of rfl) (nlr rfl))<|AC.wk (QB 13 (p:=2) (off:=3) 120 (.pr .int .bool) rfl rfl (Fresh.of rfl) (nlr rfl))<|Qb ?_
    subst hO
    refine QJ (x:=(((0,[]),([],([],ByteArray.empty))),false)) [(0,11),(1,12),(2,13)] ?_ (Yn rfl (QD rfl rfl Yh rfl) (Zf rfl)) rfl ⟨rfl,rfl,rfl,trivial⟩ rfl rfl
    exact fun h=>absurd h (by decide)
   ·have hb7':=ae hb7
    iterate 2 refine w_ ?_
    apply dW [io 32 _,⟨some 33,lR 14,[ar 14 203 (.pr .str .int) ([])]⟩,io 34 (lP 0 2),io 35 (lf (.dat (.sl 203 (.pr .str .int)) a.2.1)),⟨some 36,lR 15,[ar 15 203 (.pr .str .int) (([])++a.2.1),(14,none)]⟩,io 37 (lP 1 2),io 38 (lf (.dat (.sl 203 (.pr .str .int)) b.2.1)),⟨some 39,lR 16,[ar 16 203 (.pr .str .int) ((([])++a.2.1)++b.2.1),(15,none)]⟩,⟨some 40,lR 17,[ar 17 120 (.pr .int .bool) ([])]⟩,io 41 (lP 0 3),io 42 (lf (.dat (.sl 120 (.pr .int .bool)) a.2.2.1)),⟨some 43,lR 18,[ar 18 120 (.pr .int .bool) (([])++a.2.2.1),(17,none)]⟩,io 44 (lP 0 4),io 45 (lf (dS a.2.2.2)),io 46 (lP 1 4),io 47 (lf (dS b.2.2.2)),io 48 (lf (dS (a.2.2.2++b.2.2.2))),io 49 (ag [dI x3.1.1, .ref 3, .ref 16, .ref 18,dS (a.2.2.2++b.2.2.2)]),⟨some 8,lP 19 0,[bx 19 83 [dI 0, .val (.slice none 0 0), .val (.slice none 0 0), .val (.slice none 0 0),dS ByteArray.empty]]⟩,⟨none,lf (.val undef),[bx 19 83 [dI x3.1.1, .ref 3, .ref 16, .ref 18,dS (a.2.2.2++b.2.2.2)]]⟩] [0,1,3,3,1,31,31,1,255,511,511,1,4095,4095,16383,16383,4095,0,262143,0]
    refine z_ ?_
    refine zz (fun _ h_=>ac (dBs 14 (e:=(.pr .str .int)) KT) rfl) ?_
    iterate 2 refine z_ ?_
    refine zz (fun _ h_=>ac (Zh 15 (h_.v rfl) (h_.en 14 rfl) (Evl.rep (h_.v rfl)) rfl QgE H2 (by (simp only[ak,aQ,ap,aq,aD]; omega)) rfl (h_.fr 15 rfl) (nlr rfl)) rfl) ?_
    iterate 2 refine z_ ?_
    refine zz (fun _ h_=>ac (Zh 16 (h_.v rfl) (h_.en 15 rfl) (Evl.rep (h_.v rfl)) rfl QgE H2 (by (simp only[ak,aQ,ap,aq,aD]; omega)) rfl (h_.fr 16 rfl) (nlr rfl)) rfl) ?_
    refine zz (fun _ h_=>ac (dBs 17 (e:=(.pr .int .bool)) Xv) rfl) ?_
    iterate 2 refine z_ ?_
    refine zz (fun _ h_=>ac (Zh 18 (h_.v rfl) (h_.en 17 rfl) (Evl.rep (h_.v rfl)) rfl QoR KK (by (simp only[ak,aQ,ap,aq,aD]; omega)) rfl (h_.fr 18 rfl) (nlr rfl)) rfl) ?_
    iterate 4 refine z_ ?_
    refine zz (fun _ h_=>ac (QH (h_.v rfl) (h_.v rfl) rfl (by (have h1:=QcU hz; have h2:=QcU hzb; omega))) rfl)<|zz (fun _ h_=>ac (Qn Qa3 ⟨_,_,rfl,(h_.w rfl),⟨_,_,rfl,(h_.w rfl),⟨_,_,rfl,(h_.w rfl),⟨_,_,rfl,(h_.w rfl),rfl⟩⟩⟩⟩ (aw.1 (by show ((Q9 _ [dI x3.1.1, .ref 3]&&(Q9 _ [.ref 16]&&(Q9 _ [.ref 18]&&(Q9 _ [dS (a.2.2.2++b.2.2.2)]&&true)))))=true; simp only[Q9,VM,bm,bI]; rw[(h_.en 3 rfl),(h_.en 16 rfl),(h_.en 18 rfl)]; rfl)) rfl rfl) rfl)<|zz (fun _ h_=>ac (Kr 19 (.pr (.pr .int (.sl 237 (.pr (.sl 3 .int) (.sl 3 .int)))) (.pr (.sl 203 (.pr .str .int)) (.pr (.sl 120 (.pr .int .bool)) .str))) Kg rfl rfl (h_.fr 19 rfl) (nlr rfl)) rfl)<|zz (fun _ h_=>ac (Zy (h_.v rfl) (h_.en 19 rfl) (h_.w rfl) (by show Q9 _ [dI x3.1.1, .ref 3, .ref 16, .ref 18,dS (a.2.2.2++b.2.2.2)]=true; simp only[Q9,VM,bm,bI]; rw[(h_.en 3 rfl),(h_.en 16 rfl),(h_.en 18 rfl)]; rfl) Yh rfl) rfl) ?_
    exact zN
    iterate 4 refine w_ ?_
    refine alL 51 fun hl8=> ?_
    iterate 4 refine w_ ?_
    refine lp0 b.2.2.1.length (fun k=>⟨[(2,lP 0 0),(4,lP 2 0),(5,lB false),(8,lP 19 0),(51,lf (.dat (.sl 120 (.pr .int .bool)) b.2.2.1)),(52,lI (b.2.2.1.length:Int)),(53,lI (k:Int))],[bx 0 83 [dI a.1.1, .dat (.sl 237 (.pr (.sl 3 .int) (.sl 3 .int))) a.1.2, .dat (.sl 203 (.pr .str .int)) a.2.1, .dat (.sl 120 (.pr .int .bool)) a.2.2.1,dS a.2.2.2],bx 2 83 [dI 0, .val (.slice none 0 0), .val (.slice none 0 0), .val (.slice none 0 0),dS ByteArray.empty],ar 3 237 (.pr (.sl 3 .int) (.sl 3 .int)) x3.1.2,ar 16 203 (.pr .str .int) ((([])++a.2.1)++b.2.1),bx 19 83 [dI x3.1.1, .ref 3, .ref 16, .ref 20,dS (a.2.2.2++b.2.2.2)],ar 20 120 (.pr .int .bool) (a.2.2.1++(b.2.2.1.take k).map (unL a.2.1.length))]⟩) ?_ fun k hk9=> ?_
    · exact Wk.of [(20,18)] rfl ⟨rfl,rfl,rfl,rfl,rfl,rfl,rfl,trivial⟩ ⟨rfl,rfl,rfl,rfl,rfl,(Qk (by simp)),trivial⟩ rfl rfl
    iterate 4 refine w_ ?_
    cases hb10:(decide ((k:Int) < (b.2.2.1.length:Int)))
    ·have hb10':=ab hb10
     refine w_ ?_
     refine Qi ?_
     refine (?_:AC _ _ _ _ _)
     iterate 3 refine w_ ?_
     refine lc (VB (Xd (x3.1,(([])++a.2.1)++b.2.1,a.2.2.1++(b.2.2.1.take k).map (unL a.2.1.length),a.2.2.2++b.2.2.2)) VD ⟨_,_,rfl,(QbO (Qm rfl) ⟨_,_,rfl, .inl rfl,⟨_,_,rfl, .inr ⟨_,_,_,_,rfl,rfl,rfl⟩,⟨_,_,rfl, .inr ⟨_,_,_,_,rfl,rfl,rfl⟩,⟨_,_,rfl, .inr ⟨_,_,_,_,rfl,rfl,rfl⟩,⟨_,_,rfl, .inl rfl,rfl⟩⟩⟩⟩⟩),rfl⟩ rfl rfl rfl) ?_
     iterate 2 refine w_ ?_
     cases hb11:(decide (StgOk (x3.1,(([])++a.2.1)++b.2.1,a.2.2.1++(b.2.2.1.take k).map (unL a.2.1.length),a.2.2.2++b.2.2.2)))
     ·have hb11':=ab hb11
      iterate 2 refine w_ ?_
      refine lc (Qn Qa3 rfl (aw.1 rfl) rfl rfl) ?_
      iterate 3 refine w_ ?_
      refine AC.wk (QB 21 (p:=2) (off:=1) 237 (.pr (.sl 3 .int) (.sl 3 .int)) rfl rfl (Fresh.of rfl) (nlr rfl))<|AC.wk (QB 22 (p:=2) (off:=2) 203 (.pr .str .int) rfl rfl (Fresh.of rfl) (nlr rfl))<|AC.wk (QB 23 (p:=2) (off:=3) 120 (.pr .int .bool) rfl rfl (Fresh.of rfl) (nlr rfl))<|Qb ?_
      subst hO
      refine QJ (x:=(((0,[]),([],([],ByteArray.empty))),false)) [(0,21),(1,22),(2,23)] ?_ (Yn rfl (QD rfl rfl Yh rfl) (Zf rfl)) rfl ⟨rfl,rfl,rfl,trivial⟩ rfl rfl
      exact fun h=>absurd h (by decide)
     ·have hb11':=ae hb11
      iterate 7 refine w_ ?_
      refine Qb ?_
      subst hO
      refine QJ (x:=(((x3.1.1,x3.1.2),((([])++a.2.1)++b.2.1,(a.2.2.1++(b.2.2.1.take k).map (unL a.2.1.length),a.2.2.2++b.2.2.2))),true)) [(0,3),(1,16),(2,20)] ?_ (Yn rfl (QD rfl rfl Yh rfl) (Zf rfl)) rfl ⟨rfl,rfl,rfl,trivial⟩ rfl rfl
      (intro _; rw[ZG (by omega)]; simp_all [unS]; done)
    ·have hb10':=ae hb10
     iterate 5 refine w_ ?_
     obtain ⟨x12,hx13⟩:∃z,b.2.2.1[k]? =some z:=⟨_,aa (by omega)⟩
     have hlb:=QpD (StgOk.labs ‹StgOk b› _ (ao hx13))
     iterate 2 refine w_ ?_
     refine lc (xal 24 (.pr .int .bool) Xv) ?_
     iterate 6 refine w_ ?_
     refine alI 58 fun hi14=> ?_
     iterate 2 refine w_ ?_
     cases hb15:(decide (0≤x12.1))
     ·have hb15':=ab hb15
      iterate 6 refine w_ ?_
      refine lc (dBs 25 (e:=(.pr .int .bool)) Xv (hab:=by exact ⟨_,_,_,_,rfl,⟨[dI x12.1],[dB x12.2],_,_,_,_,rfl,rfl,⟨rfl,rfl⟩,⟨rfl,rfl⟩,rfl⟩,⟨rfl,rfl⟩,rfl⟩)) ?_
      refine lc (dA 26 KK (hb:=by (simp only[ak,aQ,ap,aq,aD]; omega))) ?_
      iterate 2 refine w_ ?_
      refine Qd ?_
      refine (?_:AC _ _ _ _ _)
      iterate 3 refine w_ ?_
      refine Qd ?_
      refine l0_ ?_
      exact Wk.of [(20,26)] rfl ⟨rfl,rfl,rfl,rfl,rfl,rfl,rfl,trivial⟩ ⟨rfl,rfl,rfl,rfl,rfl,(Qk (by rw[Q0 hx13]; simp[unL, *])),trivial⟩ rfl rfl
     ·have hb15':=ae hb15
      iterate 6 refine w_ ?_
      refine alL 63 fun hl16=> ?_
      iterate 9 refine w_ ?_
      refine lc (dBs 27 (e:=(.pr .int .bool)) Xv (hab:=by exact ⟨_,_,_,_,rfl,⟨[dI (x12.1+(a.2.1.length:Int))],[dB x12.2],_,_,_,_,rfl,rfl,⟨rfl,rfl⟩,⟨rfl,rfl⟩,rfl⟩,⟨rfl,rfl⟩,rfl⟩)) ?_
      refine lc (dA 28 KK (hb:=by (simp only[ak,aQ,ap,aq,aD]; omega))) ?_
      iterate 2 refine w_ ?_
      refine Qd ?_
      refine (?_:AC _ _ _ _ _)
      iterate 3 refine w_ ?_
      refine Qd ?_
      refine l0_ ?_
      exact Wk.of [(20,28)] rfl ⟨rfl,rfl,rfl,rfl,rfl,rfl,rfl,trivial⟩ ⟨rfl,rfl,rfl,rfl,rfl,(Qk (by rw[Q0 hx13]; simp[unL, *])),trivial⟩ rfl rfl
end Go.Proofs.YtfkmmpfdncopdaaGreat
