/- Walks over abstract states: graphs built from words, an arc. -/
import Derived.Test.YtndabgcpnmeeoaaGreatOCc
import Derived.Test.YtndabgcpnmeeoaaGreatOWj
import Derived.Test.YtndabgcpnmeeoaaGreatOUj
import Derived.Test.YtndabgcpnmeeoaaGreatODd
set_option linter.unusedSimpArgs false
set_option linter.unusedVariables false
set_option linter.unusedSectionVars false
namespace Go.Proofs.YtndabgcpnmeeoaaGreat
open Go.RowKit
set_option maxRecDepth 100000
set_option maxHeartbeats 4000000
section
variable {text tx fr to_ nm:ByteArray}{c c0:UInt8}{b b1:DB}{p:Int}
theorem Qwt (h:okA text=true):1≤text.size∧2≤(ZJ (H1 text) 62).length∧(1≤(XO text 0).size∧(b0 (XO text 0)=95∨1≤(QbE (XO text 0)).size))∧1≤(XO text 1).size∧(b0 (XO text 1)=95∨1≤(QbE (XO text 1)).size):=by
 unfold okA okW at h
 simp only[aM,cy,aS] at h
 exact ⟨h.1,h.2.1,h.2.2.1,h.2.2.2⟩
theorem Wq (a:text[(0:Int).toNat]? =some c):b0 text=c:=by unfold b0; rw[show text[0]? =some c from a]; rfl
theorem QxB (a:text[(0:Int).toNat]? =some c)(h:c=42):text.extract (1:Int).toNat text.size=H1 text:=by unfold H1; rw[Wq a,if_pos h]; rfl
theorem QxA (a:text[(0:Int).toNat]? =some c)(h:¬c=42):text=H1 text:=by unfold H1; rw[Wq a,if_neg h]
theorem YV {k:Nat}(a:tx=H1 text)(h:(ZJ tx 62)[k]? =some fr):XO text k=fr:=by unfold XO; rw[← a,h]; rfl
theorem Qvo (a:XO text 1=to_)(d:to_[(0:Int).toNat]? =some c)(h:c=95):to_=QbD text:=by unfold QbD; rw[a,Wq d,if_pos h]
theorem Qx3 (d:XO text 1=to_)(f:to_[(0:Int).toNat]? =some c)(h:¬c=95)(h0:XO text 0=fr)(a:fr[(0:Int).toNat]? =some c0)(e:c0=95):fr=QbD text:=by unfold QbD; rw[d,Wq f,if_neg h,h0,Wq a,if_pos e]
theorem Qx4 (d:XO text 1=to_)(f:to_[(0:Int).toNat]? =some c)(h:¬c=95)(h0:XO text 0=fr)(a:fr[(0:Int).toNat]? =some c0)(e:¬c0=95)(g:tx=H1 text):tx=QbD text:=by unfold QbD; rw[d,Wq f,if_neg h,h0,Wq a,if_neg e,g]
theorem Qxq (h0:XO text 0=fr)(a:fr[(0:Int).toNat]? =some c0)(h:c0=95):b=ar1 p b text:=by unfold ar1; rw[h0,Wq a,if_pos h]
theorem Qxs (h0:XO text 1=to_)(a:to_[(0:Int).toNat]? =some c0)(h:c0=95):b=ar2 p b text:=by unfold ar2; rw[h0,Wq a,if_pos h]
theorem Qxr (h0:XO text 0=fr)(a:fr[(0:Int).toNat]? =some c0)(h:¬c0=95):((((Zv b fr).1.1.1,QfJ (Zv b fr).1.1.2 (trI b fr) p),(Zv b fr).1.2.1,(Zv b fr).1.2.2.1,(Zv b fr).1.2.2.2),(Zv b fr).2.1,(Zv b fr).2.2)=ar1 p b text:=by unfold ar1; rw[h0,Wq a,if_neg h]
theorem Qxt (h0:XO text 1=to_)(a:to_[(0:Int).toNat]? =some c0)(h:¬c0=95):((((Zv b to_).1.1.1,QfK (Zv b to_).1.1.2 (trI b to_) p),(Zv b to_).1.2.1,(Zv b to_).1.2.2.1,(Zv b to_).1.2.2.2),(Zv b to_).2.1,(Zv b to_).2.2)=ar2 p b text:=by unfold ar2; rw[h0,Wq a,if_neg h]
theorem QiI {k:Nat}(e:tx=H1 text)(a:(ZJ tx 62)[k]? =some fr)(j:text.size≤1000)(d:b0 (XO text k)=95∨1≤(QbE (XO text k)).size)(g:fr[(0:Int).toNat]? =some c)(h:¬c=95):fr.size≤1000∧1≤(QbE fr).size:=by
 have f:=QaU (ai a)
 have i:(H1 text).size≤text.size:=by unfold H1; split; simp only[ba]; omega; exact aL _
 rw[YV e a,Wq g] at d
 rw[e] at f
 exact ⟨by omega,d.resolve_left h⟩
theorem QkS {a:DB}(f:text[(0:Int).toNat]? =some c)(h:¬c=42)(g:nm=QbD text)(d:b1=ar1 (plI b nm) (plV b nm) text)(e:a=ar2 (plI b nm) b1 text):arV b text=a:=by
 rw[e,d,g]; unfold arV; dsimp only; rw[Wq f,if_neg h]
theorem QkT {a:DB}(f:text[(0:Int).toNat]? =some c)(h:c=42)(g:nm=QbD text)(d:b1=ar1 (plI b nm) (plV b nm) text)(e:a=ar2 (plI b nm) b1 text):arV b text=((a.1.1,a.1.2.1,a.1.2.2.1,QsC a.1.2.2.2 (plI b nm)),a.2.1,a.2.2):=by
 rw[e,d,g]; unfold arV; dsimp only; rw[Wq f,if_pos h]
theorem Qq8:(H1 text).size≤text.size:=by unfold H1; split; simp only[ba]; omega; exact aL _
end
theorem Qdk (b:DB)(text:ByteArray)(B:Nat)(E:DBJ b B (2*B) (2*B))(hn:B≤1000)(ht:okA text=true)(Y:text.size≤1000):FC Tryz.prog 343 [(false,[.ptr 0 0]),(false,[dS text])] [bx 0 373 [dI b.1.1.1, .ref 2, .ref 1, .ref 3,dS b.1.2.2.2, .ref 4, .ref 5],ar 2 275 QD b.1.1.2,ar 1 77 QE b.1.2.1,ar 3 75 QL b.1.2.2.1,ar 4 9 .str b.2.1,ar 5 9 .str b.2.2] 2 (Is (PV.tup []) [bx 0 373 [dI ((arV b text).1.1.1), .ref 2, .ref 1, .ref 3,dS ((arV b text).1.2.2.2), .ref 4, .ref 5],ar 2 275 QD ((arV b text).1.1.2),ar 1 77 QE ((arV b text).1.2.1),ar 3 75 QL ((arV b text).1.2.2.1),ar 4 9 .str ((arV b text).2.1),ar 5 9 .str ((arV b text).2.2)]):=by
 obtain ⟨c7,a3,⟨P,Q⟩,R,S⟩:=Qwt ht
 have b0:=Qq8 (text:=text)
 have b3:=E.p0
 have b4:=E.pl
 have b5:=E.st
 have b6:=E.tr
 have b7:=E.la
 have b8:=E.ws
 refine Qn Tryz.func343 rfl rfl Tryz.ntmps343 fun O_ hO d0 a7 X_ a9 a8=> ?_
 refine w2 ?_
 obtain ⟨V,a0⟩:=gs text ((0:Int).toNat)
 have i:=a0
 refine w_ ?_
 refine lc (Zm (Qa rfl) (Q0 42 rfl) rfl) ?_
 refine w2 ?_
 refine QaX (fun A=>∃(tx:ByteArray),(tx=H1 text)∧A=⟨[(0,lP 0 0),(1,lf (dS tx)),(4,lB (decide (V=42)))],[bx 0 373 [dI b.1.1.1, .ref 2, .ref 1, .ref 3,dS b.1.2.2.2, .ref 4, .ref 5],ar 1 77 QE b.1.2.1,ar 2 275 QD b.1.1.2,ar 3 75 QL b.1.2.2.1,ar 4 9 .str b.2.1,ar 5 9 .str b.2.2]⟩) ?_ fun J3=> ?_
 rintro A ⟨tx,n,rfl⟩
 have c9:2≤(ZJ tx 62).length:=by rw[n]; exact a3
 refine w2 ?_
 refine lc (Hj (Vx tx 62 (by rw[n]; omega)).frozen QaB ⟨_,_,rfl,(Ql rfl),⟨_,_,rfl,(Evl.ev (Q0 62 rfl)),rfl⟩⟩ rfl rfl) ?_
 refine w2 ?_
 obtain ⟨fr,G⟩:=gx (ZJ tx 62) 0
 have w:=G
 have a6:1≤fr.size:=by first | (rw[← YV (k:=0) n G]; exact P) | (rw[← YV (k:=1) n G]; exact R)
 obtain ⟨to_,H⟩:=gx (ZJ tx 62) 1
 have m:=H
 have a4:1≤to_.size:=by first | (rw[← YV (k:=0) n H]; exact P) | (rw[← YV (k:=1) n H]; exact R)
 apply dW (i6 20 _ _ _ _ _ _ (i2 6 _ _ [])) [0,0,0,7,7,7,56,0]
 exact y8
 refine Qqk (fun A=>∃(nm:ByteArray),(nm=QbD text)∧A=⟨[(0,lP 0 0),(4,lB (decide (V=42))),(6,lf (dS fr)),(7,lf (dS to_)),(8,lf (dS nm))],[bx 0 373 [dI b.1.1.1, .ref 2, .ref 1, .ref 3,dS b.1.2.2.2, .ref 4, .ref 5],ar 1 77 QE b.1.2.1,ar 2 275 QD b.1.1.2,ar 3 75 QL b.1.2.2.1,ar 4 9 .str b.2.1,ar 5 9 .str b.2.2]⟩) ?_ fun X=> ?_
 rintro A ⟨nm,u,rfl⟩
 have I:=E.pl_ (name:=nm)
 have c3:=I.tr
 have c4:=I.la
 have c5:=I.ws
 have c8:=Qob (b:=b) (name:=nm)
 refine w3 ?_
 refine lc (dP 6 [(1,2),(2,1),(4,5),(5,4)] (Qbr b nm (by omega) (by omega)) Qmf) ?_
 refine w2 ?_
 refine QaX (fun A=>∃(b1:((Int×(List (List Int×List Int)))×(List (ByteArray×Int))×(List (Int×Bool))×ByteArray)×List ByteArray×List ByteArray),(b1=ar1 (plI b nm) (plV b nm) text)∧A=⟨[(0,lP 0 0),(4,lB (decide (V=42))),(7,lf (dS to_)),(9,lI (plI b nm))],[bx 0 373 [dI b1.1.1.1, .ref 12, .ref 1, .ref 13,dS b1.1.2.2.2, .ref 14, .ref 15],ar 1 77 QE b1.1.2.1,ar 12 275 QD b1.1.1.2,ar 13 75 QL b1.1.2.2.1,ar 14 9 .str b1.2.1,ar 15 9 .str b1.2.2]⟩) ?_ fun J9=> ?_
 rintro A ⟨b1,f,rfl⟩
 have x:DBJ b1 (B+1) (2*B+1) (2*B+1):=by rw[f]; exact I.ar1_
 have b9:=x.tr
 have c1:=x.la
 have c2:=x.ws
 refine QaX (fun A=>∃(d:((Int×(List (List Int×List Int)))×(List (ByteArray×Int))×(List (Int×Bool))×ByteArray)×List ByteArray×List ByteArray),(d=ar2 (plI b nm) b1 text)∧A=⟨[(0,lP 0 0),(4,lB (decide (V=42))),(9,lI (plI b nm))],[bx 0 373 [dI d.1.1.1, .ref 16, .ref 1, .ref 17,dS d.1.2.2.2, .ref 18, .ref 19],ar 1 77 QE d.1.2.1,ar 16 275 QD d.1.1.2,ar 17 75 QL d.1.2.2.1,ar 18 9 .str d.2.1,ar 19 9 .str d.2.2]⟩) ?_ fun J=> ?_
 rintro A ⟨d,g,rfl⟩
 have Z:DBJ d (B+1) (2*B+2) (2*B+2):=by rw[g]; exact x.ar2_
 have U:=Z.st
 have T:d.2.1=(plV b nm).2.1:=by rw[g,QqY,f,QqX]
 rw[T] at U
 have c6:=I.pl
 refine w3 ?_
 refine cd_ (fun _ _=> ?_) fun _ _=> ?_
 refine w_ ?_
 refine (?_:fin _ _ _ _ .normal _)
 exact fi_ [(2,16),(3,17),(4,18),(5,19)] hO ⟨(((congrArg (fun z_=>some (Ent.box 373 [dI z_, .ref 16, .ref 1, .ref 17,dS d.1.2.2.2, .ref 18, .ref 19])) (show (d.1.1.1:Int)=(arV b text).1.1.1 by (rw[QkS i ‹_› u f g]; done)))).trans (congrArg (fun z_=>some (Ent.box 373 [dI ((arV b text).1.1.1), .ref 16, .ref 1, .ref 17,dS z_, .ref 18, .ref 19])) (show (d.1.2.2.2:ByteArray)=(arV b text).1.2.2.2 by (rw[QkS i ‹_› u f g]; done)))),(Qh (by (rw[QkS i ‹_› u f g]; done))),(Qh (by (rw[QkS i ‹_› u f g]; done))),(Qh (by (rw[QkS i ‹_› u f g]; done))),(Qh (by (rw[QkS i ‹_› u f g]; done))),(Qh (by (rw[QkS i ‹_› u f g]; done))),trivial⟩
 apply dV (i7 93 _ _ _ _ _ _ _ (io 100 (lf (dS (d.1.2.2.2.extract 0 (plI b nm).toNat))) :: io 101 (lf (dS ((d.1.2.2.2.extract 0 (plI b nm).toNat)++(⟨#[49]⟩:ByteArray)))) :: i7 102 _ _ _ _ _ _ _ (io 109 (lf (dS (d.1.2.2.2.extract ((plI b nm)+1).toNat d.1.2.2.2.size))) :: io 110 (lf (dS (((d.1.2.2.2.extract 0 (plI b nm).toNat)++(⟨#[49]⟩:ByteArray))++(d.1.2.2.2.extract ((plI b nm)+1).toNat d.1.2.2.2.size)))) :: i3 111 _ _ _ [⟨none,lf (.val undef),[bx 0 373 [dI d.1.1.1, .ref 16, .ref 1, .ref 17,dS (((d.1.2.2.2.extract 0 (plI b nm).toNat)++(⟨#[49]⟩:ByteArray))++(d.1.2.2.2.extract ((plI b nm)+1).toNat d.1.2.2.2.size)), .ref 18, .ref 19]]⟩]))) [0,1,1,1,1,1,63,1,1,511,511,511,511,511,16383,16383,511,1,0,0,0,0]
 refine z7 ?_
 refine zz (fun _ a=>ac (show Does _ _ _ _ (St.put _ 100 (lf (dS (d.1.2.2.2.extract 0 (plI b nm).toNat)))) from Zd (l:=none) (h:=(some (plI b nm))) (a.v rfl) (by exact trivial) (by exact (a.v rfl)) ZN rfl (by first | omega | (simp only[ak,aj]; omega)) (by first | omega | (simp only[ak,aj]; omega)) (by first | omega | (simp only[ak,aj]; omega))) rfl)<|zz (fun _ a=>ac (Q7 (a.v rfl) (Evl.str rfl) rfl (by (simp only[bc,ba,Yy]; omega))) rfl) ?_
 refine z7 ?_
 refine zz (fun _ a=>ac (show Does _ _ _ _ (St.put _ 109 (lf (dS (d.1.2.2.2.extract ((plI b nm)+1).toNat d.1.2.2.2.size)))) from Zd (l:=(some ((plI b nm)+1))) (h:=none) (a.v rfl) (by exact (a.v rfl)) (by exact trivial) ZN rfl (by first | omega | (simp only[ak,aj]; omega)) (by first | omega | (simp only[ak,aj]; omega)) (by first | omega | (simp only[ak,aj]; omega))) rfl)<|zz (fun _ a=>ac (Q7 (a.v rfl) (a.v rfl) rfl (by (simp only[bc,ba,Yy]; omega))) rfl) ?_
 exact y4
 refine (?_:fin _ _ _ _ .normal _)
 exact fi_ [(2,16),(3,17),(4,18),(5,19)] hO ⟨(((congrArg (fun z_=>some (Ent.box 373 [dI z_, .ref 16, .ref 1, .ref 17,dS (((d.1.2.2.2.extract 0 (plI b nm).toNat)++(⟨#[49]⟩:ByteArray))++(d.1.2.2.2.extract ((plI b nm)+1).toNat d.1.2.2.2.size)), .ref 18, .ref 19])) (show (d.1.1.1:Int)=(arV b text).1.1.1 by (rw[QkT i ‹_› u f g]; done)))).trans (congrArg (fun z_=>some (Ent.box 373 [dI ((arV b text).1.1.1), .ref 16, .ref 1, .ref 17,dS z_, .ref 18, .ref 19])) (show (((d.1.2.2.2.extract 0 (plI b nm).toNat)++(⟨#[49]⟩:ByteArray))++(d.1.2.2.2.extract ((plI b nm)+1).toNat d.1.2.2.2.size):ByteArray)=(arV b text).1.2.2.2 by (rw[QkT i ‹_› u f g]; rfl)))),(Qh (by (rw[QkT i ‹_› u f g]; done))),(Qh (by (rw[QkT i ‹_› u f g]; done))),(Qh (by (rw[QkT i ‹_› u f g]; done))),(Qh (by (rw[QkT i ‹_› u f g]; done))),(Qh (by (rw[QkT i ‹_› u f g]; done))),trivial⟩
 refine w3 ?_
 obtain ⟨W,K⟩:=gs to_ ((0:Int).toNat)
 have j:=K
 refine w_ ?_
 refine lc (Zy (Qa rfl) (Q0 95 rfl) rfl) ?_
 refine w_ ?_
 refine cn_ (fun _ _=> ?_) fun _ _=> ?_
 refine w_ ?_
 refine Qdp (J _ ⟨b1,(by exact Qxs (YV n m) j ‹_›),rfl⟩) ?_
 exact wo [(16,12),(17,13),(18,14),(19,15)]
 refine w3 ?_
 refine lc (dP 20 [(2,14),(3,12),(4,13),(5,15)] (UH b1 to_ (by first | exact QiI n w Y Q o ‹_› | exact QiI n m Y S j ‹_›) (by omega)) QeV) ?_
 refine w2 ?_
 have z:=x.tr_ (word:=to_)
 have a2:=z.tr
 have a1:=QoC (b:=b1) (word:=to_)
 obtain ⟨y,D⟩:=gx ((Zv b1 to_).1.1.2) ((trI b1 to_).toNat)
 have C:=(U9 D).2
 have a5:=z.inn y (ai D)
 have r:(trI b1 to_).toNat*2+0 < (QR QD ((Zv b1 to_).1.1.2)).length:=by rw[Yz]; exact QwE (by omega)
 refine AC.wk (KK (q:=23) rfl (by omega))<|AC.wk (XC 26 (q:=23) (p:=(trI b1 to_).toNat*2+0) (E':=3) (e':= .int) (ys:=y.1) rfl (C) (Fresh.of rfl) (aA rfl)) ?_
 apply dZ (i9 71 _ _ _ _ _ _ _ _ _ (i5 80 _ _ _ _ _ [io 85 (lf (.ept 23 2 ((trI b1 to_).toNat) 0)),io 86 (lf (.ept 23 2 ((trI b1 to_).toNat) 0)),io 87 (lR 26),io 88 _,⟨some 89,lR 27,[ar 27 3 .int (Zr ltI (plI b nm) y.1),(26,none)]⟩,io 90 (lf (.ept 23 2 ((trI b1 to_).toNat) 0)),io 91 (lf (.ept 23 2 ((trI b1 to_).toNat) 0)),⟨none,lf (.val undef),[(23,some (.obx 275 2 (((Zv b1 to_).1.1.2).length) (QR QD ((Zv b1 to_).1.1.2)) [((trI b1 to_).toNat*2+0, .ref 27),((trI b1 to_).toNat*2+0, .ref 26)]))]⟩])) [0,0,0,0,0,0,63,127,127,127,127,127,127,8191,127,127,127,131071,127,0,0,0]
 refine z14 ?_
 refine zz (fun _ a=>ac (Zc (a.v rfl) (a.en 23 rfl) (a.v rfl) WD Xd rfl (by omega) (by omega)) rfl)<|zz (fun _ a=>ac (QT (a.v rfl) VY (by rw[(a.en 23 rfl)]; rfl) rfl) rfl) ?_
 refine zz (fun _ a=>ac (YR (a.v rfl) (a.en 23 rfl) (by simp only[ovr,aV,au,r,C,cB,if_true,if_false,↓reduceIte]) (a.en 26 rfl) QX rfl) rfl) ?_
 refine z_ ?_
 refine zz (fun _ a=>ac (dP 27 [(0,26)] (XT y.1 (plI b nm) (by omega)) Uf) rfl) ?_
 refine zz (fun _ a=>ac (Zc (a.v rfl) (a.en 23 rfl) (a.v rfl) WD Xd rfl (by omega) (by omega)) rfl)<|zz (fun _ a=>ac (QT (a.v rfl) VY (by rw[(a.en 23 rfl)]; rfl) rfl) rfl) ?_
 refine zz (fun _ a=>ac (Ys (t:=26) (a.v rfl) (a.en 23 rfl) (by simp only[ovr,aV,au,r,C,cB,if_true,if_false,↓reduceIte]) (a.v rfl) (a.en 27 rfl) QX) rfl) ?_
 exact zN
 refine Qdp (J _ ⟨((((Zv b1 to_).1.1.1,QfK ((Zv b1 to_).1.1.2) (trI b1 to_) (plI b nm)),(Zv b1 to_).1.2.1,(Zv b1 to_).1.2.2.1,(Zv b1 to_).1.2.2.2),(Zv b1 to_).2.1,(Zv b1 to_).2.2),(by exact Qxt (YV n m) j ‹_›),rfl⟩) ?_
 refine Wk.trans (Wo (q:=23) (t:=27) (p:=(trI b1 to_).toNat*2+0) rfl (by simp only[ovr,aV,au,r,C,cB,if_true,if_false,↓reduceIte]) rfl) ?_
 refine Wk.trans (V9 (q:=23) (e:=QD) (QfK ((Zv b1 to_).1.1.2) (trI b1 to_) (plI b nm)) rfl (by simp[QfK]) (by simp only[ovr]; rw[dr,dr,Qar D,QpM D])) ?_
 exact wp [(16,23),(17,24),(18,14),(19,25)] ⟨rfl,(Qh (by first | rfl | simp)),(Qh (by first | rfl | simp)),(Qh (by first | rfl | simp)),(Qh (by first | rfl | simp)),(Qh (by first | rfl | simp)),trivial⟩
 refine w3 ?_
 obtain ⟨fc,L⟩:=gs fr ((0:Int).toNat)
 have o:=L
 refine w_ ?_
 refine lc (Zy (Qa rfl) (Q0 95 rfl) rfl) ?_
 refine w_ ?_
 refine cn_ (fun _ _=> ?_) fun _ _=> ?_
 refine w_ ?_
 refine Qdp (J9 _ ⟨(plV b nm),(by exact Qxq (YV n w) o ‹_›),rfl⟩) ?_
 exact wo [(12,2),(13,3),(14,11),(15,5)]
 refine w3 ?_
 refine lc (dP 28 [(2,11),(3,2),(4,3)] (UH (plV b nm) fr (by first | exact QiI n w Y Q o ‹_› | exact QiI n m Y S j ‹_›) (by omega)) QeV) ?_
 refine w2 ?_
 have z:=I.tr_ (word:=fr)
 have a2:=z.tr
 have a1:=QoC (b:=plV b nm) (word:=fr)
 obtain ⟨y,D⟩:=gx ((Zv (plV b nm) fr).1.1.2) ((trI (plV b nm) fr).toNat)
 have C:=(U9 D).1
 have a5:=z.inn y (ai D)
 have r:(trI (plV b nm) fr).toNat*2+1 < (QR QD ((Zv (plV b nm) fr).1.1.2)).length:=by rw[Yz]; exact QwF (by omega)
 refine AC.wk (KK (q:=31) rfl (by omega))<|AC.wk (XC 34 (q:=31) (p:=(trI (plV b nm) fr).toNat*2+1) (E':=3) (e':= .int) (ys:=y.2) rfl (C) (Fresh.of rfl) (aA rfl)) ?_
 apply dZ (i9 44 _ _ _ _ _ _ _ _ _ (i5 53 _ _ _ _ _ [io 58 (lf (.ept 31 2 ((trI (plV b nm) fr).toNat) 0)),io 59 (lf (.ept 31 2 ((trI (plV b nm) fr).toNat) 1)),io 60 (lR 34),io 61 _,⟨some 62,lR 35,[ar 35 3 .int (Zr ltI (plI b nm) y.2),(34,none)]⟩,io 63 (lf (.ept 31 2 ((trI (plV b nm) fr).toNat) 0)),io 64 (lf (.ept 31 2 ((trI (plV b nm) fr).toNat) 1)),⟨none,lf (.val undef),[(31,some (.obx 275 2 (((Zv (plV b nm) fr).1.1.2).length) (QR QD ((Zv (plV b nm) fr).1.1.2)) [((trI (plV b nm) fr).toNat*2+1, .ref 35),((trI (plV b nm) fr).toNat*2+1, .ref 34)]))]⟩])) [0,0,0,0,0,0,63,127,127,127,127,127,127,8191,127,127,127,131071,127,0,0,0]
 refine z14 ?_
 refine zz (fun _ a=>ac (Zc (a.v rfl) (a.en 31 rfl) (a.v rfl) WD Xd rfl (by omega) (by omega)) rfl)<|zz (fun _ a=>ac (QT (a.v rfl) VZ (by rw[(a.en 31 rfl)]; rfl) rfl) rfl) ?_
 refine zz (fun _ a=>ac (YR (a.v rfl) (a.en 31 rfl) (by simp only[ovr,aV,au,r,C,cB,if_true,if_false,↓reduceIte]) (a.en 34 rfl) QX rfl) rfl) ?_
 refine z_ ?_
 refine zz (fun _ a=>ac (dP 35 [(0,34)] (XT y.2 (plI b nm) (by omega)) Uf) rfl) ?_
 refine zz (fun _ a=>ac (Zc (a.v rfl) (a.en 31 rfl) (a.v rfl) WD Xd rfl (by omega) (by omega)) rfl)<|zz (fun _ a=>ac (QT (a.v rfl) VZ (by rw[(a.en 31 rfl)]; rfl) rfl) rfl) ?_
 refine zz (fun _ a=>ac (Ys (t:=34) (a.v rfl) (a.en 31 rfl) (by simp only[ovr,aV,au,r,C,cB,if_true,if_false,↓reduceIte]) (a.v rfl) (a.en 35 rfl) QX) rfl) ?_
 exact zN
 refine Qdp (J9 _ ⟨((((Zv (plV b nm) fr).1.1.1,QfJ ((Zv (plV b nm) fr).1.1.2) (trI (plV b nm) fr) (plI b nm)),(Zv (plV b nm) fr).1.2.1,(Zv (plV b nm) fr).1.2.2.1,(Zv (plV b nm) fr).1.2.2.2),(Zv (plV b nm) fr).2.1,(Zv (plV b nm) fr).2.2),(by exact Qxr (YV n w) o ‹_›),rfl⟩) ?_
 refine Wk.trans (Wo (q:=31) (t:=35) (p:=(trI (plV b nm) fr).toNat*2+1) rfl (by simp only[ovr,aV,au,r,C,cB,if_true,if_false,↓reduceIte]) rfl) ?_
 refine Wk.trans (V9 (q:=31) (e:=QD) (QfJ ((Zv (plV b nm) fr).1.1.2) (trI (plV b nm) fr) (plI b nm)) rfl (by simp[QfJ]) (by simp only[ovr]; rw[dr,dr,Qas D,QpL D])) ?_
 exact wp [(12,31),(13,32),(14,11),(15,33)] ⟨rfl,(Qh (by first | rfl | simp)),(Qh (by first | rfl | simp)),(Qh (by first | rfl | simp)),(Qh (by first | rfl | simp)),(Qh (by first | rfl | simp)),trivial⟩
 refine w7 ?_
 obtain ⟨fc,M⟩:=gs fr ((0:Int).toNat)
 have o:=M
 refine w_ ?_
 refine lc (Zm (Qa rfl) (Q0 95 rfl) rfl) ?_
 refine w_ ?_
 refine cd_ (fun _ _=> ?_) fun _ _=> ?_
 refine w4 ?_
 obtain ⟨W,N⟩:=gs to_ ((0:Int).toNat)
 have j:=N
 refine w_ ?_
 refine lc (Zm (Qa rfl) (Q0 95 rfl) rfl) ?_
 refine w_ ?_
 refine cd_ (fun _ _=> ?_) fun _ _=> ?_
 refine w_ ?_
 refine Qdp (X _ ⟨tx,(by exact Qx4 (YV n m) j ‹_› (YV n w) o ‹_› n),rfl⟩) ?_
 exact wo []
 refine w4 ?_
 refine Qdp (X _ ⟨to_,(by exact Qvo (YV n m) j ‹_›),rfl⟩) ?_
 exact wo []
 refine w7 ?_
 obtain ⟨W,O⟩:=gs to_ ((0:Int).toNat)
 have j:=O
 refine w_ ?_
 refine lc (Zm (Qa rfl) (Q0 95 rfl) rfl) ?_
 refine w_ ?_
 refine cd_ (fun _ _=> ?_) fun _ _=> ?_
 refine w_ ?_
 refine Qdp (X _ ⟨fr,(by exact Qx3 (YV n m) j ‹_› (YV n w) o ‹_›),rfl⟩) ?_
 exact wo []
 refine w4 ?_
 refine Qdp (X _ ⟨to_,(by exact Qvo (YV n m) j ‹_›),rfl⟩) ?_
 exact wo []
 refine w4 ?_
 cases s:(decide (V=42))
 have F:=aa s
 refine w2 ?_
 refine Qdp (J3 _ ⟨text,(by exact QxA i ‹_›),rfl⟩) ?_
 exact Wk.of [] rfl ⟨rfl,rfl,(congrArg (fun z_=>some (lB z_)) ((s).symm)),trivial⟩ ⟨rfl,rfl,rfl,rfl,rfl,rfl,trivial⟩ rfl rfl
 have F:=ab s
 refine w3 ?_
 refine lc (show Does _ _ _ _ (St.put _ 17 (lf (dS (text.extract (1:Int).toNat text.size)))) from Zd (l:=(some 1)) (h:=none) (Qa rfl) (by exact (Qr rfl)) (by exact trivial) ZN rfl (by first | omega | (simp only[ak,aj]; omega)) (by first | omega | (simp only[ak,aj]; omega)) (by first | omega | (simp only[ak,aj]; omega))) ?_
 refine w2 ?_
 refine Qdp (J3 _ ⟨(text.extract (1:Int).toNat text.size),(by exact QxB i ‹_›),rfl⟩) ?_
 exact Wk.of [] rfl ⟨rfl,rfl,(congrArg (fun z_=>some (lB z_)) ((s).symm)),trivial⟩ ⟨rfl,rfl,rfl,rfl,rfl,rfl,trivial⟩ rfl rfl
end Go.Proofs.YtndabgcpnmeeoaaGreat
namespace Go.Proofs.YtndabgcpnmeeoaaGreat
open Go.RowKit
set_option maxRecDepth 100000
set_option maxHeartbeats 4000000
section
variable {l:List ByteArray}{x:ByteArray}{j kd:Int}{i k:Nat}{g:List QB}
theorem Qok:∀(l:List ByteArray) (j:Int),sgA (l++[x]) j=sgA l j++sgN x (j+(l.length:Int)) x.size
 | [],j=>by simp[sgA]
 | y :: l,j=>by
  rw[bH,sgA,sgA,Qok l (j+1),aK,aq]
  congr 3
  omega
theorem QsD (a:l[k]? =some x):sgA (l.take k) 1++sgN x ((k:Int)+1) x.size=sgA (l.take (k+1)) 1:=by
 have b:=(ah.1 a).1
 rw[Qs a,Qok,ao,show (1:Int)+((min k l.length:Nat):Int)=(k:Int)+1 by omega]
theorem QsF:(g++sgN x kd i)++[(x.extract ((i:Nat):Int).toNat ((i:Int)+1).toNat,kd)]=g++sgN x kd (i+1):=by
 unfold sgN
 rw[dR,bE,aK,Int.toNat_natCast,show ((i:Int)+1).toNat=i+1 by omega]; rfl
end
theorem Q1 (f:ByteArray)(d:ByteArray)(a:ByteArray)(c:ByteArray)(Y:(ZJ c 32).all okA=true)(hs:c.size≤900∧f.size≤100∧d.size≤100∧a.size≤100):FC Tryz.prog 209 [(false,[dS f]),(false,[dS d]),(false,[dS a]),(false,[dS c])] [] 0 (Is (ag [dI (((QG f d a c).1).1), .ref 0, .ref 1, .ref 2,dS ((QG f d a c).2.2.2)]) [ar 0 275 QD (((QG f d a c).1).2),ar 1 77 QE ((QG f d a c).2.1),ar 2 75 QL ((QG f d a c).2.2.1)]):=by
 have a4:=QpX (s:=c) (b:=32)
 have V:([f,d,a]:List ByteArray).length=3:=rfl
 refine Qn Tryz.func209 rfl rfl Tryz.ntmps209 fun O_ X a6 Q X_ U T=> ?_
 refine w_ ?_
 refine lc (xal 0 YM Q5) ?_
 refine w2 ?_
 refine lc (Qj QtN rfl (av.1 rfl) rfl rfl) ?_
 refine xbx 1 ?_
 refine w7 ?_
 refine lc (dBs 2 (e:= .str) Ut) ?_
 refine w4 ?_
 refine AC.wk (Qq 3 (p:=1) (off:=2) 77 QE rfl rfl (Fresh.of rfl) (nlr rfl)) ?_
 refine QH (fun A B=>∃(k:Nat) (t:List (ByteArray×Int)),k≤([f,d,a]).length∧A=([f,d,a]).length - k∧(t=sgA (([f,d,a]:List ByteArray).take k) 1)∧(t.length≤100*k)∧B=⟨[(3,lf (dS c)),(8,lP 0 0),(9,lP 1 0),(20,lR 2),(21,lI (([f,d,a]).length:Int)),(22,lI (k:Int))],[bx 0 51 [dI 0, .val (.slice none 0 0), .val (.slice none 0 0), .val (.slice none 0 0),dS ByteArray.empty],bx 1 373 [dI 0, .val (.slice none 0 0), .ref 4, .val (.slice none 0 0),dS ByteArray.empty, .val (.slice none 0 0), .val (.slice none 0 0)],ar 2 9 .str ([f,d,a]),ar 4 77 QE t]⟩) ⟨0,([]:(Qo:Ty).Den),aP _,rfl,rfl,(aP _),rfl⟩ ?_ ?_
 exact wp [(4,3)] ⟨rfl,rfl,rfl,(Qh (by first | rfl | simp)),trivial⟩
 rintro A B ⟨k,t,Z,a1,F,hL,rfl⟩
 refine w4 ?_
 cases H:(decide ((k:Int) < (([f,d,a]).length:Int)))
 have I:=aa H
 refine w6 ?_
 refine lc (Hj (Vx c 32 (by omega)).frozen QaB ⟨_,_,rfl,(Ql rfl),⟨_,_,rfl,(Evl.ev (Q0 32 rfl)),rfl⟩⟩ rfl rfl) ?_
 refine alL 54 fun _=> ?_
 refine w4 ?_
 refine AC.wk (Qq 5 (p:=1) (off:=1) 275 QD rfl rfl (Fresh.of rfl) (nlr rfl))<|AC.wk (Qq 6 (p:=1) (off:=3) 75 QL rfl rfl (Fresh.of rfl) (nlr rfl))<|AC.wk (Qq 7 (p:=1) (off:=5) 9 .str rfl rfl (Fresh.of rfl) (nlr rfl))<|AC.wk (Qq 8 (p:=1) (off:=6) 9 .str rfl rfl (Fresh.of rfl) (nlr rfl)) ?_
 refine QH (fun A B=>∃(m:Nat) (n:((Int×(List (List Int×List Int)))×(List (ByteArray×Int))×(List (Int×Bool))×ByteArray)×List ByteArray×List ByteArray),m≤(ZJ c 32).length∧A=(ZJ c 32).length - m∧(n=((ZJ c 32).take m).foldl arV (((0,[]),t,[],ByteArray.empty),[],[]))∧(DBJ n m (2*m) (2*m))∧B=⟨[(8,lP 0 0),(9,lP 1 0),(54,lf (.dat Qu (ZJ c 32))),(55,lI ((ZJ c 32).length:Int)),(56,lI (m:Int))],[bx 0 51 [dI 0, .val (.slice none 0 0), .val (.slice none 0 0), .val (.slice none 0 0),dS ByteArray.empty],bx 1 373 [dI n.1.1.1, .ref 9, .ref 10, .ref 11,dS n.1.2.2.2, .ref 12, .ref 13],ar 9 275 QD n.1.1.2,ar 10 77 QE n.1.2.1,ar 11 75 QL n.1.2.2.1,ar 12 9 .str n.2.1,ar 13 9 .str n.2.2]⟩) ⟨0,(((0,([]:(QF:Ty).Den)),t,([]:(Qw:Ty).Den),ByteArray.empty),([]:(Qu:Ty).Den),([]:(Qu:Ty).Den)),aP _,rfl,rfl,(DBJ.zero _),rfl⟩ ?_ ?_
 exact wp [(9,5),(10,4),(11,6),(12,7),(13,8)] ⟨rfl,rfl,(Qh (by first | rfl | simp)),(Qh (by first | rfl | simp)),(Qh (by first | rfl | simp)),(Qh (by first | rfl | simp)),(Qh (by first | rfl | simp)),trivial⟩
 rintro A B ⟨m,n,a0,a2,E,N,rfl⟩
 refine w4 ?_
 cases J:(decide ((m:Int) < ((ZJ c 32).length:Int)))
 have K:=aa J
 refine w11 ?_
 have R:(n.1.1.1:Int)=(((QG f d a c).1).1):=by
  (rw[E,Q8 (by omega),F,Q8 (by omega)]; rfl)
 have S:(n.1.2.2.2:ByteArray)=((QG f d a c).2.2.2):=by
  (rw[E,Q8 (by omega),F,Q8 (by omega)]; rfl)
 exact fi_ [(0,9),(1,10),(2,11)] X ⟨(Qh (by (rw[E,Q8 (by omega),F,Q8 (by omega)]; rfl))),(Qh (by (rw[E,Q8 (by omega),F,Q8 (by omega)]; rfl))),(Qh (by (rw[E,Q8 (by omega),F,Q8 (by omega)]; rfl))),trivial⟩ (h0:=by rw[R,S] <;> rfl)
 have K:=ab J
 refine w5 ?_
 obtain ⟨r,y⟩:=gx (ZJ c 32) m
 have L:=y
 have a5:=QaU (ai y)
 refine w7 ?_
 refine lc (dP 14 [(0,1),(1,10),(2,9),(3,11),(4,12),(5,13)] (Qdk n r m N (by omega) (av.1 Y _ (ai L)) (by omega)) QlV) ?_
 refine Qf ?_
 refine w4 ?_
 refine Qf<|ZF ⟨m+1,((((arV n r).1.1.1,(arV n r).1.1.2),(arV n r).1.2.1,(arV n r).1.2.2.1,(arV n r).1.2.2.2),(arV n r).2.1,(arV n r).2.2),by omega,rfl,(by rw[E,Qs L,bK]; rfl),(N.ar_ (text:=r)),rfl⟩ (by omega) ?_
 exact wp [(9,16),(11,17),(12,18),(13,19)] ⟨rfl,rfl,(Qh (by first | rfl | simp)),(Qh (by first | rfl | simp)),(Qh (by first | rfl | simp)),(Qh (by first | rfl | simp)),(Qh (by first | rfl | simp)),trivial⟩
 have I:=ab H
 refine w7 ?_
 obtain ⟨q,z⟩:=gx ([f,d,a]) k
 have M:=z
 have a3:q.size≤100:=by have o:=ai z; simp only[aE,dc,or_false] at o; rcases o with rfl | rfl | rfl <;> omega
 refine w8 ?_
 refine QH (fun A B=>∃(i:Nat) (C:List (ByteArray×Int)),i≤q.size∧A=q.size - i∧(C=t++sgN q ((k:Int)+1) i)∧(C.length≤100*k+i)∧B=⟨[(3,lf (dS c)),(8,lP 0 0),(9,lP 1 0),(10,lI (k:Int)),(11,lf (dS q)),(12,lI (i:Int)),(20,lR 2),(21,lI (([f,d,a]).length:Int)),(22,lI (k:Int)),(23,lB true),(24,lI (k:Int)),(25,lf (.ept 2 1 k 0)),(26,lf (dS q))],[bx 0 51 [dI 0, .val (.slice none 0 0), .val (.slice none 0 0), .val (.slice none 0 0),dS ByteArray.empty],bx 1 373 [dI 0, .val (.slice none 0 0), .ref 20, .val (.slice none 0 0),dS ByteArray.empty, .val (.slice none 0 0), .val (.slice none 0 0)],ar 2 9 .str ([f,d,a]),ar 20 77 QE C]⟩) ⟨0,t,aP _,rfl,(by simp[sgN]),(by omega),rfl⟩ ?_ ?_
 exact wo [(20,4)]
 rintro A B ⟨i,C,O,P,G,W,rfl⟩
 refine w4 ?_
 refine alS 28 fun _=> ?_
 refine lc (Yq (Qa rfl) rfl ZN) ?_
 refine w2 ?_
 cases u:(decide ((i:Int) < (q.size:Int)))
 have D:=aa u
 refine w6 ?_
 refine Qf<|ZF ⟨k+1,C,by omega,rfl,(by rw[G,F,show i=q.size by omega]; exact QsD M),(by omega),rfl⟩ (by omega) ?_
 exact wo [(4,20)]
 have D:=ab u
 refine w4 ?_
 apply dV (i9 33 _ _ _ _ _ _ _ _ _ (io 42 _ :: io 43 (lf (dS (q.extract ((i:Int)).toNat ((i:Int)+1).toNat))) :: i2 44 _ _ (io 46 (ag [dS (q.extract ((i:Int)).toNat ((i:Int)+1).toNat),dI ((k:Int)+1)]) :: ⟨some 47,lR 21,[ar 21 77 QE ([(q.extract ((i:Int)).toNat ((i:Int)+1).toNat,(k:Int)+1)])]⟩ :: ⟨some 48,lR 22,[ar 22 77 QE (C++([(q.extract ((i:Int)).toNat ((i:Int)+1).toNat,(k:Int)+1)])),(20,none),(21,none)]⟩ :: i3 49 _ _ _ [⟨none,lf (.val undef),[bx 1 373 [dI 0, .val (.slice none 0 0), .ref 22, .val (.slice none 0 0),dS ByteArray.empty, .val (.slice none 0 0), .val (.slice none 0 0)]]⟩]))) [0,1,1,1,1,1,63,127,255,255,63,2047,2047,63,63,1,0,0,0,0]
 refine z10 ?_
 refine zz (fun _ o=>ac (show Does _ _ _ _ (St.put _ 43 (lf (dS (q.extract ((i:Int)).toNat ((i:Int)+1).toNat)))) from Zd (l:=(some (i:Int))) (h:=(some ((i:Int)+1))) (o.v rfl) (by exact (o.v rfl)) (by exact (o.v rfl)) ZN rfl (by first | omega | (simp only[ak,aj]; omega)) (by first | omega | (simp only[ak,aj]; omega)) (by first | omega | (simp only[ak,aj]; omega))) rfl) ?_
 refine z2 ?_
 refine zz (fun _ o=>ac (Qj QvK ⟨_,_,rfl,(o.w rfl),⟨_,_,rfl,(o.w rfl),rfl⟩⟩ (av.1 rfl) rfl rfl) rfl) ?_
 refine zz (fun _ o=>ac (dBs 21 (e:=QE) Hg (hab:=by exact ⟨_,_,_,_,rfl,⟨[dS (q.extract ((i:Int)).toNat ((i:Int)+1).toNat)],[dI ((k:Int)+1)],_,_,_,_,rfl,rfl,⟨rfl,rfl⟩,⟨rfl,rfl⟩,rfl⟩,⟨rfl,rfl⟩,rfl⟩)) rfl) ?_
 refine zz (fun _ o=>ac (dA 22 Qau (hb:=by first | omega | (simp only[aq,az]; omega))) rfl) ?_
 refine z3 ?_
 refine zz (fun _ o=>ac (Q6 (o.v rfl) (o.en 1 rfl) (o.w rfl) (by simp only[QW,XG,bd,bt]; rw[(o.en 22 rfl)]; rfl) QwX rfl) rfl) ?_
 exact zN
 refine w5 ?_
 refine Qf<|ZF ⟨i+1,(C++([(q.extract ((i:Int)).toNat ((i:Int)+1).toNat,(k:Int)+1)])),by omega,rfl,(by rw[G]; exact QsF),(by simp only[ae,aq,az]; omega),rfl⟩ (by omega) ?_
 exact wp [(20,22)] ⟨rfl,rfl,rfl,(Qh (by first | rfl | simp)),trivial⟩
def tx0:ByteArray:=⟨#[97,98]⟩
def tx1:ByteArray:=⟨#[99]⟩
def tx2:ByteArray:=⟨#[]⟩
def tx3:ByteArray:=⟨#[97,43,62,99,43,32,98,43,62,99,43,32,99,43,62,97,45,32,99,43,62,98,45,32,97,45,62,99,45,32,98,45,62,99,45,32,42,99,45,62,97,43,32,42,99,45,62,98,43]⟩
def tx4:ByteArray:=⟨#[97]⟩
def tx5:ByteArray:=⟨#[98]⟩
def tx6:ByteArray:=⟨#[97,43,62,98,43,32,98,43,62,97,45,32,97,45,62,98,45,32,42,98,45,62,97,43]⟩
def tx7:ByteArray:=⟨#[114]⟩
def tx8:ByteArray:=⟨#[120,121]⟩
def tx9:ByteArray:=⟨#[114,43,62,120,43,32,114,43,62,121,43,32,120,43,62,114,45,32,121,43,62,114,45,32,114,45,62,120,45,32,114,45,62,121,45,32,42,120,45,62,114,43,32,42,121,45,62,114,43]⟩
def Qp6:ByteArray:=⟨#[97,100]⟩
def Qdt:ByteArray:=⟨#[98,99]⟩
def Qp7:ByteArray:=⟨#[97,43,62,98,43,32,98,43,62,100,43,32,100,43,62,99,43,32,99,43,62,97,45,32,97,45,62,98,45,32,98,45,62,100,45,32,100,45,62,99,45,32,42,99,45,62,97,43]⟩
def Qp8:ByteArray:=⟨#[120]⟩
def Qp9:ByteArray:=⟨#[97,43,62,120,43,32,120,43,62,98,43,32,98,43,62,97,45,32,97,45,62,120,45,32,120,45,62,98,45,32,42,98,45,62,97,43]⟩
def Qqa:ByteArray:=⟨#[42,95,112,62,97,43,32,95,112,62,98,43,32,97,43,62,99,43,47,49,32,99,43,47,49,62,97,45,32,97,45,62,99,45,47,49,32,99,45,47,49,62,95,112,32,98,43,62,99,43,47,50,32,99,43,47,50,62,98,45,32,98,45,62,99,45,47,50,32,99,45,47,50,62,95,112]⟩
def Qqb:ByteArray:=⟨#[97,43,62,126,32,126,62,98,43,32,98,43,62,97,45,32,97,45,62,98,45,32,42,98,45,62,97,43]⟩
def Qqc:ByteArray:=⟨#[42,121,45,62,114,43,32,114,43,62,120,43,32,120,43,62,120,45,32,120,45,62,121,43,32,121,43,62,114,45,32,114,45,62,121,45]⟩
def Qqd:ByteArray:=⟨#[42,97,45,62,97,43,32,97,43,62,95,112,32,95,112,62,98,43,32,95,112,62,99,43,32,98,43,62,98,45,32,99,43,62,99,45,32,98,45,62,95,113,32,99,45,62,95,113,32,95,113,62,97,45]⟩
def Qqe:ByteArray:=⟨#[97,43,47,49,62,98,43,32,98,43,62,97,43,47,50,32,97,43,47,50,62,98,45,32,42,98,45,62,97,43,47,49]⟩
def Qyx:ByteArray:=⟨#[112]⟩
def Qyy:ByteArray:=⟨#[113]⟩
def Qyz:ByteArray:=⟨#[112,43,62,113,43,32,113,43,62,112,45,32,112,45,62,113,45,32,42,113,45,62,112,43]⟩
def Qqf:ByteArray:=⟨#[42,95,112,62,97,43,32,97,43,62,98,43,32,98,43,62,95,113]⟩
theorem WK (code:List UInt8)(at_:Int)(sd:Int)(n:0≤at_∧at_≤999999000):FC Tryz.prog 208 [(false,[.ptr 0 0])] [bx 0 134 [.dat QZ code,dI at_, .val (.int .u64 sd)]] 1 (Ex (fun x:Qy×Int×Int=>Ty.tot Zl x.1≤1000∧(1≤x.1.2.1.length∧1≤x.1.2.2.1.length)∧(at_≤x.2.1∧x.2.1≤at_+10)) (fun x:Qy×Int×Int=>ag [dI x.1.1.1, .ref 1, .ref 2, .ref 3,dS x.1.2.2.2]) (fun x:Qy×Int×Int=>[bx 0 134 [.dat QZ code,dI x.2.1, .val (.int .u64 x.2.2)],ar 1 275 QD x.1.1.2,ar 2 77 QE x.1.2.1,ar 3 75 QL x.1.2.2.1])):=by
 refine Qn Tryz.func208 rfl rfl Tryz.ntmps208 fun h a f b m d c=> ?_
 refine w_ ?_
 refine lc (xal 1 YM Q5) ?_
 refine w4 ?_
 have e:=Zk code at_ sd 7
 refine lc (dP 2 [] (QQ code at_ sd 7 (by omega)) Yf) ?_
 refine w6 ?_
 refine cd_ (fun _ _=> ?_) fun _ _=> ?_
 refine w4 ?_
 refine cd_ (fun _ _=> ?_) fun _ _=> ?_
 refine w4 ?_
 refine cd_ (fun _ _=> ?_) fun _ _=> ?_
 refine w4 ?_
 refine cd_ (fun _ _=> ?_) fun _ _=> ?_
 refine w4 ?_
 refine cd_ (fun _ _=> ?_) fun _ _=> ?_
 refine w4 ?_
 refine cd_ (fun _ _=> ?_) fun _ _=> ?_
 refine w3 ?_
 refine lc (dG 3 (Q1 tx4 tx5 tx2 Qqb (by decide+kernel) (by decide+kernel)) ZU) ?_
 refine w3 ?_
 subst a
 refine Zg (x:=(((((QG tx4 tx5 tx2 Qqb).1).1,((QG tx4 tx5 tx2 Qqb).1).2),((QG tx4 tx5 tx2 Qqb).2.1,((QG tx4 tx5 tx2 Qqb).2.2.1,(QG tx4 tx5 tx2 Qqb).2.2.2))),((pkA 7 at_),(pkS code at_ sd 7)))) [(0,0),(1,3),(2,4),(3,5)] ?_ (Res.one rfl (Rs.cell rfl rfl Q3 rfl)) rfl ⟨rfl,rfl,rfl,rfl,trivial⟩ rfl rfl
 first | (dsimp only; exact ⟨by decide+kernel,⟨by decide+kernel,by decide+kernel⟩,by omega⟩)
 refine w_ ?_
 refine lc (dG 6 (Q1 tx0 tx1 tx2 Qqa (by decide+kernel) (by decide+kernel)) ZU) ?_
 refine w3 ?_
 subst a
 refine Zg (x:=(((((QG tx0 tx1 tx2 Qqa).1).1,((QG tx0 tx1 tx2 Qqa).1).2),((QG tx0 tx1 tx2 Qqa).2.1,((QG tx0 tx1 tx2 Qqa).2.2.1,(QG tx0 tx1 tx2 Qqa).2.2.2))),((pkA 7 at_),(pkS code at_ sd 7)))) [(0,0),(1,6),(2,7),(3,8)] ?_ (Res.one rfl (Rs.cell rfl rfl Q3 rfl)) rfl ⟨rfl,rfl,rfl,rfl,trivial⟩ rfl rfl
 first | (dsimp only; exact ⟨by decide+kernel,⟨by decide+kernel,by decide+kernel⟩,by omega⟩)
 refine w_ ?_
 refine lc (dG 9 (Q1 tx4 tx5 Qp8 Qp9 (by decide+kernel) (by decide+kernel)) ZU) ?_
 refine w3 ?_
 subst a
 refine Zg (x:=(((((QG tx4 tx5 Qp8 Qp9).1).1,((QG tx4 tx5 Qp8 Qp9).1).2),((QG tx4 tx5 Qp8 Qp9).2.1,((QG tx4 tx5 Qp8 Qp9).2.2.1,(QG tx4 tx5 Qp8 Qp9).2.2.2))),((pkA 7 at_),(pkS code at_ sd 7)))) [(0,0),(1,9),(2,10),(3,11)] ?_ (Res.one rfl (Rs.cell rfl rfl Q3 rfl)) rfl ⟨rfl,rfl,rfl,rfl,trivial⟩ rfl rfl
 first | (dsimp only; exact ⟨by decide+kernel,⟨by decide+kernel,by decide+kernel⟩,by omega⟩)
 refine w_ ?_
 refine lc (dG 12 (Q1 Qp6 Qdt tx2 Qp7 (by decide+kernel) (by decide+kernel)) ZU) ?_
 refine w3 ?_
 subst a
 refine Zg (x:=(((((QG Qp6 Qdt tx2 Qp7).1).1,((QG Qp6 Qdt tx2 Qp7).1).2),((QG Qp6 Qdt tx2 Qp7).2.1,((QG Qp6 Qdt tx2 Qp7).2.2.1,(QG Qp6 Qdt tx2 Qp7).2.2.2))),((pkA 7 at_),(pkS code at_ sd 7)))) [(0,0),(1,12),(2,13),(3,14)] ?_ (Res.one rfl (Rs.cell rfl rfl Q3 rfl)) rfl ⟨rfl,rfl,rfl,rfl,trivial⟩ rfl rfl
 first | (dsimp only; exact ⟨by decide+kernel,⟨by decide+kernel,by decide+kernel⟩,by omega⟩)
 refine w_ ?_
 refine lc (dG 15 (Q1 tx7 tx8 tx2 tx9 (by decide+kernel) (by decide+kernel)) ZU) ?_
 refine w3 ?_
 subst a
 refine Zg (x:=(((((QG tx7 tx8 tx2 tx9).1).1,((QG tx7 tx8 tx2 tx9).1).2),((QG tx7 tx8 tx2 tx9).2.1,((QG tx7 tx8 tx2 tx9).2.2.1,(QG tx7 tx8 tx2 tx9).2.2.2))),((pkA 7 at_),(pkS code at_ sd 7)))) [(0,0),(1,15),(2,16),(3,17)] ?_ (Res.one rfl (Rs.cell rfl rfl Q3 rfl)) rfl ⟨rfl,rfl,rfl,rfl,trivial⟩ rfl rfl
 first | (dsimp only; exact ⟨by decide+kernel,⟨by decide+kernel,by decide+kernel⟩,by omega⟩)
 refine w_ ?_
 refine lc (dG 18 (Q1 tx4 tx5 tx2 tx6 (by decide+kernel) (by decide+kernel)) ZU) ?_
 refine w3 ?_
 subst a
 refine Zg (x:=(((((QG tx4 tx5 tx2 tx6).1).1,((QG tx4 tx5 tx2 tx6).1).2),((QG tx4 tx5 tx2 tx6).2.1,((QG tx4 tx5 tx2 tx6).2.2.1,(QG tx4 tx5 tx2 tx6).2.2.2))),((pkA 7 at_),(pkS code at_ sd 7)))) [(0,0),(1,18),(2,19),(3,20)] ?_ (Res.one rfl (Rs.cell rfl rfl Q3 rfl)) rfl ⟨rfl,rfl,rfl,rfl,trivial⟩ rfl rfl
 first | (dsimp only; exact ⟨by decide+kernel,⟨by decide+kernel,by decide+kernel⟩,by omega⟩)
 refine w_ ?_
 refine lc (dG 21 (Q1 tx0 tx1 tx2 tx3 (by decide+kernel) (by decide+kernel)) ZU) ?_
 refine w3 ?_
 subst a
 refine Zg (x:=(((((QG tx0 tx1 tx2 tx3).1).1,((QG tx0 tx1 tx2 tx3).1).2),((QG tx0 tx1 tx2 tx3).2.1,((QG tx0 tx1 tx2 tx3).2.2.1,(QG tx0 tx1 tx2 tx3).2.2.2))),((pkA 7 at_),(pkS code at_ sd 7)))) [(0,0),(1,21),(2,22),(3,23)] ?_ (Res.one rfl (Rs.cell rfl rfl Q3 rfl)) rfl ⟨rfl,rfl,rfl,rfl,trivial⟩ rfl rfl
 first | (dsimp only; exact ⟨by decide+kernel,⟨by decide+kernel,by decide+kernel⟩,by omega⟩)
theorem Qbp (code:List UInt8)(at_:Int)(sd:Int)[∀s,Decidable (StgOk s)][∀s,Decidable (YZ s)](w:0≤at_∧at_≤999998900):FC Tryz.prog 258 [(false,[.ptr 0 0])] [bx 0 134 [.dat QZ code,dI at_, .val (.int .u64 sd)]] 1 (Ex (fun x:Qy×Int×Int=>Ty.tot Zl x.1≤1000∧(1≤x.1.2.1.length∧1≤x.1.2.2.1.length)∧(at_≤x.2.1∧x.2.1≤at_+20)) (fun x:Qy×Int×Int=>ag [dI x.1.1.1, .ref 1, .ref 2, .ref 3,dS x.1.2.2.2]) (fun x:Qy×Int×Int=>[bx 0 134 [.dat QZ code,dI x.2.1, .val (.int .u64 x.2.2)],ar 1 275 QD x.1.1.2,ar 2 77 QE x.1.2.1,ar 3 75 QL x.1.2.2.1])):=by
 refine Qn Tryz.func258 rfl rfl Tryz.ntmps258 fun u b t n v p o=> ?_
 refine w_ ?_
 refine lc (xal 1 YM Q5) ?_
 refine w4 ?_
 have q:=Zk code at_ sd 9
 refine lc (dP 2 [] (QQ code at_ sd 9 (by omega)) Yf) ?_
 refine w6 ?_
 refine cd_ (fun _ _=> ?_) fun _ _=> ?_
 refine w4 ?_
 refine cd_ (fun _ _=> ?_) fun _ _=> ?_
 refine w4 ?_
 refine cd_ (fun _ _=> ?_) fun _ _=> ?_
 refine w4 ?_
 refine cd_ (fun _ _=> ?_) fun _ _=> ?_
 refine w4 ?_
 refine cd_ (fun _ _=> ?_) fun _ _=> ?_
 refine w4 ?_
 refine Z4 3 [(0,0)] (WK code (pkA 9 at_) (pkS code at_ sd 9) (by omega)) QeG e1_ ⟨rfl,trivial⟩ rfl (fun _=>rfl) (fun _=>⟨trivial,(Fresh.of rfl),(Fresh.of rfl),(Fresh.of rfl),trivial⟩) (nlr rfl) fun d r=> ?_
 refine w3 ?_
 subst b
 refine Zg (x:=(((d.1.1.1,d.1.1.2),(d.1.2.1,(d.1.2.2.1,d.1.2.2.2))),(d.2.1,d.2.2))) [(0,0),(1,4),(2,5),(3,6)] ?_ (Res.one rfl (Rs.cell rfl rfl Q3 rfl)) rfl ⟨rfl,rfl,rfl,rfl,trivial⟩ rfl rfl
 (have c:=‹Ty.tot Zl _≤1000∧_›; dsimp only; exact ⟨c.1,c.2.1,by omega⟩)
 refine w_ ?_
 refine lc (dG 7 (Q1 tx4 tx5 tx2 Qqf (by decide+kernel) (by decide+kernel)) ZU) ?_
 refine w3 ?_
 subst b
 refine Zg (x:=(((((QG tx4 tx5 tx2 Qqf).1).1,((QG tx4 tx5 tx2 Qqf).1).2),((QG tx4 tx5 tx2 Qqf).2.1,((QG tx4 tx5 tx2 Qqf).2.2.1,(QG tx4 tx5 tx2 Qqf).2.2.2))),((pkA 9 at_),(pkS code at_ sd 9)))) [(0,0),(1,7),(2,8),(3,9)] ?_ (Res.one rfl (Rs.cell rfl rfl Q3 rfl)) rfl ⟨rfl,rfl,rfl,rfl,trivial⟩ rfl rfl
 (dsimp only; exact ⟨by decide+kernel,⟨by decide+kernel,by decide+kernel⟩,by omega⟩)
 refine w_ ?_
 refine lc (dK (Q1 Qyx Qyy tx2 Qyz (by decide+kernel) (by decide+kernel)).frozenG ZU) ?_
 refine lc (dK (Q1 tx4 tx5 tx2 tx6 (by decide+kernel) (by decide+kernel)).frozenG ZU) ?_
 refine Z4 10 [] (Qbo (QG Qyx Qyy tx2 Qyz) (QG tx4 tx5 tx2 tx6) (by decide+kernel) (by decide+kernel)) Ql5 e2_ trivial rfl (fun _=>rfl) (fun _=>⟨(Fresh.of rfl),(Fresh.of rfl),(Fresh.of rfl),trivial⟩) (nlr rfl) fun e h=> ?_
 refine w3 ?_
 refine lc (xal 13 YM Q5) ?_
 refine w6 ?_
 refine cb_ (fun _=> ?_) fun _=> ?_
 refine w4 ?_
 refine Z4 14 [(0,0)] (WK code (pkA 9 at_) (pkS code at_ sd 9) (by omega)) QeG e1_ ⟨rfl,trivial⟩ rfl (fun _=>rfl) (fun _=>⟨trivial,(Fresh.of rfl),(Fresh.of rfl),(Fresh.of rfl),trivial⟩) (nlr rfl) fun a m=> ?_
 refine w3 ?_
 subst b
 refine Zg (x:=(((a.1.1.1,a.1.1.2),(a.1.2.1,(a.1.2.2.1,a.1.2.2.2))),(a.2.1,a.2.2))) [(0,0),(1,15),(2,16),(3,17)] ?_ (Res.one rfl (Rs.cell rfl rfl Q3 rfl)) rfl ⟨rfl,rfl,rfl,rfl,trivial⟩ rfl rfl
 (have c:=‹Ty.tot Zl _≤1000∧_›; dsimp only; exact ⟨c.1,c.2.1,by omega⟩)
 refine w5 ?_
 subst b
 refine Zg (x:=(((e.1.1.1,e.1.1.2),(e.1.2.1,(e.1.2.2.1,e.1.2.2.2))),((pkA 9 at_),(pkS code at_ sd 9)))) [(0,0),(1,10),(2,11),(3,12)] ?_ (Res.one rfl (Rs.cell rfl rfl Q3 rfl)) rfl ⟨rfl,rfl,rfl,rfl,trivial⟩ rfl rfl
 (have c:=‹_=true→_=unS _ _›; have f:=c ‹_›; dsimp only; rw[f]; exact ⟨by decide+kernel,⟨by decide+kernel,by decide+kernel⟩,by omega⟩)
 refine w_ ?_
 refine lc (dG 18 (Q1 tx4 tx5 tx2 Qqe (by decide+kernel) (by decide+kernel)) ZU) ?_
 refine w3 ?_
 subst b
 refine Zg (x:=(((((QG tx4 tx5 tx2 Qqe).1).1,((QG tx4 tx5 tx2 Qqe).1).2),((QG tx4 tx5 tx2 Qqe).2.1,((QG tx4 tx5 tx2 Qqe).2.2.1,(QG tx4 tx5 tx2 Qqe).2.2.2))),((pkA 9 at_),(pkS code at_ sd 9)))) [(0,0),(1,18),(2,19),(3,20)] ?_ (Res.one rfl (Rs.cell rfl rfl Q3 rfl)) rfl ⟨rfl,rfl,rfl,rfl,trivial⟩ rfl rfl
 (dsimp only; exact ⟨by decide+kernel,⟨by decide+kernel,by decide+kernel⟩,by omega⟩)
 refine w_ ?_
 refine lc (dG 21 (Q1 tx4 Qdt tx2 Qqd (by decide+kernel) (by decide+kernel)) ZU) ?_
 refine w3 ?_
 subst b
 refine Zg (x:=(((((QG tx4 Qdt tx2 Qqd).1).1,((QG tx4 Qdt tx2 Qqd).1).2),((QG tx4 Qdt tx2 Qqd).2.1,((QG tx4 Qdt tx2 Qqd).2.2.1,(QG tx4 Qdt tx2 Qqd).2.2.2))),((pkA 9 at_),(pkS code at_ sd 9)))) [(0,0),(1,21),(2,22),(3,23)] ?_ (Res.one rfl (Rs.cell rfl rfl Q3 rfl)) rfl ⟨rfl,rfl,rfl,rfl,trivial⟩ rfl rfl
 (dsimp only; exact ⟨by decide+kernel,⟨by decide+kernel,by decide+kernel⟩,by omega⟩)
 refine w_ ?_
 refine lc (dG 24 (Q1 tx7 tx8 tx2 Qqc (by decide+kernel) (by decide+kernel)) ZU) ?_
 refine w3 ?_
 subst b
 refine Zg (x:=(((((QG tx7 tx8 tx2 Qqc).1).1,((QG tx7 tx8 tx2 Qqc).1).2),((QG tx7 tx8 tx2 Qqc).2.1,((QG tx7 tx8 tx2 Qqc).2.2.1,(QG tx7 tx8 tx2 Qqc).2.2.2))),((pkA 9 at_),(pkS code at_ sd 9)))) [(0,0),(1,24),(2,25),(3,26)] ?_ (Res.one rfl (Rs.cell rfl rfl Q3 rfl)) rfl ⟨rfl,rfl,rfl,rfl,trivial⟩ rfl rfl
 (dsimp only; exact ⟨by decide+kernel,⟨by decide+kernel,by decide+kernel⟩,by omega⟩)
end Go.Proofs.YtndabgcpnmeeoaaGreat
