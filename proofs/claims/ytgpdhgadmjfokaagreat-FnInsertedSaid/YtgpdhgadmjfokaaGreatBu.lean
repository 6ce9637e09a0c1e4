/- Walks over abstract states: graphs built from words, an arc. -/
import Derived.Test.YtgpdhgadmjfokaaGreatDe
import Derived.Test.YtgpdhgadmjfokaaGreatWk
import Derived.Test.YtgpdhgadmjfokaaGreatUb
import Derived.Test.YtgpdhgadmjfokaaGreatAv
import Derived.Laws.Bits64b
set_option linter.unusedSimpArgs false
set_option linter.unusedVariables false
set_option linter.unusedSectionVars false
namespace Go.Proofs.YtgpdhgadmjfokaaGreat
open Go.RowKit
set_option maxRecDepth 100000
set_option maxHeartbeats 4000000
section
variable {text tx fr to_ nm:ByteArray}{c c0:UInt8}{b b1:DB}{p:Int}
theorem Qr6 (h:okA text=true):1≤text.size∧2≤(Zw (Je text) 62).length∧(1≤(Y9 text 0).size∧(b0 (Y9 text 0)=95∨1≤(JW (Y9 text 0)).size))∧1≤(Y9 text 1).size∧(b0 (Y9 text 1)=95∨1≤(JW (Y9 text 1)).size):=by
 unfold okA okW at h
 simp only[aL,bW,aV] at h
 exact ⟨h.1,h.2.1,h.2.2.1,h.2.2.2⟩
theorem XP (a:text[(0:Int).toNat]? =some c):b0 text=c:=by unfold b0; rw[show text[0]? =some c from a]; rfl
theorem QuP (a:text[(0:Int).toNat]? =some c)(h:c=42):text.extract (1:Int).toNat text.size=Je text:=by unfold Je; rw[XP a,if_pos h]; rfl
theorem QtU (a:text[(0:Int).toNat]? =some c)(h:¬c=42):text=Je text:=by unfold Je; rw[XP a,if_neg h]
theorem Yw {k:Nat}(a:tx=Je text)(h:(Zw tx 62)[k]? =some fr):Y9 text k=fr:=by unfold Y9; rw[← a,h]; rfl
theorem Qrv (a:Y9 text 1=to_)(d:to_[(0:Int).toNat]? =some c)(h:c=95):to_=HL text:=by unfold HL; rw[a,XP d,if_pos h]
theorem QuR (d:Y9 text 1=to_)(f:to_[(0:Int).toNat]? =some c)(h:¬c=95)(h0:Y9 text 0=fr)(a:fr[(0:Int).toNat]? =some c0)(e:c0=95):fr=HL text:=by unfold HL; rw[d,XP f,if_neg h,h0,XP a,if_pos e]
theorem QuW (d:Y9 text 1=to_)(f:to_[(0:Int).toNat]? =some c)(h:¬c=95)(h0:Y9 text 0=fr)(a:fr[(0:Int).toNat]? =some c0)(e:¬c0=95)(g:tx=Je text):tx=HL text:=by unfold HL; rw[d,XP f,if_neg h,h0,XP a,if_neg e,g]
theorem Qut (h0:Y9 text 0=fr)(a:fr[(0:Int).toNat]? =some c0)(h:c0=95):b=ar1 p b text:=by unfold ar1; rw[h0,XP a,if_pos h]
theorem Qum (h0:Y9 text 1=to_)(a:to_[(0:Int).toNat]? =some c0)(h:c0=95):b=ar2 p b text:=by unfold ar2; rw[h0,XP a,if_pos h]
theorem QuE (h0:Y9 text 0=fr)(a:fr[(0:Int).toNat]? =some c0)(h:¬c0=95):((((Zi b fr).1.1.1,QbX (Zi b fr).1.1.2 (trI b fr) p),(Zi b fr).1.2.1,(Zi b fr).1.2.2.1,(Zi b fr).1.2.2.2),(Zi b fr).2.1,(Zi b fr).2.2)=ar1 p b text:=by unfold ar1; rw[h0,XP a,if_neg h]
theorem QuX (h0:Y9 text 1=to_)(a:to_[(0:Int).toNat]? =some c0)(h:¬c0=95):((((Zi b to_).1.1.1,Qcj (Zi b to_).1.1.2 (trI b to_) p),(Zi b to_).1.2.1,(Zi b to_).1.2.2.1,(Zi b to_).1.2.2.2),(Zi b to_).2.1,(Zi b to_).2.2)=ar2 p b text:=by unfold ar2; rw[h0,XP a,if_neg h]
theorem Qe5 {k:Nat}(e:tx=Je text)(a:(Zw tx 62)[k]? =some fr)(j:text.size≤1000)(d:b0 (Y9 text k)=95∨1≤(JW (Y9 text k)).size)(g:fr[(0:Int).toNat]? =some c)(h:¬c=95):fr.size≤1000∧1≤(JW fr).size:=by
 have f:=Jz (ai a)
 have i:(Je text).size≤text.size:=by unfold Je; split; simp only[aS]; omega; exact aM _
 rw[Yw e a,XP g] at d
 rw[e] at f
 exact ⟨by omega,d.resolve_left h⟩
theorem Qjy {a:DB}(f:text[(0:Int).toNat]? =some c)(h:¬c=42)(g:nm=HL text)(d:b1=ar1 (plI b nm) (plV b nm) text)(e:a=ar2 (plI b nm) b1 text):arV b text=a:=by
 rw[e,d,g]; unfold arV; dsimp only; rw[XP f,if_neg h]
theorem Qjf {a:DB}(f:text[(0:Int).toNat]? =some c)(h:c=42)(g:nm=HL text)(d:b1=ar1 (plI b nm) (plV b nm) text)(e:a=ar2 (plI b nm) b1 text):arV b text=((a.1.1,a.1.2.1,a.1.2.2.1,Qm7 a.1.2.2.2 (plI b nm)),a.2.1,a.2.2):=by
 rw[e,d,g]; unfold arV; dsimp only; rw[XP f,if_pos h]
theorem QnB:(Je text).size≤text.size:=by unfold Je; split; simp only[aS]; omega; exact aM _
end
theorem Qa9 (b:DB)(text:ByteArray)(B:Nat)(E:DBJ b B (2*B) (2*B))(hn:B≤1000)(ht:okA text=true)(Y:text.size≤1000):FC Tryz.prog 381 [(false,[.ptr 0 0]),(false,[dS text])] [bx 0 341 [dI b.1.1.1, .ref 2, .ref 1, .ref 3,dS b.1.2.2.2, .ref 4, .ref 5],ar 2 245 Z4 b.1.1.2,ar 1 44 Qz b.1.2.1,ar 3 86 Qv b.1.2.2.1,ar 4 9 .str b.2.1,ar 5 9 .str b.2.2] 2 (Is (PV.tup []) [bx 0 341 [dI ((arV b text).1.1.1), .ref 2, .ref 1, .ref 3,dS ((arV b text).1.2.2.2), .ref 4, .ref 5],ar 2 245 Z4 ((arV b text).1.1.2),ar 1 44 Qz ((arV b text).1.2.1),ar 3 86 Qv ((arV b text).1.2.2.1),ar 4 9 .str ((arV b text).2.1),ar 5 9 .str ((arV b text).2.2)]):=by
 obtain ⟨c7,a3,⟨P,Q⟩,R,S⟩:=Qr6 ht
 have b0:=QnB (text:=text)
 have b3:=E.p0
 have b4:=E.pl
 have b5:=E.st
 have b6:=E.tr
 have b7:=E.la
 have b8:=E.ws
 refine Qu Tryz.func381 rfl rfl Tryz.ntmps381 fun O_ hO d0 a7 X_ a9 a8=> ?_
 refine w2 ?_
 obtain ⟨V,a0⟩:=gs text ((0:Int).toNat)
 have i:=a0
 refine w_ ?_
 refine lc (Qp (Qa rfl) (Qs 42 rfl) rfl) ?_
 refine w2 ?_
 refine V5 (fun A=>∃(tx:ByteArray),(tx=Je text)∧A=⟨[(0,lP 0 0),(1,lf (dS tx)),(4,lB (decide (V=42)))],[bx 0 341 [dI b.1.1.1, .ref 2, .ref 1, .ref 3,dS b.1.2.2.2, .ref 4, .ref 5],ar 1 44 Qz b.1.2.1,ar 2 245 Z4 b.1.1.2,ar 3 86 Qv b.1.2.2.1,ar 4 9 .str b.2.1,ar 5 9 .str b.2.2]⟩) ?_ fun J3=> ?_
 rintro A ⟨tx,n,rfl⟩
 have c9:2≤(Zw tx 62).length:=by rw[n]; exact a3
 refine w2 ?_
 refine lc (KS (WC tx 62 (by rw[n]; omega)).frozen JE ⟨_,_,rfl,(Qr rfl),⟨_,_,rfl,(Evl.ev (Qs 62 rfl)),rfl⟩⟩ rfl rfl) ?_
 refine w2 ?_
 obtain ⟨fr,G⟩:=gx (Zw tx 62) 0
 have w:=G
 have a6:1≤fr.size:=by first | (rw[← Yw (k:=0) n G]; exact P) | (rw[← Yw (k:=1) n G]; exact R)
 obtain ⟨to_,H⟩:=gx (Zw tx 62) 1
 have m:=H
 have a4:1≤to_.size:=by first | (rw[← Yw (k:=0) n H]; exact P) | (rw[← Yw (k:=1) n H]; exact R)
 apply dW (i6 20 _ _ _ _ _ _ (i2 6 _ _ [])) [0,0,0,7,7,7,56,0]
 exact y8
 refine Qcm (fun A=>∃(nm:ByteArray),(nm=HL text)∧A=⟨[(0,lP 0 0),(4,lB (decide (V=42))),(6,lf (dS fr)),(7,lf (dS to_)),(8,lf (dS nm))],[bx 0 341 [dI b.1.1.1, .ref 2, .ref 1, .ref 3,dS b.1.2.2.2, .ref 4, .ref 5],ar 1 44 Qz b.1.2.1,ar 2 245 Z4 b.1.1.2,ar 3 86 Qv b.1.2.2.1,ar 4 9 .str b.2.1,ar 5 9 .str b.2.2]⟩) ?_ fun X=> ?_
 rintro A ⟨nm,u,rfl⟩
 have I:=E.pl_ (name:=nm)
 have c3:=I.tr
 have c4:=I.la
 have c5:=I.ws
 have c8:=QjR (b:=b) (name:=nm)
 refine w3 ?_
 refine lc (dP 6 [(1,2),(2,1),(4,5),(5,4)] (HM b nm (by omega) (by omega)) Qiw) ?_
 refine w2 ?_
 refine V5 (fun A=>∃(b1:((Int×(List (List Int×List Int)))×(List (ByteArray×Int))×(List (Int×Bool))×ByteArray)×List ByteArray×List ByteArray),(b1=ar1 (plI b nm) (plV b nm) text)∧A=⟨[(0,lP 0 0),(4,lB (decide (V=42))),(7,lf (dS to_)),(9,lI (plI b nm))],[bx 0 341 [dI b1.1.1.1, .ref 12, .ref 1, .ref 13,dS b1.1.2.2.2, .ref 14, .ref 15],ar 1 44 Qz b1.1.2.1,ar 12 245 Z4 b1.1.1.2,ar 13 86 Qv b1.1.2.2.1,ar 14 9 .str b1.2.1,ar 15 9 .str b1.2.2]⟩) ?_ fun J9=> ?_
 rintro A ⟨b1,f,rfl⟩
 have x:DBJ b1 (B+1) (2*B+1) (2*B+1):=by rw[f]; exact I.ar1_
 have b9:=x.tr
 have c1:=x.la
 have c2:=x.ws
 refine V5 (fun A=>∃(d:((Int×(List (List Int×List Int)))×(List (ByteArray×Int))×(List (Int×Bool))×ByteArray)×List ByteArray×List ByteArray),(d=ar2 (plI b nm) b1 text)∧A=⟨[(0,lP 0 0),(4,lB (decide (V=42))),(9,lI (plI b nm))],[bx 0 341 [dI d.1.1.1, .ref 16, .ref 1, .ref 17,dS d.1.2.2.2, .ref 18, .ref 19],ar 1 44 Qz d.1.2.1,ar 16 245 Z4 d.1.1.2,ar 17 86 Qv d.1.2.2.1,ar 18 9 .str d.2.1,ar 19 9 .str d.2.2]⟩) ?_ fun J=> ?_
 rintro A ⟨d,g,rfl⟩
 have Z:DBJ d (B+1) (2*B+2) (2*B+2):=by rw[g]; exact x.ar2_
 have U:=Z.st
 have T:d.2.1=(plV b nm).2.1:=by rw[g,Qoz,f,Qoo]
 rw[T] at U
 have c6:=I.pl
 refine w3 ?_
 refine cd_ (fun _ _=> ?_) fun _ _=> ?_
 refine w_ ?_
 refine (?_:fin _ _ _ _ .normal _)
 exact fi_ [(2,16),(3,17),(4,18),(5,19)] hO ⟨(((congrArg (fun z_=>some (Ent.box 341 [dI z_, .ref 16, .ref 1, .ref 17,dS d.1.2.2.2, .ref 18, .ref 19])) (show (d.1.1.1:Int)=(arV b text).1.1.1 by (rw[Qjy i ‹_› u f g]; done)))).trans (congrArg (fun z_=>some (Ent.box 341 [dI ((arV b text).1.1.1), .ref 16, .ref 1, .ref 17,dS z_, .ref 18, .ref 19])) (show (d.1.2.2.2:ByteArray)=(arV b text).1.2.2.2 by (rw[Qjy i ‹_› u f g]; done)))),(Qh (by (rw[Qjy i ‹_› u f g]; done))),(Qh (by (rw[Qjy i ‹_› u f g]; done))),(Qh (by (rw[Qjy i ‹_› u f g]; done))),(Qh (by (rw[Qjy i ‹_› u f g]; done))),(Qh (by (rw[Qjy i ‹_› u f g]; done))),trivial⟩
 apply dV (i7 93 _ _ _ _ _ _ _ (io 100 (lf (dS (d.1.2.2.2.extract 0 (plI b nm).toNat))) :: io 101 (lf (dS ((d.1.2.2.2.extract 0 (plI b nm).toNat)++(⟨#[49]⟩:ByteArray)))) :: i7 102 _ _ _ _ _ _ _ (io 109 (lf (dS (d.1.2.2.2.extract ((plI b nm)+1).toNat d.1.2.2.2.size))) :: io 110 (lf (dS (((d.1.2.2.2.extract 0 (plI b nm).toNat)++(⟨#[49]⟩:ByteArray))++(d.1.2.2.2.extract ((plI b nm)+1).toNat d.1.2.2.2.size)))) :: i3 111 _ _ _ [⟨none,lf (.val undef),[bx 0 341 [dI d.1.1.1, .ref 16, .ref 1, .ref 17,dS (((d.1.2.2.2.extract 0 (plI b nm).toNat)++(⟨#[49]⟩:ByteArray))++(d.1.2.2.2.extract ((plI b nm)+1).toNat d.1.2.2.2.size)), .ref 18, .ref 19]]⟩]))) [0,1,1,1,1,1,63,1,1,511,511,511,511,511,16383,16383,511,1,0,0,0,0]
 refine z7 ?_
 refine zz (fun _ a=>ac (show Does _ _ _ _ (St.put _ 100 (lf (dS (d.1.2.2.2.extract 0 (plI b nm).toNat)))) from Q0 (l:=none) (h:=(some (plI b nm))) (a.v rfl) (by exact trivial) (by exact (a.v rfl)) Q9 rfl (by first | omega | (simp only[ao,ak]; omega)) (by first | omega | (simp only[ao,ak]; omega)) (by first | omega | (simp only[ao,ak]; omega))) rfl)<|zz (fun _ a=>ac (Q8 (a.v rfl) (Evl.str rfl) rfl (by (simp only[aQ,aS,YO]; omega))) rfl) ?_
 refine z7 ?_
 refine zz (fun _ a=>ac (show Does _ _ _ _ (St.put _ 109 (lf (dS (d.1.2.2.2.extract ((plI b nm)+1).toNat d.1.2.2.2.size)))) from Q0 (l:=(some ((plI b nm)+1))) (h:=none) (a.v rfl) (by exact (a.v rfl)) (by exact trivial) Q9 rfl (by first | omega | (simp only[ao,ak]; omega)) (by first | omega | (simp only[ao,ak]; omega)) (by first | omega | (simp only[ao,ak]; omega))) rfl)<|zz (fun _ a=>ac (Q8 (a.v rfl) (a.v rfl) rfl (by (simp only[aQ,aS,YO]; omega))) rfl) ?_
 exact y4
 refine (?_:fin _ _ _ _ .normal _)
 exact fi_ [(2,16),(3,17),(4,18),(5,19)] hO ⟨(((congrArg (fun z_=>some (Ent.box 341 [dI z_, .ref 16, .ref 1, .ref 17,dS (((d.1.2.2.2.extract 0 (plI b nm).toNat)++(⟨#[49]⟩:ByteArray))++(d.1.2.2.2.extract ((plI b nm)+1).toNat d.1.2.2.2.size)), .ref 18, .ref 19])) (show (d.1.1.1:Int)=(arV b text).1.1.1 by (rw[Qjf i ‹_› u f g]; done)))).trans (congrArg (fun z_=>some (Ent.box 341 [dI ((arV b text).1.1.1), .ref 16, .ref 1, .ref 17,dS z_, .ref 18, .ref 19])) (show (((d.1.2.2.2.extract 0 (plI b nm).toNat)++(⟨#[49]⟩:ByteArray))++(d.1.2.2.2.extract ((plI b nm)+1).toNat d.1.2.2.2.size):ByteArray)=(arV b text).1.2.2.2 by (rw[Qjf i ‹_› u f g]; rfl)))),(Qh (by (rw[Qjf i ‹_› u f g]; done))),(Qh (by (rw[Qjf i ‹_› u f g]; done))),(Qh (by (rw[Qjf i ‹_› u f g]; done))),(Qh (by (rw[Qjf i ‹_› u f g]; done))),(Qh (by (rw[Qjf i ‹_› u f g]; done))),trivial⟩
 refine w3 ?_
 obtain ⟨W,K⟩:=gs to_ ((0:Int).toNat)
 have j:=K
 refine w_ ?_
 refine lc (QW (Qa rfl) (Qs 95 rfl) rfl) ?_
 refine w_ ?_
 refine cn_ (fun _ _=> ?_) fun _ _=> ?_
 refine w_ ?_
 refine YL (J _ ⟨b1,(by exact Qum (Yw n m) j ‹_›),rfl⟩) ?_
 exact wo [(16,12),(17,13),(18,14),(19,15)]
 refine w3 ?_
 refine lc (dP 20 [(2,14),(3,12),(4,13),(5,15)] (Vq b1 to_ (by first | exact Qe5 n w Y Q o ‹_› | exact Qe5 n m Y S j ‹_›) (by omega)) QcG) ?_
 refine w2 ?_
 have z:=x.tr_ (word:=to_)
 have a2:=z.tr
 have a1:=Qkb (b:=b1) (word:=to_)
 obtain ⟨y,D⟩:=gx ((Zi b1 to_).1.1.2) ((trI b1 to_).toNat)
 have C:=(Qgy D).2
 have a5:=z.inn y (ai D)
 have r:(trI b1 to_).toNat*2+0 < (Zc Z4 ((Zi b1 to_).1.1.2)).length:=by rw[UI]; exact QvK (by omega)
 refine AC.wk (Qe7 (q:=23) rfl (by omega))<|AC.wk (Qae 26 (q:=23) (p:=(trI b1 to_).toNat*2+0) (E':=3) (e':= .int) (ys:=y.1) rfl (C) (Fresh.of rfl) (aC rfl)) ?_
 apply dZ (i9 71 _ _ _ _ _ _ _ _ _ (i5 80 _ _ _ _ _ [io 85 (lf (.ept 23 2 ((trI b1 to_).toNat) 0)),io 86 (lf (.ept 23 2 ((trI b1 to_).toNat) 0)),io 87 (lR 26),io 88 _,⟨some 89,lR 27,[ar 27 3 .int (ZY ltI (plI b nm) y.1),(26,none)]⟩,io 90 (lf (.ept 23 2 ((trI b1 to_).toNat) 0)),io 91 (lf (.ept 23 2 ((trI b1 to_).toNat) 0)),⟨none,lf (.val undef),[(23,some (.obx 245 2 (((Zi b1 to_).1.1.2).length) (Zc Z4 ((Zi b1 to_).1.1.2)) [((trI b1 to_).toNat*2+0, .ref 27),((trI b1 to_).toNat*2+0, .ref 26)]))]⟩])) [0,0,0,0,0,0,63,127,127,127,127,127,127,8191,127,127,127,131071,127,0,0,0]
 refine z14 ?_
 refine zz (fun _ a=>ac (Xw (a.v rfl) (a.en 23 rfl) (a.v rfl) Qao KE rfl (by omega) (by omega)) rfl)<|zz (fun _ a=>ac (Yt (a.v rfl) QeF (by rw[(a.en 23 rfl)]; rfl) rfl) rfl) ?_
 refine zz (fun _ a=>ac (JJ (a.v rfl) (a.en 23 rfl) (by simp only[ovr,bI,ay,r,C,eq_self,if_true,if_false,↓reduceIte]) (a.en 26 rfl) U3 rfl) rfl) ?_
 refine z_ ?_
 refine zz (fun _ a=>ac (dP 27 [(0,26)] (Wd y.1 (plI b nm) (by omega)) Ui) rfl) ?_
 refine zz (fun _ a=>ac (Xw (a.v rfl) (a.en 23 rfl) (a.v rfl) Qao KE rfl (by omega) (by omega)) rfl)<|zz (fun _ a=>ac (Yt (a.v rfl) QeF (by rw[(a.en 23 rfl)]; rfl) rfl) rfl) ?_
 refine zz (fun _ a=>ac (Kg (t:=26) (a.v rfl) (a.en 23 rfl) (by simp only[ovr,bI,ay,r,C,eq_self,if_true,if_false,↓reduceIte]) (a.v rfl) (a.en 27 rfl) U3) rfl) ?_
 exact zN
 refine YL (J _ ⟨((((Zi b1 to_).1.1.1,Qcj ((Zi b1 to_).1.1.2) (trI b1 to_) (plI b nm)),(Zi b1 to_).1.2.1,(Zi b1 to_).1.2.2.1,(Zi b1 to_).1.2.2.2),(Zi b1 to_).2.1,(Zi b1 to_).2.2),(by exact QuX (Yw n m) j ‹_›),rfl⟩) ?_
 refine Wk.trans (Qcc (q:=23) (t:=27) (p:=(trI b1 to_).toNat*2+0) rfl (by simp only[ovr,bI,ay,r,C,eq_self,if_true,if_false,↓reduceIte]) rfl) ?_
 refine Wk.trans (QcV (q:=23) (e:=Z4) (Qcj ((Zi b1 to_).1.1.2) (trI b1 to_) (plI b nm)) rfl (by simp[Qcj]) (by simp only[ovr]; rw[dl,dl,Qjb D,Qmm D])) ?_
 exact wp [(16,23),(17,24),(18,14),(19,25)] ⟨rfl,(Qh (by first | rfl | simp)),(Qh (by first | rfl | simp)),(Qh (by first | rfl | simp)),(Qh (by first | rfl | simp)),(Qh (by first | rfl | simp)),trivial⟩
 refine w3 ?_
 obtain ⟨fc,L⟩:=gs fr ((0:Int).toNat)
 have o:=L
 refine w_ ?_
 refine lc (QW (Qa rfl) (Qs 95 rfl) rfl) ?_
 refine w_ ?_
 refine cn_ (fun _ _=> ?_) fun _ _=> ?_
 refine w_ ?_
 refine YL (J9 _ ⟨(plV b nm),(by exact Qut (Yw n w) o ‹_›),rfl⟩) ?_
 exact wo [(12,2),(13,3),(14,11),(15,5)]
 refine w3 ?_
 refine lc (dP 28 [(2,11),(3,2),(4,3)] (Vq (plV b nm) fr (by first | exact Qe5 n w Y Q o ‹_› | exact Qe5 n m Y S j ‹_›) (by omega)) QcG) ?_
 refine w2 ?_
 have z:=I.tr_ (word:=fr)
 have a2:=z.tr
 have a1:=Qkb (b:=plV b nm) (word:=fr)
 obtain ⟨y,D⟩:=gx ((Zi (plV b nm) fr).1.1.2) ((trI (plV b nm) fr).toNat)
 have C:=(Qgy D).1
 have a5:=z.inn y (ai D)
 have r:(trI (plV b nm) fr).toNat*2+1 < (Zc Z4 ((Zi (plV b nm) fr).1.1.2)).length:=by rw[UI]; exact QvC (by omega)
 refine AC.wk (Qe7 (q:=31) rfl (by omega))<|AC.wk (Qae 34 (q:=31) (p:=(trI (plV b nm) fr).toNat*2+1) (E':=3) (e':= .int) (ys:=y.2) rfl (C) (Fresh.of rfl) (aC rfl)) ?_
 apply dZ (i9 44 _ _ _ _ _ _ _ _ _ (i5 53 _ _ _ _ _ [io 58 (lf (.ept 31 2 ((trI (plV b nm) fr).toNat) 0)),io 59 (lf (.ept 31 2 ((trI (plV b nm) fr).toNat) 1)),io 60 (lR 34),io 61 _,⟨some 62,lR 35,[ar 35 3 .int (ZY ltI (plI b nm) y.2),(34,none)]⟩,io 63 (lf (.ept 31 2 ((trI (plV b nm) fr).toNat) 0)),io 64 (lf (.ept 31 2 ((trI (plV b nm) fr).toNat) 1)),⟨none,lf (.val undef),[(31,some (.obx 245 2 (((Zi (plV b nm) fr).1.1.2).length) (Zc Z4 ((Zi (plV b nm) fr).1.1.2)) [((trI (plV b nm) fr).toNat*2+1, .ref 35),((trI (plV b nm) fr).toNat*2+1, .ref 34)]))]⟩])) [0,0,0,0,0,0,63,127,127,127,127,127,127,8191,127,127,127,131071,127,0,0,0]
 refine z14 ?_
 refine zz (fun _ a=>ac (Xw (a.v rfl) (a.en 31 rfl) (a.v rfl) Qao KE rfl (by omega) (by omega)) rfl)<|zz (fun _ a=>ac (Yt (a.v rfl) Qev (by rw[(a.en 31 rfl)]; rfl) rfl) rfl) ?_
 refine zz (fun _ a=>ac (JJ (a.v rfl) (a.en 31 rfl) (by simp only[ovr,bI,ay,r,C,eq_self,if_true,if_false,↓reduceIte]) (a.en 34 rfl) U3 rfl) rfl) ?_
 refine z_ ?_
 refine zz (fun _ a=>ac (dP 35 [(0,34)] (Wd y.2 (plI b nm) (by omega)) Ui) rfl) ?_
 refine zz (fun _ a=>ac (Xw (a.v rfl) (a.en 31 rfl) (a.v rfl) Qao KE rfl (by omega) (by omega)) rfl)<|zz (fun _ a=>ac (Yt (a.v rfl) Qev (by rw[(a.en 31 rfl)]; rfl) rfl) rfl) ?_
 refine zz (fun _ a=>ac (Kg (t:=34) (a.v rfl) (a.en 31 rfl) (by simp only[ovr,bI,ay,r,C,eq_self,if_true,if_false,↓reduceIte]) (a.v rfl) (a.en 35 rfl) U3) rfl) ?_
 exact zN
 refine YL (J9 _ ⟨((((Zi (plV b nm) fr).1.1.1,QbX ((Zi (plV b nm) fr).1.1.2) (trI (plV b nm) fr) (plI b nm)),(Zi (plV b nm) fr).1.2.1,(Zi (plV b nm) fr).1.2.2.1,(Zi (plV b nm) fr).1.2.2.2),(Zi (plV b nm) fr).2.1,(Zi (plV b nm) fr).2.2),(by exact QuE (Yw n w) o ‹_›),rfl⟩) ?_
 refine Wk.trans (Qcc (q:=31) (t:=35) (p:=(trI (plV b nm) fr).toNat*2+1) rfl (by simp only[ovr,bI,ay,r,C,eq_self,if_true,if_false,↓reduceIte]) rfl) ?_
 refine Wk.trans (QcV (q:=31) (e:=Z4) (QbX ((Zi (plV b nm) fr).1.1.2) (trI (plV b nm) fr) (plI b nm)) rfl (by simp[QbX]) (by simp only[ovr]; rw[dl,dl,Qi5 D,Qk6 D])) ?_
 exact wp [(12,31),(13,32),(14,11),(15,33)] ⟨rfl,(Qh (by first | rfl | simp)),(Qh (by first | rfl | simp)),(Qh (by first | rfl | simp)),(Qh (by first | rfl | simp)),(Qh (by first | rfl | simp)),trivial⟩
 refine w7 ?_
 obtain ⟨fc,M⟩:=gs fr ((0:Int).toNat)
 have o:=M
 refine w_ ?_
 refine lc (Qp (Qa rfl) (Qs 95 rfl) rfl) ?_
 refine w_ ?_
 refine cd_ (fun _ _=> ?_) fun _ _=> ?_
 refine w4 ?_
 obtain ⟨W,N⟩:=gs to_ ((0:Int).toNat)
 have j:=N
 refine w_ ?_
 refine lc (Qp (Qa rfl) (Qs 95 rfl) rfl) ?_
 refine w_ ?_
 refine cd_ (fun _ _=> ?_) fun _ _=> ?_
 refine w_ ?_
 refine YL (X _ ⟨tx,(by exact QuW (Yw n m) j ‹_› (Yw n w) o ‹_› n),rfl⟩) ?_
 exact wo []
 refine w4 ?_
 refine YL (X _ ⟨to_,(by exact Qrv (Yw n m) j ‹_›),rfl⟩) ?_
 exact wo []
 refine w7 ?_
 obtain ⟨W,O⟩:=gs to_ ((0:Int).toNat)
 have j:=O
 refine w_ ?_
 refine lc (Qp (Qa rfl) (Qs 95 rfl) rfl) ?_
 refine w_ ?_
 refine cd_ (fun _ _=> ?_) fun _ _=> ?_
 refine w_ ?_
 refine YL (X _ ⟨fr,(by exact QuR (Yw n m) j ‹_› (Yw n w) o ‹_›),rfl⟩) ?_
 exact wo []
 refine w4 ?_
 refine YL (X _ ⟨to_,(by exact Qrv (Yw n m) j ‹_›),rfl⟩) ?_
 exact wo []
 refine w4 ?_
 cases s:(decide (V=42))
 have F:=aa s
 refine w2 ?_
 refine YL (J3 _ ⟨text,(by exact QtU i ‹_›),rfl⟩) ?_
 exact Wk.of [] rfl ⟨rfl,rfl,(congrArg (fun z_=>some (lB z_)) ((s).symm)),trivial⟩ ⟨rfl,rfl,rfl,rfl,rfl,rfl,trivial⟩ rfl rfl
 have F:=ab s
 refine w3 ?_
 refine lc (show Does _ _ _ _ (St.put _ 17 (lf (dS (text.extract (1:Int).toNat text.size)))) from Q0 (l:=(some 1)) (h:=none) (Qa rfl) (by exact (Qo rfl)) (by exact trivial) Q9 rfl (by first | omega | (simp only[ao,ak]; omega)) (by first | omega | (simp only[ao,ak]; omega)) (by first | omega | (simp only[ao,ak]; omega))) ?_
 refine w2 ?_
 refine YL (J3 _ ⟨(text.extract (1:Int).toNat text.size),(by exact QuP i ‹_›),rfl⟩) ?_
 exact Wk.of [] rfl ⟨rfl,rfl,(congrArg (fun z_=>some (lB z_)) ((s).symm)),trivial⟩ ⟨rfl,rfl,rfl,rfl,rfl,rfl,trivial⟩ rfl rfl
end Go.Proofs.YtgpdhgadmjfokaaGreat
namespace Go.Proofs.YtgpdhgadmjfokaaGreat
open Go.RowKit
theorem Ua (n:Int):0≤IntKind.u64.wrap n∧IntKind.u64.wrap n < 18446744073709551616:=by
 simp only[IntKind.wrap,IntKind.bits,IntKind.signed]
 simp
 omega
theorem Ku {a:Int}(h:0≤a∧a < 18446744073709551616):0≤a / 2 ^ 40∧a / 2 ^ 40 < 18446744073709551616:=by omega
theorem QcD {a:Int}(h:0≤a∧a < 18446744073709551616):0≤bits BinOp.and IntKind.u64 a 255∧bits BinOp.and IntKind.u64 a 255≤255:=by
 have c:=bits_and_u64_nat a.toNat 255 (by omega) (by decide)
 rw[show ((a.toNat:Nat):Int)=a by omega,show ((255:Nat):Int)=255 from rfl] at c
 have e:a.toNat &&& 255≤255:=Nat.and_le_right
 rw[c]
 omega
section
variable {A:Amb}{P:Program}{s:St}{x y:Operand}{d:Nat}{T T' ty:TypeId}{pos:String}{af:Array Edge}{g:Option (Nat×Bool)}{a b:Int}
theorem QeE (j:Evl A s x (.val (.int .u64 a)))(k:Evl A s y (.val (.int .u64 b)))(i:Nat.blt d A.n=true):Does A P ⟨some d, .binOp .mul T x y T',ty,pos,af,g⟩ s (s.put d (lf (.val (.int .u64 (IntKind.u64.wrap (a*b)))))):=
 Qf rfl i fun e c w r=>by
  have f:c.eval x= .int .u64 a:=j e c w r
  have h:c.eval y= .int .u64 b:=k e c w r
  refine ⟨_, ?_,_,rfl,rfl⟩
  simp only[execOp,f,h,eqGuard_at_int,binOp,Op.intArith]
  simp
theorem KR (j:Evl A s x (.val (.int .u64 a)))(k:Evl A s y (.val (.int .u64 b)))(i:Nat.blt d A.n=true):Does A P ⟨some d, .binOp .add T x y T',ty,pos,af,g⟩ s (s.put d (lf (.val (.int .u64 (IntKind.u64.wrap (a+b)))))):=
 Qf rfl i fun e c w r=>by
  have f:c.eval x= .int .u64 a:=j e c w r
  have h:c.eval y= .int .u64 b:=k e c w r
  refine ⟨_, ?_,_,rfl,rfl⟩
  simp only[execOp,f,h,eqGuard_at_int,binOp,Op.intArith]
  simp
theorem QeG (k:Evl A s x (.val (.int .u64 a)))(l:Evl A s y (.val (.int .u64 b)))(j:Nat.blt d A.n=true):Does A P ⟨some d, .binOp .and T x y T',ty,pos,af,g⟩ s (s.put d (lf (.val (.int .u64 (bits .and .u64 a b))))):=
 Qf rfl j fun e c w r=>by
  have f:c.eval x= .int .u64 a:=k e c w r
  have h:c.eval y= .int .u64 b:=l e c w r
  have i:Op.intBits .and .u64 a b=pure (.int .u64 (bits .and .u64 a b)):=rfl
  refine ⟨_, ?_,_,rfl,rfl⟩
  simp only[execOp,f,h,eqGuard_at_int,binOp,i]
  simp
theorem QdU {k:IntKind}(l:Evl A s x (.val (.int .u64 a)))(m:Evl A s y (.val (.int k b)))(j:Nat.blt d A.n=true)(h0:0≤b∧b≤62):Does A P ⟨some d, .binOp .shr T x y T',ty,pos,af,g⟩ s (s.put d (lf (.val (.int .u64 (a / 2 ^ b.toNat))))):=
 Qf rfl j fun e c w r=>by
  have f:c.eval x= .int .u64 a:=l e c w r
  have h:c.eval y= .int k b:=m e c w r
  have i:Op.shift .shr .u64 a k b=pure (.int .u64 (a / 2 ^ b.toNat)):=by
   rw[shift_shr_any _ _ _ _ h0.1,show IntKind.u64.bits=64 from rfl,cw (by omega)]
  refine ⟨_, ?_,_,rfl,rfl⟩
  simp only[execOp,f,h,eqGuard_at_int,binOp,i]
  simp
theorem Qmx {n:UInt8}(m:Evl A s x (.dat .u8 n))(l:P.underlying T=some (.int .u8))(j:P.underlying T'=some (.int .i64))(k:Nat.blt d A.n=true):
 Does A P ⟨some d, .convert T T' x,ty,pos,af,g⟩ s (s.put d (lf (dI n.toNat))):=
 Qf rfl k fun c a w r=>by
  have f:a.eval x= .int .u8 n.toNat:=by
   have h:Rd c.N .u8 w [a.eval x] n:=m c a w r
   have i:[a.eval x]=[.int .u8 n.toNat]:=h.rep
   simpa using i
  have o:n.toNat < 256:=n.toNat_lt
  have e:IntKind.i64.wrap (n.toNat:Int)=(n.toNat:Int):=IntWalk.i64_in _ (by omega)
  refine ⟨.int .i64 n.toNat, ?_,_,rfl,Yk (by omega)⟩
  simp only[execOp,f,convert,run_underlying l,run_underlying j,aw,aG,Conv.intToInt,e]
  simp
end
theorem Trd.u8 {P:Program}{T:TypeId}(h:P.underlying T=some (.int .u8))(p:P.cellsOf T=1):Trd P T .u8:=⟨p,fun o w i f k j r x q=>by
 obtain ⟨n,rfl,_,l⟩:=DataW.trod_int h q
 simp[Lit.wf] at l
 have c:IntKind.u8.min=0:=rfl
 have e:IntKind.u8.max=255:=rfl
 rw[c,e] at l
 refine ⟨UInt8.ofNat n.toNat, ?_⟩
 have m:(UInt8.ofNat n.toNat).toNat=n.toNat:=by
  rw[UInt8.toNat_ofNat']
  exact cW (by omega)
 show [Value.int .u8 n]=[Value.int .u8 ((UInt8.ofNat n.toNat).toNat:Nat)]
 rw[m,da (by omega)]⟩
def Qu0 (P:Program)(T:TypeId)(offs:List (Nat×Nat))(zs:List Value):Prop:=
 ∃fs,P.underlying T=some (.struct fs)∧(∀w,(fs.mapM fun (f:Field)=>do pure (f.offset,← sizeOf f.type)).run P w= .ok offs.toArray w)∧zer P T=some (.agg zs.toArray)
theorem QkL {P:Program}{T:TypeId}{c:List Field}{offs:List (Nat×Nat)}{zs:List Value}(f:P.underlying T=some (.struct c.toArray))(e:plB P c offs=true)(h:zer P T=some (.agg zs.toArray)):Qu0 P T offs zs:=
 ⟨_,f,fun w=>by
  rw[List.mapM_toArray]
  have:=Uk (P:=P) (w:=w) e
  simp only[map_eq_pure_bind,aw,this,aG,bd],h⟩
section
variable {A:Amb}{P:Program}{s:St}{d:Nat}{T ty:TypeId}{pos:String}{af:Array Edge}{g:Option (Nat×Bool)}
theorem QaL {zs:List Value}(Q:List LV){offs:List (Nat×Nat)}{f:Array (Nat×Operand)}{j:List (Bool×List LV)}{ls:List LV}(hb:Qu0 P T offs zs)(G:∀al gh w,LVs al gh w Q zs)(hv:EvL A s (f.toList.map (·.2)) j)(o:∀c∈j,Q2 s.tab c.2=true)
 (hf:Qew offs Q ((f.toList.map (·.1)).zip (j.map (·.2)))=some ls) (hn:Nat.blt d A.n=true):Does A P ⟨some d, .build T f,ty,pos,af,g⟩ s (s.put d (ag ls)):=
 Qf rfl hn fun gh a w r=>by
  obtain ⟨fs,R,S,F⟩:=hb
  have C:=hv.cms r
  have N:=C.len
  generalize M:(f.toList.map (·.2)).map a.eval=t at*
  have a0:f.toList.length=t.length:=by rw[← M]; simp
  have m:∀(B:List (Bool×List LV)) (t:List Value),CmsR s.tab.al gh w B t→(∀c∈B,Q2 s.tab c.2=true)→∀(i:Nat) (c:Bool×List LV) (v:Value),B[i]? =some c→t[i]? =some v→∃O,v.cells=O.toArray∧LVs s.tab.al gh w c.2 O:=by
   intro B
   induction B with
   | nil=>intro t _ _ i c v h; simp at h
   | cons c B I=>
    rintro t ⟨v,K,rfl,D,J⟩ o i E v' z k
    cases i with
    | zero=>
     simp at z k
     subst z; subst k
     have z:=o c (ax ..)
     obtain ⟨b,ls⟩:=c
     exact CmR.cells D fun hb=>by
      subst hb
      obtain ⟨l,rfl,q1⟩:=D
      simp only[Q2,cQ] at z
      obtain ⟨F,U⟩:=WH z
      exact q1.oneCell U F fun q ⟨e,X⟩=>(r.cx.en q e X).oneCell
    | succ i=>exact I K J (fun c z=>o c (av _ z)) i E v' (by simpa using z) (by simpa using k)
  have H:((f.toList.map (·.1)).zip (j.map (·.2))).length=t.length:=by rw[List.length_zip,aE,aE]; omega
  obtain ⟨u,D,J⟩:=Hv (al:=s.tab.al) (gh:=gh) (w:=w) (cur:=zs.toArray) hf H.symm (fun i p v Z k=>by
   have Y:=List.getElem?_zip_eq_some.1 Z
   have L:=Y.2
   rw[aW] at L
   obtain ⟨E,V,W⟩:=cB.1 L
   rw[← W]
   exact m j t C o i E v V k) (by simpa using G s.tab.al gh w)
  refine ⟨.agg u, ?_,u.toList,by simp,J⟩
  have hz:(((f.toList.map (·.1)).zip (j.map (·.2))).map (·.1)).zip t=(f.map fun p=>(p.1,a.eval p.2)).toList:=by
   rw[List.map_fst_zip (by rw[aE,aE]; omega),cY,← M,dp]
   generalize f.toList=pl
   induction pl with
   | nil=>rfl
   | cons p ps I=>simp[I]
  rw[hz] at D
  simp only[execOp,Instr.build,aw,Wj F,aG,run_underlying R,S,Value.cells]
  rw[D]
  simp
end
end Go.Proofs.YtgpdhgadmjfokaaGreat
