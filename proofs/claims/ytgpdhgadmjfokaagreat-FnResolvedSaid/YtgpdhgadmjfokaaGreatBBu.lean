/- Walks over abstract states: graphs compared, the reference. -/
import Derived.Test.YtgpdhgadmjfokaaGreatBCg
import Derived.Test.YtgpdhgadmjfokaaGreatBEb
import Derived.Test.YtgpdhgadmjfokaaGreatBWw
import Derived.Test.YtgpdhgadmjfokaaGreatBUe
import Derived.Test.YtgpdhgadmjfokaaGreatBUg
import Derived.Test.YtgpdhgadmjfokaaGreatBWk
import Derived.Test.YtgpdhgadmjfokaaGreatBUa
import Derived.Test.YtgpdhgadmjfokaaGreatBAv
import Derived.Laws.Bits64b
set_option linter.unusedSimpArgs false
set_option linter.unusedVariables false
set_option linter.unusedSectionVars false
namespace Go.Proofs.YtgpdhgadmjfokaaGreat
open Go.RowKit
set_option maxRecDepth 100000
set_option maxHeartbeats 4000000
theorem QpF (n:Int): -9223372036854775808≤IntKind.i64.wrap n∧IntKind.i64.wrap n≤9223372036854775807:=by
 simp only[IntKind.wrap,IntKind.bits,IntKind.signed]
 simp
 split <;> omega
theorem Qgl {A:Amb}{P:Program}{s:St}{x y:Operand}{d:Nat}{T c ty:TypeId}{b:String}{e:Array Edge}{g:Option (Nat×Bool)}{m n:Int}(k:Evl A s x (dI m))(l:Evl A s y (dI n))(j:Nat.blt d A.n=true):Does A P ⟨some d, .binOp .add T x y c,ty,b,e,g⟩ s (s.put d (lf (dI (IntKind.i64.wrap (m+n))))):=
 Qk rfl j fun o a w r=>⟨.int .i64 (IntKind.i64.wrap (m+n)),by
  have f:=k.i r
  have h:=l.i r
  simp only[execOp,f,h,eqGuard_at_int,binOp,Op.intArith]
  simp,_,rfl,Ye (QpF _)⟩
theorem Jp (a:List ((Int×Bool)×(Int×Bool)))(b:List ((Int×Bool)×(Int×Bool)))(h:a=b):FC Tryz.prog 29 [(false,[.dat Qk5 a]),(false,[.dat Qk5 b])] [] 0 (Q7 (lB true)):=by
 have t:a.length=b.length:=by rw[h]
 refine Qt Tryz.func29 rfl rfl Tryz.ntmps29 fun v g u n x s r=> ?_
 refine w6 ?_
 refine alL 6 fun _=> ?_
 refine w2 ?_
 refine alL 8 fun _=> ?_
 refine w3 ?_
 refine cn_ (fun _ _=> ?_) fun _ _=> ?_
 refine w4 ?_
 refine alL 11 fun _=> ?_
 refine w4 ?_
 refine lp0 a.length (fun k=>⟨[(0,lf (.dat Qk5 a)),(1,lf (.dat Qk5 b)),(12,lI (a.length:Int)),(13,lI (k:Int))],[]⟩) ?_ fun k _=> ?_
 exact wo []
 refine w4 ?_
 cases d:(decide ((k:Int) < (a.length:Int)))
 have e:=aa d
 refine w7 ?_
 exact fe_ g
 have e:=ab d
 refine w8 ?_
 obtain ⟨j,i⟩:=gx a k
 obtain ⟨l,f⟩:=gx b k
 apply dW (i8 16 _ _ _ _ _ _ _ _ [io 24 (lB (!(Ty.beq Ys j l)))]) [0,1,0,0,15,31,15,15,0]
 refine z8 ?_
 refine zz (fun _ m=>ac (VK Qu8 QtO (m.w rfl) (m.w rfl) (p:=j) (q:=l) rfl rfl rfl) rfl) ?_
 exact zN
 cases c:(Ty.beq Ys j l)
 refine w4 ?_
 refine Qd<|fqB g ?_
 (exfalso; subst h; have o:=cw ((i).symm.trans f); rw[o,Jt] at c; exact absurd c (by decide))
 refine w6 ?_
 refine Qb ?_
 refine l0_ ?_
 exact wo []
 refine w3 ?_
 refine Qd<|fqB g ?_
 ·(exfalso; subst h; simp_all; done)
end Go.Proofs.YtgpdhgadmjfokaaGreat
namespace Go.Proofs.YtgpdhgadmjfokaaGreat
open Go.RowKit
set_option maxRecDepth 100000
set_option maxHeartbeats 4000000
theorem QcZ (a:List ByteArray)(b:List ByteArray)(h:a=b):FC Tryz.prog 104 [(false,[.dat Qm a]),(false,[.dat Qm b])] [] 0 (Q7 (lB true)):=by
 have q:a.length=b.length:=by rw[h]
 refine Qt Tryz.func104 rfl rfl Tryz.ntmps104 fun t i s n u p o=> ?_
 refine w6 ?_
 refine alL 6 fun _=> ?_
 refine w2 ?_
 refine alL 8 fun _=> ?_
 refine w3 ?_
 refine cn_ (fun _ _=> ?_) fun _ _=> ?_
 refine w4 ?_
 refine alL 11 fun _=> ?_
 refine w4 ?_
 refine lp0 a.length (fun k=>⟨[(0,lf (.dat Qm a)),(1,lf (.dat Qm b)),(12,lI (a.length:Int)),(13,lI (k:Int))],[]⟩) ?_ fun k _=> ?_
 exact wo []
 refine w4 ?_
 cases f:(decide ((k:Int) < (a.length:Int)))
 have g:=aa f
 refine w7 ?_
 exact fe_ i
 have g:=ab f
 refine w8 ?_
 obtain ⟨j,r⟩:=gx a k
 obtain ⟨l,m⟩:=gx b k
 apply dW (i9 16 _ _ _ _ _ _ _ _ _ []) [0,1,0,0,15,31,15,15,0]
 exact y9
 cases d:(!decide (j=l))
 have e:(j=l):=QM d
 refine w6 ?_
 refine Qb ?_
 refine l0_ ?_
 exact wo []
 have e:¬(j=l):=QS d
 refine w4 ?_
 refine Qd<|fqB i ?_
 ·(exfalso; subst h; simp_all; done)
 refine w3 ?_
 refine Qd<|fqB i ?_
 ·(exfalso; subst h; simp_all; done)
theorem JF (a:List ByteArray)(b:List ByteArray)(h:a=b):FC Tryz.prog 25 [(false,[.dat Qm a]),(false,[.dat Qm b])] [] 0 (Q7 (lB true)):=by
 have q:a.length=b.length:=by rw[h]
 refine Qt Tryz.func25 rfl rfl Tryz.ntmps25 fun t i s n u p o=> ?_
 refine w6 ?_
 refine alL 6 fun _=> ?_
 refine w2 ?_
 refine alL 8 fun _=> ?_
 refine w3 ?_
 refine cn_ (fun _ _=> ?_) fun _ _=> ?_
 refine w4 ?_
 refine alL 11 fun _=> ?_
 refine w4 ?_
 refine lp0 a.length (fun k=>⟨[(0,lf (.dat Qm a)),(1,lf (.dat Qm b)),(12,lI (a.length:Int)),(13,lI (k:Int))],[]⟩) ?_ fun k _=> ?_
 exact wo []
 refine w4 ?_
 cases f:(decide ((k:Int) < (a.length:Int)))
 have g:=aa f
 refine w7 ?_
 exact fe_ i
 have g:=ab f
 refine w8 ?_
 obtain ⟨j,r⟩:=gx a k
 obtain ⟨l,m⟩:=gx b k
 apply dW (i9 16 _ _ _ _ _ _ _ _ _ []) [0,1,0,0,15,31,15,15,0]
 exact y9
 cases d:(!decide (j=l))
 have e:(j=l):=QM d
 refine w6 ?_
 refine Qb ?_
 refine l0_ ?_
 exact wo []
 have e:¬(j=l):=QS d
 refine w4 ?_
 refine Qd<|fqB i ?_
 ·(exfalso; subst h; simp_all; done)
 refine w3 ?_
 refine Qd<|fqB i ?_
 ·(exfalso; subst h; simp_all; done)
theorem U7 (a:ZB)(b:ZB)(h:a=b):FC Tryz.prog 21 [(true,[.dat Ql a.1, .dat Qm a.2.1, .dat Qu a.2.2]),(true,[.dat Ql b.1, .dat Qm b.2.1, .dat Qu b.2.2])] [] 0 (Q7 (lB true)):=by
 have x:a.2.2.length=b.2.2.length:=by rw[h]
 refine Qt Tryz.func21 rfl rfl Tryz.ntmps21 fun z m y s A v u=> ?_
 refine w_ ?_
 refine xbx 0 ?_
 refine xbx 1 ?_
 refine w8 ?_
 refine lc (dK (Jk a.1 b.1) QlH) ?_
 refine w2 ?_
 cases f:(decide (a.1=b.1))
 have g:=aa f
 refine w16 ?_
 refine w5 ?_
 refine Qd<|fqB m ?_
 ·(exfalso; subst h; simp_all; done)
 have g:=ab f
 refine w4 ?_
 refine lgy rfl rfl (dK (QcZ a.2.1 b.2.1 (by rw[h])) Qk9) ?_
 refine w5 ?_
 refine alL 22 fun _=> ?_
 refine w3 ?_
 refine alL 25 fun _=> ?_
 refine w4 ?_
 refine cn_ (fun _ _=> ?_) fun _ _=> ?_
 refine w5 ?_
 refine alL 30 fun _=> ?_
 refine w4 ?_
 refine lp0 a.2.2.length (fun k=>⟨[(2,lP 0 0),(3,lP 1 0),(31,lI (a.2.2.length:Int)),(32,lI (k:Int))],[bx 0 27 [.dat Ql a.1, .dat Qm a.2.1, .dat Qu a.2.2],bx 1 27 [.dat Ql b.1, .dat Qm b.2.1, .dat Qu b.2.2]]⟩) ?_ fun k _=> ?_
 exact wo []
 refine w4 ?_
 cases i:(decide ((k:Int) < (a.2.2.length:Int)))
 have j:=aa i
 refine w7 ?_
 exact fe_ m
 have j:=ab i
 refine w8 ?_
 obtain ⟨o,n⟩:=gx a.2.2 k
 obtain ⟨e,l⟩:=gx b.2.2 k
 apply dW (i9 35 _ _ _ _ _ _ _ _ _ [io 44 _,io 45 (lB (!(Ty.beq Qs o e)))]) [0,0,3,0,0,31,31,127,31,31,0]
 refine z10 ?_
 refine zz (fun _ r=>ac (VK QwF Qxh (r.w rfl) (r.w rfl) (p:=o) (q:=e) rfl rfl rfl) rfl) ?_
 exact zN
 cases d:(Ty.beq Qs o e)
 refine w4 ?_
 refine Qd<|fqB m ?_
 (exfalso; subst h; have t:=cw ((n).symm.trans l); rw[t,Jt] at d; exact absurd d (by decide))
 refine w6 ?_
 refine Qb ?_
 refine l0_ ?_
 exact wo []
 refine w3 ?_
 refine Qd<|fqB m ?_
 ·(exfalso; subst h; simp_all; done)
section
variable {c:DSg}[∀c,Decidable (SgOk c)]
def hcV (c:DSg):Bool:=decide (SgOk c)&&decide ((Zt c).length=0)
theorem Qy0 (h:¬SgOk c):false=hcV c:=by unfold hcV; rw[aH h]; rfl
theorem Qyk (h:SgOk c)(e:(Zt c).length=0):hcV c=true:=by unfold hcV; rw[aQ h,aQ e]; rfl
theorem QyH (h:SgOk c):decide (((Zt c).length:Int)=0)=hcV c:=by
 unfold hcV; rw[aQ h,Bool.true_and]
 by_cases e:(Zt c).length=0
 ·rw[aQ e,aQ (by omega)]
 ·rw[aH e,aH (by omega)]
end
theorem QeS (c:ZB)[∀c,Decidable (SgOk c)]:FC Tryz.prog 30 [(true,[.dat Ql c.1, .dat Qm c.2.1, .dat Qu c.2.2])] [] 0 (Q7 (PV.tup [(false,[dB (hcV c)]),(false,[dB (decide (SgOk c))])])):=by
 refine Qt Tryz.func30 rfl rfl Tryz.ntmps30 fun n d m f o l k=> ?_
 refine w_ ?_
 refine xbx 0 ?_
 refine w6 ?_
 refine lc (dK (Zw c) V4) ?_
 refine w2 ?_
 cases a:(decide (SgOk c))
 have b:=aa a
 refine w6 ?_
 have g:(false:Bool)=(hcV c):=by
  exact Qy0 ‹_›
 have h:(false:Bool)=(decide (SgOk c)):=by
  exact (aH ‹_›).symm
 exact fr_ d (e:=by rw[← g,← h] <;> rfl)
 have b:=ab a
 refine w4 ?_
 refine lc (dK (Wr c (SgOk.w ‹_›)) Qaw) ?_
 refine alL 8 fun _=> ?_
 refine w6 ?_
 have i:(decide (((Zt c).length:Int)=0):Bool)=(hcV c):=by
  exact QyH ‹_›
 have j:(true:Bool)=(decide (SgOk c)):=by
  exact (aQ ‹_›).symm
 exact fr_ d (e:=by rw[i,← j] <;> rfl)
end Go.Proofs.YtgpdhgadmjfokaaGreat
namespace Go.Proofs.YtgpdhgadmjfokaaGreat
open Go.RowKit
set_option maxRecDepth 100000
set_option maxHeartbeats 4000000
section
variable {text tx fr to_ nm:ByteArray}{c c0:UInt8}{b b1:DB}{p:Int}
theorem QwM (h:okA text=true):1≤text.size∧2≤(ZW (Hz text) 62).length∧(1≤(XM text 0).size∧(b0 (XM text 0)=95∨1≤(Qa1 (XM text 0)).size))∧1≤(XM text 1).size∧(b0 (XM text 1)=95∨1≤(Qa1 (XM text 1)).size):=by
 unfold okA okW at h
 simp only[aL,bP,aU] at h
 exact ⟨h.1,h.2.1,h.2.2.1,h.2.2.2⟩
theorem WB (a:text[(0:Int).toNat]? =some c):b0 text=c:=by unfold b0; rw[show text[0]? =some c from a]; rfl
theorem Qyu (a:text[(0:Int).toNat]? =some c)(h:c=42):text.extract (1:Int).toNat text.size=Hz text:=by unfold Hz; rw[WB a,if_pos h]; rfl
theorem QyS (a:text[(0:Int).toNat]? =some c)(h:¬c=42):text=Hz text:=by unfold Hz; rw[WB a,if_neg h]
theorem YZ {k:Nat}(a:tx=Hz text)(h:(ZW tx 62)[k]? =some fr):XM text k=fr:=by unfold XM; rw[← a,h]; rfl
theorem QvE (a:XM text 1=to_)(d:to_[(0:Int).toNat]? =some c)(h:c=95):to_=QaK text:=by unfold QaK; rw[a,WB d,if_pos h]
theorem QyA (d:XM text 1=to_)(f:to_[(0:Int).toNat]? =some c)(h:¬c=95)(h0:XM text 0=fr)(a:fr[(0:Int).toNat]? =some c0)(e:c0=95):fr=QaK text:=by unfold QaK; rw[d,WB f,if_neg h,h0,WB a,if_pos e]
theorem QyB (d:XM text 1=to_)(f:to_[(0:Int).toNat]? =some c)(h:¬c=95)(h0:XM text 0=fr)(a:fr[(0:Int).toNat]? =some c0)(e:¬c0=95)(g:tx=Hz text):tx=QaK text:=by unfold QaK; rw[d,WB f,if_neg h,h0,WB a,if_neg e,g]
theorem Qye (h0:XM text 0=fr)(a:fr[(0:Int).toNat]? =some c0)(h:c0=95):b=ar1 p b text:=by unfold ar1; rw[h0,WB a,if_pos h]
theorem QxS (h0:XM text 1=to_)(a:to_[(0:Int).toNat]? =some c0)(h:c0=95):b=ar2 p b text:=by unfold ar2; rw[h0,WB a,if_pos h]
theorem Qy2 (h0:XM text 0=fr)(a:fr[(0:Int).toNat]? =some c0)(h:¬c0=95):((((ZA b fr).1.1.1,QfA (ZA b fr).1.1.2 (trI b fr) p),(ZA b fr).1.2.1,(ZA b fr).1.2.2.1,(ZA b fr).1.2.2.2),(ZA b fr).2.1,(ZA b fr).2.2)=ar1 p b text:=by unfold ar1; rw[h0,WB a,if_neg h]
theorem Qx9 (h0:XM text 1=to_)(a:to_[(0:Int).toNat]? =some c0)(h:¬c0=95):((((ZA b to_).1.1.1,QfI (ZA b to_).1.1.2 (trI b to_) p),(ZA b to_).1.2.1,(ZA b to_).1.2.2.1,(ZA b to_).1.2.2.2),(ZA b to_).2.1,(ZA b to_).2.2)=ar2 p b text:=by unfold ar2; rw[h0,WB a,if_neg h]
theorem QhZ {k:Nat}(e:tx=Hz text)(a:(ZW tx 62)[k]? =some fr)(j:text.size≤1000)(d:b0 (XM text k)=95∨1≤(Qa1 (XM text k)).size)(g:fr[(0:Int).toNat]? =some c)(h:¬c=95):fr.size≤1000∧1≤(Qa1 fr).size:=by
 have f:=QaD (ah a)
 have i:(Hz text).size≤text.size:=by unfold Hz; split; simp only[aW]; omega; exact aO _
 rw[YZ e a,WB g] at d
 rw[e] at f
 exact ⟨by omega,d.resolve_left h⟩
theorem QkE {a:DB}(f:text[(0:Int).toNat]? =some c)(h:¬c=42)(g:nm=QaK text)(d:b1=ar1 (plI b nm) (plV b nm) text)(e:a=ar2 (plI b nm) b1 text):arV b text=a:=by
 rw[e,d,g]; unfold arV; dsimp only; rw[WB f,if_neg h]
theorem QkF {a:DB}(f:text[(0:Int).toNat]? =some c)(h:c=42)(g:nm=QaK text)(d:b1=ar1 (plI b nm) (plV b nm) text)(e:a=ar2 (plI b nm) b1 text):arV b text=((a.1.1,a.1.2.1,a.1.2.2.1,Qri a.1.2.2.2 (plI b nm)),a.2.1,a.2.2):=by
 rw[e,d,g]; unfold arV; dsimp only; rw[WB f,if_pos h]
theorem Qq8:(Hz text).size≤text.size:=by unfold Hz; split; simp only[aW]; omega; exact aO _
end
theorem Qc1 (b:DB)(text:ByteArray)(B:Nat)(E:DBJ b B (2*B) (2*B))(hn:B≤1000)(ht:okA text=true)(Y:text.size≤1000):FC Tryz.prog 381 [(false,[.ptr 0 0]),(false,[dS text])] [bx 0 341 [dI b.1.1.1, .ref 2, .ref 1, .ref 3,dS b.1.2.2.2, .ref 4, .ref 5],ar 2 245 Zs b.1.1.2,ar 1 44 Qz b.1.2.1,ar 3 86 Qy b.1.2.2.1,ar 4 9 .str b.2.1,ar 5 9 .str b.2.2] 2 (Is (PV.tup []) [bx 0 341 [dI ((arV b text).1.1.1), .ref 2, .ref 1, .ref 3,dS ((arV b text).1.2.2.2), .ref 4, .ref 5],ar 2 245 Zs ((arV b text).1.1.2),ar 1 44 Qz ((arV b text).1.2.1),ar 3 86 Qy ((arV b text).1.2.2.1),ar 4 9 .str ((arV b text).2.1),ar 5 9 .str ((arV b text).2.2)]):=by
 obtain ⟨c7,a3,⟨P,Q⟩,R,S⟩:=QwM ht
 have b0:=Qq8 (text:=text)
 have b3:=E.p0
 have b4:=E.pl
 have b5:=E.st
 have b6:=E.tr
 have b7:=E.la
 have b8:=E.ws
 refine Qt Tryz.func381 rfl rfl Tryz.ntmps381 fun O_ hO d0 a7 X_ a9 a8=> ?_
 refine w2 ?_
 obtain ⟨V,a0⟩:=gs text ((0:Int).toNat)
 have i:=a0
 refine w_ ?_
 refine lc (Qr (Qa rfl) (Qw 42 rfl) rfl) ?_
 refine w2 ?_
 refine Ud (fun A=>∃(tx:ByteArray),(tx=Hz text)∧A=⟨[(0,lP 0 0),(1,lf (dS tx)),(4,lB (decide (V=42)))],[bx 0 341 [dI b.1.1.1, .ref 2, .ref 1, .ref 3,dS b.1.2.2.2, .ref 4, .ref 5],ar 1 44 Qz b.1.2.1,ar 2 245 Zs b.1.1.2,ar 3 86 Qy b.1.2.2.1,ar 4 9 .str b.2.1,ar 5 9 .str b.2.2]⟩) ?_ fun J3=> ?_
 rintro A ⟨tx,n,rfl⟩
 have c9:2≤(ZW tx 62).length:=by rw[n]; exact a3
 refine w2 ?_
 refine lc (Hb (Vq tx 62 (by rw[n]; omega)).frozen Qap ⟨_,_,rfl,(Qo rfl),⟨_,_,rfl,(Evl.ev (Qw 62 rfl)),rfl⟩⟩ rfl rfl) ?_
 refine w2 ?_
 obtain ⟨fr,G⟩:=gx (ZW tx 62) 0
 have w:=G
 have a6:1≤fr.size:=by first | (rw[← YZ (k:=0) n G]; exact P) | (rw[← YZ (k:=1) n G]; exact R)
 obtain ⟨to_,H⟩:=gx (ZW tx 62) 1
 have m:=H
 have a4:1≤to_.size:=by first | (rw[← YZ (k:=0) n H]; exact P) | (rw[← YZ (k:=1) n H]; exact R)
 apply dW (i6 20 _ _ _ _ _ _ (i2 6 _ _ [])) [0,0,0,7,7,7,56,0]
 exact y8
 refine Qtf (fun A=>∃(nm:ByteArray),(nm=QaK text)∧A=⟨[(0,lP 0 0),(4,lB (decide (V=42))),(6,lf (dS fr)),(7,lf (dS to_)),(8,lf (dS nm))],[bx 0 341 [dI b.1.1.1, .ref 2, .ref 1, .ref 3,dS b.1.2.2.2, .ref 4, .ref 5],ar 1 44 Qz b.1.2.1,ar 2 245 Zs b.1.1.2,ar 3 86 Qy b.1.2.2.1,ar 4 9 .str b.2.1,ar 5 9 .str b.2.2]⟩) ?_ fun X=> ?_
 rintro A ⟨nm,u,rfl⟩
 have I:=E.pl_ (name:=nm)
 have c3:=I.tr
 have c4:=I.la
 have c5:=I.ws
 have c8:=QoB (b:=b) (name:=nm)
 refine w3 ?_
 refine lc (dP 6 [(1,2),(2,1),(4,5),(5,4)] (QaO b nm (by omega) (by omega)) QmE) ?_
 refine w2 ?_
 refine Ud (fun A=>∃(b1:((Int×(List (List Int×List Int)))×(List (ByteArray×Int))×(List (Int×Bool))×ByteArray)×List ByteArray×List ByteArray),(b1=ar1 (plI b nm) (plV b nm) text)∧A=⟨[(0,lP 0 0),(4,lB (decide (V=42))),(7,lf (dS to_)),(9,lI (plI b nm))],[bx 0 341 [dI b1.1.1.1, .ref 12, .ref 1, .ref 13,dS b1.1.2.2.2, .ref 14, .ref 15],ar 1 44 Qz b1.1.2.1,ar 12 245 Zs b1.1.1.2,ar 13 86 Qy b1.1.2.2.1,ar 14 9 .str b1.2.1,ar 15 9 .str b1.2.2]⟩) ?_ fun J9=> ?_
 rintro A ⟨b1,f,rfl⟩
 have x:DBJ b1 (B+1) (2*B+1) (2*B+1):=by rw[f]; exact I.ar1_
 have b9:=x.tr
 have c1:=x.la
 have c2:=x.ws
 refine Ud (fun A=>∃(d:((Int×(List (List Int×List Int)))×(List (ByteArray×Int))×(List (Int×Bool))×ByteArray)×List ByteArray×List ByteArray),(d=ar2 (plI b nm) b1 text)∧A=⟨[(0,lP 0 0),(4,lB (decide (V=42))),(9,lI (plI b nm))],[bx 0 341 [dI d.1.1.1, .ref 16, .ref 1, .ref 17,dS d.1.2.2.2, .ref 18, .ref 19],ar 1 44 Qz d.1.2.1,ar 16 245 Zs d.1.1.2,ar 17 86 Qy d.1.2.2.1,ar 18 9 .str d.2.1,ar 19 9 .str d.2.2]⟩) ?_ fun J=> ?_
 rintro A ⟨d,g,rfl⟩
 have Z:DBJ d (B+1) (2*B+2) (2*B+2):=by rw[g]; exact x.ar2_
 have U:=Z.st
 have T:d.2.1=(plV b nm).2.1:=by rw[g,Qtl,f,Qsz]
 rw[T] at U
 have c6:=I.pl
 refine w3 ?_
 refine cd_ (fun _ _=> ?_) fun _ _=> ?_
 refine w_ ?_
 refine (?_:fin _ _ _ _ .normal _)
 exact fi_ [(2,16),(3,17),(4,18),(5,19)] hO ⟨(((congrArg (fun z_=>some (Ent.box 341 [dI z_, .ref 16, .ref 1, .ref 17,dS d.1.2.2.2, .ref 18, .ref 19])) (show (d.1.1.1:Int)=(arV b text).1.1.1 by (rw[QkE i ‹_› u f g]; done)))).trans (congrArg (fun z_=>some (Ent.box 341 [dI ((arV b text).1.1.1), .ref 16, .ref 1, .ref 17,dS z_, .ref 18, .ref 19])) (show (d.1.2.2.2:ByteArray)=(arV b text).1.2.2.2 by (rw[QkE i ‹_› u f g]; done)))),(Qe (by (rw[QkE i ‹_› u f g]; done))),(Qe (by (rw[QkE i ‹_› u f g]; done))),(Qe (by (rw[QkE i ‹_› u f g]; done))),(Qe (by (rw[QkE i ‹_› u f g]; done))),(Qe (by (rw[QkE i ‹_› u f g]; done))),trivial⟩
 apply dV (i7 93 _ _ _ _ _ _ _ (io 100 (lf (dS (d.1.2.2.2.extract 0 (plI b nm).toNat))) :: io 101 (lf (dS ((d.1.2.2.2.extract 0 (plI b nm).toNat)++(⟨#[49]⟩:ByteArray)))) :: i7 102 _ _ _ _ _ _ _ (io 109 (lf (dS (d.1.2.2.2.extract ((plI b nm)+1).toNat d.1.2.2.2.size))) :: io 110 (lf (dS (((d.1.2.2.2.extract 0 (plI b nm).toNat)++(⟨#[49]⟩:ByteArray))++(d.1.2.2.2.extract ((plI b nm)+1).toNat d.1.2.2.2.size)))) :: i3 111 _ _ _ [⟨none,lf (.val undef),[bx 0 341 [dI d.1.1.1, .ref 16, .ref 1, .ref 17,dS (((d.1.2.2.2.extract 0 (plI b nm).toNat)++(⟨#[49]⟩:ByteArray))++(d.1.2.2.2.extract ((plI b nm)+1).toNat d.1.2.2.2.size)), .ref 18, .ref 19]]⟩]))) [0,1,1,1,1,1,63,1,1,511,511,511,511,511,16383,16383,511,1,0,0,0,0]
 refine z7 ?_
 refine zz (fun _ a=>ac (show Does _ _ _ _ (St.put _ 100 (lf (dS (d.1.2.2.2.extract 0 (plI b nm).toNat)))) from Zj (l:=none) (h:=(some (plI b nm))) (a.v rfl) (by exact trivial) (by exact (a.v rfl)) Zf rfl (by first | omega | (simp only[av,ao]; omega)) (by first | omega | (simp only[av,ao]; omega)) (by first | omega | (simp only[av,ao]; omega))) rfl)<|zz (fun _ a=>ac (Zn (a.v rfl) (Evl.str rfl) rfl (by (simp only[aX,aW,Xt]; omega))) rfl) ?_
 refine z7 ?_
 refine zz (fun _ a=>ac (show Does _ _ _ _ (St.put _ 109 (lf (dS (d.1.2.2.2.extract ((plI b nm)+1).toNat d.1.2.2.2.size)))) from Zj (l:=(some ((plI b nm)+1))) (h:=none) (a.v rfl) (by exact (a.v rfl)) (by exact trivial) Zf rfl (by first | omega | (simp only[av,ao]; omega)) (by first | omega | (simp only[av,ao]; omega)) (by first | omega | (simp only[av,ao]; omega))) rfl)<|zz (fun _ a=>ac (Zn (a.v rfl) (a.v rfl) rfl (by (simp only[aX,aW,Xt]; omega))) rfl) ?_
 exact y4
 refine (?_:fin _ _ _ _ .normal _)
 exact fi_ [(2,16),(3,17),(4,18),(5,19)] hO ⟨(((congrArg (fun z_=>some (Ent.box 341 [dI z_, .ref 16, .ref 1, .ref 17,dS (((d.1.2.2.2.extract 0 (plI b nm).toNat)++(⟨#[49]⟩:ByteArray))++(d.1.2.2.2.extract ((plI b nm)+1).toNat d.1.2.2.2.size)), .ref 18, .ref 19])) (show (d.1.1.1:Int)=(arV b text).1.1.1 by (rw[QkF i ‹_› u f g]; done)))).trans (congrArg (fun z_=>some (Ent.box 341 [dI ((arV b text).1.1.1), .ref 16, .ref 1, .ref 17,dS z_, .ref 18, .ref 19])) (show (((d.1.2.2.2.extract 0 (plI b nm).toNat)++(⟨#[49]⟩:ByteArray))++(d.1.2.2.2.extract ((plI b nm)+1).toNat d.1.2.2.2.size):ByteArray)=(arV b text).1.2.2.2 by (rw[QkF i ‹_› u f g]; rfl)))),(Qe (by (rw[QkF i ‹_› u f g]; done))),(Qe (by (rw[QkF i ‹_› u f g]; done))),(Qe (by (rw[QkF i ‹_› u f g]; done))),(Qe (by (rw[QkF i ‹_› u f g]; done))),(Qe (by (rw[QkF i ‹_› u f g]; done))),trivial⟩
 refine w3 ?_
 obtain ⟨W,K⟩:=gs to_ ((0:Int).toNat)
 have j:=K
 refine w_ ?_
 refine lc (Q4 (Qa rfl) (Qw 95 rfl) rfl) ?_
 refine w_ ?_
 refine cn_ (fun _ _=> ?_) fun _ _=> ?_
 refine w_ ?_
 refine XP (J _ ⟨b1,(by exact QxS (YZ n m) j ‹_›),rfl⟩) ?_
 exact wo [(16,12),(17,13),(18,14),(19,15)]
 refine w3 ?_
 refine lc (dP 20 [(2,14),(3,12),(4,13),(5,15)] (Uz b1 to_ (by first | exact QhZ n w Y Q o ‹_› | exact QhZ n m Y S j ‹_›) (by omega)) Qfg) ?_
 refine w2 ?_
 have z:=x.tr_ (word:=to_)
 have a2:=z.tr
 have a1:=Qn3 (b:=b1) (word:=to_)
 obtain ⟨y,D⟩:=gx ((ZA b1 to_).1.1.2) ((trI b1 to_).toNat)
 have C:=(Qj3 D).2
 have a5:=z.inn y (ah D)
 have r:(trI b1 to_).toNat*2+0 < (Zk Zs ((ZA b1 to_).1.1.2)).length:=by rw[V1]; exact Qzu (by omega)
 refine AC.wk (Qdu (q:=23) rfl (by omega))<|AC.wk (Hd 26 (q:=23) (p:=(trI b1 to_).toNat*2+0) (E':=3) (e':= .int) (ys:=y.1) rfl (C) (Fresh.of rfl) (aI rfl)) ?_
 apply dZ (i9 71 _ _ _ _ _ _ _ _ _ (i5 80 _ _ _ _ _ [io 85 (lf (.ept 23 2 ((trI b1 to_).toNat) 0)),io 86 (lf (.ept 23 2 ((trI b1 to_).toNat) 0)),io 87 (lR 26),io 88 _,⟨some 89,lR 27,[ar 27 3 .int (Z9 ltI (plI b nm) y.1),(26,none)]⟩,io 90 (lf (.ept 23 2 ((trI b1 to_).toNat) 0)),io 91 (lf (.ept 23 2 ((trI b1 to_).toNat) 0)),⟨none,lf (.val undef),[(23,some (.obx 245 2 (((ZA b1 to_).1.1.2).length) (Zk Zs ((ZA b1 to_).1.1.2)) [((trI b1 to_).toNat*2+0, .ref 27),((trI b1 to_).toNat*2+0, .ref 26)]))]⟩])) [0,0,0,0,0,0,63,127,127,127,127,127,127,8191,127,127,127,131071,127,0,0,0]
 refine z14 ?_
 refine zz (fun _ a=>ac (YV (a.v rfl) (a.en 23 rfl) (a.v rfl) QcH Hw rfl (by omega) (by omega)) rfl)<|zz (fun _ a=>ac (YU (a.v rfl) QgG (by rw[(a.en 23 rfl)]; rfl) rfl) rfl) ?_
 refine zz (fun _ a=>ac (KG (a.v rfl) (a.en 23 rfl) (by simp only[ovr,bE,az,r,C,dM,if_true,if_false,↓reduceIte]) (a.en 26 rfl) X3 rfl) rfl) ?_
 refine z_ ?_
 refine zz (fun _ a=>ac (dP 27 [(0,26)] (Y5 y.1 (plI b nm) (by omega)) WP) rfl) ?_
 refine zz (fun _ a=>ac (YV (a.v rfl) (a.en 23 rfl) (a.v rfl) QcH Hw rfl (by omega) (by omega)) rfl)<|zz (fun _ a=>ac (YU (a.v rfl) QgG (by rw[(a.en 23 rfl)]; rfl) rfl) rfl) ?_
 refine zz (fun _ a=>ac (UA (t:=26) (a.v rfl) (a.en 23 rfl) (by simp only[ovr,bE,az,r,C,dM,if_true,if_false,↓reduceIte]) (a.v rfl) (a.en 27 rfl) X3) rfl) ?_
 exact zN
 refine XP (J _ ⟨((((ZA b1 to_).1.1.1,QfI ((ZA b1 to_).1.1.2) (trI b1 to_) (plI b nm)),(ZA b1 to_).1.2.1,(ZA b1 to_).1.2.2.1,(ZA b1 to_).1.2.2.2),(ZA b1 to_).2.1,(ZA b1 to_).2.2),(by exact Qx9 (YZ n m) j ‹_›),rfl⟩) ?_
 refine Wk.trans (QaJ (q:=23) (t:=27) (p:=(trI b1 to_).toNat*2+0) rfl (by simp only[ovr,bE,az,r,C,dM,if_true,if_false,↓reduceIte]) rfl) ?_
 refine Wk.trans (Qa9 (q:=23) (e:=Zs) (QfI ((ZA b1 to_).1.1.2) (trI b1 to_) (plI b nm)) rfl (by simp[QfI]) (by simp only[ovr]; rw[dl,dl,QkJ D,QqB D])) ?_
 exact wp [(16,23),(17,24),(18,14),(19,25)] ⟨rfl,(Qe (by first | rfl | simp)),(Qe (by first | rfl | simp)),(Qe (by first | rfl | simp)),(Qe (by first | rfl | simp)),(Qe (by first | rfl | simp)),trivial⟩
 refine w3 ?_
 obtain ⟨fc,L⟩:=gs fr ((0:Int).toNat)
 have o:=L
 refine w_ ?_
 refine lc (Q4 (Qa rfl) (Qw 95 rfl) rfl) ?_
 refine w_ ?_
 refine cn_ (fun _ _=> ?_) fun _ _=> ?_
 refine w_ ?_
 refine XP (J9 _ ⟨(plV b nm),(by exact Qye (YZ n w) o ‹_›),rfl⟩) ?_
 exact wo [(12,2),(13,3),(14,11),(15,5)]
 refine w3 ?_
 refine lc (dP 28 [(2,11),(3,2),(4,3)] (Uz (plV b nm) fr (by first | exact QhZ n w Y Q o ‹_› | exact QhZ n m Y S j ‹_›) (by omega)) Qfg) ?_
 refine w2 ?_
 have z:=I.tr_ (word:=fr)
 have a2:=z.tr
 have a1:=Qn3 (b:=plV b nm) (word:=fr)
 obtain ⟨y,D⟩:=gx ((ZA (plV b nm) fr).1.1.2) ((trI (plV b nm) fr).toNat)
 have C:=(Qj3 D).1
 have a5:=z.inn y (ah D)
 have r:(trI (plV b nm) fr).toNat*2+1 < (Zk Zs ((ZA (plV b nm) fr).1.1.2)).length:=by rw[V1]; exact Qzk (by omega)
 refine AC.wk (Qdu (q:=31) rfl (by omega))<|AC.wk (Hd 34 (q:=31) (p:=(trI (plV b nm) fr).toNat*2+1) (E':=3) (e':= .int) (ys:=y.2) rfl (C) (Fresh.of rfl) (aI rfl)) ?_
 apply dZ (i9 44 _ _ _ _ _ _ _ _ _ (i5 53 _ _ _ _ _ [io 58 (lf (.ept 31 2 ((trI (plV b nm) fr).toNat) 0)),io 59 (lf (.ept 31 2 ((trI (plV b nm) fr).toNat) 1)),io 60 (lR 34),io 61 _,⟨some 62,lR 35,[ar 35 3 .int (Z9 ltI (plI b nm) y.2),(34,none)]⟩,io 63 (lf (.ept 31 2 ((trI (plV b nm) fr).toNat) 0)),io 64 (lf (.ept 31 2 ((trI (plV b nm) fr).toNat) 1)),⟨none,lf (.val undef),[(31,some (.obx 245 2 (((ZA (plV b nm) fr).1.1.2).length) (Zk Zs ((ZA (plV b nm) fr).1.1.2)) [((trI (plV b nm) fr).toNat*2+1, .ref 35),((trI (plV b nm) fr).toNat*2+1, .ref 34)]))]⟩])) [0,0,0,0,0,0,63,127,127,127,127,127,127,8191,127,127,127,131071,127,0,0,0]
 refine z14 ?_
 refine zz (fun _ a=>ac (YV (a.v rfl) (a.en 31 rfl) (a.v rfl) QcH Hw rfl (by omega) (by omega)) rfl)<|zz (fun _ a=>ac (YU (a.v rfl) Qhi (by rw[(a.en 31 rfl)]; rfl) rfl) rfl) ?_
 refine zz (fun _ a=>ac (KG (a.v rfl) (a.en 31 rfl) (by simp only[ovr,bE,az,r,C,dM,if_true,if_false,↓reduceIte]) (a.en 34 rfl) X3 rfl) rfl) ?_
 refine z_ ?_
 refine zz (fun _ a=>ac (dP 35 [(0,34)] (Y5 y.2 (plI b nm) (by omega)) WP) rfl) ?_
 refine zz (fun _ a=>ac (YV (a.v rfl) (a.en 31 rfl) (a.v rfl) QcH Hw rfl (by omega) (by omega)) rfl)<|zz (fun _ a=>ac (YU (a.v rfl) Qhi (by rw[(a.en 31 rfl)]; rfl) rfl) rfl) ?_
 refine zz (fun _ a=>ac (UA (t:=34) (a.v rfl) (a.en 31 rfl) (by simp only[ovr,bE,az,r,C,dM,if_true,if_false,↓reduceIte]) (a.v rfl) (a.en 35 rfl) X3) rfl) ?_
 exact zN
 refine XP (J9 _ ⟨((((ZA (plV b nm) fr).1.1.1,QfA ((ZA (plV b nm) fr).1.1.2) (trI (plV b nm) fr) (plI b nm)),(ZA (plV b nm) fr).1.2.1,(ZA (plV b nm) fr).1.2.2.1,(ZA (plV b nm) fr).1.2.2.2),(ZA (plV b nm) fr).2.1,(ZA (plV b nm) fr).2.2),(by exact Qy2 (YZ n w) o ‹_›),rfl⟩) ?_
 refine Wk.trans (QaJ (q:=31) (t:=35) (p:=(trI (plV b nm) fr).toNat*2+1) rfl (by simp only[ovr,bE,az,r,C,dM,if_true,if_false,↓reduceIte]) rfl) ?_
 refine Wk.trans (Qa9 (q:=31) (e:=Zs) (QfA ((ZA (plV b nm) fr).1.1.2) (trI (plV b nm) fr) (plI b nm)) rfl (by simp[QfA]) (by simp only[ovr]; rw[dl,dl,Qmf D,QpX D])) ?_
 exact wp [(12,31),(13,32),(14,11),(15,33)] ⟨rfl,(Qe (by first | rfl | simp)),(Qe (by first | rfl | simp)),(Qe (by first | rfl | simp)),(Qe (by first | rfl | simp)),(Qe (by first | rfl | simp)),trivial⟩
 refine w7 ?_
 obtain ⟨fc,M⟩:=gs fr ((0:Int).toNat)
 have o:=M
 refine w_ ?_
 refine lc (Qr (Qa rfl) (Qw 95 rfl) rfl) ?_
 refine w_ ?_
 refine cd_ (fun _ _=> ?_) fun _ _=> ?_
 refine w4 ?_
 obtain ⟨W,N⟩:=gs to_ ((0:Int).toNat)
 have j:=N
 refine w_ ?_
 refine lc (Qr (Qa rfl) (Qw 95 rfl) rfl) ?_
 refine w_ ?_
 refine cd_ (fun _ _=> ?_) fun _ _=> ?_
 refine w_ ?_
 refine XP (X _ ⟨tx,(by exact QyB (YZ n m) j ‹_› (YZ n w) o ‹_› n),rfl⟩) ?_
 exact wo []
 refine w4 ?_
 refine XP (X _ ⟨to_,(by exact QvE (YZ n m) j ‹_›),rfl⟩) ?_
 exact wo []
 refine w7 ?_
 obtain ⟨W,O⟩:=gs to_ ((0:Int).toNat)
 have j:=O
 refine w_ ?_
 refine lc (Qr (Qa rfl) (Qw 95 rfl) rfl) ?_
 refine w_ ?_
 refine cd_ (fun _ _=> ?_) fun _ _=> ?_
 refine w_ ?_
 refine XP (X _ ⟨fr,(by exact QyA (YZ n m) j ‹_› (YZ n w) o ‹_›),rfl⟩) ?_
 exact wo []
 refine w4 ?_
 refine XP (X _ ⟨to_,(by exact QvE (YZ n m) j ‹_›),rfl⟩) ?_
 exact wo []
 refine w4 ?_
 cases s:(decide (V=42))
 have F:=aa s
 refine w2 ?_
 refine XP (J3 _ ⟨text,(by exact QyS i ‹_›),rfl⟩) ?_
 exact Wk.of [] rfl ⟨rfl,rfl,(congrArg (fun z_=>some (lB z_)) ((s).symm)),trivial⟩ ⟨rfl,rfl,rfl,rfl,rfl,rfl,trivial⟩ rfl rfl
 have F:=ab s
 refine w3 ?_
 refine lc (show Does _ _ _ _ (St.put _ 17 (lf (dS (text.extract (1:Int).toNat text.size)))) from Zj (l:=(some 1)) (h:=none) (Qa rfl) (by exact (Qp rfl)) (by exact trivial) Zf rfl (by first | omega | (simp only[av,ao]; omega)) (by first | omega | (simp only[av,ao]; omega)) (by first | omega | (simp only[av,ao]; omega))) ?_
 refine w2 ?_
 refine XP (J3 _ ⟨(text.extract (1:Int).toNat text.size),(by exact Qyu i ‹_›),rfl⟩) ?_
 exact Wk.of [] rfl ⟨rfl,rfl,(congrArg (fun z_=>some (lB z_)) ((s).symm)),trivial⟩ ⟨rfl,rfl,rfl,rfl,rfl,rfl,trivial⟩ rfl rfl
end Go.Proofs.YtgpdhgadmjfokaaGreat
namespace Go.Proofs.YtgpdhgadmjfokaaGreat
open Go.RowKit
theorem UQ (n:Int):0≤IntKind.u64.wrap n∧IntKind.u64.wrap n < 18446744073709551616:=by
 simp only[IntKind.wrap,IntKind.bits,IntKind.signed]
 simp
 omega
theorem JD {a:Int}(h:0≤a∧a < 18446744073709551616):0≤a / 2 ^ 40∧a / 2 ^ 40 < 18446744073709551616:=by omega
theorem QfR {a:Int}(h:0≤a∧a < 18446744073709551616):0≤bits BinOp.and IntKind.u64 a 255∧bits BinOp.and IntKind.u64 a 255≤255:=by
 have c:=bits_and_u64_nat a.toNat 255 (by omega) (by decide)
 rw[show ((a.toNat:Nat):Int)=a by omega,show ((255:Nat):Int)=255 from rfl] at c
 have e:a.toNat &&& 255≤255:=Nat.and_le_right
 rw[c]
 omega
section
variable {A:Amb}{P:Program}{s:St}{x y:Operand}{d:Nat}{T T' ty:TypeId}{pos:String}{af:Array Edge}{g:Option (Nat×Bool)}{a b:Int}
theorem Qg0 (j:Evl A s x (.val (.int .u64 a)))(k:Evl A s y (.val (.int .u64 b)))(i:Nat.blt d A.n=true):Does A P ⟨some d, .binOp .mul T x y T',ty,pos,af,g⟩ s (s.put d (lf (.val (.int .u64 (IntKind.u64.wrap (a*b)))))):=
 Qk rfl i fun e c w r=>by
  have f:c.eval x= .int .u64 a:=j e c w r
  have h:c.eval y= .int .u64 b:=k e c w r
  refine ⟨_, ?_,_,rfl,rfl⟩
  simp only[execOp,f,h,eqGuard_at_int,binOp,Op.intArith]
  simp
theorem J5 (j:Evl A s x (.val (.int .u64 a)))(k:Evl A s y (.val (.int .u64 b)))(i:Nat.blt d A.n=true):Does A P ⟨some d, .binOp .add T x y T',ty,pos,af,g⟩ s (s.put d (lf (.val (.int .u64 (IntKind.u64.wrap (a+b)))))):=
 Qk rfl i fun e c w r=>by
  have f:c.eval x= .int .u64 a:=j e c w r
  have h:c.eval y= .int .u64 b:=k e c w r
  refine ⟨_, ?_,_,rfl,rfl⟩
  simp only[execOp,f,h,eqGuard_at_int,binOp,Op.intArith]
  simp
theorem QgV (k:Evl A s x (.val (.int .u64 a)))(l:Evl A s y (.val (.int .u64 b)))(j:Nat.blt d A.n=true):Does A P ⟨some d, .binOp .and T x y T',ty,pos,af,g⟩ s (s.put d (lf (.val (.int .u64 (bits .and .u64 a b))))):=
 Qk rfl j fun e c w r=>by
  have f:c.eval x= .int .u64 a:=k e c w r
  have h:c.eval y= .int .u64 b:=l e c w r
  have i:Op.intBits .and .u64 a b=pure (.int .u64 (bits .and .u64 a b)):=rfl
  refine ⟨_, ?_,_,rfl,rfl⟩
  simp only[execOp,f,h,eqGuard_at_int,binOp,i]
  simp
theorem QgE {k:IntKind}(l:Evl A s x (.val (.int .u64 a)))(m:Evl A s y (.val (.int k b)))(j:Nat.blt d A.n=true)(h0:0≤b∧b≤62):Does A P ⟨some d, .binOp .shr T x y T',ty,pos,af,g⟩ s (s.put d (lf (.val (.int .u64 (a / 2 ^ b.toNat))))):=
 Qk rfl j fun e c w r=>by
  have f:c.eval x= .int .u64 a:=l e c w r
  have h:c.eval y= .int k b:=m e c w r
  have i:Op.shift .shr .u64 a k b=pure (.int .u64 (a / 2 ^ b.toNat)):=by
   rw[shift_shr_any _ _ _ _ h0.1,show IntKind.u64.bits=64 from rfl,cH (by omega)]
  refine ⟨_, ?_,_,rfl,rfl⟩
  simp only[execOp,f,h,eqGuard_at_int,binOp,i]
  simp
theorem QpA {n:UInt8}(m:Evl A s x (.dat .u8 n))(l:P.underlying T=some (.int .u8))(j:P.underlying T'=some (.int .i64))(k:Nat.blt d A.n=true):
 Does A P ⟨some d, .convert T T' x,ty,pos,af,g⟩ s (s.put d (lf (dI n.toNat))):=
 Qk rfl k fun c a w r=>by
  have f:a.eval x= .int .u8 n.toNat:=by
   have h:Rd c.N .u8 w [a.eval x] n:=m c a w r
   have i:[a.eval x]=[.int .u8 n.toNat]:=h.rep
   simpa using i
  have o:n.toNat < 256:=n.toNat_lt
  have e:IntKind.i64.wrap (n.toNat:Int)=(n.toNat:Int):=IntWalk.i64_in _ (by omega)
  refine ⟨.int .i64 n.toNat, ?_,_,rfl,Ye (by omega)⟩
  simp only[execOp,f,convert,run_underlying l,run_underlying j,ay,aK,Conv.intToInt,e]
  simp
end
theorem Trd.u8 {P:Program}{T:TypeId}(h:P.underlying T=some (.int .u8))(p:P.cellsOf T=1):Trd P T .u8:=⟨p,fun o w i f k j r x q=>by
 obtain ⟨n,rfl,_,l⟩:=DataW.trod_int h q
 simp[Lit.wf] at l
 have c:IntKind.u8.min=0:=rfl
 have e:IntKind.u8.max=255:=rfl
 rw[c,e] at l
 refine ⟨UInt8.ofNat n.toNat, ?_⟩
 have m:(UInt8.ofNat n.toNat).toNat=n.toNat:=by
  rw[UInt8.toNat_ofNat']
  exact cC (by omega)
 show [Value.int .u8 n]=[Value.int .u8 ((UInt8.ofNat n.toNat).toNat:Nat)]
 rw[m,cE (by omega)]⟩
def Qx3 (P:Program)(T:TypeId)(offs:List (Nat×Nat))(zs:List Value):Prop:=
 ∃fs,P.underlying T=some (.struct fs)∧(∀w,(fs.mapM fun (f:Field)=>do pure (f.offset,← sizeOf f.type)).run P w= .ok offs.toArray w)∧zer P T=some (.agg zs.toArray)
theorem Qvr {P:Program}{T:TypeId}{c:List Field}{offs:List (Nat×Nat)}{zs:List Value}(f:P.underlying T=some (.struct c.toArray))(e:plB P c offs=true)(h:zer P T=some (.agg zs.toArray)):Qx3 P T offs zs:=
 ⟨_,f,fun w=>by
  rw[List.mapM_toArray]
  have:=KS (P:=P) (w:=w) e
  simp only[map_eq_pure_bind,ay,this,aK,bh],h⟩
section
variable {A:Amb}{P:Program}{s:St}{d:Nat}{T ty:TypeId}{pos:String}{af:Array Edge}{g:Option (Nat×Bool)}
theorem QjV {zs:List Value}(Q:List LV){offs:List (Nat×Nat)}{f:Array (Nat×Operand)}{j:List (Bool×List LV)}{ls:List LV}(hb:Qx3 P T offs zs)(G:∀al gh w,LVs al gh w Q zs)(hv:EvL A s (f.toList.map (·.2)) j)(o:∀c∈j,QQ s.tab c.2=true)
 (hf:Qf9 offs Q ((f.toList.map (·.1)).zip (j.map (·.2)))=some ls) (hn:Nat.blt d A.n=true):Does A P ⟨some d, .build T f,ty,pos,af,g⟩ s (s.put d (ag ls)):=
 Qk rfl hn fun gh a w r=>by
  obtain ⟨fs,R,S,F⟩:=hb
  have C:=hv.cms r
  have N:=C.len
  generalize M:(f.toList.map (·.2)).map a.eval=t at*
  have a0:f.toList.length=t.length:=by rw[← M]; simp
  have m:∀(B:List (Bool×List LV)) (t:List Value),CmsR s.tab.al gh w B t→(∀c∈B,QQ s.tab c.2=true)→∀(i:Nat) (c:Bool×List LV) (v:Value),B[i]? =some c→t[i]? =some v→∃O,v.cells=O.toArray∧LVs s.tab.al gh w c.2 O:=by
   intro B
   induction B with
   | nil=>intro t _ _ i c v h; simp at h
   | cons c B I=>
    rintro t ⟨v,K,rfl,D,J⟩ o i E v' z k
    cases i with
    | zero=>
     simp at z k
     subst z; subst k
     have z:=o c (ax ..)
     obtain ⟨b,ls⟩:=c
     exact CmR.cells D fun hb=>by
      subst hb
      obtain ⟨l,rfl,q1⟩:=D
      simp only[QQ,db] at z
      obtain ⟨F,U⟩:=VH z
      exact q1.oneCell U F fun q ⟨e,X⟩=>(r.cx.en q e X).oneCell
    | succ i=>exact I K J (fun c z=>o c (aw _ z)) i E v' (by simpa using z) (by simpa using k)
  have H:((f.toList.map (·.1)).zip (j.map (·.2))).length=t.length:=by rw[List.length_zip,aC,aC]; omega
  obtain ⟨u,D,J⟩:=Qa4 (al:=s.tab.al) (gh:=gh) (w:=w) (cur:=zs.toArray) hf H.symm (fun i p v Z k=>by
   have Y:=List.getElem?_zip_eq_some.1 Z
   have L:=Y.2
   rw[bc] at L
   obtain ⟨E,V,W⟩:=co.1 L
   rw[← W]
   exact m j t C o i E v V k) (by simpa using G s.tab.al gh w)
  refine ⟨.agg u, ?_,u.toList,by simp,J⟩
  have hz:(((f.toList.map (·.1)).zip (j.map (·.2))).map (·.1)).zip t=(f.map fun p=>(p.1,a.eval p.2)).toList:=by
   rw[List.map_fst_zip (by rw[aC,aC]; omega),dh,← M,dE]
   generalize f.toList=pl
   induction pl with
   | nil=>rfl
   | cons p ps I=>simp[I]
  rw[hz] at D
  simp only[execOp,Instr.build,ay,Vd F,aK,run_underlying R,S,Value.cells]
  rw[D]
  simp
end
end Go.Proofs.YtgpdhgadmjfokaaGreat
