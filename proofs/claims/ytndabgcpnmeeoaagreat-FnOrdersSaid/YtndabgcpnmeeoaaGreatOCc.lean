/- Walks over abstract states: graphs built from words. -/
import Derived.Test.YtndabgcpnmeeoaaGreatOBe
import Derived.Test.YtndabgcpnmeeoaaGreatOAv
import Derived.Test.YtndabgcpnmeeoaaGreatOWb
import Derived.Test.YtndabgcpnmeeoaaGreatOWj
set_option linter.unusedSimpArgs false
set_option linter.unusedVariables false
set_option linter.unusedSectionVars false
namespace Go.Proofs.YtndabgcpnmeeoaaGreat
open Go.RowKit
set_option maxRecDepth 100000
set_option maxHeartbeats 4000000
section
variable {s:ByteArray}{b c:UInt8}{i:Nat}{out:List ByteArray}{fr:Int}
theorem QpW (a:(out,fr)=spS s b i)(hi:s.size≤i)(d:i≤s.size):out++[s.extract fr.toNat s.size]=ZJ s b:=by
 have e:i=s.size:=by omega
 subst e
 unfold ZJ
 rw[← a]
theorem QpZ (a:(out,fr)=spS s b i)(h:s[((i:Nat):Int).toNat]? =some c)(e:c=b):(out++[s.extract fr.toNat ((i:Nat):Int).toNat],(i:Int)+1)=spS s b (i+1):=by
 rw[Int.toNat_natCast] at h ⊢
 rw[← QuR h e,← a]
theorem QpY (s:ByteArray)(b:UInt8):1≤(ZJ s b).length:=by unfold ZJ; rw[ae,aq,az]; omega
theorem QaU {x:ByteArray}(h:x∈ZJ s b):x.size≤s.size:=by
 have d:∀i,∀x∈(spS s b i).1,x.size≤s.size:=fun i=>by
  induction i with
  | zero=>intro x h; cases h
  | succ i a=>
   intro x h
   rw[spS] at h
   split at h
   ·rcases aG.1 h with h | h
    ·exact a x h
    ·rw[aC.1 h]; simp only[ba]; omega
   ·exact a x h
 unfold ZJ at h
 rcases aG.1 h with h | h
 ·exact d _ x h
 ·rw[aC.1 h]; simp only[ba]; omega
theorem QsS (a:(out,fr)=spS s b i)(h:s[((i:Nat):Int).toNat]? =some c)(e:¬c=b):(out,fr)=spS s b (i+1):=by
 rw[Int.toNat_natCast] at h
 rw[← QwN h e,← a]
end
theorem Vx (s:ByteArray)(b:UInt8)(F:s.size≤100000):FC Tryz.prog 342 [(false,[dS s]),(false,[.dat .u8 b])] [] 0 (XB 9 .str (ZJ s b)):=by
 refine Qn Tryz.func342 rfl rfl Tryz.ntmps342 fun D A C v E z y=> ?_
 refine w14 ?_
 refine AC.wk (Wk.nilS 0 5 9 .str rfl (Fresh.of rfl) (nlr rfl)) ?_
 refine QH (fun r u=>∃(i:Nat) (out:List ByteArray) (fr:Int),i≤s.size∧r=s.size - i∧((out,fr)=spS s b i)∧u=⟨[(0,lf (dS s)),(1,lf (.dat .u8 b)),(4,lf (.val (.slice none 0 0))),(5,lR 1),(6,lI fr),(7,lI (i:Int))],[ar 1 9 .str out]⟩) ⟨0,([]:(Qu:Ty).Den),0,aP _,rfl,rfl,rfl⟩ ?_ ?_
 exact wp [(1,0)] ⟨(Qh (by first | rfl | simp)),trivial⟩
 rintro r u ⟨i,out,fr,q,B,n,rfl⟩
 have m:=Qon (s:=s) (b:=b) (i:=i)
 rw[← n] at m
 dsimp only at m
 refine w4 ?_
 refine alS 9 fun _=> ?_
 refine lc (Yq (Qa rfl) rfl ZN) ?_
 refine w2 ?_
 cases a:(decide ((i:Int) < (s.size:Int)))
 have d:=aa a
 refine w7 ?_
 refine lc (show Does _ _ _ _ (St.put _ 31 (lf (dS (s.extract (fr).toNat s.size)))) from Zd (l:=(some fr)) (h:=none) (Qa rfl) (by exact (Qa rfl)) (by exact trivial) ZN rfl (by first | omega | (simp only[ak,aj]; omega)) (by first | omega | (simp only[ak,aj]; omega)) (by first | omega | (simp only[ak,aj]; omega))) ?_
 refine lc (dBs 2 (e:= .str) Ut) ?_
 refine lc (dA 3 Jm) ?_
 refine w2 ?_
 refine Qe<|fo_ A ?_
 exact QpW n (by omega) q
 have d:=ab a
 refine w7 ?_
 obtain ⟨w,o⟩:=gs s (((i:Int)).toNat)
 have j:=o
 refine w4 ?_
 cases f:(decide (w=b))
 have g:=aa f
 refine w7 ?_
 refine Qf<|ZF ⟨i+1,out,fr,by omega,rfl,(by exact QsS n j ‹_›),rfl⟩ (by omega) ?_
 exact wo []
 have g:=ab f
 refine w6 ?_
 refine lc (show Does _ _ _ _ (St.put _ 23 (lf (dS (s.extract (fr).toNat ((i:Int)).toNat)))) from Zd (l:=(some fr)) (h:=(some (i:Int))) (Qa rfl) (by exact (Qa rfl)) (by exact (Qa rfl)) ZN rfl (by first | omega | (simp only[ak,aj]; omega)) (by first | omega | (simp only[ak,aj]; omega)) (by first | omega | (simp only[ak,aj]; omega))) ?_
 refine lc (dBs 4 (e:= .str) Ut) ?_
 refine lc (dA 5 Jm) ?_
 refine w6 ?_
 refine Qf ?_
 refine w5 ?_
 refine Qf<|ZF ⟨i+1,(out++([s.extract (fr).toNat ((i:Int)).toNat])),((i:Int)+1),by omega,rfl,(by exact QpZ n j ‹_›),rfl⟩ (by omega) ?_
 exact wp [(1,5)] ⟨(Qh (by first | rfl | simp)),trivial⟩
section
variable {word text nm:ByteArray}{G:List QB}{c0 cz:UInt8}{k:Nat}{x:DTr}{T_:List DTr}{t p:Int}
theorem Qwg (d:QbE word=nm)(a:nm[(0:Int).toNat]? =some c0)(h:c0=126):((-1,false):Q9)=QmB G word:=by
 unfold QmB b0
 rw[d,show nm[0]? =some c0 from a]
 exact (if_pos (show (some c0).getD 0=126 from h)).symm
theorem Qwf (f:QbE word=nm)(d:nm[(0:Int).toNat]? =some c0)(h:¬c0=126)(a:nm[((nm.size:Int) - 1).toNat]? =some cz):
 ((ZO (fun g=>decide (g.1=nm.extract 0 ((nm.size:Int) - 1).toNat)) G,decide (cz=43)):Q9)=QmB G word:=by
 unfold QmB b0 bZ
 have e:((nm.size:Int) - 1).toNat=nm.size - 1:=by omega
 rw[e] at a ⊢
 rw[f,show nm[0]? =some c0 from d]
 refine Eq.trans ?_ (if_neg (show¬(some c0).getD 0=126 from h)).symm
 rw[a]; rfl
theorem QpL (a:T_[t.toNat]? =some x):T_.set t.toNat (x.1,Zr ltI p x.2)=QfJ T_ t p:=by
 unfold QfJ
 apply bF
 intro i
 rw[aV,cp]
 by_cases e:t.toNat=i
 ·subst e; rw[a]; simp[(ah.1 a).1]
 ·simp[e]
theorem QpM (a:T_[t.toNat]? =some x):T_.set t.toNat (Zr ltI p x.1,x.2)=QfK T_ t p:=by
 unfold QfK
 apply bF
 intro i
 rw[aV,cp]
 by_cases e:t.toNat=i
 ·subst e; rw[a]; simp[(ah.1 a).1]
 ·simp[e]
end
theorem Qbr (b:DB)(name:ByteArray)(B:0≤b.1.1.1∧b.1.1.1≤100000)(A:b.2.1.length≤100000∧b.1.2.2.2.size≤100000):FC Tryz.prog 460 [(false,[.ptr 0 0]),(false,[dS name])] [bx 0 373 [dI b.1.1.1, .ref 1, .ref 2, .ref 3,dS b.1.2.2.2, .ref 5, .ref 4],ar 1 275 QD b.1.1.2,ar 2 77 QE b.1.2.1,ar 3 75 QL b.1.2.2.1,ar 5 9 .str b.2.1,ar 4 9 .str b.2.2] 5 (Is (lI (plI b name)) [bx 0 373 [dI ((plV b name).1.1.1), .ref 1, .ref 2, .ref 3,dS ((plV b name).1.2.2.2), .ref 5, .ref 4],ar 1 275 QD ((plV b name).1.1.2),ar 2 77 QE ((plV b name).1.2.1),ar 3 75 QL ((plV b name).1.2.2.1),ar 5 9 .str ((plV b name).2.1),ar 4 9 .str ((plV b name).2.2)]):=by
 refine Qn Tryz.func460 rfl rfl Tryz.ntmps460 fun w m v n z u r=> ?_
 refine w13 ?_
 refine lpK b.2.1.length (fun k=>NoneTo (fun y=>decide (y=name)) b.2.1 k) (fun k=>⟨[(0,lP 0 0),(1,lf (dS name)),(10,lR 5),(11,lI (b.2.1.length:Int)),(12,lI (k:Int))],[bx 0 373 [dI b.1.1.1, .ref 1, .ref 2, .ref 3,dS b.1.2.2.2, .ref 5, .ref 4],ar 1 275 QD b.1.1.2,ar 2 77 QE b.1.2.1,ar 3 75 QL b.1.2.2.1,ar 4 9 .str b.2.2,ar 5 9 .str b.2.1]⟩) (NoneTo.zero) ?_ fun k _ a=> ?_
 exact wo []
 refine w4 ?_
 cases f:(decide ((k:Int) < (b.2.1.length:Int)))
 have g:=aa f
 refine w10 ?_
 refine lc (dBs 6 (e:= .str) Ut) ?_
 refine lc (dA 7 Jm) ?_
 refine w10 ?_
 refine lc (Q7 (Qa rfl) (Evl.str rfl) rfl (by (simp only[Yy]; omega))) ?_
 refine w12 ?_
 refine alI 46 fun _=> ?_
 refine lc (Wm (Qa rfl) (Qr rfl) rfl (by first | omega | (simp only[ae,aq,az]; omega))) ?_
 refine w12 ?_
 refine lc (V8 (Qa rfl) (Qr rfl) rfl (by first | omega | (simp only[ae,aq,az]; omega))) ?_
 refine w3 ?_
 have o:(((b.2.1++([name])).length:Int) - 1:Int)=(plI b name):=by
  (unfold plI; rw[Qa9 (Yd a (by omega)),ae]; simp)
 exact fi_ [(5,7)] m ⟨(((congrArg (fun z_=>some (Ent.box 373 [dI z_, .ref 1, .ref 2, .ref 3,dS (b.1.2.2.2++(⟨#[48]⟩:ByteArray)), .ref 7, .ref 4])) (show (b.1.1.1+1:Int)=(plV b name).1.1.1 by (rw[VP (Yd a (by omega))]; done)))).trans (congrArg (fun z_=>some (Ent.box 373 [dI ((plV b name).1.1.1), .ref 1, .ref 2, .ref 3,dS z_, .ref 7, .ref 4])) (show (b.1.2.2.2++(⟨#[48]⟩:ByteArray):ByteArray)=(plV b name).1.2.2.2 by (rw[VP (Yd a (by omega))]; done)))),(Qh (by (rw[VP (Yd a (by omega))]; done))),(Qh (by (rw[VP (Yd a (by omega))]; done))),(Qh (by (rw[VP (Yd a (by omega))]; done))),(Qh (by (rw[VP (Yd a (by omega))]; done))),(Qh (by (rw[VP (Yd a (by omega))]; done))),trivial⟩ (h0:=by rw[o] <;> rfl)
 have g:=ab f
 refine w7 ?_
 obtain ⟨x,l⟩:=gx b.2.1 k
 have d:=l
 refine w9 ?_
 cases h:(decide (x=name))
 have j:=aa h
 refine w4 ?_
 refine lc (Wm (Qa rfl) (Qr rfl) rfl (by first | omega | (simp only[ae,aq,az]; omega))) ?_
 refine w_ ?_
 refine Qf ?_
 refine lK_ (a.step l (aQ ‹_›)) ?_
 exact wo []
 have j:=ab h
 refine w6 ?_
 have q:((k:Int):Int)=(plI b name):=by
  exact Qq2 a d ‹_›
 exact fi_ [] m ⟨(((congrArg (fun z_=>some (Ent.box 373 [dI z_, .ref 1, .ref 2, .ref 3,dS b.1.2.2.2, .ref 5, .ref 4])) (show (b.1.1.1:Int)=(plV b name).1.1.1 by (rw[K9 (Xb d ‹_›)]; done)))).trans (congrArg (fun z_=>some (Ent.box 373 [dI ((plV b name).1.1.1), .ref 1, .ref 2, .ref 3,dS z_, .ref 5, .ref 4])) (show (b.1.2.2.2:ByteArray)=(plV b name).1.2.2.2 by (rw[K9 (Xb d ‹_›)]; done)))),(Qh (by (rw[K9 (Xb d ‹_›)]; done))),(Qh (by (rw[K9 (Xb d ‹_›)]; done))),(Qh (by (rw[K9 (Xb d ‹_›)]; done))),(Qh (by (rw[K9 (Xb d ‹_›)]; done))),(Qh (by (rw[K9 (Xb d ‹_›)]; done))),trivial⟩ (h0:=by rw[q] <;> rfl)
theorem UH (b:DB)(word:ByteArray)(N:word.size≤1000∧1≤(QbE word).size)(R:b.1.1.2.length≤100000∧b.1.2.2.1.length≤100000∧b.2.2.length≤100000):FC Tryz.prog 461 [(false,[.ptr 0 0]),(false,[dS word])] [bx 0 373 [dI b.1.1.1, .ref 3, .ref 1, .ref 4,dS b.1.2.2.2, .ref 2, .ref 5],ar 3 275 QD b.1.1.2,ar 1 77 QE b.1.2.1,ar 4 75 QL b.1.2.2.1,ar 2 9 .str b.2.1,ar 5 9 .str b.2.2] 3 (Is (lI (trI b word)) [bx 0 373 [dI ((Zv b word).1.1.1), .ref 3, .ref 1, .ref 4,dS ((Zv b word).1.2.2.2), .ref 2, .ref 5],ar 3 275 QD ((Zv b word).1.1.2),ar 1 77 QE ((Zv b word).1.2.1),ar 4 75 QL ((Zv b word).1.2.2.1),ar 2 9 .str ((Zv b word).2.1),ar 5 9 .str ((Zv b word).2.2)]):=by
 have M:=QpY word 47
 refine Qn Tryz.func461 rfl rfl Tryz.ntmps461 fun P C O F Q J I=> ?_
 refine w13 ?_
 refine lpK b.2.2.length (fun k=>NoneTo (fun y=>decide (y=word)) b.2.2 k) (fun k=>⟨[(0,lP 0 0),(1,lf (dS word)),(12,lR 5),(13,lI (b.2.2.length:Int)),(14,lI (k:Int))],[bx 0 373 [dI b.1.1.1, .ref 3, .ref 1, .ref 4,dS b.1.2.2.2, .ref 2, .ref 5],ar 1 77 QE b.1.2.1,ar 2 9 .str b.2.1,ar 3 275 QD b.1.1.2,ar 4 75 QL b.1.2.2.1,ar 5 9 .str b.2.2]⟩) (NoneTo.zero) ?_ fun k _ a=> ?_
 exact wo []
 refine w4 ?_
 cases o:(decide ((k:Int) < (b.2.2.length:Int)))
 have q:=aa o
 refine w10 ?_
 refine lc (dBs 6 (e:= .str) Ut) ?_
 refine lc (dA 7 Jm) ?_
 refine w6 ?_
 refine lc (Hj (Vx word 47 (by omega)).frozen QaB ⟨_,_,rfl,(Ql rfl),⟨_,_,rfl,(Evl.ev (Q0 47 rfl)),rfl⟩⟩ rfl rfl) ?_
 obtain ⟨nm,z⟩:=gx (ZJ word 47) 0
 have n:QbE word=nm:=by unfold QbE; rw[show (ZJ word 47)[0]? =some nm from z]; rfl
 have L:1≤nm.size:=by rw[← n]; exact N.2
 have K:=QaU (ai z)
 refine w5 ?_
 refine lc (Qj Qaq ⟨_,_,rfl,(Evl.ev (Qr rfl)),rfl⟩ (av.1 rfl) rfl rfl)<|lc (xal 8 QL Xy) ?_
 refine w5 ?_
 obtain ⟨c0,D⟩:=gs nm ((0:Int).toNat)
 have r:=D
 refine w_ ?_
 refine lc (Zy (Qa rfl) (Q0 126 rfl) rfl) ?_
 refine w_ ?_
 refine cn_ (fun _ _=> ?_) fun _ _=> ?_
 refine w9 ?_
 refine lc (Qj Hp rfl (av.1 rfl) rfl rfl) ?_
 refine lc (dBs 9 (e:=QD) X1 (hab:=by exact ⟨_,_,_,_,rfl,⟨[.val (.slice none 0 0)],[.val (.slice none 0 0)],_,_,_,_,rfl,rfl,(.inr ⟨rfl,rfl,rfl⟩),(.inr ⟨rfl,rfl,rfl⟩),rfl⟩,⟨rfl,rfl⟩,rfl⟩)) ?_
 refine lc (dA 10 Hv) ?_
 refine w6 ?_
 apply dW (i7 74 _ _ _ _ _ _ _ (⟨some 81,lR 11,[ar 11 75 QL ([((-1),false)])]⟩ :: ⟨some 82,lR 12,[ar 12 75 QL (b.1.2.2.1++([((-1),false)])),(4,none),(11,none)]⟩ :: i3 83 _ _ _ [⟨none,lf (.val undef),[bx 0 373 [dI b.1.1.1, .ref 10, .ref 1, .ref 12,dS b.1.2.2.2, .ref 2, .ref 7]]⟩])) [0,1,1,1,1,1,63,63,1,0,0,0,0]
 refine z7 ?_
 refine zz (fun _ d=>ac (dBs 11 (e:=QL) Xy (hab:=by exact ⟨_,_,_,_,rfl,⟨[dI (-1)],[dB false],_,_,_,_,rfl,rfl,⟨rfl,rfl⟩,⟨rfl,rfl⟩,rfl⟩,⟨rfl,rfl⟩,rfl⟩)) rfl) ?_
 refine zz (fun _ d=>ac (dA 12 Qat) rfl) ?_
 refine z3 ?_
 refine zz (fun _ d=>ac (Q6 (d.v rfl) (d.en 0 rfl) (d.w rfl) (by simp only[QW,XG,bd,bt]; rw[(d.en 12 rfl)]; rfl) Qtd rfl) rfl) ?_
 exact zN
 refine w6 ?_
 refine lc (V8 (Qa rfl) (Qr rfl) rfl (by first | omega | (simp only[ae,aq,az]; omega))) ?_
 refine w3 ?_
 have H:(((b.2.2++([word])).length:Int) - 1:Int)=(trI b word):=by
  (unfold trI; rw[Qa9 (Yd a (by omega)),ae]; simp)
 exact fi_ [(3,10),(4,12),(5,7)] C ⟨(((congrArg (fun z_=>some (Ent.box 373 [dI z_, .ref 10, .ref 1, .ref 12,dS b.1.2.2.2, .ref 2, .ref 7])) (show (b.1.1.1:Int)=(Zv b word).1.1.1 by (rw[Z7 (Yd a (by omega))]; done)))).trans (congrArg (fun z_=>some (Ent.box 373 [dI ((Zv b word).1.1.1), .ref 10, .ref 1, .ref 12,dS z_, .ref 2, .ref 7])) (show (b.1.2.2.2:ByteArray)=(Zv b word).1.2.2.2 by (rw[Z7 (Yd a (by omega))]; done)))),(Qh (by (rw[Z7 (Yd a (by omega))]; done))),(Qh (by (rw[Z7 (Yd a (by omega))]; done))),(Qh (by (rw[Z7 (Yd a (by omega)),← Qwg n r ‹_›]; done))),(Qh (by (rw[Z7 (Yd a (by omega))]; done))),(Qh (by (rw[Z7 (Yd a (by omega))]; done))),trivial⟩ (h0:=by rw[H] <;> rfl)
 obtain ⟨cz,u⟩:=gs nm (((nm.size:Int) - 1).toNat)
 have E:=u
 apply dZ (i7 42 _ _ _ _ _ _ _ (io 49 (lI (nm.size:Int)) :: io 50 (lI ((nm.size:Int) - 1)) :: io 51 (lf (dS (nm.extract 0 ((nm.size:Int) - 1).toNat))) :: io 52 (lI (ZO (fun x:QB=>decide (x.1=(nm.extract 0 ((nm.size:Int) - 1).toNat))) b.1.2.1)) :: i2 53 _ _ [io 55 (lI (nm.size:Int)),io 56 (lI ((nm.size:Int) - 1)),io 57 _,io 58 (lB (decide (cz=43))),io 59 (ag [dI (ZO (fun x:QB=>decide (x.1=(nm.extract 0 ((nm.size:Int) - 1).toNat))) b.1.2.1),dB (decide (cz=43))]),⟨none,lf (.val undef),[bx 8 75 [dI (ZO (fun x:QB=>decide (x.1=(nm.extract 0 ((nm.size:Int) - 1).toNat))) b.1.2.1),dB (decide (cz=43))]]⟩])) [0,0,0,0,0,31,63,63,63,31,0,2047,4095,4095,4095,2047,2047,0,0]
 refine z7 ?_
 refine zz (fun _ d=>ac (Yq (d.v rfl) rfl ZN) rfl)<|zz (fun _ d=>ac (V8 (d.v rfl) (Qr rfl) rfl (by first | omega | (simp only[ae,aq,az]; omega))) rfl)<|zz (fun _ d=>ac (show Does _ _ _ _ (St.put _ 51 (lf (dS (nm.extract 0 ((nm.size:Int) - 1).toNat)))) from Zd (l:=none) (h:=(some ((nm.size:Int) - 1))) (d.v rfl) (by exact trivial) (by exact (d.v rfl)) ZN rfl (by first | omega | (simp only[ak,aj]; omega)) (by first | omega | (simp only[ak,aj]; omega)) (by first | omega | (simp only[ak,aj]; omega))) rfl) ?_
 refine zz (fun _ d=>ac (dB_ (Qcp b.1.2.1 (nm.extract 0 ((nm.size:Int) - 1).toNat)) Qmk) rfl) ?_
 refine z2 ?_
 refine zz (fun _ d=>ac (Yq (d.v rfl) rfl ZN) rfl)<|zz (fun _ d=>ac (V8 (d.v rfl) (Qr rfl) rfl (by first | omega | (simp only[ae,aq,az]; omega))) rfl) ?_
 refine z_ ?_
 refine zz (fun _ d=>ac (Zm (d.v rfl) (Q0 43 rfl) rfl) rfl)<|zz (fun _ d=>ac (Qj Qaq ⟨_,_,rfl,(d.w rfl),⟨_,_,rfl,(d.w rfl),rfl⟩⟩ (av.1 rfl) rfl rfl) rfl) ?_
 exact y1
 refine w8 ?_
 refine lc (Qj Hp rfl (av.1 rfl) rfl rfl) ?_
 refine lc (dBs 13 (e:=QD) X1 (hab:=by exact ⟨_,_,_,_,rfl,⟨[.val (.slice none 0 0)],[.val (.slice none 0 0)],_,_,_,_,rfl,rfl,(.inr ⟨rfl,rfl,rfl⟩),(.inr ⟨rfl,rfl,rfl⟩),rfl⟩,⟨rfl,rfl⟩,rfl⟩)) ?_
 refine lc (dA 14 Hv) ?_
 refine w6 ?_
 apply dW (i7 74 _ _ _ _ _ _ _ (⟨some 81,lR 15,[ar 15 75 QL ([(ZO (fun x:QB=>decide (x.1=(nm.extract 0 ((nm.size:Int) - 1).toNat))) b.1.2.1,decide (cz=43))])]⟩ :: ⟨some 82,lR 16,[ar 16 75 QL (b.1.2.2.1++([(ZO (fun x:QB=>decide (x.1=(nm.extract 0 ((nm.size:Int) - 1).toNat))) b.1.2.1,decide (cz=43))])),(4,none),(15,none)]⟩ :: i3 83 _ _ _ [⟨none,lf (.val undef),[bx 0 373 [dI b.1.1.1, .ref 14, .ref 1, .ref 16,dS b.1.2.2.2, .ref 2, .ref 7]]⟩])) [0,1,1,1,1,1,63,63,1,0,0,0,0]
 refine z7 ?_
 refine zz (fun _ d=>ac (dBs 15 (e:=QL) Xy (hab:=by exact ⟨_,_,_,_,rfl,⟨[dI (ZO (fun x:QB=>decide (x.1=(nm.extract 0 ((nm.size:Int) - 1).toNat))) b.1.2.1)],[dB (decide (cz=43))],_,_,_,_,rfl,rfl,⟨rfl,rfl⟩,⟨rfl,rfl⟩,rfl⟩,⟨rfl,rfl⟩,rfl⟩)) rfl) ?_
 refine zz (fun _ d=>ac (dA 16 Qat) rfl) ?_
 refine z3 ?_
 refine zz (fun _ d=>ac (Q6 (d.v rfl) (d.en 0 rfl) (d.w rfl) (by simp only[QW,XG,bd,bt]; rw[(d.en 16 rfl)]; rfl) Qtd rfl) rfl) ?_
 exact zN
 refine w6 ?_
 refine lc (V8 (Qa rfl) (Qr rfl) rfl (by first | omega | (simp only[ae,aq,az]; omega))) ?_
 refine w3 ?_
 have A:(((b.2.2++([word])).length:Int) - 1:Int)=(trI b word):=by
  (unfold trI; rw[Qa9 (Yd a (by omega)),ae]; simp)
 exact fi_ [(3,14),(4,16),(5,7)] C ⟨(((congrArg (fun z_=>some (Ent.box 373 [dI z_, .ref 14, .ref 1, .ref 16,dS b.1.2.2.2, .ref 2, .ref 7])) (show (b.1.1.1:Int)=(Zv b word).1.1.1 by (rw[Z7 (Yd a (by omega))]; done)))).trans (congrArg (fun z_=>some (Ent.box 373 [dI ((Zv b word).1.1.1), .ref 14, .ref 1, .ref 16,dS z_, .ref 2, .ref 7])) (show (b.1.2.2.2:ByteArray)=(Zv b word).1.2.2.2 by (rw[Z7 (Yd a (by omega))]; done)))),(Qh (by (rw[Z7 (Yd a (by omega))]; done))),(Qh (by (rw[Z7 (Yd a (by omega))]; done))),(Qh (by (rw[Z7 (Yd a (by omega)),← Qwf n r ‹_› E]; done))),(Qh (by (rw[Z7 (Yd a (by omega))]; done))),(Qh (by (rw[Z7 (Yd a (by omega))]; done))),trivial⟩ (h0:=by rw[A] <;> rfl)
 have q:=ab o
 refine w7 ?_
 obtain ⟨x,j⟩:=gx b.2.2 k
 have f:=j
 refine w9 ?_
 cases g:(decide (x=word))
 have m:=aa g
 refine w4 ?_
 refine lc (Wm (Qa rfl) (Qr rfl) rfl (by first | omega | (simp only[ae,aq,az]; omega))) ?_
 refine w_ ?_
 refine Qf ?_
 refine lK_ (a.step j (aQ ‹_›)) ?_
 exact wo []
 have m:=ab g
 refine w6 ?_
 have B:((k:Int):Int)=(trI b word):=by
  exact Qq2 a f ‹_›
 exact fi_ [] C ⟨(((congrArg (fun z_=>some (Ent.box 373 [dI z_, .ref 3, .ref 1, .ref 4,dS b.1.2.2.2, .ref 2, .ref 5])) (show (b.1.1.1:Int)=(Zv b word).1.1.1 by (rw[VS (Xb f ‹_›)]; done)))).trans (congrArg (fun z_=>some (Ent.box 373 [dI ((Zv b word).1.1.1), .ref 3, .ref 1, .ref 4,dS z_, .ref 2, .ref 5])) (show (b.1.2.2.2:ByteArray)=(Zv b word).1.2.2.2 by (rw[VS (Xb f ‹_›)]; done)))),(Qh (by (rw[VS (Xb f ‹_›)]; done))),(Qh (by (rw[VS (Xb f ‹_›)]; done))),(Qh (by (rw[VS (Xb f ‹_›)]; done))),(Qh (by (rw[VS (Xb f ‹_›)]; done))),(Qh (by (rw[VS (Xb f ‹_›)]; done))),trivial⟩ (h0:=by rw[B] <;> rfl)
end Go.Proofs.YtndabgcpnmeeoaaGreat
namespace Go.Proofs.YtndabgcpnmeeoaaGreat
open Go.RowKit
set_option maxRecDepth 100000
set_option maxHeartbeats 4000000
def unN (a b:Yh):Yh:=(a.1+b.1,a.2++b.2.map (Qf0 a.1))
def unL (n:Nat)(l:Q9):Q9:=if 0≤l.1 then (l.1+(n:Int),l.2) else l
def unS (a b:Qy):Qy:=(unN a.1 b.1,a.2.1++b.2.1,a.2.2.1++b.2.2.1.map (unL a.2.1.length),a.2.2.2++b.2.2.2)
theorem Qoh {l:List Int}{hi:Int}(h:JF l hi):∀x∈l,0≤x∧x≤hi:=fun x b=>by
 obtain ⟨k,a⟩:=aO.1 b
 exact (h k (ah.1 a).1 x a).1
theorem Qog:∀{l:List Int} {hi:Int},JF l hi→ -1≤hi→(l.length:Int)≤hi+1:=fun {l hi} h g=>by
 have b:∀(k:Nat) x,l[k]? =some x→(k:Int)≤x:=fun k=>by
  induction k with
  | zero=>intro x a; exact (h 0 (ah.1 a).1 x a).1.1
  | succ k f=>
   intro x a
   have c:=(ah.1 a).1
   obtain ⟨y,d⟩:∃y,l[k]? =some y:=⟨_,ap (by omega)⟩
   have e:=f y d
   have i:=(h (k+1) c x a).2 k y rfl d
   omega
 by_cases j:l.length=0
 ·omega
 ·obtain ⟨x,a⟩:∃x,l[l.length - 1]? =some x:=⟨_,ap (by omega)⟩
  have c:=b _ x a
  have e:=(h _ (ah.1 a).1 x a).1.2
  omega
theorem Vz {n:Yh}(h:YZ n):(1≤n.1∧n.1≤30)∧n.2.length≤24∧∀t∈n.2,(t.1.length≤30∧t.2.length≤30)∧(∀x∈t.1,0≤x∧x≤29)∧∀x∈t.2,0≤x∧x≤29:=by
 obtain ⟨d,e,f⟩:=h
 refine ⟨d,e,fun t g=> ?_⟩
 obtain ⟨_,b,c⟩:=f t g
 have i:=Qog b (by omega)
 have j:=Qog c (by omega)
 exact ⟨⟨by omega,by omega⟩,fun x a=>by have:=Qoh b x a; omega,fun x a=>by have:=Qoh c x a; omega⟩
theorem Jr (l:List Int)(d:Int)(p:l.length≤100000)(hb:∀x∈l, -9223372036854775808≤x+d∧x+d≤9223372036854775807):FC Tryz.prog 530 [(false,[.dat Qm l]),(false,[dI d])] [] 0 (XB 3 .int (l.map fun x=>x+d)):=by
 refine Qn Tryz.func530 rfl rfl Tryz.ntmps530 fun n i m f o h g=> ?_
 refine acI 1 fun _=> ?_
 refine w9 ?_
 refine alL 8 fun _=> ?_
 refine w4 ?_
 refine AC.wk (Wk.nilS 0 5 3 .int rfl (Fresh.of rfl) (nlr rfl)) ?_
 refine lp0 l.length (fun k=>⟨[(1,lI d),(4,lf (.val (.slice none 0 0))),(5,lR 1),(8,lf (.dat Qm l)),(9,lI (l.length:Int)),(10,lI (k:Int))],[ar 1 3 .int ((l.take k).map fun x=>x+d)]⟩) ?_ fun k _=> ?_
 exact wp [(1,0)] ⟨(Qh (by simp)),trivial⟩
 refine w4 ?_
 cases a:(decide ((k:Int) < (l.length:Int)))
 have b:=aa a
 refine w7 ?_
 refine Qe<|fo_ i ?_
 ·(rw[Q8 (by omega)]; done)
 have b:=ab a
 refine w5 ?_
 obtain ⟨q,c⟩:=gx l k
 have j:=hb _ (ai c)
 refine w2 ?_
 refine alI 13 fun _=> ?_
 refine w7 ?_
 refine lc (dBs 2 (e:= .int) Zq) ?_
 refine lc (dA 3 YO) ?_
 refine w_ ?_
 refine Qf ?_
 refine w4 ?_
 refine Qf ?_
 refine l0_ ?_
 exact wp [(1,3)] ⟨(Qh (by rw[Qs c]; simp)),trivial⟩
theorem Uj (n:Yh)[Decidable (YZ n)]:FC Tryz.prog 375 [(true,leaves Uz n)] [] 0 (Za (lf (dB (decide (YZ n))))):=Qef fun d w e h=>by
 obtain ⟨c,rfl,a⟩:=h.agg1
 have b:=a.len
 match c,b with
 | [a0,a1],_=>exact (Qfl a0 a1 n w a).mono fun _ _ h=>Hb h
theorem QxX {n:Nat}{l:Q9}(h:Qa1 n l): -1≤l.1∧l.1≤(n:Int):=by
 unfold Qa1 at h; omega
theorem Qbn (a:Qcd)(b:Qcd)[∀s,Decidable (StgOk s)][∀s,Decidable (YZ s)](D:Ty.tot Uz a≤2000000):FC Tryz.prog 473 [(true,[dI a.1, .dat QF a.2]),(true,[dI b.1, .dat QF b.2])] [] 0 (Ex (fun x:Yh×Bool=>x.2=true→x.1=unN a b) (fun x:Yh×Bool=>PV.tup [(true,[dI x.1.1, .ref 0]),(false,[dB x.2])]) (fun x:Yh×Bool=>[ar 0 275 QD x.1.2])):=by
 refine Qn Tryz.func473 rfl rfl Tryz.ntmps473 fun F y E A G C B=> ?_
 refine acG 0 0 fun _=> ?_
 refine acG 1 0 fun _=> ?_
 refine w_ ?_
 refine xbx 0 ?_
 refine xbx 1 ?_
 refine lc (xal 2 Qkv Jk) ?_
 refine w5 ?_
 refine lc (dK (Uj a) QaE) ?_
 refine w2 ?_
 cases i:(decide (YZ a))
 have j:=aa i
 refine w7 ?_
 refine lc (Qj Qb7 rfl (av.1 rfl) rfl rfl) ?_
 refine w3 ?_
 refine AC.wk (Qq 3 (p:=2) (off:=1) 275 QD rfl rfl (Fresh.of rfl) (nlr rfl))<|Qe ?_
 subst y
 refine Zg (x:=((0,[]),false)) [(0,3)] ?_ (Y9 rfl (Rs.cell rfl rfl QiL rfl) (Vu rfl)) rfl ⟨rfl,trivial⟩ rfl rfl
 exact fun h=>absurd h (by decide)
 have j:=ab i
 refine w_ ?_
 refine lgy rfl rfl (dK (Uj b) QaE) ?_
 refine w3 ?_
 cases l:(decide (YZ b))
 have m:=aa l
 refine w2 ?_
 refine lc (Qj Qb7 rfl (av.1 rfl) rfl rfl) ?_
 refine w3 ?_
 refine AC.wk (Qq 4 (p:=2) (off:=1) 275 QD rfl rfl (Fresh.of rfl) (nlr rfl))<|Qe ?_
 subst y
 refine Zg (x:=((0,[]),false)) [(0,4)] ?_ (Y9 rfl (Rs.cell rfl rfl QiL rfl) (Vu rfl)) rfl ⟨rfl,trivial⟩ rfl rfl
 exact fun h=>absurd h (by decide)
 have m:=ab l
 refine w4 ?_
 refine lc (dG 5 (J0 a D) QeS) ?_
 refine lc (xal 6 Qkv Jk) ?_
 refine w7 ?_
 refine lc (Wm (Qa rfl) (Qa rfl) rfl (by first | omega | (have t:=(Vz ‹YZ a›).1; have u:=(Vz ‹YZ b›).1; omega))) ?_
 refine w7 ?_
 refine alL 27 fun _=> ?_
 refine w4 ?_
 refine lp0 b.2.length (fun k=>⟨[(2,lP 0 0),(4,lP 2 0),(5,lB false),(6,lP 6 0),(27,lf (.dat QF b.2)),(28,lI (b.2.length:Int)),(29,lI (k:Int))],[bx 0 48 [dI a.1, .dat QF a.2],bx 2 48 [dI 0, .val (.slice none 0 0)],bx 6 48 [dI (a.1+b.1), .ref 7],ar 7 275 QD (a.2++(b.2.take k).map (Qf0 a.1))]⟩) ?_ fun k _=> ?_
 exact wp [(7,5)] ⟨rfl,rfl,rfl,(Qh (by simp)),trivial⟩
 refine w4 ?_
 cases n:(decide ((k:Int) < (b.2.length:Int)))
 have o:=aa n
 refine w6 ?_
 refine lc (YQ (Uj (a.1+b.1,a.2++(b.2.take k).map (Qf0 a.1))) QaE ⟨_,_,rfl,(Jl (Ql rfl) ⟨_,_,rfl, .inl rfl,⟨_,_,rfl, .inr ⟨_,_,_,_,rfl,rfl,rfl⟩,rfl⟩⟩),rfl⟩ rfl rfl rfl) ?_
 refine w2 ?_
 cases q:(decide (YZ (a.1+b.1,a.2++(b.2.take k).map (Qf0 a.1))))
 have r:=aa q
 refine w2 ?_
 refine lc (Qj Qb7 rfl (av.1 rfl) rfl rfl) ?_
 refine w3 ?_
 refine AC.wk (Qq 8 (p:=2) (off:=1) 275 QD rfl rfl (Fresh.of rfl) (nlr rfl))<|Qe ?_
 subst y
 refine Zg (x:=((0,[]),false)) [(0,8)] ?_ (Y9 rfl (Rs.cell rfl rfl QiL rfl) (Vu rfl)) rfl ⟨rfl,trivial⟩ rfl rfl
 exact fun h=>absurd h (by decide)
 have r:=ab q
 refine w8 ?_
 subst y
 refine Zg (x:=((a.1+b.1,a.2++(b.2.take k).map (Qf0 a.1)),true)) [(0,7)] ?_ (Y9 rfl (Rs.cell rfl rfl QiL rfl) (Vu rfl)) rfl ⟨rfl,trivial⟩ rfl rfl
 (intro _; rw[Q8 (by omega)]; rfl)
 have o:=ab n
 refine w5 ?_
 obtain ⟨f,d⟩:=gx b.2 k
 refine w2 ?_
 refine lc (xal 9 QD X1) ?_
 refine w2 ?_
 apply dV (i6 33 _ _ _ _ _ _ [⟨some 39,lR 10,[ar 10 3 .int (f.1.map fun x=>x+a.1)]⟩,io 40 (lP 9 1),io 41 (lf (.dat Qm f.2)),io 42 (lP 0 0),io 43 (lI a.1),⟨some 44,lR 11,[ar 11 3 .int (f.2.map fun x=>x+a.1)]⟩,io 45 (ag [.ref 10, .ref 11]),⟨some 46,lR 12,[ar 12 275 QD ([(f.1.map fun x=>x+a.1,f.2.map fun x=>x+a.1)]),(10,none),(11,none)]⟩,⟨some 47,lR 13,[ar 13 275 QD ((a.2++(b.2.take k).map (Qf0 a.1))++([(f.1.map fun x=>x+a.1,f.2.map fun x=>x+a.1)])),(7,none),(12,none)]⟩,io 48 _,⟨none,lf (.val undef),[bx 6 48 [dI (a.1+b.1), .ref 13]]⟩]) [0,0,3,3,15,15,3,127,127,511,511,3,3,3,0,0,0]
 refine z6 ?_
 refine zz (fun _ c=>ac (dO 10 (Jr f.1 a.1 (by have:=((Vz ‹YZ b›).2.2 _ (ai d)).1; omega) (fun z g=>by have t:=((Vz ‹YZ b›).2.2 _ (ai d)).2.1 z g; have u:=(Vz ‹YZ a›).1; omega)) QeZ) rfl) ?_
 refine z4 ?_
 refine zz (fun _ c=>ac (dO 11 (Jr f.2 a.1 (by have:=((Vz ‹YZ b›).2.2 _ (ai d)).1; omega) (fun z g=>by have t:=((Vz ‹YZ b›).2.2 _ (ai d)).2.2 z g; have u:=(Vz ‹YZ a›).1; omega)) QeZ) rfl) ?_
 refine zz (fun _ c=>ac (Qj Hp ⟨_,_,rfl,(c.w rfl),⟨_,_,rfl,(c.w rfl),rfl⟩⟩ (av.1 (by simp only[QW,XG,bd,bt]; rw[(c.en 10 rfl),(c.en 11 rfl)]; rfl)) rfl rfl) rfl)<|zz (fun _ c=>ac (Yp 12 (e:=QD) WD Xd X1 rfl ⟨_,_,rfl,(c.w rfl),rfl⟩ (av.1 (by simp only[QW,XG,bd,bt]; rw[(c.en 10 rfl),(c.en 11 rfl)]; rfl)) ⟨_,_,_,_,rfl,⟨[.ref 10],[.ref 11],_,_,_,_,rfl,rfl,(.inl ⟨_,rfl,(c.en 10 rfl),rfl⟩),(.inl ⟨_,rfl,(c.en 11 rfl),rfl⟩),rfl⟩,⟨rfl,rfl⟩,rfl⟩ (by decide) rfl rfl (c.fr 12 rfl) (nlr rfl)) rfl) ?_
 refine zz (fun _ c=>ac (dA 13 Hv (hb:=by (have t:=(Vz ‹YZ a›).2.1; have u:=(Vz ‹YZ b›).2.1; simp only[ae,aB,ao,aq,az]; omega))) rfl) ?_
 refine z_ ?_
 refine zz (fun _ c=>ac (Q6 (c.v rfl) (c.en 6 rfl) (c.w rfl) (by simp only[QW,XG,bd,bt]; rw[(c.en 13 rfl)]; rfl) QiK rfl) rfl) ?_
 exact zN
 refine w2 ?_
 refine lc (Wm (Qa rfl) (Qr rfl) rfl (by first | omega | (have t:=(Vz ‹YZ a›).1; have u:=(Vz ‹YZ b›).1; omega))) ?_
 refine w_ ?_
 refine Qf ?_
 refine l0_ ?_
 exact wp [(7,13)] ⟨rfl,rfl,rfl,(Qh (by rw[Qs d]; simp[Qf0])),trivial⟩
theorem Qbo (a:YA)(b:YA)[∀s,Decidable (StgOk s)][∀s,Decidable (YZ s)](B:Ty.tot Zl a≤2000000)(z:Ty.tot Zl b≤2000000):FC Tryz.prog 381 [(true,[dI a.1.1, .dat QF a.1.2, .dat Qo a.2.1, .dat Qw a.2.2.1,dS a.2.2.2]),(true,[dI b.1.1, .dat QF b.1.2, .dat Qo b.2.1, .dat Qw b.2.2.1,dS b.2.2.2])] [] 0 (Ex (fun x:Qy×Bool=>x.2=true→x.1=unS a b) (fun x:Qy×Bool=>PV.tup [(true,[dI x.1.1.1, .ref 0, .ref 1, .ref 2,dS x.1.2.2.2]),(false,[dB x.2])]) (fun x:Qy×Bool=>[ar 0 275 QD x.1.1.2,ar 1 77 QE x.1.2.1,ar 2 75 QL x.1.2.2.1])):=by
 obtain ⟨A,L,M⟩:=KC B
 obtain ⟨I,J,K⟩:=KC z
 refine Qn Tryz.func381 rfl rfl Tryz.ntmps381 fun O q N C P E D=> ?_
 refine acG 0 0 fun _=> ?_
 refine acG 1 0 fun _=> ?_
 refine w_ ?_
 refine xbx 0 ?_
 refine xbx 1 ?_
 refine lc (xal 2 YM Q5) ?_
 refine w7 ?_
 refine Z4 3 [] (Qbn a.1 b.1 A) Qmi e2_ trivial rfl (fun _=>rfl) (fun _=>⟨(Fresh.of rfl),trivial⟩) (nlr rfl) fun g H=> ?_
 refine w3 ?_
 refine lc (xal 4 Qkv Jk) ?_
 refine w8 ?_
 cases F:(g.2)
 refine w12 ?_
 refine lc (Qj Xj rfl (av.1 rfl) rfl rfl) ?_
 refine w3 ?_
 refine AC.wk (Qq 5 (p:=2) (off:=1) 275 QD rfl rfl (Fresh.of rfl) (nlr rfl))<|AC.wk (Qq 6 (p:=2) (off:=2) 77 QE rfl rfl (Fresh.of rfl) (nlr rfl))<|AC.wk (Qq 7 (p:=2) (off:=3) 75 QL rfl rfl (Fresh.of rfl) (nlr rfl))<|Qe ?_
 subst q
 refine Zg (x:=(((0,[]),([],([],ByteArray.empty))),false)) [(0,5),(1,6),(2,7)] ?_ (Y9 rfl (Rs.cell rfl rfl Q3 rfl) (Vu rfl)) rfl ⟨rfl,rfl,rfl,trivial⟩ rfl rfl
 exact fun h=>absurd h (by decide)
 refine w_ ?_
 refine lgy rfl rfl (dK (Z0 a) Xl) ?_
 refine w3 ?_
 cases r:(decide (StgOk a))
 have t:=aa r
 refine w7 ?_
 refine lc (Qj Xj rfl (av.1 rfl) rfl rfl) ?_
 refine w3 ?_
 refine AC.wk (Qq 8 (p:=2) (off:=1) 275 QD rfl rfl (Fresh.of rfl) (nlr rfl))<|AC.wk (Qq 9 (p:=2) (off:=2) 77 QE rfl rfl (Fresh.of rfl) (nlr rfl))<|AC.wk (Qq 10 (p:=2) (off:=3) 75 QL rfl rfl (Fresh.of rfl) (nlr rfl))<|Qe ?_
 subst q
 refine Zg (x:=(((0,[]),([],([],ByteArray.empty))),false)) [(0,8),(1,9),(2,10)] ?_ (Y9 rfl (Rs.cell rfl rfl Q3 rfl) (Vu rfl)) rfl ⟨rfl,rfl,rfl,trivial⟩ rfl rfl
 exact fun h=>absurd h (by decide)
 have t:=ab r
 refine w_ ?_
 refine lgy rfl rfl (dK (Z0 b) Xl) ?_
 refine w3 ?_
 cases u:(decide (StgOk b))
 have y:=aa u
 refine w2 ?_
 refine lc (Qj Xj rfl (av.1 rfl) rfl rfl) ?_
 refine w3 ?_
 refine AC.wk (Qq 11 (p:=2) (off:=1) 275 QD rfl rfl (Fresh.of rfl) (nlr rfl))<|AC.wk (Qq 12 (p:=2) (off:=2) 77 QE rfl rfl (Fresh.of rfl) (nlr rfl))<|AC.wk (Qq 13 (p:=2) (off:=3) 75 QL rfl rfl (Fresh.of rfl) (nlr rfl))<|Qe ?_
 subst q
 refine Zg (x:=(((0,[]),([],([],ByteArray.empty))),false)) [(0,11),(1,12),(2,13)] ?_ (Y9 rfl (Rs.cell rfl rfl Q3 rfl) (Vu rfl)) rfl ⟨rfl,rfl,rfl,trivial⟩ rfl rfl
 exact fun h=>absurd h (by decide)
 have y:=ab u
 refine w2 ?_
 apply dW [io 32 _,⟨some 33,lR 14,[ar 14 77 QE ([])]⟩,io 34 (lP 0 2),io 35 (lf (.dat Qo a.2.1)),⟨some 36,lR 15,[ar 15 77 QE (([])++a.2.1),(14,none)]⟩,io 37 (lP 1 2),io 38 (lf (.dat Qo b.2.1)),⟨some 39,lR 16,[ar 16 77 QE ((([])++a.2.1)++b.2.1),(15,none)]⟩,⟨some 40,lR 17,[ar 17 75 QL ([])]⟩,io 41 (lP 0 3),io 42 (lf (.dat Qw a.2.2.1)),⟨some 43,lR 18,[ar 18 75 QL (([])++a.2.2.1),(17,none)]⟩,io 44 (lP 0 4),io 45 (lf (dS a.2.2.2)),io 46 (lP 1 4),io 47 (lf (dS b.2.2.2)),io 48 (lf (dS (a.2.2.2++b.2.2.2))),io 49 (ag [dI g.1.1, .ref 3, .ref 16, .ref 18,dS (a.2.2.2++b.2.2.2)]),⟨some 8,lP 19 0,[bx 19 51 [dI 0, .val (.slice none 0 0), .val (.slice none 0 0), .val (.slice none 0 0),dS ByteArray.empty]]⟩,⟨none,lf (.val undef),[bx 19 51 [dI g.1.1, .ref 3, .ref 16, .ref 18,dS (a.2.2.2++b.2.2.2)]]⟩] [0,1,3,3,1,31,31,1,255,511,511,1,4095,4095,16383,16383,4095,0,262143,0]
 refine z_ ?_
 refine zz (fun _ c=>ac (dBs 14 (e:=QE) Hg) rfl) ?_
 refine z2 ?_
 refine zz (fun _ c=>ac (QI 15 (c.v rfl) (c.en 14 rfl) (Evl.rep (c.v rfl)) rfl Jf Qau (by (simp only[ae,aB,ao,aq,az]; omega)) rfl (c.fr 15 rfl) (nlr rfl)) rfl) ?_
 refine z2 ?_
 refine zz (fun _ c=>ac (QI 16 (c.v rfl) (c.en 15 rfl) (Evl.rep (c.v rfl)) rfl Jf Qau (by (simp only[ae,aB,ao,aq,az]; omega)) rfl (c.fr 16 rfl) (nlr rfl)) rfl) ?_
 refine zz (fun _ c=>ac (dBs 17 (e:=QL) Xy) rfl) ?_
 refine z2 ?_
 refine zz (fun _ c=>ac (QI 18 (c.v rfl) (c.en 17 rfl) (Evl.rep (c.v rfl)) rfl Qf2 Qat (by (simp only[ae,aB,ao,aq,az]; omega)) rfl (c.fr 18 rfl) (nlr rfl)) rfl) ?_
 refine z4 ?_
 refine zz (fun _ c=>ac (Q7 (c.v rfl) (c.v rfl) rfl (by (have Q:=HV B; have R:=HV z; omega))) rfl)<|zz (fun _ c=>ac (Qj Xj ⟨_,_,rfl,(c.w rfl),⟨_,_,rfl,(c.w rfl),⟨_,_,rfl,(c.w rfl),⟨_,_,rfl,(c.w rfl),rfl⟩⟩⟩⟩ (av.1 (by show ((QW _ [dI g.1.1, .ref 3]&&(QW _ [.ref 16]&&(QW _ [.ref 18]&&(QW _ [dS (a.2.2.2++b.2.2.2)]&&true)))))=true; simp only[QW,XG,bd,bt]; rw[(c.en 3 rfl),(c.en 16 rfl),(c.en 18 rfl)]; rfl)) rfl rfl) rfl)<|zz (fun _ c=>ac (YP 19 YM Q5 rfl rfl (c.fr 19 rfl) (nlr rfl)) rfl)<|zz (fun _ c=>ac (Q6 (c.v rfl) (c.en 19 rfl) (c.w rfl) (by show QW _ [dI g.1.1, .ref 3, .ref 16, .ref 18,dS (a.2.2.2++b.2.2.2)]=true; simp only[QW,XG,bd,bt]; rw[(c.en 3 rfl),(c.en 16 rfl),(c.en 18 rfl)]; rfl) Q3 rfl) rfl) ?_
 exact zN
 refine w4 ?_
 refine alL 51 fun _=> ?_
 refine w4 ?_
 refine lp0 b.2.2.1.length (fun k=>⟨[(2,lP 0 0),(4,lP 2 0),(5,lB false),(8,lP 19 0),(51,lf (.dat Qw b.2.2.1)),(52,lI (b.2.2.1.length:Int)),(53,lI (k:Int))],[bx 0 51 [dI a.1.1, .dat QF a.1.2, .dat Qo a.2.1, .dat Qw a.2.2.1,dS a.2.2.2],bx 2 51 [dI 0, .val (.slice none 0 0), .val (.slice none 0 0), .val (.slice none 0 0),dS ByteArray.empty],ar 3 275 QD g.1.2,ar 16 77 QE ((([])++a.2.1)++b.2.1),bx 19 51 [dI g.1.1, .ref 3, .ref 16, .ref 20,dS (a.2.2.2++b.2.2.2)],ar 20 75 QL (a.2.2.1++(b.2.2.1.take k).map (unL a.2.1.length))]⟩) ?_ fun k _=> ?_
 exact wp [(20,18)] ⟨rfl,rfl,rfl,rfl,rfl,(Qh (by simp)),trivial⟩
 refine w4 ?_
 cases i:(decide ((k:Int) < (b.2.2.1.length:Int)))
 have m:=aa i
 refine w6 ?_
 refine lc (YQ (Z0 (g.1,(([])++a.2.1)++b.2.1,a.2.2.1++(b.2.2.1.take k).map (unL a.2.1.length),a.2.2.2++b.2.2.2)) Xl ⟨_,_,rfl,(Jl (Ql rfl) ⟨_,_,rfl, .inl rfl,⟨_,_,rfl, .inr ⟨_,_,_,_,rfl,rfl,rfl⟩,⟨_,_,rfl, .inr ⟨_,_,_,_,rfl,rfl,rfl⟩,⟨_,_,rfl, .inr ⟨_,_,_,_,rfl,rfl,rfl⟩,⟨_,_,rfl, .inl rfl,rfl⟩⟩⟩⟩⟩),rfl⟩ rfl rfl rfl) ?_
 refine w2 ?_
 cases j:(decide (StgOk (g.1,(([])++a.2.1)++b.2.1,a.2.2.1++(b.2.2.1.take k).map (unL a.2.1.length),a.2.2.2++b.2.2.2)))
 have n:=aa j
 refine w2 ?_
 refine lc (Qj Xj rfl (av.1 rfl) rfl rfl) ?_
 refine w3 ?_
 refine AC.wk (Qq 21 (p:=2) (off:=1) 275 QD rfl rfl (Fresh.of rfl) (nlr rfl))<|AC.wk (Qq 22 (p:=2) (off:=2) 77 QE rfl rfl (Fresh.of rfl) (nlr rfl))<|AC.wk (Qq 23 (p:=2) (off:=3) 75 QL rfl rfl (Fresh.of rfl) (nlr rfl))<|Qe ?_
 subst q
 refine Zg (x:=(((0,[]),([],([],ByteArray.empty))),false)) [(0,21),(1,22),(2,23)] ?_ (Y9 rfl (Rs.cell rfl rfl Q3 rfl) (Vu rfl)) rfl ⟨rfl,rfl,rfl,trivial⟩ rfl rfl
 exact fun h=>absurd h (by decide)
 have n:=ab j
 refine w8 ?_
 subst q
 refine Zg (x:=(((g.1.1,g.1.2),((([])++a.2.1)++b.2.1,(a.2.2.1++(b.2.2.1.take k).map (unL a.2.1.length),a.2.2.2++b.2.2.2))),true)) [(0,3),(1,16),(2,20)] ?_ (Y9 rfl (Rs.cell rfl rfl Q3 rfl) (Vu rfl)) rfl ⟨rfl,rfl,rfl,trivial⟩ rfl rfl
 ·(intro _; rw[Q8 (by omega)]; simp_all [unS]; done)
 have m:=ab i
 refine w5 ?_
 obtain ⟨f,d⟩:=gx b.2.2.1 k
 have G:=QxX (StgOk.labs ‹StgOk b› _ (ai d))
 refine w2 ?_
 refine lc (xal 24 QL Xy) ?_
 refine w6 ?_
 refine alI 58 fun _=> ?_
 refine w2 ?_
 cases l:(decide (0≤f.1))
 have o:=aa l
 refine w6 ?_
 refine lc (dBs 25 (e:=QL) Xy (hab:=by exact ⟨_,_,_,_,rfl,⟨[dI f.1],[dB f.2],_,_,_,_,rfl,rfl,⟨rfl,rfl⟩,⟨rfl,rfl⟩,rfl⟩,⟨rfl,rfl⟩,rfl⟩)) ?_
 refine lc (dA 26 Qat (hb:=by (simp only[ae,aB,ao,aq,az]; omega))) ?_
 refine w2 ?_
 refine Qf ?_
 refine w4 ?_
 refine Qf ?_
 refine l0_ ?_
 exact wp [(20,26)] ⟨rfl,rfl,rfl,rfl,rfl,(Qh (by rw[Qs d]; simp[unL, *])),trivial⟩
 have o:=ab l
 refine w6 ?_
 refine alL 63 fun _=> ?_
 refine w9 ?_
 refine lc (dBs 27 (e:=QL) Xy (hab:=by exact ⟨_,_,_,_,rfl,⟨[dI (f.1+(a.2.1.length:Int))],[dB f.2],_,_,_,_,rfl,rfl,⟨rfl,rfl⟩,⟨rfl,rfl⟩,rfl⟩,⟨rfl,rfl⟩,rfl⟩)) ?_
 refine lc (dA 28 Qat (hb:=by (simp only[ae,aB,ao,aq,az]; omega))) ?_
 refine w2 ?_
 refine Qf ?_
 refine w4 ?_
 refine Qf ?_
 refine l0_ ?_
 exact wp [(20,28)] ⟨rfl,rfl,rfl,rfl,rfl,(Qh (by rw[Qs d]; simp[unL, *])),trivial⟩
end Go.Proofs.YtndabgcpnmeeoaaGreat
namespace Go.Proofs.YtndabgcpnmeeoaaGreat
open Go.RowKit
set_option maxRecDepth 100000
set_option maxHeartbeats 4000000
theorem Qhg {α:Type}(f:α→Bool)(l:List α):∀k,(Y2 f l k).Pairwise (· < ·)
 | 0=>cj
 | k+1=>by
  unfold Y2
  have h:∀x∈Y2 f l k,x < (k:Int):=fun x b=>by obtain ⟨_,_,_,h,_⟩:=HR b; exact h
  refine List.pairwise_append.2 ⟨Qhg f l k, ?_,fun x b y a=> ?_⟩
  ·split
   ·split <;> simp
   ·simp
  ·split at a
   ·split at a
    ·rw[aC.1 a]; exact h x b
    ·cases a
   ·cases a
section
variable {n:Yh}{k i j m:Nat}{mk:ByteArray}{t u:Int}{on l:List Int}{s:Qy}{xt xu:Qt}{ms:List ByteArray}{as_:List (List Int)}
theorem Qrq:(QO n mk).Pairwise (· < ·):=Qhg ..
theorem QrV {P:Int→Bool}(h:on.Pairwise (· < ·))(a:on[i]? =some t):(on.filter fun u=>decide (t < u)&&P u)=(on.drop (i+1)).filter P:=by
 induction on generalizing i with
 | nil=>cases a
 | cons y on f=>
  obtain ⟨b,d⟩:=bm.1 h
  cases i with
  | zero=>
   cases a
   rw[cN,if_neg (by simp),List.drop_succ_cons,de]
   exact List.filter_congr fun u e=>by simp[b u e]
  | succ i=>
   have c:on[i]? =some t:=a
   rw[cN,if_neg (by have:=b t (ai c); simp; omega),List.drop_succ_cons]
   exact f d c
theorem QuL (h:on.Pairwise (· < ·))(a:on[i]? =some t):Kz n t (on.drop (i+1))=Uq n t on:=by unfold Kz Uq; rw[QrV h a]
theorem Qgy (h:on.Pairwise (· < ·)):∀k,k≤on.length→Qb3 n on k=KL n on (on.take k)
 | 0,_=>rfl
 | k+1,hk=>by
  have a:=ap (l:=on) (i:=k) (by omega)
  rw[← QgA a,← Qgy h k (by omega)]
  unfold Qb3
  rw[dR,cK]
  simp only[dE,List.flatMap_nil,bG]
  rw[a,aj,QuL h a]
theorem QtB (h:on.Pairwise (· < ·))(a:k=on.length):Qb3 n on k=KL n on on:=by rw[Qgy h k (by omega),a,bM]
theorem Qsz (d:l[k]? =some u)(a:n.2[t.toNat]? =some xt)(b:n.2[u.toNat]? =some xu)(h:(!(xt.1.any fun z=>xu.1.any fun y=>decide (z=y)))=true):Kz n t (l.take k)++[[t,u]]=Kz n t (l.take (k+1)):=by
 unfold Kz
 rw[Qs d,bO,bE]
 have:shV n t u=false:=by
  rw[QcJ a b]
  simp only[bQ,cC,aS] at h ⊢
  intro z e c
  exact h z e (bW.2 ⟨z,c,by simp⟩)
 simp[this]
theorem QuM (c:l[k]? =some u)(a:n.2[t.toNat]? =some xt)(b:n.2[u.toNat]? =some xu)(h:(!(xt.1.any fun z=>xu.1.any fun y=>decide (z=y)))=false):Kz n t (l.take k)=Kz n t (l.take (k+1)):=by
 unfold Kz
 rw[Qs c,bO,bE]
 have:shV n t u=true:=by
  rw[QcJ a b]
  simp only[Bool.not_eq_false',bW,aS] at h ⊢
  obtain ⟨z,e,y,d,rfl⟩:=h
  exact ⟨z,e,d⟩
 simp[this]
def QN [∀s,Decidable (StgOk s)](s:Qy):List (List Int):=ofG ltP (ZP s.1 (Qb s).1.1)
theorem Qet [∀s,Decidable (StgOk s)](h:(Qb s).2=false):[]=QN s:=by unfold QN; rw[QhX h]; rfl
theorem QiM (h:t < u):[min t u,max t u]=[t,u]:=by rw[show min t u=t by omega,show max t u=u by omega]
theorem Qo3 (b:n.2.length≤24)(g:k≤ms.length)(h:ms.length≤300)(a:on.length≤24)(hi:i≤on.length)(f:l.length≤24):(ZP n (ms.take k)++KL n on (on.take i)++Uq n t l).length≤200000:=by
 have c:=QfZ (n:=n) (ms:=ms.take k) b
 have d:=Qjj (n:=n) (on:=on) (l:=on.take i) a
 have e:=Qkf (n:=n) (t:=t) (l:=l)
 simp only[ae,ao] at*
 omega
end
theorem Km (s:YA)(r:Qev)(J:∀m∈r.1,∀t∈s.1.2,UT m t.1∧UT m t.2)(L:s.1.2.length≤24)(M:r.1.length≤300):FC Tryz.prog 120 [(true,[dI s.1.1, .dat QF s.1.2, .dat Qo s.2.1, .dat Qw s.2.2.1,dS s.2.2.2]),(true,[.dat Qu r.1, .dat Y5 r.2])] [] 0 (XB 123 Qm (ofG ltP (ZP s.1 r.1))):=by
 refine Qn Tryz.func120 rfl rfl Tryz.ntmps120 fun P K O G Q I H=> ?_
 refine acG 0 0 fun _=> ?_
 refine w_ ?_
 refine xbx 0 ?_
 refine xbx 1 ?_
 refine w9 ?_
 refine alL 14 fun _=> ?_
 refine w4 ?_
 refine AC.wk (Wk.nilS 2 5 123 Qm rfl (Fresh.of rfl) (nlr rfl)) ?_
 refine lp0 r.1.length (fun k=>⟨[(2,lP 0 0),(4,lf (.val (.slice none 0 0))),(5,lR 3),(14,lf (.dat Qu r.1)),(15,lI (r.1.length:Int)),(16,lI (k:Int))],[bx 0 51 [dI s.1.1, .dat QF s.1.2, .dat Qo s.2.1, .dat Qw s.2.2.1,dS s.2.2.2],ar 3 123 Qm (ofG ltP (ZP s.1 (r.1.take k)))]⟩) ?_ fun k _=> ?_
 exact wp [(3,2)] ⟨rfl,(Qh (by first | rfl | simp)),trivial⟩
 refine w4 ?_
 cases q:(decide ((k:Int) < (r.1.length:Int)))
 have w:=aa q
 refine w7 ?_
 refine Qe<|fo_ K ?_
 (rw[aJ (by omega)])
 have w:=ab q
 refine w5 ?_
 obtain ⟨mk,C⟩:=gx r.1 k
 have E:=C
 refine w8 ?_
 refine lc (dK (UG s.1 mk (J _ (ai C)) (by omega)).frozen QeK) ?_
 refine w4 ?_
 refine alL 24 fun _=> ?_
 refine w4 ?_
 refine lp0 ((QO s.1 mk).length) (fun i=>⟨[(2,lP 0 0),(4,lf (.val (.slice none 0 0))),(5,lR 4),(7,lf (dS mk)),(8,lf (.dat Qm (QO s.1 mk))),(14,lf (.dat Qu r.1)),(15,lI (r.1.length:Int)),(16,lI (k:Int)),(17,lB true),(18,lf (.elt .str mk 0)),(19,lf (dS mk)),(20,lP 0 0),(21,ag [dI s.1.1, .dat QF s.1.2]),(22,lf (dS mk)),(23,lf (.dat Qm (QO s.1 mk))),(24,lf (.dat Qm (QO s.1 mk))),(25,lI ((QO s.1 mk).length:Int)),(26,lI (i:Int))],[bx 0 51 [dI s.1.1, .dat QF s.1.2, .dat Qo s.2.1, .dat Qw s.2.2.1,dS s.2.2.2],ar 4 123 Qm (ofG ltP (ZP s.1 (r.1.take k)++KL s.1 (QO s.1 mk) ((QO s.1 mk).take i)))]⟩) ?_ fun i _=> ?_
 exact wp [(4,3)] ⟨rfl,(Qh (by simp[KL])),trivial⟩
 refine w4 ?_
 cases x:(decide ((i:Int) < ((QO s.1 mk).length:Int)))
 have y:=aa x
 refine w6 ?_
 refine Qf ?_
 refine l0_ ?_
 exact wp [(3,4)] ⟨rfl,(Qh (Qta E (by omega))),trivial⟩
 have y:=ab x
 refine w5 ?_
 obtain ⟨t,f⟩:=gx (QO s.1 mk) i
 have R:=Yu f
 have N:=f
 have D:=Ub s.1 mk
 refine w2 ?_
 refine alI 29 fun _=> ?_
 refine w4 ?_
 refine alL 30 fun _=> ?_
 refine w4 ?_
 refine lp0 ((QO s.1 mk).length) (fun j=>⟨[(2,lP 0 0),(4,lf (.val (.slice none 0 0))),(5,lR 5),(7,lf (dS mk)),(8,lf (.dat Qm (QO s.1 mk))),(10,lI t),(14,lf (.dat Qu r.1)),(15,lI (r.1.length:Int)),(16,lI (k:Int)),(17,lB true),(18,lf (.elt .str mk 0)),(19,lf (dS mk)),(20,lP 0 0),(21,ag [dI s.1.1, .dat QF s.1.2]),(22,lf (dS mk)),(23,lf (.dat Qm (QO s.1 mk))),(24,lf (.dat Qm (QO s.1 mk))),(25,lI ((QO s.1 mk).length:Int)),(26,lI (i:Int)),(27,lB true),(28,lf (.elt .int t 0)),(29,lI t),(30,lf (.dat Qm (QO s.1 mk))),(31,lI ((QO s.1 mk).length:Int)),(32,lI (j:Int))],[bx 0 51 [dI s.1.1, .dat QF s.1.2, .dat Qo s.2.1, .dat Qw s.2.2.1,dS s.2.2.2],ar 5 123 Qm (ofG ltP (ZP s.1 (r.1.take k)++KL s.1 (QO s.1 mk) ((QO s.1 mk).take i)++Uq s.1 t ((QO s.1 mk).take j)))]⟩) ?_ fun j _=> ?_
 exact wp [(5,4)] ⟨rfl,(Qh (by simp[Uq])),trivial⟩
 refine w4 ?_
 cases e:(decide ((j:Int) < ((QO s.1 mk).length:Int)))
 have o:=aa e
 refine w6 ?_
 refine Qf ?_
 refine l0_ ?_
 exact wp [(4,5)] ⟨rfl,(Qh (QqS N (by omega))),trivial⟩
 have o:=ab e
 refine w5 ?_
 obtain ⟨u,g⟩:=gx (QO s.1 mk) j
 have S:=Yu g
 have d:=g
 have D:=Ub s.1 mk
 refine w2 ?_
 refine alI 35 fun _=> ?_
 refine w2 ?_
 cases a:(decide (t < u))
 have p:=aa a
 apply dW (i2 36 _ _ (io 38 (lB false) :: i9 39 _ _ _ _ _ _ _ _ _ (i9 48 _ _ _ _ _ _ _ _ _ []))) [0,1,0,0,0,0,0,112,0,0,0,2032,2032,2032,16368,2032,2032,2032,0,0,0]
 refine z2 ?_
 refine zz (fun _ h=>ac (Q4 (a) (QaZ (h.v rfl) (h.v rfl) rfl)) rfl) ?_
 refine z16 ?_
 exact y2
 refine w6 ?_
 refine Qf ?_
 refine l0_ ?_
 exact wp [] ⟨rfl,(Qh (by first | exact (by rw[QiM (ab ‹_›),Qft,aK,QfN d b c (ab ‹_›) ‹_›]) | exact (by rw[Qir d (aa ‹_›)]) | exact (by rw[Qis d b c ‹_›]))),trivial⟩
 have p:=ab a
 obtain ⟨xt,A⟩:=gx s.1.2 ((t).toNat)
 have b:=A
 obtain ⟨xu,B⟩:=gx s.1.2 ((u).toNat)
 have c:=B
 apply dW (i2 36 _ _ (io 38 (lB true) :: i9 39 _ _ _ _ _ _ _ _ _ (i6 48 _ _ _ _ _ _ (io 54 (lB (xt.1.any fun z=>decide (z∈xu.1))) :: i2 55 _ _ [])))) [0,1,0,0,0,0,0,112,0,0,0,2032,2032,2032,16368,2032,2032,2032,0,0,0]
 refine z2 ?_
 refine zz (fun _ h=>ac (Q4 (a) (QaZ (h.v rfl) (h.v rfl) rfl)) rfl) ?_
 refine z15 ?_
 refine zz (fun _ h=>day rfl (h.k rfl) (dK (Qe8 xt.1 xu.1) Qly) rfl) ?_
 exact y2
 cases F:(xt.1.any fun z=>decide (z∈xu.1))
 refine w5 ?_
 refine lc (dP 6 [(0,5)] (Qgi (ofG ltP (ZP s.1 (r.1.take k)++KL s.1 (QO s.1 mk) ((QO s.1 mk).take i)++Uq s.1 t ((QO s.1 mk).take j))) t u (by have:=Qo3 (n:=s.1) (ms:=r.1) (k:=k) (on:=QO s.1 mk) (i:=i) (l:=(QO s.1 mk).take j) (t:=t) L (by omega) M (by omega) (by omega) (by simp only[ao]; omega); have:=QnY (lt:=ltP) (ZP s.1 (r.1.take k)++KL s.1 (QO s.1 mk) ((QO s.1 mk).take i)++Uq s.1 t ((QO s.1 mk).take j)); omega)) Qlz) ?_
 refine w_ ?_
 refine Qf ?_
 refine w4 ?_
 refine Qf ?_
 refine l0_ ?_
 exact wp [(5,6)] ⟨rfl,(Qh (by first | exact (by rw[QiM (ab ‹_›),Qft,aK,QfN d b c (ab ‹_›) ‹_›]) | exact (by rw[Qir d (aa ‹_›)]) | exact (by rw[Qis d b c ‹_›]))),trivial⟩
 refine w6 ?_
 refine Qf ?_
 refine l0_ ?_
 exact wp [] ⟨rfl,(Qh (by first | exact (by rw[QiM (ab ‹_›),Qft,aK,QfN d b c (ab ‹_›) ‹_›]) | exact (by rw[Qir d (aa ‹_›)]) | exact (by rw[Qis d b c ‹_›]))),trivial⟩
theorem VM (s:YA)[∀s,Decidable (StgOk s)]:FC Tryz.prog 28 [(true,[dI s.1.1, .dat QF s.1.2, .dat Qo s.2.1, .dat Qw s.2.2.1,dS s.2.2.2])] [] 0 (Is (PV.tup [(false,[.ref 0]),(false,[dB ((Qb s).2)])]) [ar 0 123 Qm (QN s)]):=by
 refine Qn Tryz.func28 rfl rfl Tryz.ntmps28 fun h a g b o f e=> ?_
 refine acG 0 0 fun _=> ?_
 refine w_ ?_
 refine xbx 0 ?_
 refine w5 ?_
 refine lc (dK (XY s).frozenG KT) ?_
 refine w3 ?_
 refine lc (xal 1 Qdu XI) ?_
 refine w8 ?_
 refine cx_ (fun _=> ?_) fun _=> ?_
 refine w4 ?_
 refine AC.wk (Wk.nilS 2 2 123 Qm rfl (Fresh.of rfl) (nlr rfl))<|Qe ?_
 have c:(false:Bool)=((Qb s).2):=by
  simp_all
 exact fi_ [(0,2)] a ⟨(Qh (by exact Qet ‹_›)),trivial⟩ (h0:=by rw[← c] <;> rfl)
 refine w4 ?_
 refine lc (dO 3 (Km s ((Qb s).1) JQ (Ya ‹_›) Wu) Qez) ?_
 refine w4 ?_
 have d:(true:Bool)=((Qb s).2):=by
  simp_all
 exact fi_ [(0,3)] a ⟨(Qh (by rfl)),trivial⟩ (h0:=by rw[← d] <;> rfl)
theorem Qdf (p:Int)(b:List Int):FC Tryz.prog 363 [(false,[dI p]),(false,[.ptr 0 0])] [bx 0 123 [.dat Qm b]] 1 (Is (lB (b.any (fun y=>decide (p=y)))) [bx 0 123 [.dat Qm b]]):=by
 refine Qn Tryz.func363 rfl rfl Tryz.ntmps363 fun g e f a h d c=> ?_
 refine acI 0 fun _=> ?_
 refine w6 ?_
 refine lc (dK (Zj b p) Ud) ?_
 refine w3 ?_
 exact fi_ [] e ⟨rfl,trivial⟩
theorem K2 (s:List Int)(b:List Int):FC Tryz.prog 462 [(false,[.dat Qm s]),(false,[.clo 363 [0]])] [bx 0 123 [.dat Qm b]] 1 (Is (lI (ZO (fun p=>b.any (fun y=>decide (p=y))) s)) [bx 0 123 [.dat Qm b]]):=by
 refine Qn Tryz.func462 rfl rfl Tryz.ntmps462 fun z g x h A v r=> ?_
 refine w6 ?_
 refine alL 6 fun _=> ?_
 refine w4 ?_
 refine lpK s.length (fun k=>NoneTo (fun p=>b.any (fun y=>decide (p=y))) s k) (fun k=>⟨[(0,lf (.dat Qm s)),(1,lf (.clo 363 [0])),(7,lI (s.length:Int)),(8,lI (k:Int))],[bx 0 123 [.dat Qm b]]⟩) (NoneTo.zero) ?_ fun k _ a=> ?_
 exact wo []
 refine w4 ?_
 cases c:(decide ((k:Int) < (s.length:Int)))
 have d:=aa c
 refine w7 ?_
 have o:((-1):Int)=(ZO (fun p=>b.any (fun y=>decide (p=y))) s):=by
  first | exact (a.no (by omega)).symm
 exact fi_ [] g ⟨rfl,trivial⟩ (h0:=by rw[← o] <;> rfl)
 have d:=ab c
 refine w12 ?_
 obtain ⟨f,e⟩:=gx s k
 refine w2 ?_
 refine alI 15 fun _=> ?_
 refine lc (V6 (args0:=[(false,[dI f])]) (caps:=[0]) 1 [(0,0)] (Qdf f b) Ql1 rfl (Qa rfl) rfl rfl ⟨_,_,rfl,(Ql rfl),rfl⟩ ⟨rfl,trivial⟩ rfl ⟨trivial,trivial⟩ (nlr rfl)) ?_
 refine w_ ?_
 cases w:(b.any (fun y=>decide (f=y)))
 refine w6 ?_
 refine Qf ?_
 refine lK_ (a.step e ‹_›) ?_
 exact wo []
 refine w6 ?_
 have q:((k:Int):Int)=(ZO (fun p=>b.any (fun y=>decide (p=y))) s):=by
  exact (a.at e ‹_›).symm
 exact fi_ [] g ⟨rfl,trivial⟩ (h0:=by rw[q] <;> rfl)
theorem Uv (s:List Int)(b:List Int):FC Tryz.prog 362 [(false,[.dat Qm s]),(false,[.clo 363 [0]])] [bx 0 123 [.dat Qm b]] 1 (Is (lB (s.any (fun p=>b.any (fun y=>decide (p=y))))) [bx 0 123 [.dat Qm b]]):=by
 refine Qn Tryz.func362 rfl rfl Tryz.ntmps362 fun h f g a o e d=> ?_
 refine w6 ?_
 refine lc (dP 1 [] (K2 s b) QeW) ?_
 refine w4 ?_
 have c:(decide (0≤(ZO (fun p=>b.any (fun y=>decide (p=y))) s)):Bool)=(s.any (fun p=>b.any (fun y=>decide (p=y)))):=by
  exact Vk _ _
 exact fi_ [] f ⟨rfl,trivial⟩ (h0:=by rw[c] <;> rfl)
theorem Qgd (a:List Int)(b:List Int):FC Tryz.prog 246 [(false,[.dat Qm a]),(false,[.dat Qm b])] [] 0 (Za (lB (a.any (fun p=>b.any (fun y=>decide (p=y)))))):=by
 refine Qn Tryz.func246 rfl rfl Tryz.ntmps246 fun h f g c o e d=> ?_
 refine w_ ?_
 refine xbx 0 ?_
 refine w4 ?_
 refine lc (XR ⟨_,_,rfl,(Qa rfl),rfl,rfl⟩ rfl) ?_
 refine lc (dP 1 [] (Uv a b) QeQ) ?_
 refine w3 ?_
 exact fe_ f
end Go.Proofs.YtndabgcpnmeeoaaGreat
