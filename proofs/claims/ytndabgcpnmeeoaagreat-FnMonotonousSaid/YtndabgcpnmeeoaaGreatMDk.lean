/- Walks over abstract states: graphs built from words. -/
import Derived.Test.YtndabgcpnmeeoaaGreatMDa
import Derived.Test.YtndabgcpnmeeoaaGreatMAv
import Derived.Test.YtndabgcpnmeeoaaGreatMWk
import Derived.Test.YtndabgcpnmeeoaaGreatMUd
set_option linter.unusedSimpArgs false
set_option linter.unusedVariables false
set_option linter.unusedSectionVars false
namespace Go.Proofs.YtndabgcpnmeeoaaGreat
open Go.RowKit
set_option maxRecDepth 100000
set_option maxHeartbeats 4000000
section
variable {s:ByteArray}{b c:UInt8}{i:Nat}{out:List ByteArray}{fr:Int}
theorem QnH (a:(out,fr)=spS s b i)(hi:s.size≤i)(d:i≤s.size):out++[s.extract fr.toNat s.size]=ZQ s b:=by
 have e:i=s.size:=by omega
 subst e
 unfold ZQ
 rw[← a]
theorem QmX (a:(out,fr)=spS s b i)(h:s[((i:Nat):Int).toNat]? =some c)(e:c=b):(out++[s.extract fr.toNat ((i:Nat):Int).toNat],(i:Int)+1)=spS s b (i+1):=by
 rw[dr] at h ⊢
 rw[← QrG h e,← a]
theorem Qm5 (s:ByteArray)(b:UInt8):1≤(ZQ s b).length:=by unfold ZQ; rw[ai,au,aO]; omega
theorem Hg {x:ByteArray}(h:x∈ZQ s b):x.size≤s.size:=by
 have d:∀i,∀x∈(spS s b i).1,x.size≤s.size:=fun i=>by
  induction i with
  | zero=>intro x h; cases h
  | succ i a=>
   intro x h
   rw[spS] at h
   split at h
   ·rcases aM.1 h with h | h
    ·exact a x h
    ·rw[aD.1 h]; simp only[aZ]; omega
   ·exact a x h
 unfold ZQ at h
 rcases aM.1 h with h | h
 ·exact d _ x h
 ·rw[aD.1 h]; simp only[aZ]; omega
theorem Qq3 (a:(out,fr)=spS s b i)(h:s[((i:Nat):Int).toNat]? =some c)(e:¬c=b):(out,fr)=spS s b (i+1):=by
 rw[dr] at h
 rw[← QtV h e,← a]
end
theorem WO (s:ByteArray)(b:UInt8)(F:s.size≤100000):FC Tryz.prog 342 [(false,[dS s]),(false,[.dat .u8 b])] [] 0 (YV 9 .str (ZQ s b)):=by
 refine Qp Tryz.func342 rfl rfl Tryz.ntmps342 fun D A C v E z y=> ?_
 refine w14 ?_
 refine AC.wk (Wk.nilS 0 5 9 .str rfl (Fresh.of rfl) (nlr rfl)) ?_
 refine QD (fun r u=>∃(i:Nat) (out:List ByteArray) (fr:Int),i≤s.size∧r=s.size - i∧((out,fr)=spS s b i)∧u=⟨[(0,lf (dS s)),(1,lf (.dat .u8 b)),(4,lf (.val (.slice none 0 0))),(5,lR 1),(6,lI fr),(7,lI (i:Int))],[ar 1 9 .str out]⟩) ⟨0,([]:(Qj:Ty).Den),0,aP _,rfl,rfl,rfl⟩ ?_ ?_
 exact wp [(1,0)] ⟨(Qk (by first | rfl | simp)),trivial⟩
 rintro r u ⟨i,out,fr,q,B,n,rfl⟩
 have m:=Qmk (s:=s) (b:=b) (i:=i)
 rw[← n] at m
 dsimp only at m
 refine w4 ?_
 refine alS 9 fun _=> ?_
 refine lc (Zd (Qa rfl) rfl Zz) ?_
 refine w2 ?_
 cases a:(decide ((i:Int) < (s.size:Int)))
 have d:=aa a
 refine w7 ?_
 refine lc (show Does _ _ _ _ (St.put _ 31 (lf (dS (s.extract (fr).toNat s.size)))) from Zj (l:=(some fr)) (h:=none) (Qa rfl) (by exact (Qa rfl)) (by exact trivial) Zz rfl (by first | omega | (simp only[ao,ak]; omega)) (by first | omega | (simp only[ao,ak]; omega)) (by first | omega | (simp only[ao,ak]; omega))) ?_
 refine lc (dBs 2 (e:= .str) Ya) ?_
 refine lc (dA 3 VT) ?_
 refine w2 ?_
 refine Qd<|fo_ A ?_
 exact QnH n (by omega) q
 have d:=ab a
 refine w7 ?_
 obtain ⟨w,o⟩:=gs s (((i:Int)).toNat)
 have j:=o
 refine w4 ?_
 cases f:(decide (w=b))
 have g:=aa f
 refine w7 ?_
 refine Qb<|Zb ⟨i+1,out,fr,by omega,rfl,(by exact Qq3 n j ‹_›),rfl⟩ (by omega) ?_
 exact wo []
 have g:=ab f
 refine w6 ?_
 refine lc (show Does _ _ _ _ (St.put _ 23 (lf (dS (s.extract (fr).toNat ((i:Int)).toNat)))) from Zj (l:=(some fr)) (h:=(some (i:Int))) (Qa rfl) (by exact (Qa rfl)) (by exact (Qa rfl)) Zz rfl (by first | omega | (simp only[ao,ak]; omega)) (by first | omega | (simp only[ao,ak]; omega)) (by first | omega | (simp only[ao,ak]; omega))) ?_
 refine lc (dBs 4 (e:= .str) Ya) ?_
 refine lc (dA 5 VT) ?_
 refine w6 ?_
 refine Qb ?_
 refine w5 ?_
 refine Qb<|Zb ⟨i+1,(out++([s.extract (fr).toNat ((i:Int)).toNat])),((i:Int)+1),by omega,rfl,(by exact QmX n j ‹_›),rfl⟩ (by omega) ?_
 exact wp [(1,5)] ⟨(Qk (by first | rfl | simp)),trivial⟩
section
variable {word text nm:ByteArray}{G:List Qz}{c0 cz:UInt8}{k:Nat}{x:DTr}{T_:List DTr}{t p:Int}
theorem Quq (d:HT word=nm)(a:nm[(0:Int).toNat]? =some c0)(h:c0=126):((-1,false):Z3)=QkI G word:=by
 unfold QkI b0
 rw[d,show nm[0]? =some c0 from a]
 exact (if_pos (show (some c0).getD 0=126 from h)).symm
theorem Qua (f:HT word=nm)(d:nm[(0:Int).toNat]? =some c0)(h:¬c0=126)(a:nm[((nm.size:Int) - 1).toNat]? =some cz):
 ((ZO (fun g=>decide (g.1=nm.extract 0 ((nm.size:Int) - 1).toNat)) G,decide (cz=43)):Z3)=QkI G word:=by
 unfold QkI b0 bZ
 have e:((nm.size:Int) - 1).toNat=nm.size - 1:=by omega
 rw[e] at a ⊢
 rw[f,show nm[0]? =some c0 from d]
 refine Eq.trans ?_ (if_neg (show¬(some c0).getD 0=126 from h)).symm
 rw[a]; rfl
theorem Qnq (a:T_[t.toNat]? =some x):T_.set t.toNat (x.1,Z8 ltI p x.2)=Qey T_ t p:=by
 unfold Qey
 apply bK
 intro i
 rw[bB,cU]
 by_cases e:t.toNat=i
 ·subst e; rw[a]; simp[(ah.1 a).1]
 ·simp[e]
theorem Qnn (a:T_[t.toNat]? =some x):T_.set t.toNat (Z8 ltI p x.1,x.2)=QdA T_ t p:=by
 unfold QdA
 apply bK
 intro i
 rw[bB,cU]
 by_cases e:t.toNat=i
 ·subst e; rw[a]; simp[(ah.1 a).1]
 ·simp[e]
end
theorem Qab (b:DB)(name:ByteArray)(B:0≤b.1.1.1∧b.1.1.1≤100000)(A:b.2.1.length≤100000∧b.1.2.2.2.size≤100000):FC Tryz.prog 460 [(false,[.ptr 0 0]),(false,[dS name])] [bx 0 373 [dI b.1.1.1, .ref 1, .ref 2, .ref 3,dS b.1.2.2.2, .ref 5, .ref 4],ar 1 275 Zr b.1.1.2,ar 2 77 Zw b.1.2.1,ar 3 75 Zk b.1.2.2.1,ar 5 9 .str b.2.1,ar 4 9 .str b.2.2] 5 (Is (lI (plI b name)) [bx 0 373 [dI ((plV b name).1.1.1), .ref 1, .ref 2, .ref 3,dS ((plV b name).1.2.2.2), .ref 5, .ref 4],ar 1 275 Zr ((plV b name).1.1.2),ar 2 77 Zw ((plV b name).1.2.1),ar 3 75 Zk ((plV b name).1.2.2.1),ar 5 9 .str ((plV b name).2.1),ar 4 9 .str ((plV b name).2.2)]):=by
 refine Qp Tryz.func460 rfl rfl Tryz.ntmps460 fun w m v n z u r=> ?_
 refine w13 ?_
 refine lpK b.2.1.length (fun k=>NoneTo (fun y=>decide (y=name)) b.2.1 k) (fun k=>⟨[(0,lP 0 0),(1,lf (dS name)),(10,lR 5),(11,lI (b.2.1.length:Int)),(12,lI (k:Int))],[bx 0 373 [dI b.1.1.1, .ref 1, .ref 2, .ref 3,dS b.1.2.2.2, .ref 5, .ref 4],ar 1 275 Zr b.1.1.2,ar 2 77 Zw b.1.2.1,ar 3 75 Zk b.1.2.2.1,ar 4 9 .str b.2.2,ar 5 9 .str b.2.1]⟩) (NoneTo.zero) ?_ fun k _ a=> ?_
 exact wo []
 refine w4 ?_
 cases f:(decide ((k:Int) < (b.2.1.length:Int)))
 have g:=aa f
 refine w10 ?_
 refine lc (dBs 6 (e:= .str) Ya) ?_
 refine lc (dA 7 VT) ?_
 refine w10 ?_
 refine lc (QA (Qa rfl) (Evl.str rfl) rfl (by (simp only[Zh]; omega))) ?_
 refine w12 ?_
 refine alI 46 fun _=> ?_
 refine lc (Vr (Qa rfl) (Qn rfl) rfl (by first | omega | (simp only[ai,au,aO]; omega))) ?_
 refine w12 ?_
 refine lc (Vu (Qa rfl) (Qn rfl) rfl (by first | omega | (simp only[ai,au,aO]; omega))) ?_
 refine w3 ?_
 have o:(((b.2.1++([name])).length:Int) - 1:Int)=(plI b name):=by
  (unfold plI; rw[Qah (Yg a (by omega)),ai]; simp)
 exact fi_ [(5,7)] m ⟨(((congrArg (fun z_=>some (Ent.box 373 [dI z_, .ref 1, .ref 2, .ref 3,dS (b.1.2.2.2++(⟨#[48]⟩:ByteArray)), .ref 7, .ref 4])) (show (b.1.1.1+1:Int)=(plV b name).1.1.1 by (rw[W0 (Yg a (by omega))]; done)))).trans (congrArg (fun z_=>some (Ent.box 373 [dI ((plV b name).1.1.1), .ref 1, .ref 2, .ref 3,dS z_, .ref 7, .ref 4])) (show (b.1.2.2.2++(⟨#[48]⟩:ByteArray):ByteArray)=(plV b name).1.2.2.2 by (rw[W0 (Yg a (by omega))]; done)))),(Qk (by (rw[W0 (Yg a (by omega))]; done))),(Qk (by (rw[W0 (Yg a (by omega))]; done))),(Qk (by (rw[W0 (Yg a (by omega))]; done))),(Qk (by (rw[W0 (Yg a (by omega))]; done))),(Qk (by (rw[W0 (Yg a (by omega))]; done))),trivial⟩ (h0:=by rw[o] <;> rfl)
 have g:=ab f
 refine w7 ?_
 obtain ⟨x,l⟩:=gx b.2.1 k
 have d:=l
 refine w9 ?_
 cases h:(decide (x=name))
 have j:=aa h
 refine w4 ?_
 refine lc (Vr (Qa rfl) (Qn rfl) rfl (by first | omega | (simp only[ai,au,aO]; omega))) ?_
 refine w_ ?_
 refine Qb ?_
 refine lK_ (a.step l (aB ‹_›)) ?_
 exact wo []
 have j:=ab h
 refine w6 ?_
 have q:((k:Int):Int)=(plI b name):=by
  exact QoH a d ‹_›
 exact fi_ [] m ⟨(((congrArg (fun z_=>some (Ent.box 373 [dI z_, .ref 1, .ref 2, .ref 3,dS b.1.2.2.2, .ref 5, .ref 4])) (show (b.1.1.1:Int)=(plV b name).1.1.1 by (rw[UV (Xa d ‹_›)]; done)))).trans (congrArg (fun z_=>some (Ent.box 373 [dI ((plV b name).1.1.1), .ref 1, .ref 2, .ref 3,dS z_, .ref 5, .ref 4])) (show (b.1.2.2.2:ByteArray)=(plV b name).1.2.2.2 by (rw[UV (Xa d ‹_›)]; done)))),(Qk (by (rw[UV (Xa d ‹_›)]; done))),(Qk (by (rw[UV (Xa d ‹_›)]; done))),(Qk (by (rw[UV (Xa d ‹_›)]; done))),(Qk (by (rw[UV (Xa d ‹_›)]; done))),(Qk (by (rw[UV (Xa d ‹_›)]; done))),trivial⟩ (h0:=by rw[q] <;> rfl)
theorem VK (b:DB)(word:ByteArray)(N:word.size≤1000∧1≤(HT word).size)(R:b.1.1.2.length≤100000∧b.1.2.2.1.length≤100000∧b.2.2.length≤100000):FC Tryz.prog 461 [(false,[.ptr 0 0]),(false,[dS word])] [bx 0 373 [dI b.1.1.1, .ref 3, .ref 1, .ref 4,dS b.1.2.2.2, .ref 2, .ref 5],ar 3 275 Zr b.1.1.2,ar 1 77 Zw b.1.2.1,ar 4 75 Zk b.1.2.2.1,ar 2 9 .str b.2.1,ar 5 9 .str b.2.2] 3 (Is (lI (trI b word)) [bx 0 373 [dI ((ZF b word).1.1.1), .ref 3, .ref 1, .ref 4,dS ((ZF b word).1.2.2.2), .ref 2, .ref 5],ar 3 275 Zr ((ZF b word).1.1.2),ar 1 77 Zw ((ZF b word).1.2.1),ar 4 75 Zk ((ZF b word).1.2.2.1),ar 2 9 .str ((ZF b word).2.1),ar 5 9 .str ((ZF b word).2.2)]):=by
 have M:=Qm5 word 47
 refine Qp Tryz.func461 rfl rfl Tryz.ntmps461 fun P C O F Q J I=> ?_
 refine w13 ?_
 refine lpK b.2.2.length (fun k=>NoneTo (fun y=>decide (y=word)) b.2.2 k) (fun k=>⟨[(0,lP 0 0),(1,lf (dS word)),(12,lR 5),(13,lI (b.2.2.length:Int)),(14,lI (k:Int))],[bx 0 373 [dI b.1.1.1, .ref 3, .ref 1, .ref 4,dS b.1.2.2.2, .ref 2, .ref 5],ar 1 77 Zw b.1.2.1,ar 2 9 .str b.2.1,ar 3 275 Zr b.1.1.2,ar 4 75 Zk b.1.2.2.1,ar 5 9 .str b.2.2]⟩) (NoneTo.zero) ?_ fun k _ a=> ?_
 exact wo []
 refine w4 ?_
 cases o:(decide ((k:Int) < (b.2.2.length:Int)))
 have q:=aa o
 refine w10 ?_
 refine lc (dBs 6 (e:= .str) Ya) ?_
 refine lc (dA 7 VT) ?_
 refine w6 ?_
 refine lc (Us (WO word 47 (by omega)).frozen Hi ⟨_,_,rfl,(Qo rfl),⟨_,_,rfl,(Evl.ev (Q0 47 rfl)),rfl⟩⟩ rfl rfl) ?_
 obtain ⟨nm,z⟩:=gx (ZQ word 47) 0
 have n:HT word=nm:=by unfold HT; rw[show (ZQ word 47)[0]? =some nm from z]; rfl
 have L:1≤nm.size:=by rw[← n]; exact N.2
 have K:=Hg (ae z)
 refine w5 ?_
 refine lc (Qq XJ ⟨_,_,rfl,(Evl.ev (Qn rfl)),rfl⟩ (av.1 rfl) rfl rfl)<|lc (xal 8 Zk XY) ?_
 refine w5 ?_
 obtain ⟨c0,D⟩:=gs nm ((0:Int).toNat)
 have r:=D
 refine w_ ?_
 refine lc (QT (Qa rfl) (Q0 126 rfl) rfl) ?_
 refine w_ ?_
 refine cn_ (fun _ _=> ?_) fun _ _=> ?_
 refine w9 ?_
 refine lc (Qq Qb5 rfl (av.1 rfl) rfl rfl) ?_
 refine lc (dBs 9 (e:=Zr) UP (hab:=by exact ⟨_,_,_,_,rfl,⟨[.val (.slice none 0 0)],[.val (.slice none 0 0)],_,_,_,_,rfl,rfl,(.inr ⟨rfl,rfl,rfl⟩),(.inr ⟨rfl,rfl,rfl⟩),rfl⟩,⟨rfl,rfl⟩,rfl⟩)) ?_
 refine lc (dA 10 Qcf) ?_
 refine w6 ?_
 apply dW (i7 74 _ _ _ _ _ _ _ (⟨some 81,lR 11,[ar 11 75 Zk ([((-1),false)])]⟩ :: ⟨some 82,lR 12,[ar 12 75 Zk (b.1.2.2.1++([((-1),false)])),(4,none),(11,none)]⟩ :: i3 83 _ _ _ [⟨none,lf (.val undef),[bx 0 373 [dI b.1.1.1, .ref 10, .ref 1, .ref 12,dS b.1.2.2.2, .ref 2, .ref 7]]⟩])) [0,1,1,1,1,1,63,63,1,0,0,0,0]
 refine z7 ?_
 refine zz (fun _ d=>ac (dBs 11 (e:=Zk) XY (hab:=by exact ⟨_,_,_,_,rfl,⟨[dI (-1)],[dB false],_,_,_,_,rfl,rfl,⟨rfl,rfl⟩,⟨rfl,rfl⟩,rfl⟩,⟨rfl,rfl⟩,rfl⟩)) rfl) ?_
 refine zz (fun _ d=>ac (dA 12 Qbh) rfl) ?_
 refine z3 ?_
 refine zz (fun _ d=>ac (Yn (d.v rfl) (d.en 0 rfl) (d.w rfl) (by simp only[ZC,JH,bF,cB]; rw[(d.en 12 rfl)]; rfl) QoN rfl) rfl) ?_
 exact zN
 refine w6 ?_
 refine lc (Vu (Qa rfl) (Qn rfl) rfl (by first | omega | (simp only[ai,au,aO]; omega))) ?_
 refine w3 ?_
 have H:(((b.2.2++([word])).length:Int) - 1:Int)=(trI b word):=by
  (unfold trI; rw[Qah (Yg a (by omega)),ai]; simp)
 exact fi_ [(3,10),(4,12),(5,7)] C ⟨(((congrArg (fun z_=>some (Ent.box 373 [dI z_, .ref 10, .ref 1, .ref 12,dS b.1.2.2.2, .ref 2, .ref 7])) (show (b.1.1.1:Int)=(ZF b word).1.1.1 by (rw[Yf (Yg a (by omega))]; done)))).trans (congrArg (fun z_=>some (Ent.box 373 [dI ((ZF b word).1.1.1), .ref 10, .ref 1, .ref 12,dS z_, .ref 2, .ref 7])) (show (b.1.2.2.2:ByteArray)=(ZF b word).1.2.2.2 by (rw[Yf (Yg a (by omega))]; done)))),(Qk (by (rw[Yf (Yg a (by omega))]; done))),(Qk (by (rw[Yf (Yg a (by omega))]; done))),(Qk (by (rw[Yf (Yg a (by omega)),← Quq n r ‹_›]; done))),(Qk (by (rw[Yf (Yg a (by omega))]; done))),(Qk (by (rw[Yf (Yg a (by omega))]; done))),trivial⟩ (h0:=by rw[H] <;> rfl)
 obtain ⟨cz,u⟩:=gs nm (((nm.size:Int) - 1).toNat)
 have E:=u
 apply dZ (i7 42 _ _ _ _ _ _ _ (io 49 (lI (nm.size:Int)) :: io 50 (lI ((nm.size:Int) - 1)) :: io 51 (lf (dS (nm.extract 0 ((nm.size:Int) - 1).toNat))) :: io 52 (lI (ZO (fun x:Qz=>decide (x.1=(nm.extract 0 ((nm.size:Int) - 1).toNat))) b.1.2.1)) :: i2 53 _ _ [io 55 (lI (nm.size:Int)),io 56 (lI ((nm.size:Int) - 1)),io 57 _,io 58 (lB (decide (cz=43))),io 59 (ag [dI (ZO (fun x:Qz=>decide (x.1=(nm.extract 0 ((nm.size:Int) - 1).toNat))) b.1.2.1),dB (decide (cz=43))]),⟨none,lf (.val undef),[bx 8 75 [dI (ZO (fun x:Qz=>decide (x.1=(nm.extract 0 ((nm.size:Int) - 1).toNat))) b.1.2.1),dB (decide (cz=43))]]⟩])) [0,0,0,0,0,31,63,63,63,31,0,2047,4095,4095,4095,2047,2047,0,0]
 refine z7 ?_
 refine zz (fun _ d=>ac (Zd (d.v rfl) rfl Zz) rfl)<|zz (fun _ d=>ac (Vu (d.v rfl) (Qn rfl) rfl (by first | omega | (simp only[ai,au,aO]; omega))) rfl)<|zz (fun _ d=>ac (show Does _ _ _ _ (St.put _ 51 (lf (dS (nm.extract 0 ((nm.size:Int) - 1).toNat)))) from Zj (l:=none) (h:=(some ((nm.size:Int) - 1))) (d.v rfl) (by exact trivial) (by exact (d.v rfl)) Zz rfl (by first | omega | (simp only[ao,ak]; omega)) (by first | omega | (simp only[ao,ak]; omega)) (by first | omega | (simp only[ao,ak]; omega))) rfl) ?_
 refine zz (fun _ d=>ac (dB_ (Qa6 b.1.2.1 (nm.extract 0 ((nm.size:Int) - 1).toNat)) Qjz) rfl) ?_
 refine z2 ?_
 refine zz (fun _ d=>ac (Zd (d.v rfl) rfl Zz) rfl)<|zz (fun _ d=>ac (Vu (d.v rfl) (Qn rfl) rfl (by first | omega | (simp only[ai,au,aO]; omega))) rfl) ?_
 refine z_ ?_
 refine zz (fun _ d=>ac (ZJ (d.v rfl) (Q0 43 rfl) rfl) rfl)<|zz (fun _ d=>ac (Qq XJ ⟨_,_,rfl,(d.w rfl),⟨_,_,rfl,(d.w rfl),rfl⟩⟩ (av.1 rfl) rfl rfl) rfl) ?_
 exact y1
 refine w8 ?_
 refine lc (Qq Qb5 rfl (av.1 rfl) rfl rfl) ?_
 refine lc (dBs 13 (e:=Zr) UP (hab:=by exact ⟨_,_,_,_,rfl,⟨[.val (.slice none 0 0)],[.val (.slice none 0 0)],_,_,_,_,rfl,rfl,(.inr ⟨rfl,rfl,rfl⟩),(.inr ⟨rfl,rfl,rfl⟩),rfl⟩,⟨rfl,rfl⟩,rfl⟩)) ?_
 refine lc (dA 14 Qcf) ?_
 refine w6 ?_
 apply dW (i7 74 _ _ _ _ _ _ _ (⟨some 81,lR 15,[ar 15 75 Zk ([(ZO (fun x:Qz=>decide (x.1=(nm.extract 0 ((nm.size:Int) - 1).toNat))) b.1.2.1,decide (cz=43))])]⟩ :: ⟨some 82,lR 16,[ar 16 75 Zk (b.1.2.2.1++([(ZO (fun x:Qz=>decide (x.1=(nm.extract 0 ((nm.size:Int) - 1).toNat))) b.1.2.1,decide (cz=43))])),(4,none),(15,none)]⟩ :: i3 83 _ _ _ [⟨none,lf (.val undef),[bx 0 373 [dI b.1.1.1, .ref 14, .ref 1, .ref 16,dS b.1.2.2.2, .ref 2, .ref 7]]⟩])) [0,1,1,1,1,1,63,63,1,0,0,0,0]
 refine z7 ?_
 refine zz (fun _ d=>ac (dBs 15 (e:=Zk) XY (hab:=by exact ⟨_,_,_,_,rfl,⟨[dI (ZO (fun x:Qz=>decide (x.1=(nm.extract 0 ((nm.size:Int) - 1).toNat))) b.1.2.1)],[dB (decide (cz=43))],_,_,_,_,rfl,rfl,⟨rfl,rfl⟩,⟨rfl,rfl⟩,rfl⟩,⟨rfl,rfl⟩,rfl⟩)) rfl) ?_
 refine zz (fun _ d=>ac (dA 16 Qbh) rfl) ?_
 refine z3 ?_
 refine zz (fun _ d=>ac (Yn (d.v rfl) (d.en 0 rfl) (d.w rfl) (by simp only[ZC,JH,bF,cB]; rw[(d.en 16 rfl)]; rfl) QoN rfl) rfl) ?_
 exact zN
 refine w6 ?_
 refine lc (Vu (Qa rfl) (Qn rfl) rfl (by first | omega | (simp only[ai,au,aO]; omega))) ?_
 refine w3 ?_
 have A:(((b.2.2++([word])).length:Int) - 1:Int)=(trI b word):=by
  (unfold trI; rw[Qah (Yg a (by omega)),ai]; simp)
 exact fi_ [(3,14),(4,16),(5,7)] C ⟨(((congrArg (fun z_=>some (Ent.box 373 [dI z_, .ref 14, .ref 1, .ref 16,dS b.1.2.2.2, .ref 2, .ref 7])) (show (b.1.1.1:Int)=(ZF b word).1.1.1 by (rw[Yf (Yg a (by omega))]; done)))).trans (congrArg (fun z_=>some (Ent.box 373 [dI ((ZF b word).1.1.1), .ref 14, .ref 1, .ref 16,dS z_, .ref 2, .ref 7])) (show (b.1.2.2.2:ByteArray)=(ZF b word).1.2.2.2 by (rw[Yf (Yg a (by omega))]; done)))),(Qk (by (rw[Yf (Yg a (by omega))]; done))),(Qk (by (rw[Yf (Yg a (by omega))]; done))),(Qk (by (rw[Yf (Yg a (by omega)),← Qua n r ‹_› E]; done))),(Qk (by (rw[Yf (Yg a (by omega))]; done))),(Qk (by (rw[Yf (Yg a (by omega))]; done))),trivial⟩ (h0:=by rw[A] <;> rfl)
 have q:=ab o
 refine w7 ?_
 obtain ⟨x,j⟩:=gx b.2.2 k
 have f:=j
 refine w9 ?_
 cases g:(decide (x=word))
 have m:=aa g
 refine w4 ?_
 refine lc (Vr (Qa rfl) (Qn rfl) rfl (by first | omega | (simp only[ai,au,aO]; omega))) ?_
 refine w_ ?_
 refine Qb ?_
 refine lK_ (a.step j (aB ‹_›)) ?_
 exact wo []
 have m:=ab g
 refine w6 ?_
 have B:((k:Int):Int)=(trI b word):=by
  exact QoH a f ‹_›
 exact fi_ [] C ⟨(((congrArg (fun z_=>some (Ent.box 373 [dI z_, .ref 3, .ref 1, .ref 4,dS b.1.2.2.2, .ref 2, .ref 5])) (show (b.1.1.1:Int)=(ZF b word).1.1.1 by (rw[W4 (Xa f ‹_›)]; done)))).trans (congrArg (fun z_=>some (Ent.box 373 [dI ((ZF b word).1.1.1), .ref 3, .ref 1, .ref 4,dS z_, .ref 2, .ref 5])) (show (b.1.2.2.2:ByteArray)=(ZF b word).1.2.2.2 by (rw[W4 (Xa f ‹_›)]; done)))),(Qk (by (rw[W4 (Xa f ‹_›)]; done))),(Qk (by (rw[W4 (Xa f ‹_›)]; done))),(Qk (by (rw[W4 (Xa f ‹_›)]; done))),(Qk (by (rw[W4 (Xa f ‹_›)]; done))),(Qk (by (rw[W4 (Xa f ‹_›)]; done))),trivial⟩ (h0:=by rw[B] <;> rfl)
end Go.Proofs.YtndabgcpnmeeoaaGreat
namespace Go.Proofs.YtndabgcpnmeeoaaGreat
open Go.RowKit
set_option maxRecDepth 100000
set_option maxHeartbeats 4000000
section
variable {text tx fr to_ nm:ByteArray}{c c0:UInt8}{b b1:DB}{p:Int}
theorem Qu6 (h:okA text=true):1≤text.size∧2≤(ZQ (JJ text) 62).length∧(1≤(Xz text 0).size∧(b0 (Xz text 0)=95∨1≤(HT (Xz text 0)).size))∧1≤(Xz text 1).size∧(b0 (Xz text 1)=95∨1≤(HT (Xz text 1)).size):=by
 unfold okA okW at h
 simp only[aQ,cd,aT] at h
 exact ⟨h.1,h.2.1,h.2.2.1,h.2.2.2⟩
theorem X2 (a:text[(0:Int).toNat]? =some c):b0 text=c:=by unfold b0; rw[show text[0]? =some c from a]; rfl
theorem QwK (a:text[(0:Int).toNat]? =some c)(h:c=42):text.extract (1:Int).toNat text.size=JJ text:=by unfold JJ; rw[X2 a,if_pos h]; rfl
theorem QvK (a:text[(0:Int).toNat]? =some c)(h:¬c=42):text=JJ text:=by unfold JJ; rw[X2 a,if_neg h]
theorem YU {k:Nat}(a:tx=JJ text)(h:(ZQ tx 62)[k]? =some fr):Xz text k=fr:=by unfold Xz; rw[← a,h]; rfl
theorem QtH (a:Xz text 1=to_)(d:to_[(0:Int).toNat]? =some c)(h:c=95):to_=Qaj text:=by unfold Qaj; rw[a,X2 d,if_pos h]
theorem Qwk (d:Xz text 1=to_)(f:to_[(0:Int).toNat]? =some c)(h:¬c=95)(h0:Xz text 0=fr)(a:fr[(0:Int).toNat]? =some c0)(e:c0=95):fr=Qaj text:=by unfold Qaj; rw[d,X2 f,if_neg h,h0,X2 a,if_pos e]
theorem Qvw (d:Xz text 1=to_)(f:to_[(0:Int).toNat]? =some c)(h:¬c=95)(h0:Xz text 0=fr)(a:fr[(0:Int).toNat]? =some c0)(e:¬c0=95)(g:tx=JJ text):tx=Qaj text:=by unfold Qaj; rw[d,X2 f,if_neg h,h0,X2 a,if_neg e,g]
theorem QwN (h0:Xz text 0=fr)(a:fr[(0:Int).toNat]? =some c0)(h:c0=95):b=ar1 p b text:=by unfold ar1; rw[h0,X2 a,if_pos h]
theorem Qwg (h0:Xz text 1=to_)(a:to_[(0:Int).toNat]? =some c0)(h:c0=95):b=ar2 p b text:=by unfold ar2; rw[h0,X2 a,if_pos h]
theorem QwA (h0:Xz text 0=fr)(a:fr[(0:Int).toNat]? =some c0)(h:¬c0=95):((((ZF b fr).1.1.1,Qey (ZF b fr).1.1.2 (trI b fr) p),(ZF b fr).1.2.1,(ZF b fr).1.2.2.1,(ZF b fr).1.2.2.2),(ZF b fr).2.1,(ZF b fr).2.2)=ar1 p b text:=by unfold ar1; rw[h0,X2 a,if_neg h]
theorem QvT (h0:Xz text 1=to_)(a:to_[(0:Int).toNat]? =some c0)(h:¬c0=95):((((ZF b to_).1.1.1,QdA (ZF b to_).1.1.2 (trI b to_) p),(ZF b to_).1.2.1,(ZF b to_).1.2.2.1,(ZF b to_).1.2.2.2),(ZF b to_).2.1,(ZF b to_).2.2)=ar2 p b text:=by unfold ar2; rw[h0,X2 a,if_neg h]
theorem Qf3 {k:Nat}(e:tx=JJ text)(a:(ZQ tx 62)[k]? =some fr)(j:text.size≤1000)(d:b0 (Xz text k)=95∨1≤(HT (Xz text k)).size)(g:fr[(0:Int).toNat]? =some c)(h:¬c=95):fr.size≤1000∧1≤(HT fr).size:=by
 have f:=Hg (ae a)
 have i:(JJ text).size≤text.size:=by unfold JJ; split; simp only[aZ]; omega; exact aK _
 rw[YU e a,X2 g] at d
 rw[e] at f
 exact ⟨by omega,d.resolve_left h⟩
theorem QiW {a:DB}(f:text[(0:Int).toNat]? =some c)(h:¬c=42)(g:nm=Qaj text)(d:b1=ar1 (plI b nm) (plV b nm) text)(e:a=ar2 (plI b nm) b1 text):arV b text=a:=by
 rw[e,d,g]; unfold arV; dsimp only; rw[X2 f,if_neg h]
theorem QjM {a:DB}(f:text[(0:Int).toNat]? =some c)(h:c=42)(g:nm=Qaj text)(d:b1=ar1 (plI b nm) (plV b nm) text)(e:a=ar2 (plI b nm) b1 text):arV b text=((a.1.1,a.1.2.1,a.1.2.2.1,QoW a.1.2.2.2 (plI b nm)),a.2.1,a.2.2):=by
 rw[e,d,g]; unfold arV; dsimp only; rw[X2 f,if_pos h]
theorem Qoi:(JJ text).size≤text.size:=by unfold JJ; split; simp only[aZ]; omega; exact aK _
end
theorem QbX (b:DB)(text:ByteArray)(B:Nat)(E:DBJ b B (2*B) (2*B))(hn:B≤1000)(ht:okA text=true)(Y:text.size≤1000):FC Tryz.prog 343 [(false,[.ptr 0 0]),(false,[dS text])] [bx 0 373 [dI b.1.1.1, .ref 2, .ref 1, .ref 3,dS b.1.2.2.2, .ref 4, .ref 5],ar 2 275 Zr b.1.1.2,ar 1 77 Zw b.1.2.1,ar 3 75 Zk b.1.2.2.1,ar 4 9 .str b.2.1,ar 5 9 .str b.2.2] 2 (Is (PV.tup []) [bx 0 373 [dI ((arV b text).1.1.1), .ref 2, .ref 1, .ref 3,dS ((arV b text).1.2.2.2), .ref 4, .ref 5],ar 2 275 Zr ((arV b text).1.1.2),ar 1 77 Zw ((arV b text).1.2.1),ar 3 75 Zk ((arV b text).1.2.2.1),ar 4 9 .str ((arV b text).2.1),ar 5 9 .str ((arV b text).2.2)]):=by
 obtain ⟨c7,a3,⟨P,Q⟩,R,S⟩:=Qu6 ht
 have b0:=Qoi (text:=text)
 have b3:=E.p0
 have b4:=E.pl
 have b5:=E.st
 have b6:=E.tr
 have b7:=E.la
 have b8:=E.ws
 refine Qp Tryz.func343 rfl rfl Tryz.ntmps343 fun O_ hO d0 a7 X_ a9 a8=> ?_
 refine w2 ?_
 obtain ⟨V,a0⟩:=gs text ((0:Int).toNat)
 have i:=a0
 refine w_ ?_
 refine lc (ZJ (Qa rfl) (Q0 42 rfl) rfl) ?_
 refine w2 ?_
 refine Qd5 (fun A=>∃(tx:ByteArray),(tx=JJ text)∧A=⟨[(0,lP 0 0),(1,lf (dS tx)),(4,lB (decide (V=42)))],[bx 0 373 [dI b.1.1.1, .ref 2, .ref 1, .ref 3,dS b.1.2.2.2, .ref 4, .ref 5],ar 1 77 Zw b.1.2.1,ar 2 275 Zr b.1.1.2,ar 3 75 Zk b.1.2.2.1,ar 4 9 .str b.2.1,ar 5 9 .str b.2.2]⟩) ?_ fun J3=> ?_
 rintro A ⟨tx,n,rfl⟩
 have c9:2≤(ZQ tx 62).length:=by rw[n]; exact a3
 refine w2 ?_
 refine lc (Us (WO tx 62 (by rw[n]; omega)).frozen Hi ⟨_,_,rfl,(Qo rfl),⟨_,_,rfl,(Evl.ev (Q0 62 rfl)),rfl⟩⟩ rfl rfl) ?_
 refine w2 ?_
 obtain ⟨fr,G⟩:=gx (ZQ tx 62) 0
 have w:=G
 have a6:1≤fr.size:=by first | (rw[← YU (k:=0) n G]; exact P) | (rw[← YU (k:=1) n G]; exact R)
 obtain ⟨to_,H⟩:=gx (ZQ tx 62) 1
 have m:=H
 have a4:1≤to_.size:=by first | (rw[← YU (k:=0) n H]; exact P) | (rw[← YU (k:=1) n H]; exact R)
 apply dW (i6 20 _ _ _ _ _ _ (i2 6 _ _ [])) [0,0,0,7,7,7,56,0]
 exact y8
 refine Qqd (fun A=>∃(nm:ByteArray),(nm=Qaj text)∧A=⟨[(0,lP 0 0),(4,lB (decide (V=42))),(6,lf (dS fr)),(7,lf (dS to_)),(8,lf (dS nm))],[bx 0 373 [dI b.1.1.1, .ref 2, .ref 1, .ref 3,dS b.1.2.2.2, .ref 4, .ref 5],ar 1 77 Zw b.1.2.1,ar 2 275 Zr b.1.1.2,ar 3 75 Zk b.1.2.2.1,ar 4 9 .str b.2.1,ar 5 9 .str b.2.2]⟩) ?_ fun X=> ?_
 rintro A ⟨nm,u,rfl⟩
 have I:=E.pl_ (name:=nm)
 have c3:=I.tr
 have c4:=I.la
 have c5:=I.ws
 have c8:=Ql0 (b:=b) (name:=nm)
 refine w3 ?_
 refine lc (dP 6 [(1,2),(2,1),(4,5),(5,4)] (Qab b nm (by omega) (by omega)) Qjm) ?_
 refine w2 ?_
 refine Qd5 (fun A=>∃(b1:((Int×(List (List Int×List Int)))×(List (ByteArray×Int))×(List (Int×Bool))×ByteArray)×List ByteArray×List ByteArray),(b1=ar1 (plI b nm) (plV b nm) text)∧A=⟨[(0,lP 0 0),(4,lB (decide (V=42))),(7,lf (dS to_)),(9,lI (plI b nm))],[bx 0 373 [dI b1.1.1.1, .ref 12, .ref 1, .ref 13,dS b1.1.2.2.2, .ref 14, .ref 15],ar 1 77 Zw b1.1.2.1,ar 12 275 Zr b1.1.1.2,ar 13 75 Zk b1.1.2.2.1,ar 14 9 .str b1.2.1,ar 15 9 .str b1.2.2]⟩) ?_ fun J9=> ?_
 rintro A ⟨b1,f,rfl⟩
 have x:DBJ b1 (B+1) (2*B+1) (2*B+1):=by rw[f]; exact I.ar1_
 have b9:=x.tr
 have c1:=x.la
 have c2:=x.ws
 refine Qd5 (fun A=>∃(d:((Int×(List (List Int×List Int)))×(List (ByteArray×Int))×(List (Int×Bool))×ByteArray)×List ByteArray×List ByteArray),(d=ar2 (plI b nm) b1 text)∧A=⟨[(0,lP 0 0),(4,lB (decide (V=42))),(9,lI (plI b nm))],[bx 0 373 [dI d.1.1.1, .ref 16, .ref 1, .ref 17,dS d.1.2.2.2, .ref 18, .ref 19],ar 1 77 Zw d.1.2.1,ar 16 275 Zr d.1.1.2,ar 17 75 Zk d.1.2.2.1,ar 18 9 .str d.2.1,ar 19 9 .str d.2.2]⟩) ?_ fun J=> ?_
 rintro A ⟨d,g,rfl⟩
 have Z:DBJ d (B+1) (2*B+2) (2*B+2):=by rw[g]; exact x.ar2_
 have U:=Z.st
 have T:d.2.1=(plV b nm).2.1:=by rw[g,QoA,f,Qqy]
 rw[T] at U
 have c6:=I.pl
 refine w3 ?_
 refine cd_ (fun _ _=> ?_) fun _ _=> ?_
 refine w_ ?_
 refine (?_:fin _ _ _ _ .normal _)
 exact fi_ [(2,16),(3,17),(4,18),(5,19)] hO ⟨(((congrArg (fun z_=>some (Ent.box 373 [dI z_, .ref 16, .ref 1, .ref 17,dS d.1.2.2.2, .ref 18, .ref 19])) (show (d.1.1.1:Int)=(arV b text).1.1.1 by (rw[QiW i ‹_› u f g]; done)))).trans (congrArg (fun z_=>some (Ent.box 373 [dI ((arV b text).1.1.1), .ref 16, .ref 1, .ref 17,dS z_, .ref 18, .ref 19])) (show (d.1.2.2.2:ByteArray)=(arV b text).1.2.2.2 by (rw[QiW i ‹_› u f g]; done)))),(Qk (by (rw[QiW i ‹_› u f g]; done))),(Qk (by (rw[QiW i ‹_› u f g]; done))),(Qk (by (rw[QiW i ‹_› u f g]; done))),(Qk (by (rw[QiW i ‹_› u f g]; done))),(Qk (by (rw[QiW i ‹_› u f g]; done))),trivial⟩
 apply dV (i7 93 _ _ _ _ _ _ _ (io 100 (lf (dS (d.1.2.2.2.extract 0 (plI b nm).toNat))) :: io 101 (lf (dS ((d.1.2.2.2.extract 0 (plI b nm).toNat)++(⟨#[49]⟩:ByteArray)))) :: i7 102 _ _ _ _ _ _ _ (io 109 (lf (dS (d.1.2.2.2.extract ((plI b nm)+1).toNat d.1.2.2.2.size))) :: io 110 (lf (dS (((d.1.2.2.2.extract 0 (plI b nm).toNat)++(⟨#[49]⟩:ByteArray))++(d.1.2.2.2.extract ((plI b nm)+1).toNat d.1.2.2.2.size)))) :: i3 111 _ _ _ [⟨none,lf (.val undef),[bx 0 373 [dI d.1.1.1, .ref 16, .ref 1, .ref 17,dS (((d.1.2.2.2.extract 0 (plI b nm).toNat)++(⟨#[49]⟩:ByteArray))++(d.1.2.2.2.extract ((plI b nm)+1).toNat d.1.2.2.2.size)), .ref 18, .ref 19]]⟩]))) [0,1,1,1,1,1,63,1,1,511,511,511,511,511,16383,16383,511,1,0,0,0,0]
 refine z7 ?_
 refine zz (fun _ a=>ac (show Does _ _ _ _ (St.put _ 100 (lf (dS (d.1.2.2.2.extract 0 (plI b nm).toNat)))) from Zj (l:=none) (h:=(some (plI b nm))) (a.v rfl) (by exact trivial) (by exact (a.v rfl)) Zz rfl (by first | omega | (simp only[ao,ak]; omega)) (by first | omega | (simp only[ao,ak]; omega)) (by first | omega | (simp only[ao,ak]; omega))) rfl)<|zz (fun _ a=>ac (QA (a.v rfl) (Evl.str rfl) rfl (by (simp only[aA,aZ,Zh]; omega))) rfl) ?_
 refine z7 ?_
 refine zz (fun _ a=>ac (show Does _ _ _ _ (St.put _ 109 (lf (dS (d.1.2.2.2.extract ((plI b nm)+1).toNat d.1.2.2.2.size)))) from Zj (l:=(some ((plI b nm)+1))) (h:=none) (a.v rfl) (by exact (a.v rfl)) (by exact trivial) Zz rfl (by first | omega | (simp only[ao,ak]; omega)) (by first | omega | (simp only[ao,ak]; omega)) (by first | omega | (simp only[ao,ak]; omega))) rfl)<|zz (fun _ a=>ac (QA (a.v rfl) (a.v rfl) rfl (by (simp only[aA,aZ,Zh]; omega))) rfl) ?_
 exact y4
 refine (?_:fin _ _ _ _ .normal _)
 exact fi_ [(2,16),(3,17),(4,18),(5,19)] hO ⟨(((congrArg (fun z_=>some (Ent.box 373 [dI z_, .ref 16, .ref 1, .ref 17,dS (((d.1.2.2.2.extract 0 (plI b nm).toNat)++(⟨#[49]⟩:ByteArray))++(d.1.2.2.2.extract ((plI b nm)+1).toNat d.1.2.2.2.size)), .ref 18, .ref 19])) (show (d.1.1.1:Int)=(arV b text).1.1.1 by (rw[QjM i ‹_› u f g]; done)))).trans (congrArg (fun z_=>some (Ent.box 373 [dI ((arV b text).1.1.1), .ref 16, .ref 1, .ref 17,dS z_, .ref 18, .ref 19])) (show (((d.1.2.2.2.extract 0 (plI b nm).toNat)++(⟨#[49]⟩:ByteArray))++(d.1.2.2.2.extract ((plI b nm)+1).toNat d.1.2.2.2.size):ByteArray)=(arV b text).1.2.2.2 by (rw[QjM i ‹_› u f g]; rfl)))),(Qk (by (rw[QjM i ‹_› u f g]; done))),(Qk (by (rw[QjM i ‹_› u f g]; done))),(Qk (by (rw[QjM i ‹_› u f g]; done))),(Qk (by (rw[QjM i ‹_› u f g]; done))),(Qk (by (rw[QjM i ‹_› u f g]; done))),trivial⟩
 refine w3 ?_
 obtain ⟨W,K⟩:=gs to_ ((0:Int).toNat)
 have j:=K
 refine w_ ?_
 refine lc (QT (Qa rfl) (Q0 95 rfl) rfl) ?_
 refine w_ ?_
 refine cn_ (fun _ _=> ?_) fun _ _=> ?_
 refine w_ ?_
 refine QeL (J _ ⟨b1,(by exact Qwg (YU n m) j ‹_›),rfl⟩) ?_
 exact wo [(16,12),(17,13),(18,14),(19,15)]
 refine w3 ?_
 refine lc (dP 20 [(2,14),(3,12),(4,13),(5,15)] (VK b1 to_ (by first | exact Qf3 n w Y Q o ‹_› | exact Qf3 n m Y S j ‹_›) (by omega)) Qdh) ?_
 refine w2 ?_
 have z:=x.tr_ (word:=to_)
 have a2:=z.tr
 have a1:=Ql6 (b:=b1) (word:=to_)
 obtain ⟨y,D⟩:=gx ((ZF b1 to_).1.1.2) ((trI b1 to_).toNat)
 have C:=(Qim D).2
 have a5:=z.inn y (ae D)
 have r:(trI b1 to_).toNat*2+0 < (Q5 Zr ((ZF b1 to_).1.1.2)).length:=by rw[Vo]; exact QxO (by omega)
 refine AC.wk (K2 (q:=23) rfl (by omega))<|AC.wk (Ub 26 (q:=23) (p:=(trI b1 to_).toNat*2+0) (E':=3) (e':= .int) (ys:=y.1) rfl (C) (Fresh.of rfl) (aF rfl)) ?_
 apply dZ (i9 71 _ _ _ _ _ _ _ _ _ (i5 80 _ _ _ _ _ [io 85 (lf (.ept 23 2 ((trI b1 to_).toNat) 0)),io 86 (lf (.ept 23 2 ((trI b1 to_).toNat) 0)),io 87 (lR 26),io 88 _,⟨some 89,lR 27,[ar 27 3 .int (Z8 ltI (plI b nm) y.1),(26,none)]⟩,io 90 (lf (.ept 23 2 ((trI b1 to_).toNat) 0)),io 91 (lf (.ept 23 2 ((trI b1 to_).toNat) 0)),⟨none,lf (.val undef),[(23,some (.obx 275 2 (((ZF b1 to_).1.1.2).length) (Q5 Zr ((ZF b1 to_).1.1.2)) [((trI b1 to_).toNat*2+0, .ref 27),((trI b1 to_).toNat*2+0, .ref 26)]))]⟩])) [0,0,0,0,0,0,63,127,127,127,127,127,127,8191,127,127,127,131071,127,0,0,0]
 refine z14 ?_
 refine zz (fun _ a=>ac (Yk (a.v rfl) (a.en 23 rfl) (a.v rfl) QaZ K6 rfl (by omega) (by omega)) rfl)<|zz (fun _ a=>ac (YP (a.v rfl) Qfa (by rw[(a.en 23 rfl)]; rfl) rfl) rfl) ?_
 refine zz (fun _ a=>ac (UW (a.v rfl) (a.en 23 rfl) (by simp only[ovr,bB,ay,r,C,ea,if_true,if_false,↓reduceIte]) (a.en 26 rfl) Yv rfl) rfl) ?_
 refine z_ ?_
 refine zz (fun _ a=>ac (dP 27 [(0,26)] (JS y.1 (plI b nm) (by omega)) Qde) rfl) ?_
 refine zz (fun _ a=>ac (Yk (a.v rfl) (a.en 23 rfl) (a.v rfl) QaZ K6 rfl (by omega) (by omega)) rfl)<|zz (fun _ a=>ac (YP (a.v rfl) Qfa (by rw[(a.en 23 rfl)]; rfl) rfl) rfl) ?_
 refine zz (fun _ a=>ac (WA (t:=26) (a.v rfl) (a.en 23 rfl) (by simp only[ovr,bB,ay,r,C,ea,if_true,if_false,↓reduceIte]) (a.v rfl) (a.en 27 rfl) Yv) rfl) ?_
 exact zN
 refine QeL (J _ ⟨((((ZF b1 to_).1.1.1,QdA ((ZF b1 to_).1.1.2) (trI b1 to_) (plI b nm)),(ZF b1 to_).1.2.1,(ZF b1 to_).1.2.2.1,(ZF b1 to_).1.2.2.2),(ZF b1 to_).2.1,(ZF b1 to_).2.2),(by exact QvT (YU n m) j ‹_›),rfl⟩) ?_
 refine Wk.trans (Kv (q:=23) (t:=27) (p:=(trI b1 to_).toNat*2+0) rfl (by simp only[ovr,bB,ay,r,C,ea,if_true,if_false,↓reduceIte]) rfl) ?_
 refine Wk.trans (Uu (q:=23) (e:=Zr) (QdA ((ZF b1 to_).1.1.2) (trI b1 to_) (plI b nm)) rfl (by simp[QdA]) (by simp only[ovr]; rw[dl,dl,QjH D,Qnn D])) ?_
 exact wp [(16,23),(17,24),(18,14),(19,25)] ⟨rfl,(Qk (by first | rfl | simp)),(Qk (by first | rfl | simp)),(Qk (by first | rfl | simp)),(Qk (by first | rfl | simp)),(Qk (by first | rfl | simp)),trivial⟩
 refine w3 ?_
 obtain ⟨fc,L⟩:=gs fr ((0:Int).toNat)
 have o:=L
 refine w_ ?_
 refine lc (QT (Qa rfl) (Q0 95 rfl) rfl) ?_
 refine w_ ?_
 refine cn_ (fun _ _=> ?_) fun _ _=> ?_
 refine w_ ?_
 refine QeL (J9 _ ⟨(plV b nm),(by exact QwN (YU n w) o ‹_›),rfl⟩) ?_
 exact wo [(12,2),(13,3),(14,11),(15,5)]
 refine w3 ?_
 refine lc (dP 28 [(2,11),(3,2),(4,3)] (VK (plV b nm) fr (by first | exact Qf3 n w Y Q o ‹_› | exact Qf3 n m Y S j ‹_›) (by omega)) Qdh) ?_
 refine w2 ?_
 have z:=I.tr_ (word:=fr)
 have a2:=z.tr
 have a1:=Ql6 (b:=plV b nm) (word:=fr)
 obtain ⟨y,D⟩:=gx ((ZF (plV b nm) fr).1.1.2) ((trI (plV b nm) fr).toNat)
 have C:=(Qim D).1
 have a5:=z.inn y (ae D)
 have r:(trI (plV b nm) fr).toNat*2+1 < (Q5 Zr ((ZF (plV b nm) fr).1.1.2)).length:=by rw[Vo]; exact QxJ (by omega)
 refine AC.wk (K2 (q:=31) rfl (by omega))<|AC.wk (Ub 34 (q:=31) (p:=(trI (plV b nm) fr).toNat*2+1) (E':=3) (e':= .int) (ys:=y.2) rfl (C) (Fresh.of rfl) (aF rfl)) ?_
 apply dZ (i9 44 _ _ _ _ _ _ _ _ _ (i5 53 _ _ _ _ _ [io 58 (lf (.ept 31 2 ((trI (plV b nm) fr).toNat) 0)),io 59 (lf (.ept 31 2 ((trI (plV b nm) fr).toNat) 1)),io 60 (lR 34),io 61 _,⟨some 62,lR 35,[ar 35 3 .int (Z8 ltI (plI b nm) y.2),(34,none)]⟩,io 63 (lf (.ept 31 2 ((trI (plV b nm) fr).toNat) 0)),io 64 (lf (.ept 31 2 ((trI (plV b nm) fr).toNat) 1)),⟨none,lf (.val undef),[(31,some (.obx 275 2 (((ZF (plV b nm) fr).1.1.2).length) (Q5 Zr ((ZF (plV b nm) fr).1.1.2)) [((trI (plV b nm) fr).toNat*2+1, .ref 35),((trI (plV b nm) fr).toNat*2+1, .ref 34)]))]⟩])) [0,0,0,0,0,0,63,127,127,127,127,127,127,8191,127,127,127,131071,127,0,0,0]
 refine z14 ?_
 refine zz (fun _ a=>ac (Yk (a.v rfl) (a.en 31 rfl) (a.v rfl) QaZ K6 rfl (by omega) (by omega)) rfl)<|zz (fun _ a=>ac (YP (a.v rfl) Qe5 (by rw[(a.en 31 rfl)]; rfl) rfl) rfl) ?_
 refine zz (fun _ a=>ac (UW (a.v rfl) (a.en 31 rfl) (by simp only[ovr,bB,ay,r,C,ea,if_true,if_false,↓reduceIte]) (a.en 34 rfl) Yv rfl) rfl) ?_
 refine z_ ?_
 refine zz (fun _ a=>ac (dP 35 [(0,34)] (JS y.2 (plI b nm) (by omega)) Qde) rfl) ?_
 refine zz (fun _ a=>ac (Yk (a.v rfl) (a.en 31 rfl) (a.v rfl) QaZ K6 rfl (by omega) (by omega)) rfl)<|zz (fun _ a=>ac (YP (a.v rfl) Qe5 (by rw[(a.en 31 rfl)]; rfl) rfl) rfl) ?_
 refine zz (fun _ a=>ac (WA (t:=34) (a.v rfl) (a.en 31 rfl) (by simp only[ovr,bB,ay,r,C,ea,if_true,if_false,↓reduceIte]) (a.v rfl) (a.en 35 rfl) Yv) rfl) ?_
 exact zN
 refine QeL (J9 _ ⟨((((ZF (plV b nm) fr).1.1.1,Qey ((ZF (plV b nm) fr).1.1.2) (trI (plV b nm) fr) (plI b nm)),(ZF (plV b nm) fr).1.2.1,(ZF (plV b nm) fr).1.2.2.1,(ZF (plV b nm) fr).1.2.2.2),(ZF (plV b nm) fr).2.1,(ZF (plV b nm) fr).2.2),(by exact QwA (YU n w) o ‹_›),rfl⟩) ?_
 refine Wk.trans (Kv (q:=31) (t:=35) (p:=(trI (plV b nm) fr).toNat*2+1) rfl (by simp only[ovr,bB,ay,r,C,ea,if_true,if_false,↓reduceIte]) rfl) ?_
 refine Wk.trans (Uu (q:=31) (e:=Zr) (Qey ((ZF (plV b nm) fr).1.1.2) (trI (plV b nm) fr) (plI b nm)) rfl (by simp[Qey]) (by simp only[ovr]; rw[dl,dl,Qkz D,Qnq D])) ?_
 exact wp [(12,31),(13,32),(14,11),(15,33)] ⟨rfl,(Qk (by first | rfl | simp)),(Qk (by first | rfl | simp)),(Qk (by first | rfl | simp)),(Qk (by first | rfl | simp)),(Qk (by first | rfl | simp)),trivial⟩
 refine w7 ?_
 obtain ⟨fc,M⟩:=gs fr ((0:Int).toNat)
 have o:=M
 refine w_ ?_
 refine lc (ZJ (Qa rfl) (Q0 95 rfl) rfl) ?_
 refine w_ ?_
 refine cd_ (fun _ _=> ?_) fun _ _=> ?_
 refine w4 ?_
 obtain ⟨W,N⟩:=gs to_ ((0:Int).toNat)
 have j:=N
 refine w_ ?_
 refine lc (ZJ (Qa rfl) (Q0 95 rfl) rfl) ?_
 refine w_ ?_
 refine cd_ (fun _ _=> ?_) fun _ _=> ?_
 refine w_ ?_
 refine QeL (X _ ⟨tx,(by exact Qvw (YU n m) j ‹_› (YU n w) o ‹_› n),rfl⟩) ?_
 exact wo []
 refine w4 ?_
 refine QeL (X _ ⟨to_,(by exact QtH (YU n m) j ‹_›),rfl⟩) ?_
 exact wo []
 refine w7 ?_
 obtain ⟨W,O⟩:=gs to_ ((0:Int).toNat)
 have j:=O
 refine w_ ?_
 refine lc (ZJ (Qa rfl) (Q0 95 rfl) rfl) ?_
 refine w_ ?_
 refine cd_ (fun _ _=> ?_) fun _ _=> ?_
 refine w_ ?_
 refine QeL (X _ ⟨fr,(by exact Qwk (YU n m) j ‹_› (YU n w) o ‹_›),rfl⟩) ?_
 exact wo []
 refine w4 ?_
 refine QeL (X _ ⟨to_,(by exact QtH (YU n m) j ‹_›),rfl⟩) ?_
 exact wo []
 refine w4 ?_
 cases s:(decide (V=42))
 have F:=aa s
 refine w2 ?_
 refine QeL (J3 _ ⟨text,(by exact QvK i ‹_›),rfl⟩) ?_
 exact Wk.of [] rfl ⟨rfl,rfl,(congrArg (fun z_=>some (lB z_)) ((s).symm)),trivial⟩ ⟨rfl,rfl,rfl,rfl,rfl,rfl,trivial⟩ rfl rfl
 have F:=ab s
 refine w3 ?_
 refine lc (show Does _ _ _ _ (St.put _ 17 (lf (dS (text.extract (1:Int).toNat text.size)))) from Zj (l:=(some 1)) (h:=none) (Qa rfl) (by exact (Qn rfl)) (by exact trivial) Zz rfl (by first | omega | (simp only[ao,ak]; omega)) (by first | omega | (simp only[ao,ak]; omega)) (by first | omega | (simp only[ao,ak]; omega))) ?_
 refine w2 ?_
 refine QeL (J3 _ ⟨(text.extract (1:Int).toNat text.size),(by exact QwK i ‹_›),rfl⟩) ?_
 exact Wk.of [] rfl ⟨rfl,rfl,(congrArg (fun z_=>some (lB z_)) ((s).symm)),trivial⟩ ⟨rfl,rfl,rfl,rfl,rfl,rfl,trivial⟩ rfl rfl
end Go.Proofs.YtndabgcpnmeeoaaGreat
