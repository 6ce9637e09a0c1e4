/- Walks over abstract states: graphs built from words. -/
import Derived.Test.YtjfpbcmfbnnooaaGreatGDf
import Derived.Test.YtjfpbcmfbnnooaaGreatGFb
import Derived.Test.YtjfpbcmfbnnooaaGreatGWk
import Derived.Test.YtjfpbcmfbnnooaaGreatGUa
set_option linter.unusedSimpArgs false
set_option linter.unusedVariables false
set_option linter.unusedSectionVars false
namespace Go.Proofs.YtjfpbcmfbnnooaaGreat
open Go.RowKit
set_option maxRecDepth 100000
set_option maxHeartbeats 4000000
section
variable {s:ByteArray}{b c:UInt8}{i:Nat}{out:List ByteArray}{fr:Int}
theorem Qqa (a:(out,fr)=spS s b i)(hi:s.size≤i)(d:i≤s.size):out++[s.extract fr.toNat s.size]=ZQ s b:=by
 have e:i=s.size:=by omega
 subst e
 unfold ZQ
 rw[← a]
theorem Qqd (a:(out,fr)=spS s b i)(h:s[((i:Nat):Int).toNat]? =some c)(e:c=b):(out++[s.extract fr.toNat ((i:Nat):Int).toNat],(i:Int)+1)=spS s b (i+1):=by
 rw[dp] at h ⊢
 rw[← QvC h e,← a]
theorem Qqc (s:ByteArray)(b:UInt8):1≤(ZQ s b).length:=by unfold ZQ;rw[ah,av,aC];omega
theorem QaQ {x:ByteArray}(h:x∈ZQ s b):x.size≤s.size:=by
 have d:∀i,∀x∈(spS s b i).1,x.size≤s.size:=fun i=>by
  induction i with
  | zero=>intro x h;cases h
  | succ i a=>
   intro x h
   rw[spS] at h
   split at h
   ·rcases aQ.1 h with h|h
    ·exact a x h
    ·rw[aF.1 h];simp only[aT];omega
   ·exact a x h
 unfold ZQ at h
 rcases aQ.1 h with h|h
 ·exact d _ x h
 ·rw[aF.1 h];simp only[aT];omega
theorem Qtk (a:(out,fr)=spS s b i)(h:s[((i:Nat):Int).toNat]? =some c)(e:¬c=b):(out,fr)=spS s b (i+1):=by
 rw[dp] at h
 rw[← QxT h e,← a]
end
theorem Vd (s:ByteArray)(b:UInt8)(F:s.size≤100000):FC Tryz.prog 191 [(false,[dS s]),(false,[.dat .u8 b])] [] 0 (Xv 9 .str (ZQ s b)):=by
 refine Qj Tryz.func191 rfl rfl Tryz.ntmps191 fun D A C v E z y=> ?_
 refine w14 ?_
 refine AC.wk (Wk.nilS 0 5 9 .str rfl (Fresh.of rfl) (nlr rfl)) ?_
 refine Qu (fun r u=>∃(i:Nat) (out:List ByteArray) (fr:Int),i≤s.size∧r=s.size - i∧((out,fr)=spS s b i)∧u=⟨[(0,lf (dS s)),(1,lf (.dat .u8 b)),(4,lf (.val (.slice none 0 0))),(5,lR 1),(6,lI fr),(7,lI (i:Int))],[ar 1 9 .str out]⟩) ⟨0,([]:(Qb:Ty).Den),0,aL _,rfl,rfl,rfl⟩ ?_ ?_
 exact wp [(1,0)] ⟨(Qm (by first|rfl|simp)),trivial⟩
 rintro r u ⟨i,out,fr,q,B,n,rfl⟩
 have m:=Qoz (s:=s) (b:=b) (i:=i)
 rw[← n] at m
 dsimp only at m
 refine w4 ?_
 refine alS 9 fun _=> ?_
 refine lc (Q5 (Qa rfl) rfl Zo) ?_
 refine w2 ?_
 cases a:(decide ((i:Int)<(s.size:Int)))
 have d:=aa a
 refine w7 ?_
 refine lc (show Does _ _ _ _ (St.put _ 31 (lf (dS (s.extract (fr).toNat s.size)))) from Zb (l:=(some fr)) (h:=none) (Qa rfl) (by exact (Qa rfl)) (by exact trivial) Zo rfl (by first|omega|(simp only[ak,aj];omega)) (by first|omega|(simp only[ak,aj];omega)) (by first|omega|(simp only[ak,aj];omega))) ?_
 refine lc (dBs 2 (e:= .str) Z3) ?_
 refine lc (dA 3 YW) ?_
 refine w2 ?_
 refine Qe<|fo_ A ?_
 exact Qqa n (by omega) q
 have d:=ab a
 refine w7 ?_
 obtain ⟨w,o⟩:=gs s (((i:Int)).toNat)
 have j:=o
 refine w4 ?_
 cases f:(decide (w=b))
 have g:=aa f
 refine w7 ?_
 refine Qd<|QV ⟨i+1,out,fr,by omega,rfl,(by exact Qtk n j ‹_›),rfl⟩ (by omega) ?_
 exact wo []
 have g:=ab f
 refine w6 ?_
 refine lc (show Does _ _ _ _ (St.put _ 23 (lf (dS (s.extract (fr).toNat ((i:Int)).toNat)))) from Zb (l:=(some fr)) (h:=(some (i:Int))) (Qa rfl) (by exact (Qa rfl)) (by exact (Qa rfl)) Zo rfl (by first|omega|(simp only[ak,aj];omega)) (by first|omega|(simp only[ak,aj];omega)) (by first|omega|(simp only[ak,aj];omega))) ?_
 refine lc (dBs 4 (e:= .str) Z3) ?_
 refine lc (dA 5 YW) ?_
 refine w6 ?_
 refine Qd ?_
 refine w5 ?_
 refine Qd<|QV ⟨i+1,(out++([s.extract (fr).toNat ((i:Int)).toNat])),((i:Int)+1),by omega,rfl,(by exact Qqd n j ‹_›),rfl⟩ (by omega) ?_
 exact wp [(1,5)] ⟨(Qm (by first|rfl|simp)),trivial⟩
section
variable {word text nm:ByteArray}{G:List Qy}{c0 cz:UInt8}{k:Nat}{x:DTr}{T_:List DTr}{t p:Int}
theorem Qxj (d:QbE word=nm)(a:nm[(0:Int).toNat]? =some c0)(h:c0=126):((-1,false):ZZ)=QmE G word:=by
 unfold QmE b0
 rw[d,show nm[0]? =some c0 from a]
 exact (if_pos (show (some c0).getD 0=126 from h)).symm
theorem Qxi (f:QbE word=nm)(d:nm[(0:Int).toNat]? =some c0)(h:¬c0=126)(a:nm[((nm.size:Int) - 1).toNat]? =some cz):
 ((Zf (fun g=>decide (g.1=nm.extract 0 ((nm.size:Int) - 1).toNat)) G,decide (cz=43)):ZZ)=QmE G word:=by
 unfold QmE b0 bZ
 have e:((nm.size:Int) - 1).toNat=nm.size - 1:=by omega
 rw[e] at a ⊢
 rw[f,show nm[0]? =some c0 from d]
 refine Eq.trans ?_ (if_neg (show¬(some c0).getD 0=126 from h)).symm
 rw[a];rfl
theorem QpZ (a:T_[t.toNat]? =some x):T_.set t.toNat (x.1,Zg ltI p x.2)=Qf4 T_ t p:=by
 unfold Qf4
 apply bM
 intro i
 rw[bJ,cM]
 by_cases e:t.toNat=i
 ·subst e;rw[a];simp[(ai.1 a).1]
 ·simp[e]
theorem Qp0 (a:T_[t.toNat]? =some x):T_.set t.toNat (Zg ltI p x.1,x.2)=Qf5 T_ t p:=by
 unfold Qf5
 apply bM
 intro i
 rw[bJ,cM]
 by_cases e:t.toNat=i
 ·subst e;rw[a];simp[(ai.1 a).1]
 ·simp[e]
end
theorem Qbv (b:DB)(name:ByteArray)(B:0≤b.1.1.1∧b.1.1.1≤100000)(A:b.2.1.length≤100000∧b.1.2.2.2.size≤100000):FC Tryz.prog 256 [(false,[.ptr 0 0]),(false,[dS name])] [bx 0 242 [dI b.1.1.1,.ref 1,.ref 2,.ref 3,dS b.1.2.2.2,.ref 5,.ref 4],ar 1 290 Zu b.1.1.2,ar 2 103 QI b.1.2.1,ar 3 183 ZY b.1.2.2.1,ar 5 9 .str b.2.1,ar 4 9 .str b.2.2] 5 (Is (lI (plI b name)) [bx 0 242 [dI ((plV b name).1.1.1),.ref 1,.ref 2,.ref 3,dS ((plV b name).1.2.2.2),.ref 5,.ref 4],ar 1 290 Zu ((plV b name).1.1.2),ar 2 103 QI ((plV b name).1.2.1),ar 3 183 ZY ((plV b name).1.2.2.1),ar 5 9 .str ((plV b name).2.1),ar 4 9 .str ((plV b name).2.2)]):=by
 refine Qj Tryz.func256 rfl rfl Tryz.ntmps256 fun w m v n z u r=> ?_
 refine w13 ?_
 refine lpK b.2.1.length (fun k=>NoneTo (fun y=>decide (y=name)) b.2.1 k) (fun k=>⟨[(0,lP 0 0),(1,lf (dS name)),(10,lR 5),(11,lI (b.2.1.length:Int)),(12,lI (k:Int))],[bx 0 242 [dI b.1.1.1,.ref 1,.ref 2,.ref 3,dS b.1.2.2.2,.ref 5,.ref 4],ar 1 290 Zu b.1.1.2,ar 2 103 QI b.1.2.1,ar 3 183 ZY b.1.2.2.1,ar 4 9 .str b.2.2,ar 5 9 .str b.2.1]⟩) (NoneTo.zero) ?_ fun k _ a=> ?_
 exact wo []
 refine w4 ?_
 cases f:(decide ((k:Int)<(b.2.1.length:Int)))
 have g:=aa f
 refine w10 ?_
 refine lc (dBs 6 (e:= .str) Z3) ?_
 refine lc (dA 7 YW) ?_
 refine w10 ?_
 refine lc (Qw (Qa rfl) (Evl.str rfl) rfl (by (simp only[Q4];omega))) ?_
 refine w12 ?_
 refine alI 46 fun _=> ?_
 refine lc (VE (Qa rfl) (Qq rfl) rfl (by first|omega|(simp only[ah,av,aC];omega))) ?_
 refine w12 ?_
 refine lc (VG (Qa rfl) (Qq rfl) rfl (by first|omega|(simp only[ah,av,aC];omega))) ?_
 refine w3 ?_
 have o:(((b.2.1++([name])).length:Int) - 1:Int)=(plI b name):=by
  (unfold plI;rw[Qba (Ym a (by omega)),ah];simp)
 exact fi_ [(5,7)] m ⟨(((congrArg (fun z_=>some (Ent.box 242 [dI z_,.ref 1,.ref 2,.ref 3,dS (b.1.2.2.2++(⟨#[48]⟩:ByteArray)),.ref 7,.ref 4])) (show (b.1.1.1+1:Int)=(plV b name).1.1.1 by (rw[Vt (Ym a (by omega))];done)))).trans (congrArg (fun z_=>some (Ent.box 242 [dI ((plV b name).1.1.1),.ref 1,.ref 2,.ref 3,dS z_,.ref 7,.ref 4])) (show (b.1.2.2.2++(⟨#[48]⟩:ByteArray):ByteArray)=(plV b name).1.2.2.2 by (rw[Vt (Ym a (by omega))];done)))),(Qm (by (rw[Vt (Ym a (by omega))];done))),(Qm (by (rw[Vt (Ym a (by omega))];done))),(Qm (by (rw[Vt (Ym a (by omega))];done))),(Qm (by (rw[Vt (Ym a (by omega))];done))),(Qm (by (rw[Vt (Ym a (by omega))];done))),trivial⟩ (h0:=by rw[o] <;> rfl)
 have g:=ab f
 refine w7 ?_
 obtain ⟨x,l⟩:=gx b.2.1 k
 have d:=l
 refine w9 ?_
 cases h:(decide (x=name))
 have j:=aa h
 refine w4 ?_
 refine lc (VE (Qa rfl) (Qq rfl) rfl (by first|omega|(simp only[ah,av,aC];omega))) ?_
 refine w_ ?_
 refine Qd ?_
 refine lK_ (a.step l (ay ‹_›)) ?_
 exact wo []
 have j:=ab h
 refine w6 ?_
 have q:((k:Int):Int)=(plI b name):=by
  exact Qq8 a d ‹_›
 exact fi_ [] m ⟨(((congrArg (fun z_=>some (Ent.box 242 [dI z_,.ref 1,.ref 2,.ref 3,dS b.1.2.2.2,.ref 5,.ref 4])) (show (b.1.1.1:Int)=(plV b name).1.1.1 by (rw[K2 (Y5 d ‹_›)];done)))).trans (congrArg (fun z_=>some (Ent.box 242 [dI ((plV b name).1.1.1),.ref 1,.ref 2,.ref 3,dS z_,.ref 5,.ref 4])) (show (b.1.2.2.2:ByteArray)=(plV b name).1.2.2.2 by (rw[K2 (Y5 d ‹_›)];done)))),(Qm (by (rw[K2 (Y5 d ‹_›)];done))),(Qm (by (rw[K2 (Y5 d ‹_›)];done))),(Qm (by (rw[K2 (Y5 d ‹_›)];done))),(Qm (by (rw[K2 (Y5 d ‹_›)];done))),(Qm (by (rw[K2 (Y5 d ‹_›)];done))),trivial⟩ (h0:=by rw[q] <;> rfl)
theorem UA (b:DB)(word:ByteArray)(N:word.size≤1000∧1≤(QbE word).size)(R:b.1.1.2.length≤100000∧b.1.2.2.1.length≤100000∧b.2.2.length≤100000):FC Tryz.prog 257 [(false,[.ptr 0 0]),(false,[dS word])] [bx 0 242 [dI b.1.1.1,.ref 3,.ref 1,.ref 4,dS b.1.2.2.2,.ref 2,.ref 5],ar 3 290 Zu b.1.1.2,ar 1 103 QI b.1.2.1,ar 4 183 ZY b.1.2.2.1,ar 2 9 .str b.2.1,ar 5 9 .str b.2.2] 3 (Is (lI (trI b word)) [bx 0 242 [dI ((ZE b word).1.1.1),.ref 3,.ref 1,.ref 4,dS ((ZE b word).1.2.2.2),.ref 2,.ref 5],ar 3 290 Zu ((ZE b word).1.1.2),ar 1 103 QI ((ZE b word).1.2.1),ar 4 183 ZY ((ZE b word).1.2.2.1),ar 2 9 .str ((ZE b word).2.1),ar 5 9 .str ((ZE b word).2.2)]):=by
 have M:=Qqc word 47
 refine Qj Tryz.func257 rfl rfl Tryz.ntmps257 fun P C O F Q J I=> ?_
 refine w13 ?_
 refine lpK b.2.2.length (fun k=>NoneTo (fun y=>decide (y=word)) b.2.2 k) (fun k=>⟨[(0,lP 0 0),(1,lf (dS word)),(12,lR 5),(13,lI (b.2.2.length:Int)),(14,lI (k:Int))],[bx 0 242 [dI b.1.1.1,.ref 3,.ref 1,.ref 4,dS b.1.2.2.2,.ref 2,.ref 5],ar 1 103 QI b.1.2.1,ar 2 9 .str b.2.1,ar 3 290 Zu b.1.1.2,ar 4 183 ZY b.1.2.2.1,ar 5 9 .str b.2.2]⟩) (NoneTo.zero) ?_ fun k _ a=> ?_
 exact wo []
 refine w4 ?_
 cases o:(decide ((k:Int)<(b.2.2.length:Int)))
 have q:=aa o
 refine w10 ?_
 refine lc (dBs 6 (e:= .str) Z3) ?_
 refine lc (dA 7 YW) ?_
 refine w6 ?_
 refine lc (UV (Vd word 47 (by omega)).frozen Qan ⟨_,_,rfl,(Qn rfl),⟨_,_,rfl,(Evl.ev (QJ 47 rfl)),rfl⟩⟩ rfl rfl) ?_
 obtain ⟨nm,z⟩:=gx (ZQ word 47) 0
 have n:QbE word=nm:=by unfold QbE;rw[show (ZQ word 47)[0]? =some nm from z];rfl
 have L:1≤nm.size:=by rw[← n];exact N.2
 have K:=QaQ (ae z)
 refine w5 ?_
 refine lc (Qk KG ⟨_,_,rfl,(Evl.ev (Qq rfl)),rfl⟩ (au.1 rfl) rfl rfl)<|lc (xal 8 ZY WP) ?_
 refine w5 ?_
 obtain ⟨c0,D⟩:=gs nm ((0:Int).toNat)
 have r:=D
 refine w_ ?_
 refine lc (QP (Qa rfl) (QJ 126 rfl) rfl) ?_
 refine w_ ?_
 refine cn_ (fun _ _=> ?_) fun _ _=> ?_
 refine w9 ?_
 refine lc (Qk QdH rfl (au.1 rfl) rfl rfl) ?_
 refine lc (dBs 9 (e:=Zu) K6 (hab:=by exact ⟨_,_,_,_,rfl,⟨[.val (.slice none 0 0)],[.val (.slice none 0 0)],_,_,_,_,rfl,rfl,(.inr ⟨rfl,rfl,rfl⟩),(.inr ⟨rfl,rfl,rfl⟩),rfl⟩,⟨rfl,rfl⟩,rfl⟩)) ?_
 refine lc (dA 10 QdO) ?_
 refine w6 ?_
 apply dW (i7 74 _ _ _ _ _ _ _ (⟨some 81,lR 11,[ar 11 183 ZY ([((-1),false)])]⟩::⟨some 82,lR 12,[ar 12 183 ZY (b.1.2.2.1++([((-1),false)])),(4,none),(11,none)]⟩::i3 83 _ _ _ [⟨none,lf (.val undef),[bx 0 242 [dI b.1.1.1,.ref 10,.ref 1,.ref 12,dS b.1.2.2.2,.ref 2,.ref 7]]⟩])) [0,1,1,1,1,1,63,63,1,0,0,0,0]
 refine z7 ?_
 refine zz (fun _ d=>ac (dBs 11 (e:=ZY) WP (hab:=by exact ⟨_,_,_,_,rfl,⟨[dI (-1)],[dB false],_,_,_,_,rfl,rfl,⟨rfl,rfl⟩,⟨rfl,rfl⟩,rfl⟩,⟨rfl,rfl⟩,rfl⟩)) rfl) ?_
 refine zz (fun _ d=>ac (dA 12 Qbg) rfl) ?_
 refine z3 ?_
 refine zz (fun _ d=>ac (ZA (d.v rfl) (d.en 0 rfl) (d.w rfl) (by simp only[Zj,Kq,bt,bW];rw[(d.en 12 rfl)];rfl) QoG rfl) rfl) ?_
 exact zN
 refine w6 ?_
 refine lc (VG (Qa rfl) (Qq rfl) rfl (by first|omega|(simp only[ah,av,aC];omega))) ?_
 refine w3 ?_
 have H:(((b.2.2++([word])).length:Int) - 1:Int)=(trI b word):=by
  (unfold trI;rw[Qba (Ym a (by omega)),ah];simp)
 exact fi_ [(3,10),(4,12),(5,7)] C ⟨(((congrArg (fun z_=>some (Ent.box 242 [dI z_,.ref 10,.ref 1,.ref 12,dS b.1.2.2.2,.ref 2,.ref 7])) (show (b.1.1.1:Int)=(ZE b word).1.1.1 by (rw[Yh (Ym a (by omega))];done)))).trans (congrArg (fun z_=>some (Ent.box 242 [dI ((ZE b word).1.1.1),.ref 10,.ref 1,.ref 12,dS z_,.ref 2,.ref 7])) (show (b.1.2.2.2:ByteArray)=(ZE b word).1.2.2.2 by (rw[Yh (Ym a (by omega))];done)))),(Qm (by (rw[Yh (Ym a (by omega))];done))),(Qm (by (rw[Yh (Ym a (by omega))];done))),(Qm (by (rw[Yh (Ym a (by omega)),← Qxj n r ‹_›];done))),(Qm (by (rw[Yh (Ym a (by omega))];done))),(Qm (by (rw[Yh (Ym a (by omega))];done))),trivial⟩ (h0:=by rw[H] <;> rfl)
 obtain ⟨cz,u⟩:=gs nm (((nm.size:Int) - 1).toNat)
 have E:=u
 apply dZ (i7 42 _ _ _ _ _ _ _ (io 49 (lI (nm.size:Int))::io 50 (lI ((nm.size:Int) - 1))::io 51 (lf (dS (nm.extract 0 ((nm.size:Int) - 1).toNat)))::io 52 (lI (Zf (fun x:Qy=>decide (x.1=(nm.extract 0 ((nm.size:Int) - 1).toNat))) b.1.2.1))::i2 53 _ _ [io 55 (lI (nm.size:Int)),io 56 (lI ((nm.size:Int) - 1)),io 57 _,io 58 (lB (decide (cz=43))),io 59 (ag [dI (Zf (fun x:Qy=>decide (x.1=(nm.extract 0 ((nm.size:Int) - 1).toNat))) b.1.2.1),dB (decide (cz=43))]),⟨none,lf (.val undef),[bx 8 183 [dI (Zf (fun x:Qy=>decide (x.1=(nm.extract 0 ((nm.size:Int) - 1).toNat))) b.1.2.1),dB (decide (cz=43))]]⟩])) [0,0,0,0,0,31,63,63,63,31,0,2047,4095,4095,4095,2047,2047,0,0]
 refine z7 ?_
 refine zz (fun _ d=>ac (Q5 (d.v rfl) rfl Zo) rfl)<|zz (fun _ d=>ac (VG (d.v rfl) (Qq rfl) rfl (by first|omega|(simp only[ah,av,aC];omega))) rfl)<|zz (fun _ d=>ac (show Does _ _ _ _ (St.put _ 51 (lf (dS (nm.extract 0 ((nm.size:Int) - 1).toNat)))) from Zb (l:=none) (h:=(some ((nm.size:Int) - 1))) (d.v rfl) (by exact trivial) (by exact (d.v rfl)) Zo rfl (by first|omega|(simp only[ak,aj];omega)) (by first|omega|(simp only[ak,aj];omega)) (by first|omega|(simp only[ak,aj];omega))) rfl) ?_
 refine zz (fun _ d=>ac (dB_ (Qcm b.1.2.1 (nm.extract 0 ((nm.size:Int) - 1).toNat)) Ql7) rfl) ?_
 refine z2 ?_
 refine zz (fun _ d=>ac (Q5 (d.v rfl) rfl Zo) rfl)<|zz (fun _ d=>ac (VG (d.v rfl) (Qq rfl) rfl (by first|omega|(simp only[ah,av,aC];omega))) rfl) ?_
 refine z_ ?_
 refine zz (fun _ d=>ac (Q8 (d.v rfl) (QJ 43 rfl) rfl) rfl)<|zz (fun _ d=>ac (Qk KG ⟨_,_,rfl,(d.w rfl),⟨_,_,rfl,(d.w rfl),rfl⟩⟩ (au.1 rfl) rfl rfl) rfl) ?_
 exact y1
 refine w8 ?_
 refine lc (Qk QdH rfl (au.1 rfl) rfl rfl) ?_
 refine lc (dBs 13 (e:=Zu) K6 (hab:=by exact ⟨_,_,_,_,rfl,⟨[.val (.slice none 0 0)],[.val (.slice none 0 0)],_,_,_,_,rfl,rfl,(.inr ⟨rfl,rfl,rfl⟩),(.inr ⟨rfl,rfl,rfl⟩),rfl⟩,⟨rfl,rfl⟩,rfl⟩)) ?_
 refine lc (dA 14 QdO) ?_
 refine w6 ?_
 apply dW (i7 74 _ _ _ _ _ _ _ (⟨some 81,lR 15,[ar 15 183 ZY ([(Zf (fun x:Qy=>decide (x.1=(nm.extract 0 ((nm.size:Int) - 1).toNat))) b.1.2.1,decide (cz=43))])]⟩::⟨some 82,lR 16,[ar 16 183 ZY (b.1.2.2.1++([(Zf (fun x:Qy=>decide (x.1=(nm.extract 0 ((nm.size:Int) - 1).toNat))) b.1.2.1,decide (cz=43))])),(4,none),(15,none)]⟩::i3 83 _ _ _ [⟨none,lf (.val undef),[bx 0 242 [dI b.1.1.1,.ref 14,.ref 1,.ref 16,dS b.1.2.2.2,.ref 2,.ref 7]]⟩])) [0,1,1,1,1,1,63,63,1,0,0,0,0]
 refine z7 ?_
 refine zz (fun _ d=>ac (dBs 15 (e:=ZY) WP (hab:=by exact ⟨_,_,_,_,rfl,⟨[dI (Zf (fun x:Qy=>decide (x.1=(nm.extract 0 ((nm.size:Int) - 1).toNat))) b.1.2.1)],[dB (decide (cz=43))],_,_,_,_,rfl,rfl,⟨rfl,rfl⟩,⟨rfl,rfl⟩,rfl⟩,⟨rfl,rfl⟩,rfl⟩)) rfl) ?_
 refine zz (fun _ d=>ac (dA 16 Qbg) rfl) ?_
 refine z3 ?_
 refine zz (fun _ d=>ac (ZA (d.v rfl) (d.en 0 rfl) (d.w rfl) (by simp only[Zj,Kq,bt,bW];rw[(d.en 16 rfl)];rfl) QoG rfl) rfl) ?_
 exact zN
 refine w6 ?_
 refine lc (VG (Qa rfl) (Qq rfl) rfl (by first|omega|(simp only[ah,av,aC];omega))) ?_
 refine w3 ?_
 have A:(((b.2.2++([word])).length:Int) - 1:Int)=(trI b word):=by
  (unfold trI;rw[Qba (Ym a (by omega)),ah];simp)
 exact fi_ [(3,14),(4,16),(5,7)] C ⟨(((congrArg (fun z_=>some (Ent.box 242 [dI z_,.ref 14,.ref 1,.ref 16,dS b.1.2.2.2,.ref 2,.ref 7])) (show (b.1.1.1:Int)=(ZE b word).1.1.1 by (rw[Yh (Ym a (by omega))];done)))).trans (congrArg (fun z_=>some (Ent.box 242 [dI ((ZE b word).1.1.1),.ref 14,.ref 1,.ref 16,dS z_,.ref 2,.ref 7])) (show (b.1.2.2.2:ByteArray)=(ZE b word).1.2.2.2 by (rw[Yh (Ym a (by omega))];done)))),(Qm (by (rw[Yh (Ym a (by omega))];done))),(Qm (by (rw[Yh (Ym a (by omega))];done))),(Qm (by (rw[Yh (Ym a (by omega)),← Qxi n r ‹_› E];done))),(Qm (by (rw[Yh (Ym a (by omega))];done))),(Qm (by (rw[Yh (Ym a (by omega))];done))),trivial⟩ (h0:=by rw[A] <;> rfl)
 have q:=ab o
 refine w7 ?_
 obtain ⟨x,j⟩:=gx b.2.2 k
 have f:=j
 refine w9 ?_
 cases g:(decide (x=word))
 have m:=aa g
 refine w4 ?_
 refine lc (VE (Qa rfl) (Qq rfl) rfl (by first|omega|(simp only[ah,av,aC];omega))) ?_
 refine w_ ?_
 refine Qd ?_
 refine lK_ (a.step j (ay ‹_›)) ?_
 exact wo []
 have m:=ab g
 refine w6 ?_
 have B:((k:Int):Int)=(trI b word):=by
  exact Qq8 a f ‹_›
 exact fi_ [] C ⟨(((congrArg (fun z_=>some (Ent.box 242 [dI z_,.ref 3,.ref 1,.ref 4,dS b.1.2.2.2,.ref 2,.ref 5])) (show (b.1.1.1:Int)=(ZE b word).1.1.1 by (rw[Vv (Y5 f ‹_›)];done)))).trans (congrArg (fun z_=>some (Ent.box 242 [dI ((ZE b word).1.1.1),.ref 3,.ref 1,.ref 4,dS z_,.ref 2,.ref 5])) (show (b.1.2.2.2:ByteArray)=(ZE b word).1.2.2.2 by (rw[Vv (Y5 f ‹_›)];done)))),(Qm (by (rw[Vv (Y5 f ‹_›)];done))),(Qm (by (rw[Vv (Y5 f ‹_›)];done))),(Qm (by (rw[Vv (Y5 f ‹_›)];done))),(Qm (by (rw[Vv (Y5 f ‹_›)];done))),(Qm (by (rw[Vv (Y5 f ‹_›)];done))),trivial⟩ (h0:=by rw[B] <;> rfl)
section
variable {text tx fr to_ nm:ByteArray}{c c0:UInt8}{b b1:DB}{p:Int}
theorem QxF (h:okA text=true):1≤text.size∧2≤(ZQ (HK text) 62).length∧(1≤(XI text 0).size∧(b0 (XI text 0)=95∨1≤(QbE (XI text 0)).size))∧1≤(XI text 1).size∧(b0 (XI text 1)=95∨1≤(QbE (XI text 1)).size):=by
 unfold okA okW at h
 simp only[aM,ci,aU] at h
 exact ⟨h.1,h.2.1,h.2.2.1,h.2.2.2⟩
theorem Wc (a:text[(0:Int).toNat]? =some c):b0 text=c:=by unfold b0;rw[show text[0]? =some c from a];rfl
theorem Qyw (a:text[(0:Int).toNat]? =some c)(h:c=42):text.extract (1:Int).toNat text.size=HK text:=by unfold HK;rw[Wc a,if_pos h];rfl
theorem Qyv (a:text[(0:Int).toNat]? =some c)(h:¬c=42):text=HK text:=by unfold HK;rw[Wc a,if_neg h]
theorem YS {k:Nat}(a:tx=HK text)(h:(ZQ tx 62)[k]? =some fr):XI text k=fr:=by unfold XI;rw[← a,h];rfl
theorem Qwi (a:XI text 1=to_)(d:to_[(0:Int).toNat]? =some c)(h:c=95):to_=QbD text:=by unfold QbD;rw[a,Wc d,if_pos h]
theorem QzB (d:XI text 1=to_)(f:to_[(0:Int).toNat]? =some c)(h:¬c=95)(h0:XI text 0=fr)(a:fr[(0:Int).toNat]? =some c0)(e:c0=95):fr=QbD text:=by unfold QbD;rw[d,Wc f,if_neg h,h0,Wc a,if_pos e]
theorem QzC (d:XI text 1=to_)(f:to_[(0:Int).toNat]? =some c)(h:¬c=95)(h0:XI text 0=fr)(a:fr[(0:Int).toNat]? =some c0)(e:¬c0=95)(g:tx=HK text):tx=QbD text:=by unfold QbD;rw[d,Wc f,if_neg h,h0,Wc a,if_neg e,g]
theorem Qyo (h0:XI text 0=fr)(a:fr[(0:Int).toNat]? =some c0)(h:c0=95):b=ar1 p b text:=by unfold ar1;rw[h0,Wc a,if_pos h]
theorem Qyq (h0:XI text 1=to_)(a:to_[(0:Int).toNat]? =some c0)(h:c0=95):b=ar2 p b text:=by unfold ar2;rw[h0,Wc a,if_pos h]
theorem Qyp (h0:XI text 0=fr)(a:fr[(0:Int).toNat]? =some c0)(h:¬c0=95):((((ZE b fr).1.1.1,Qf4 (ZE b fr).1.1.2 (trI b fr) p),(ZE b fr).1.2.1,(ZE b fr).1.2.2.1,(ZE b fr).1.2.2.2),(ZE b fr).2.1,(ZE b fr).2.2)=ar1 p b text:=by unfold ar1;rw[h0,Wc a,if_neg h]
theorem Qyr (h0:XI text 1=to_)(a:to_[(0:Int).toNat]? =some c0)(h:¬c0=95):((((ZE b to_).1.1.1,Qf5 (ZE b to_).1.1.2 (trI b to_) p),(ZE b to_).1.2.1,(ZE b to_).1.2.2.1,(ZE b to_).1.2.2.2),(ZE b to_).2.1,(ZE b to_).2.2)=ar2 p b text:=by unfold ar2;rw[h0,Wc a,if_neg h]
theorem QiV {k:Nat}(e:tx=HK text)(a:(ZQ tx 62)[k]? =some fr)(j:text.size≤1000)(d:b0 (XI text k)=95∨1≤(QbE (XI text k)).size)(g:fr[(0:Int).toNat]? =some c)(h:¬c=95):fr.size≤1000∧1≤(QbE fr).size:=by
 have f:=QaQ (ae a)
 have i:(HK text).size≤text.size:=by unfold HK;split;simp only[aT];omega;exact aO _
 rw[YS e a,Wc g] at d
 rw[e] at f
 exact ⟨by omega,d.resolve_left h⟩
theorem QkN {a:DB}(f:text[(0:Int).toNat]? =some c)(h:¬c=42)(g:nm=QbD text)(d:b1=ar1 (plI b nm) (plV b nm) text)(e:a=ar2 (plI b nm) b1 text):arV b text=a:=by
 rw[e,d,g];unfold arV;dsimp only;rw[Wc f,if_neg h]
theorem QkO {a:DB}(f:text[(0:Int).toNat]? =some c)(h:c=42)(g:nm=QbD text)(d:b1=ar1 (plI b nm) (plV b nm) text)(e:a=ar2 (plI b nm) b1 text):arV b text=((a.1.1,a.1.2.1,a.1.2.2.1,Qs5 a.1.2.2.2 (plI b nm)),a.2.1,a.2.2):=by
 rw[e,d,g];unfold arV;dsimp only;rw[Wc f,if_pos h]
theorem Qrd:(HK text).size≤text.size:=by unfold HK;split;simp only[aT];omega;exact aO _
end
theorem Qdi (b:DB)(text:ByteArray)(B:Nat)(E:DBJ b B (2*B) (2*B))(hn:B≤1000)(ht:okA text=true)(Y:text.size≤1000):FC Tryz.prog 192 [(false,[.ptr 0 0]),(false,[dS text])] [bx 0 242 [dI b.1.1.1,.ref 2,.ref 1,.ref 3,dS b.1.2.2.2,.ref 4,.ref 5],ar 2 290 Zu b.1.1.2,ar 1 103 QI b.1.2.1,ar 3 183 ZY b.1.2.2.1,ar 4 9 .str b.2.1,ar 5 9 .str b.2.2] 2 (Is (PV.tup []) [bx 0 242 [dI ((arV b text).1.1.1),.ref 2,.ref 1,.ref 3,dS ((arV b text).1.2.2.2),.ref 4,.ref 5],ar 2 290 Zu ((arV b text).1.1.2),ar 1 103 QI ((arV b text).1.2.1),ar 3 183 ZY ((arV b text).1.2.2.1),ar 4 9 .str ((arV b text).2.1),ar 5 9 .str ((arV b text).2.2)]):=by
 obtain ⟨c7,a3,⟨P,Q⟩,R,S⟩:=QxF ht
 have b0:=Qrd (text:=text)
 have b3:=E.p0
 have b4:=E.pl
 have b5:=E.st
 have b6:=E.tr
 have b7:=E.la
 have b8:=E.ws
 refine Qj Tryz.func192 rfl rfl Tryz.ntmps192 fun O_ hO d0 a7 X_ a9 a8=> ?_
 refine w2 ?_
 obtain ⟨V,a0⟩:=gs text ((0:Int).toNat)
 have i:=a0
 refine w_ ?_
 refine lc (Q8 (Qa rfl) (QJ 42 rfl) rfl) ?_
 refine w2 ?_
 refine QaW (fun A=>∃(tx:ByteArray),(tx=HK text)∧A=⟨[(0,lP 0 0),(1,lf (dS tx)),(4,lB (decide (V=42)))],[bx 0 242 [dI b.1.1.1,.ref 2,.ref 1,.ref 3,dS b.1.2.2.2,.ref 4,.ref 5],ar 1 103 QI b.1.2.1,ar 2 290 Zu b.1.1.2,ar 3 183 ZY b.1.2.2.1,ar 4 9 .str b.2.1,ar 5 9 .str b.2.2]⟩) ?_ fun J3=> ?_
 rintro A ⟨tx,n,rfl⟩
 have c9:2≤(ZQ tx 62).length:=by rw[n];exact a3
 refine w2 ?_
 refine lc (UV (Vd tx 62 (by rw[n];omega)).frozen Qan ⟨_,_,rfl,(Qn rfl),⟨_,_,rfl,(Evl.ev (QJ 62 rfl)),rfl⟩⟩ rfl rfl) ?_
 refine w2 ?_
 obtain ⟨fr,G⟩:=gx (ZQ tx 62) 0
 have w:=G
 have a6:1≤fr.size:=by first|(rw[← YS (k:=0) n G];exact P)|(rw[← YS (k:=1) n G];exact R)
 obtain ⟨to_,H⟩:=gx (ZQ tx 62) 1
 have m:=H
 have a4:1≤to_.size:=by first|(rw[← YS (k:=0) n H];exact P)|(rw[← YS (k:=1) n H];exact R)
 apply dW (i6 20 _ _ _ _ _ _ (i2 6 _ _ [])) [0,0,0,7,7,7,56,0]
 exact y8
 refine Qi4 (fun A=>∃(nm:ByteArray),(nm=QbD text)∧A=⟨[(0,lP 0 0),(4,lB (decide (V=42))),(6,lf (dS fr)),(7,lf (dS to_)),(8,lf (dS nm))],[bx 0 242 [dI b.1.1.1,.ref 2,.ref 1,.ref 3,dS b.1.2.2.2,.ref 4,.ref 5],ar 1 103 QI b.1.2.1,ar 2 290 Zu b.1.1.2,ar 3 183 ZY b.1.2.2.1,ar 4 9 .str b.2.1,ar 5 9 .str b.2.2]⟩) ?_ fun X=> ?_
 rintro A ⟨nm,u,rfl⟩
 have I:=E.pl_ (name:=nm)
 have c3:=I.tr
 have c4:=I.la
 have c5:=I.ws
 have c8:=Qog (b:=b) (name:=nm)
 refine w3 ?_
 refine lc (dP 6 [(1,2),(2,1),(4,5),(5,4)] (Qbv b nm (by omega) (by omega)) QlP) ?_
 refine w2 ?_
 refine QaW (fun A=>∃(b1:((Int×(List (List Int×List Int)))×(List (ByteArray×Int))×(List (Int×Bool))×ByteArray)×List ByteArray×List ByteArray),(b1=ar1 (plI b nm) (plV b nm) text)∧A=⟨[(0,lP 0 0),(4,lB (decide (V=42))),(7,lf (dS to_)),(9,lI (plI b nm))],[bx 0 242 [dI b1.1.1.1,.ref 12,.ref 1,.ref 13,dS b1.1.2.2.2,.ref 14,.ref 15],ar 1 103 QI b1.1.2.1,ar 12 290 Zu b1.1.1.2,ar 13 183 ZY b1.1.2.2.1,ar 14 9 .str b1.2.1,ar 15 9 .str b1.2.2]⟩) ?_ fun J9=> ?_
 rintro A ⟨b1,f,rfl⟩
 have x:DBJ b1 (B+1) (2*B+1) (2*B+1):=by rw[f];exact I.ar1_
 have b9:=x.tr
 have c1:=x.la
 have c2:=x.ws
 refine QaW (fun A=>∃(d:((Int×(List (List Int×List Int)))×(List (ByteArray×Int))×(List (Int×Bool))×ByteArray)×List ByteArray×List ByteArray),(d=ar2 (plI b nm) b1 text)∧A=⟨[(0,lP 0 0),(4,lB (decide (V=42))),(9,lI (plI b nm))],[bx 0 242 [dI d.1.1.1,.ref 16,.ref 1,.ref 17,dS d.1.2.2.2,.ref 18,.ref 19],ar 1 103 QI d.1.2.1,ar 16 290 Zu d.1.1.2,ar 17 183 ZY d.1.2.2.1,ar 18 9 .str d.2.1,ar 19 9 .str d.2.2]⟩) ?_ fun J=> ?_
 rintro A ⟨d,g,rfl⟩
 have Z:DBJ d (B+1) (2*B+2) (2*B+2):=by rw[g];exact x.ar2_
 have U:=Z.st
 have T:d.2.1=(plV b nm).2.1:=by rw[g,Qq3,f,Qq2]
 rw[T] at U
 have c6:=I.pl
 refine w3 ?_
 refine cd_ (fun _ _=> ?_) fun _ _=> ?_
 refine w_ ?_
 refine (?_:fin _ _ _ _ .normal _)
 exact fi_ [(2,16),(3,17),(4,18),(5,19)] hO ⟨(((congrArg (fun z_=>some (Ent.box 242 [dI z_,.ref 16,.ref 1,.ref 17,dS d.1.2.2.2,.ref 18,.ref 19])) (show (d.1.1.1:Int)=(arV b text).1.1.1 by (rw[QkN i ‹_› u f g];done)))).trans (congrArg (fun z_=>some (Ent.box 242 [dI ((arV b text).1.1.1),.ref 16,.ref 1,.ref 17,dS z_,.ref 18,.ref 19])) (show (d.1.2.2.2:ByteArray)=(arV b text).1.2.2.2 by (rw[QkN i ‹_› u f g];done)))),(Qm (by (rw[QkN i ‹_› u f g];done))),(Qm (by (rw[QkN i ‹_› u f g];done))),(Qm (by (rw[QkN i ‹_› u f g];done))),(Qm (by (rw[QkN i ‹_› u f g];done))),(Qm (by (rw[QkN i ‹_› u f g];done))),trivial⟩
 apply dV (i7 93 _ _ _ _ _ _ _ (io 100 (lf (dS (d.1.2.2.2.extract 0 (plI b nm).toNat)))::io 101 (lf (dS ((d.1.2.2.2.extract 0 (plI b nm).toNat)++(⟨#[49]⟩:ByteArray))))::i7 102 _ _ _ _ _ _ _ (io 109 (lf (dS (d.1.2.2.2.extract ((plI b nm)+1).toNat d.1.2.2.2.size)))::io 110 (lf (dS (((d.1.2.2.2.extract 0 (plI b nm).toNat)++(⟨#[49]⟩:ByteArray))++(d.1.2.2.2.extract ((plI b nm)+1).toNat d.1.2.2.2.size))))::i3 111 _ _ _ [⟨none,lf (.val undef),[bx 0 242 [dI d.1.1.1,.ref 16,.ref 1,.ref 17,dS (((d.1.2.2.2.extract 0 (plI b nm).toNat)++(⟨#[49]⟩:ByteArray))++(d.1.2.2.2.extract ((plI b nm)+1).toNat d.1.2.2.2.size)),.ref 18,.ref 19]]⟩]))) [0,1,1,1,1,1,63,1,1,511,511,511,511,511,16383,16383,511,1,0,0,0,0]
 refine z7 ?_
 refine zz (fun _ a=>ac (show Does _ _ _ _ (St.put _ 100 (lf (dS (d.1.2.2.2.extract 0 (plI b nm).toNat)))) from Zb (l:=none) (h:=(some (plI b nm))) (a.v rfl) (by exact trivial) (by exact (a.v rfl)) Zo rfl (by first|omega|(simp only[ak,aj];omega)) (by first|omega|(simp only[ak,aj];omega)) (by first|omega|(simp only[ak,aj];omega))) rfl)<|zz (fun _ a=>ac (Qw (a.v rfl) (Evl.str rfl) rfl (by (simp only[ax,aT,Q4];omega))) rfl) ?_
 refine z7 ?_
 refine zz (fun _ a=>ac (show Does _ _ _ _ (St.put _ 109 (lf (dS (d.1.2.2.2.extract ((plI b nm)+1).toNat d.1.2.2.2.size)))) from Zb (l:=(some ((plI b nm)+1))) (h:=none) (a.v rfl) (by exact (a.v rfl)) (by exact trivial) Zo rfl (by first|omega|(simp only[ak,aj];omega)) (by first|omega|(simp only[ak,aj];omega)) (by first|omega|(simp only[ak,aj];omega))) rfl)<|zz (fun _ a=>ac (Qw (a.v rfl) (a.v rfl) rfl (by (simp only[ax,aT,Q4];omega))) rfl) ?_
 exact y4
 refine (?_:fin _ _ _ _ .normal _)
 exact fi_ [(2,16),(3,17),(4,18),(5,19)] hO ⟨(((congrArg (fun z_=>some (Ent.box 242 [dI z_,.ref 16,.ref 1,.ref 17,dS (((d.1.2.2.2.extract 0 (plI b nm).toNat)++(⟨#[49]⟩:ByteArray))++(d.1.2.2.2.extract ((plI b nm)+1).toNat d.1.2.2.2.size)),.ref 18,.ref 19])) (show (d.1.1.1:Int)=(arV b text).1.1.1 by (rw[QkO i ‹_› u f g];done)))).trans (congrArg (fun z_=>some (Ent.box 242 [dI ((arV b text).1.1.1),.ref 16,.ref 1,.ref 17,dS z_,.ref 18,.ref 19])) (show (((d.1.2.2.2.extract 0 (plI b nm).toNat)++(⟨#[49]⟩:ByteArray))++(d.1.2.2.2.extract ((plI b nm)+1).toNat d.1.2.2.2.size):ByteArray)=(arV b text).1.2.2.2 by (rw[QkO i ‹_› u f g];rfl)))),(Qm (by (rw[QkO i ‹_› u f g];done))),(Qm (by (rw[QkO i ‹_› u f g];done))),(Qm (by (rw[QkO i ‹_› u f g];done))),(Qm (by (rw[QkO i ‹_› u f g];done))),(Qm (by (rw[QkO i ‹_› u f g];done))),trivial⟩
 refine w3 ?_
 obtain ⟨W,K⟩:=gs to_ ((0:Int).toNat)
 have j:=K
 refine w_ ?_
 refine lc (QP (Qa rfl) (QJ 95 rfl) rfl) ?_
 refine w_ ?_
 refine cn_ (fun _ _=> ?_) fun _ _=> ?_
 refine w_ ?_
 refine XH (J _ ⟨b1,(by exact Qyq (YS n m) j ‹_›),rfl⟩) ?_
 exact wo [(16,12),(17,13),(18,14),(19,15)]
 refine w3 ?_
 refine lc (dP 20 [(2,14),(3,12),(4,13),(5,15)] (UA b1 to_ (by first|exact QiV n w Y Q o ‹_› | exact QiV n m Y S j ‹_›) (by omega)) Qe4) ?_
 refine w2 ?_
 have z:=x.tr_ (word:=to_)
 have a2:=z.tr
 have a1:=QoE (b:=b1) (word:=to_)
 obtain ⟨y,D⟩:=gx ((ZE b1 to_).1.1.2) ((trI b1 to_).toNat)
 have C:=(QjA D).2
 have a5:=z.inn y (ae D)
 have r:(trI b1 to_).toNat*2+0<(Zr Zu ((ZE b1 to_).1.1.2)).length:=by rw[VQ];exact QBl (by omega)
 refine AC.wk (Qdy (q:=23) rfl (by omega))<|AC.wk (Hl 26 (q:=23) (p:=(trI b1 to_).toNat*2+0) (E':=3) (e':= .int) (ys:=y.1) rfl (C) (Fresh.of rfl) (aE rfl)) ?_
 apply dZ (i9 71 _ _ _ _ _ _ _ _ _ (i5 80 _ _ _ _ _ [io 85 (lf (.ept 23 2 ((trI b1 to_).toNat) 0)),io 86 (lf (.ept 23 2 ((trI b1 to_).toNat) 0)),io 87 (lR 26),io 88 _,⟨some 89,lR 27,[ar 27 3 .int (Zg ltI (plI b nm) y.1),(26,none)]⟩,io 90 (lf (.ept 23 2 ((trI b1 to_).toNat) 0)),io 91 (lf (.ept 23 2 ((trI b1 to_).toNat) 0)),⟨none,lf (.val undef),[(23,some (.obx 290 2 (((ZE b1 to_).1.1.2).length) (Zr Zu ((ZE b1 to_).1.1.2)) [((trI b1 to_).toNat*2+0,.ref 27),((trI b1 to_).toNat*2+0,.ref 26)]))]⟩])) [0,0,0,0,0,0,63,127,127,127,127,127,127,8191,127,127,127,131071,127,0,0,0]
 refine z14 ?_
 refine zz (fun _ a=>ac (YQ (a.v rfl) (a.en 23 rfl) (a.v rfl) HG HE rfl (by omega) (by omega)) rfl)<|zz (fun _ a=>ac (ZV (a.v rfl) Qhh (by rw[(a.en 23 rfl)];rfl) rfl) rfl) ?_
 refine zz (fun _ a=>ac (Kz (a.v rfl) (a.en 23 rfl) (by simp only[ovr,bJ,aD,r,C,dJ,if_true,if_false,↓reduceIte]) (a.en 26 rfl) XK rfl) rfl) ?_
 refine z_ ?_
 refine zz (fun _ a=>ac (dP 27 [(0,26)] (H4 y.1 (plI b nm) (by omega)) Qe5) rfl) ?_
 refine zz (fun _ a=>ac (YQ (a.v rfl) (a.en 23 rfl) (a.v rfl) HG HE rfl (by omega) (by omega)) rfl)<|zz (fun _ a=>ac (ZV (a.v rfl) Qhh (by rw[(a.en 23 rfl)];rfl) rfl) rfl) ?_
 refine zz (fun _ a=>ac (Uv (t:=26) (a.v rfl) (a.en 23 rfl) (by simp only[ovr,bJ,aD,r,C,dJ,if_true,if_false,↓reduceIte]) (a.v rfl) (a.en 27 rfl) XK) rfl) ?_
 exact zN
 refine XH (J _ ⟨((((ZE b1 to_).1.1.1,Qf5 ((ZE b1 to_).1.1.2) (trI b1 to_) (plI b nm)),(ZE b1 to_).1.2.1,(ZE b1 to_).1.2.2.1,(ZE b1 to_).1.2.2.2),(ZE b1 to_).2.1,(ZE b1 to_).2.2),(by exact Qyr (YS n m) j ‹_›),rfl⟩) ?_
 refine Wk.trans (Qa5 (q:=23) (t:=27) (p:=(trI b1 to_).toNat*2+0) rfl (by simp only[ovr,bJ,aD,r,C,dJ,if_true,if_false,↓reduceIte]) rfl) ?_
 refine Wk.trans (Qa4 (q:=23) (e:=Zu) (Qf5 ((ZE b1 to_).1.1.2) (trI b1 to_) (plI b nm)) rfl (by simp[Qf5]) (by simp only[ovr];rw[dt,dt,QkS D,Qp0 D])) ?_
 exact wp [(16,23),(17,24),(18,14),(19,25)] ⟨rfl,(Qm (by first|rfl|simp)),(Qm (by first|rfl|simp)),(Qm (by first|rfl|simp)),(Qm (by first|rfl|simp)),(Qm (by first|rfl|simp)),trivial⟩
 refine w3 ?_
 obtain ⟨fc,L⟩:=gs fr ((0:Int).toNat)
 have o:=L
 refine w_ ?_
 refine lc (QP (Qa rfl) (QJ 95 rfl) rfl) ?_
 refine w_ ?_
 refine cn_ (fun _ _=> ?_) fun _ _=> ?_
 refine w_ ?_
 refine XH (J9 _ ⟨(plV b nm),(by exact Qyo (YS n w) o ‹_›),rfl⟩) ?_
 exact wo [(12,2),(13,3),(14,11),(15,5)]
 refine w3 ?_
 refine lc (dP 28 [(2,11),(3,2),(4,3)] (UA (plV b nm) fr (by first|exact QiV n w Y Q o ‹_› | exact QiV n m Y S j ‹_›) (by omega)) Qe4) ?_
 refine w2 ?_
 have z:=I.tr_ (word:=fr)
 have a2:=z.tr
 have a1:=QoE (b:=plV b nm) (word:=fr)
 obtain ⟨y,D⟩:=gx ((ZE (plV b nm) fr).1.1.2) ((trI (plV b nm) fr).toNat)
 have C:=(QjA D).1
 have a5:=z.inn y (ae D)
 have r:(trI (plV b nm) fr).toNat*2+1<(Zr Zu ((ZE (plV b nm) fr).1.1.2)).length:=by rw[VQ];exact QBm (by omega)
 refine AC.wk (Qdy (q:=31) rfl (by omega))<|AC.wk (Hl 34 (q:=31) (p:=(trI (plV b nm) fr).toNat*2+1) (E':=3) (e':= .int) (ys:=y.2) rfl (C) (Fresh.of rfl) (aE rfl)) ?_
 apply dZ (i9 44 _ _ _ _ _ _ _ _ _ (i5 53 _ _ _ _ _ [io 58 (lf (.ept 31 2 ((trI (plV b nm) fr).toNat) 0)),io 59 (lf (.ept 31 2 ((trI (plV b nm) fr).toNat) 1)),io 60 (lR 34),io 61 _,⟨some 62,lR 35,[ar 35 3 .int (Zg ltI (plI b nm) y.2),(34,none)]⟩,io 63 (lf (.ept 31 2 ((trI (plV b nm) fr).toNat) 0)),io 64 (lf (.ept 31 2 ((trI (plV b nm) fr).toNat) 1)),⟨none,lf (.val undef),[(31,some (.obx 290 2 (((ZE (plV b nm) fr).1.1.2).length) (Zr Zu ((ZE (plV b nm) fr).1.1.2)) [((trI (plV b nm) fr).toNat*2+1,.ref 35),((trI (plV b nm) fr).toNat*2+1,.ref 34)]))]⟩])) [0,0,0,0,0,0,63,127,127,127,127,127,127,8191,127,127,127,131071,127,0,0,0]
 refine z14 ?_
 refine zz (fun _ a=>ac (YQ (a.v rfl) (a.en 31 rfl) (a.v rfl) HG HE rfl (by omega) (by omega)) rfl)<|zz (fun _ a=>ac (ZV (a.v rfl) Qhi (by rw[(a.en 31 rfl)];rfl) rfl) rfl) ?_
 refine zz (fun _ a=>ac (Kz (a.v rfl) (a.en 31 rfl) (by simp only[ovr,bJ,aD,r,C,dJ,if_true,if_false,↓reduceIte]) (a.en 34 rfl) XK rfl) rfl) ?_
 refine z_ ?_
 refine zz (fun _ a=>ac (dP 35 [(0,34)] (H4 y.2 (plI b nm) (by omega)) Qe5) rfl) ?_
 refine zz (fun _ a=>ac (YQ (a.v rfl) (a.en 31 rfl) (a.v rfl) HG HE rfl (by omega) (by omega)) rfl)<|zz (fun _ a=>ac (ZV (a.v rfl) Qhi (by rw[(a.en 31 rfl)];rfl) rfl) rfl) ?_
 refine zz (fun _ a=>ac (Uv (t:=34) (a.v rfl) (a.en 31 rfl) (by simp only[ovr,bJ,aD,r,C,dJ,if_true,if_false,↓reduceIte]) (a.v rfl) (a.en 35 rfl) XK) rfl) ?_
 exact zN
 refine XH (J9 _ ⟨((((ZE (plV b nm) fr).1.1.1,Qf4 ((ZE (plV b nm) fr).1.1.2) (trI (plV b nm) fr) (plI b nm)),(ZE (plV b nm) fr).1.2.1,(ZE (plV b nm) fr).1.2.2.1,(ZE (plV b nm) fr).1.2.2.2),(ZE (plV b nm) fr).2.1,(ZE (plV b nm) fr).2.2),(by exact Qyp (YS n w) o ‹_›),rfl⟩) ?_
 refine Wk.trans (Qa5 (q:=31) (t:=35) (p:=(trI (plV b nm) fr).toNat*2+1) rfl (by simp only[ovr,bJ,aD,r,C,dJ,if_true,if_false,↓reduceIte]) rfl) ?_
 refine Wk.trans (Qa4 (q:=31) (e:=Zu) (Qf4 ((ZE (plV b nm) fr).1.1.2) (trI (plV b nm) fr) (plI b nm)) rfl (by simp[Qf4]) (by simp only[ovr];rw[dt,dt,QkT D,QpZ D])) ?_
 exact wp [(12,31),(13,32),(14,11),(15,33)] ⟨rfl,(Qm (by first|rfl|simp)),(Qm (by first|rfl|simp)),(Qm (by first|rfl|simp)),(Qm (by first|rfl|simp)),(Qm (by first|rfl|simp)),trivial⟩
 refine w7 ?_
 obtain ⟨fc,M⟩:=gs fr ((0:Int).toNat)
 have o:=M
 refine w_ ?_
 refine lc (Q8 (Qa rfl) (QJ 95 rfl) rfl) ?_
 refine w_ ?_
 refine cd_ (fun _ _=> ?_) fun _ _=> ?_
 refine w4 ?_
 obtain ⟨W,N⟩:=gs to_ ((0:Int).toNat)
 have j:=N
 refine w_ ?_
 refine lc (Q8 (Qa rfl) (QJ 95 rfl) rfl) ?_
 refine w_ ?_
 refine cd_ (fun _ _=> ?_) fun _ _=> ?_
 refine w_ ?_
 refine XH (X _ ⟨tx,(by exact QzC (YS n m) j ‹_› (YS n w) o ‹_› n),rfl⟩) ?_
 exact wo []
 refine w4 ?_
 refine XH (X _ ⟨to_,(by exact Qwi (YS n m) j ‹_›),rfl⟩) ?_
 exact wo []
 refine w7 ?_
 obtain ⟨W,O⟩:=gs to_ ((0:Int).toNat)
 have j:=O
 refine w_ ?_
 refine lc (Q8 (Qa rfl) (QJ 95 rfl) rfl) ?_
 refine w_ ?_
 refine cd_ (fun _ _=> ?_) fun _ _=> ?_
 refine w_ ?_
 refine XH (X _ ⟨fr,(by exact QzB (YS n m) j ‹_› (YS n w) o ‹_›),rfl⟩) ?_
 exact wo []
 refine w4 ?_
 refine XH (X _ ⟨to_,(by exact Qwi (YS n m) j ‹_›),rfl⟩) ?_
 exact wo []
 refine w4 ?_
 cases s:(decide (V=42))
 have F:=aa s
 refine w2 ?_
 refine XH (J3 _ ⟨text,(by exact Qyv i ‹_›),rfl⟩) ?_
 exact Wk.of [] rfl ⟨rfl,rfl,(congrArg (fun z_=>some (lB z_)) ((s).symm)),trivial⟩ ⟨rfl,rfl,rfl,rfl,rfl,rfl,trivial⟩ rfl rfl
 have F:=ab s
 refine w3 ?_
 refine lc (show Does _ _ _ _ (St.put _ 17 (lf (dS (text.extract (1:Int).toNat text.size)))) from Zb (l:=(some 1)) (h:=none) (Qa rfl) (by exact (Qq rfl)) (by exact trivial) Zo rfl (by first|omega|(simp only[ak,aj];omega)) (by first|omega|(simp only[ak,aj];omega)) (by first|omega|(simp only[ak,aj];omega))) ?_
 refine w2 ?_
 refine XH (J3 _ ⟨(text.extract (1:Int).toNat text.size),(by exact Qyw i ‹_›),rfl⟩) ?_
 exact Wk.of [] rfl ⟨rfl,rfl,(congrArg (fun z_=>some (lB z_)) ((s).symm)),trivial⟩ ⟨rfl,rfl,rfl,rfl,rfl,rfl,trivial⟩ rfl rfl
end Go.Proofs.YtjfpbcmfbnnooaaGreat
