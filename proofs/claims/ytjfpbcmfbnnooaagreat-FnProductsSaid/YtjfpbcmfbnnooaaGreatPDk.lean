import Derived.Test.YtjfpbcmfbnnooaaGreatPDf
import Derived.Test.YtjfpbcmfbnnooaaGreatPBf
set_option linter.all false
namespace Go.Proofs.YtjfpbcmfbnnooaaGreat
open Go.RowKit Tryz
set_option maxRecDepth 100000
set_option maxHeartbeats 4000000
section
variable {s:BA}{b c:UInt8}{i:Nat}{out:List BA}{fr:Int}
def Qr5 (a:(out,fr)=spS s b i)(hi:s.size≤i)(d:i≤s.size):out++[s.extract fr.toNat s.size]=ZS s b:=by
 have e:i=s.size:=by omega
 subst e
 unfold ZS
 rw[← a]
def Qr8 (a:(out,fr)=spS s b i)(h:s[((i:Nat):Int).toNat]? =some c)(e:c=b):(out++[s.extract fr.toNat ((i:Nat):Int).toNat],(i:Int)+1)=spS s b (i+1):=by
 rw[bW] at h ⊢
 rw[← QyF h e,← a]
def Qr7 (s:BA)(b:UInt8):1≤(ZS s b).length:=by unfold ZS;rw[ai,av,aB];omega
def QbK {x:BA}(h:x∈ZS s b):x.size≤s.size:=by
 have d:∀i,∀x∈(spS s b i).1,x.size≤s.size:=fun i=>by
  induction i with
  | zero=>intro x h;cases h
  | succ i a=>
   intro x h
   rw[spS] at h
   split at h
   ·rcases aO.1 h with h|h
    ·exact a x h
    ·rw[aI.1 h];simp only[aR];omega
   ·exact a x h
 unfold ZS at h
 rcases aO.1 h with h|h
 ·exact d _ x h
 ·rw[aI.1 h];simp only[aR];omega
def QvQ (a:(out,fr)=spS s b i)(h:s[((i:Nat):Int).toNat]? =some c)(e:¬c=b):(out,fr)=spS s b (i+1):=by
 rw[bW] at h
 rw[← QBL h e,← a]
end
def VG (s:BA)(b:UInt8)(F:s.size≤100000):FC prog 191 [(false,[dS s]),(false,[.dat .u8 b])] [] 0 (WB 9 .str (ZS s b)):=by
 refine Ql func191 rfl rfl ntmps191 fun D A C v E z y=>w14 ?_
 refine AC.wk (Wk.nilS 0 5 9 .str rfl (Fresh.of rfl) (nlr rfl))<|Qy (fun r u=>∃(i:Nat) (out:List BA) (fr:Int),i≤s.size∧r=s.size - i∧((out,fr)=spS s b i)∧u=⟨[(0,lf (dS s)),(1,lf (.dat .u8 b)),(4,lf (.val (.slice none 0 0))),(5,lR 1),(6,lI fr),(7,lI (i:Int))],[ar 1 9 .str out]⟩) ⟨0,([]:(Qd:Ty).Den),0,aL _,rfl,rfl,rfl⟩ ?_ ?_
 exact wp [(1,0)] ⟨(Qg rfl),trivial⟩
 rintro r u ⟨i,out,fr,q,B,n,rfl⟩
 have m:=Qqa (s:=s) (b:=b) (i:=i)
 rw[← n] at m
 dsimp only at m
 refine w7 ?_
 cases a:(decide ((i:Int)<(s.size:Int)))
 have d:=ab a
 refine w7 ?_
 refine lc (show Does _ _ _ _ (St.put _ 31 (lf (dS (s.extract (fr).toNat s.size)))) from QT (l:=(some fr)) (h:=none) (Qa rfl) (by exact (Qa rfl)) (by exact trivial) Yd rfl (by first|omega|(simp only[aq,ap];omega)) (by first|omega|(simp only[aq,ap];omega)) (by first|omega|(simp only[aq,ap];omega)))<|lc (dBs 2 (e:= .str) Wd)<|lc (dA 3 Ub)<|w3 ?_
 refine fo_ A ?_
 exact Qr5 n (by omega) q
 have d:=aa a
 refine w7 ?_
 obtain ⟨w,o⟩:=gs s (((i:Int)).toNat)
 have j:=o
 refine w4 ?_
 cases f:(decide (w=b))
 have g:=ab f
 refine w7 ?_
 exact Qc<|Zb ⟨i+1,out,fr,by omega,rfl,(by exact QvQ n j ‹_›),rfl⟩ (by omega)<|wo []
 have g:=aa f
 refine w6 ?_
 refine lc (show Does _ _ _ _ (St.put _ 23 (lf (dS (s.extract (fr).toNat ((i:Int)).toNat)))) from QT (l:=(some fr)) (h:=(some (i:Int))) (Qa rfl) (by exact (Qa rfl)) (by exact (Qa rfl)) Yd rfl (by first|omega|(simp only[aq,ap];omega)) (by first|omega|(simp only[aq,ap];omega)) (by first|omega|(simp only[aq,ap];omega)))<|lc (dBs 4 (e:= .str) Wd)<|lc (dA 5 Ub)<|w6 ?_
 refine Qc<|w5 ?_
 exact Qc<|Zb ⟨i+1,(out++([s.extract (fr).toNat ((i:Int)).toNat])),((i:Int)+1),by omega,rfl,(by exact Qr8 n j ‹_›),rfl⟩ (by omega)<|wp [(1,5)] ⟨(Qg rfl),trivial⟩
section
variable {word text nm:BA}{G:List Qs}{c0 cz:UInt8}{k:Nat}{x:DTr}{T_:List DTr}{t p:Int}
def QAS (d:Qct word=nm)(a:nm[(0:Int).toNat]? =some c0)(h:c0=126):((-1,false):Z3)=QnQ G word:=by
 unfold QnQ b0
 rw[d,show nm[0]? =some c0 from a]
 exact (if_pos (show (some c0).getD 0=126 from h)).symm
def QAR (f:Qct word=nm)(d:nm[(0:Int).toNat]? =some c0)(h:¬c0=126)(a:nm[((nm.size:Int) - 1).toNat]? =some cz):
 ((Zj (fun g=>decide (g.1=nm.extract 0 ((nm.size:Int) - 1).toNat)) G,decide (cz=43)):Z3)=QnQ G word:=by
 unfold QnQ b0 bZ
 have e:((nm.size:Int) - 1).toNat=nm.size - 1:=by omega
 rw[e] at a ⊢
 rw[f,show nm[0]? =some c0 from d]
 refine Eq.trans ?_ (if_neg (show¬(some c0).getD 0=126 from h)).symm
 rw[a];rfl
def QrZ (a:T_[t.toNat]? =some x):T_.set t.toNat (x.1,Zc ltI p x.2)=QgN T_ t p:=by
 unfold QgN
 apply bL
 intro i
 rw[bp,cU]
 by_cases e:t.toNat=i
 ·subst e;rw[a];simp[(ae.1 a).1]
 ·simp[e]
def Qr0 (a:T_[t.toNat]? =some x):T_.set t.toNat (Zc ltI p x.1,x.2)=QgO T_ t p:=by
 unfold QgO
 apply bL
 intro i
 rw[bp,cU]
 by_cases e:t.toNat=i
 ·subst e;rw[a];simp[(ae.1 a).1]
 ·simp[e]
end
def Qcl (b:DB)(name:BA)(B:0≤b.1.1.1∧b.1.1.1≤100000)(A:b.2.1.length≤100000∧b.1.2.2.2.size≤100000):FC prog 256 [(false,[.ptr 0 0]),(false,[dS name])] [bx 0 242 [dI b.1.1.1,.ref 1,.ref 2,.ref 3,dS b.1.2.2.2,.ref 5,.ref 4],ar 1 290 Zu b.1.1.2,ar 2 103 QG b.1.2.1,ar 3 183 Q0 b.1.2.2.1,ar 5 9 .str b.2.1,ar 4 9 .str b.2.2] 5 (Is (lI (plI b name)) [bx 0 242 [dI ((plV b name).1.1.1),.ref 1,.ref 2,.ref 3,dS ((plV b name).1.2.2.2),.ref 5,.ref 4],ar 1 290 Zu ((plV b name).1.1.2),ar 2 103 QG ((plV b name).1.2.1),ar 3 183 Q0 ((plV b name).1.2.2.1),ar 5 9 .str ((plV b name).2.1),ar 4 9 .str ((plV b name).2.2)]):=by
 refine Ql func256 rfl rfl ntmps256 fun w m v n z u r=>w13 ?_
 refine lpK b.2.1.length (fun k=>NoneTo (fun y=>decide (y=name)) b.2.1 k) (fun k=>⟨[(0,lP 0 0),(1,lf (dS name)),(10,lR 5),(11,lI (b.2.1.length:Int)),(12,lI (k:Int))],[bx 0 242 [dI b.1.1.1,.ref 1,.ref 2,.ref 3,dS b.1.2.2.2,.ref 5,.ref 4],ar 1 290 Zu b.1.1.2,ar 2 103 QG b.1.2.1,ar 3 183 Q0 b.1.2.2.1,ar 4 9 .str b.2.2,ar 5 9 .str b.2.1]⟩) (NoneTo.zero) ?_ fun k _ a=> ?_
 exact wo []
 refine w4 ?_
 cases f:(decide ((k:Int)<(b.2.1.length:Int)))
 have g:=ab f
 refine w10 ?_
 refine lc (dBs 6 (e:= .str) Wd)<|lc (dA 7 Ub)<|w10 ?_
 refine lc (QX (Qa rfl) (Evl.str rfl) rfl (by (simp only[ZJ];omega)))<|w12 ?_
 refine lc (V5 (Qa rfl) (Qn rfl) rfl (by first|omega|(simp only[ai,av,aB];omega)))<|w12 ?_
 refine lc (V6 (Qa rfl) (Qn rfl) rfl (by first|omega|(simp only[ai,av,aB];omega)))<|w3 ?_
 have o:(((b.2.1++([name])).length:Int) - 1:Int)=(plI b name):=by
  (unfold plI;rw[QbY (Yn a (by omega)),ai];simp)
 exact fi_ [(5,7)] m ⟨(((congrArg (fun z_=>some (Ent.box 242 [dI z_,.ref 1,.ref 2,.ref 3,dS (b.1.2.2.2++(⟨#[48]⟩:BA)),.ref 7,.ref 4])) (show (b.1.1.1+1:Int)=(plV b name).1.1.1 by (rw[VW (Yn a (by omega))];done)))).trans (congrArg (fun z_=>some (Ent.box 242 [dI ((plV b name).1.1.1),.ref 1,.ref 2,.ref 3,dS z_,.ref 7,.ref 4])) (show (b.1.2.2.2++(⟨#[48]⟩:BA):BA)=(plV b name).1.2.2.2 by (rw[VW (Yn a (by omega))];done)))),(Qg (by (rw[VW (Yn a (by omega))];done))),(Qg (by (rw[VW (Yn a (by omega))];done))),(Qg (by (rw[VW (Yn a (by omega))];done))),(Qg (by (rw[VW (Yn a (by omega))];done))),(Qg (by (rw[VW (Yn a (by omega))];done))),trivial⟩ (h0:=by rw[o] <;> rfl)
 have g:=aa f
 refine w7 ?_
 obtain ⟨x,l⟩:=gx b.2.1 k
 have d:=l
 refine w9 ?_
 cases h:(decide (x=name))
 have j:=ab h
 refine w4 ?_
 refine lc (V5 (Qa rfl) (Qn rfl) rfl (by first|omega|(simp only[ai,av,aB];omega)))<|w_ ?_
 exact Qc<|lK_ (a.step l (aj ‹_›))<|wo []
 have j:=aa h
 refine w6 ?_
 have q:((k:Int):Int)=(plI b name):=by
  exact Qtc a d ‹_›
 exact fi_ [] m ⟨(((congrArg (fun z_=>some (Ent.box 242 [dI z_,.ref 1,.ref 2,.ref 3,dS b.1.2.2.2,.ref 5,.ref 4])) (show (b.1.1.1:Int)=(plV b name).1.1.1 by (rw[Ju (Xx d ‹_›)];done)))).trans (congrArg (fun z_=>some (Ent.box 242 [dI ((plV b name).1.1.1),.ref 1,.ref 2,.ref 3,dS z_,.ref 5,.ref 4])) (show (b.1.2.2.2:BA)=(plV b name).1.2.2.2 by (rw[Ju (Xx d ‹_›)];done)))),(Qg (by (rw[Ju (Xx d ‹_›)];done))),(Qg (by (rw[Ju (Xx d ‹_›)];done))),(Qg (by (rw[Ju (Xx d ‹_›)];done))),(Qg (by (rw[Ju (Xx d ‹_›)];done))),(Qg (by (rw[Ju (Xx d ‹_›)];done))),trivial⟩ (h0:=by rw[q] <;> rfl)
def UU (b:DB)(word:BA)(N:word.size≤1000∧1≤(Qct word).size)(R:b.1.1.2.length≤100000∧b.1.2.2.1.length≤100000∧b.2.2.length≤100000):FC prog 257 [(false,[.ptr 0 0]),(false,[dS word])] [bx 0 242 [dI b.1.1.1,.ref 3,.ref 1,.ref 4,dS b.1.2.2.2,.ref 2,.ref 5],ar 3 290 Zu b.1.1.2,ar 1 103 QG b.1.2.1,ar 4 183 Q0 b.1.2.2.1,ar 2 9 .str b.2.1,ar 5 9 .str b.2.2] 3 (Is (lI (trI b word)) [bx 0 242 [dI ((ZC b word).1.1.1),.ref 3,.ref 1,.ref 4,dS ((ZC b word).1.2.2.2),.ref 2,.ref 5],ar 3 290 Zu ((ZC b word).1.1.2),ar 1 103 QG ((ZC b word).1.2.1),ar 4 183 Q0 ((ZC b word).1.2.2.1),ar 2 9 .str ((ZC b word).2.1),ar 5 9 .str ((ZC b word).2.2)]):=by
 have M:=Qr7 word 47
 refine Ql func257 rfl rfl ntmps257 fun P C O F Q J I=>w13 ?_
 refine lpK b.2.2.length (fun k=>NoneTo (fun y=>decide (y=word)) b.2.2 k) (fun k=>⟨[(0,lP 0 0),(1,lf (dS word)),(12,lR 5),(13,lI (b.2.2.length:Int)),(14,lI (k:Int))],[bx 0 242 [dI b.1.1.1,.ref 3,.ref 1,.ref 4,dS b.1.2.2.2,.ref 2,.ref 5],ar 1 103 QG b.1.2.1,ar 2 9 .str b.2.1,ar 3 290 Zu b.1.1.2,ar 4 183 Q0 b.1.2.2.1,ar 5 9 .str b.2.2]⟩) (NoneTo.zero) ?_ fun k _ a=> ?_
 exact wo []
 refine w4 ?_
 cases o:(decide ((k:Int)<(b.2.2.length:Int)))
 have q:=ab o
 refine w10 ?_
 refine lc (dBs 6 (e:= .str) Wd)<|lc (dA 7 Ub)<|w6 ?_
 refine lc (Kg (VG word 47 (by omega)).frozen Qbg ⟨_,_,rfl,(Qm rfl),⟨_,_,rfl,(Evl.ev (QS 47 rfl)),rfl⟩⟩ rfl rfl) ?_
 obtain ⟨nm,z⟩:=gx (ZS word 47) 0
 have n:Qct word=nm:=by unfold Qct;rw[show (ZS word 47)[0]? =some nm from z];rfl
 have L:1≤nm.size:=by rw[← n];exact N.2
 have K:=QbK (ah z)
 refine w5 ?_
 refine lc (Qh Qaf ⟨_,_,rfl,(Evl.ev (Qn rfl)),rfl⟩ (ao.1 rfl) rfl rfl)<|lc (xal 8 Q0 Vh)<|w5 ?_
 obtain ⟨c0,D⟩:=gs nm ((0:Int).toNat)
 have r:=D
 refine w_ ?_
 refine lc (QW (Qa rfl) (QS 126 rfl) rfl)<|w_ ?_
 refine cn_ (fun _ _=> ?_) fun _ _=> ?_
 refine w9 ?_
 refine lc (Qh QeD rfl (ao.1 rfl) rfl rfl)<|lc (dBs 9 (e:=Zu) JE (hab:=by exact ⟨_,_,_,_,rfl,⟨[.val (.slice none 0 0)],[.val (.slice none 0 0)],_,_,_,_,rfl,rfl,(.inr ⟨rfl,rfl,rfl⟩),(.inr ⟨rfl,rfl,rfl⟩),rfl⟩,⟨rfl,rfl⟩,rfl⟩))<|lc (dA 10 QeG)<|w6 ?_
 apply dW (i7 74 _ _ _ _ _ _ _ (⟨some 81,lR 11,[ar 11 183 Q0 ([((-1),false)])]⟩::⟨some 82,lR 12,[ar 12 183 Q0 (b.1.2.2.1++([((-1),false)])),(4,none),(11,none)]⟩::i3 83 _ _ _ [⟨none,lf (.val undef),[bx 0 242 [dI b.1.1.1,.ref 10,.ref 1,.ref 12,dS b.1.2.2.2,.ref 2,.ref 7]]⟩])) [0,1,1,1,1,1,63,63,1,0,0,0,0]
 refine z7 ?_
 refine zz (fun _ d=>ac (dBs 11 (e:=Q0) Vh (hab:=by exact ⟨_,_,_,_,rfl,⟨[dI (-1)],[dB false],_,_,_,_,rfl,rfl,⟨rfl,rfl⟩,⟨rfl,rfl⟩,rfl⟩,⟨rfl,rfl⟩,rfl⟩)) rfl)<|zz (fun _ d=>ac (dA 12 Qca) rfl)<|z3 ?_
 exact zz (fun _ d=>ac (QR (d.v rfl) (d.en 0 rfl) (d.w rfl) (by simp only[QH,Xh,aV,bo];rw[(d.en 12 rfl)];rfl) Qqj rfl) rfl)<|zN
 refine w6 ?_
 refine lc (V6 (Qa rfl) (Qn rfl) rfl (by first|omega|(simp only[ai,av,aB];omega)))<|w3 ?_
 have H:(((b.2.2++([word])).length:Int) - 1:Int)=(trI b word):=by
  (unfold trI;rw[QbY (Yn a (by omega)),ai];simp)
 exact fi_ [(3,10),(4,12),(5,7)] C ⟨(((congrArg (fun z_=>some (Ent.box 242 [dI z_,.ref 10,.ref 1,.ref 12,dS b.1.2.2.2,.ref 2,.ref 7])) (show (b.1.1.1:Int)=(ZC b word).1.1.1 by (rw[Ym (Yn a (by omega))];done)))).trans (congrArg (fun z_=>some (Ent.box 242 [dI ((ZC b word).1.1.1),.ref 10,.ref 1,.ref 12,dS z_,.ref 2,.ref 7])) (show (b.1.2.2.2:BA)=(ZC b word).1.2.2.2 by (rw[Ym (Yn a (by omega))];done)))),(Qg (by (rw[Ym (Yn a (by omega))];done))),(Qg (by (rw[Ym (Yn a (by omega))];done))),(Qg (by (rw[Ym (Yn a (by omega)),← QAS n r ‹_›];done))),(Qg (by (rw[Ym (Yn a (by omega))];done))),(Qg (by (rw[Ym (Yn a (by omega))];done))),trivial⟩ (h0:=by rw[H] <;> rfl)
 obtain ⟨cz,u⟩:=gs nm (((nm.size:Int) - 1).toNat)
 have E:=u
 apply dZ (i7 42 _ _ _ _ _ _ _ (io 49 (lI (nm.size:Int))::io 50 (lI ((nm.size:Int) - 1))::io 51 (lf (dS (nm.extract 0 ((nm.size:Int) - 1).toNat)))::io 52 (lI (Zj (fun x:Qs=>decide (x.1=(nm.extract 0 ((nm.size:Int) - 1).toNat))) b.1.2.1))::i2 53 _ _ [io 55 (lI (nm.size:Int)),io 56 (lI ((nm.size:Int) - 1)),io 57 _,io 58 (lB (decide (cz=43))),io 59 (ag [dI (Zj (fun x:Qs=>decide (x.1=(nm.extract 0 ((nm.size:Int) - 1).toNat))) b.1.2.1),dB (decide (cz=43))]),⟨none,lf (.val undef),[bx 8 183 [dI (Zj (fun x:Qs=>decide (x.1=(nm.extract 0 ((nm.size:Int) - 1).toNat))) b.1.2.1),dB (decide (cz=43))]]⟩])) [0,0,0,0,0,31,63,63,63,31,0,2047,4095,4095,4095,2047,2047,0,0]
 refine z7 ?_
 refine zz (fun _ d=>ac (QcL (d.v rfl) rfl Yd) rfl)<|zz (fun _ d=>ac (V6 (d.v rfl) (Qn rfl) rfl (by first|omega|(simp only[ai,av,aB];omega))) rfl)<|zz (fun _ d=>ac (show Does _ _ _ _ (St.put _ 51 (lf (dS (nm.extract 0 ((nm.size:Int) - 1).toNat)))) from QT (l:=none) (h:=(some ((nm.size:Int) - 1))) (d.v rfl) (by exact trivial) (by exact (d.v rfl)) Yd rfl (by first|omega|(simp only[aq,ap];omega)) (by first|omega|(simp only[aq,ap];omega)) (by first|omega|(simp only[aq,ap];omega))) rfl)<|zz (fun _ d=>ac (dB_ (Qdj b.1.2.1 (nm.extract 0 ((nm.size:Int) - 1).toNat)) Qno) rfl)<|z2 ?_
 refine zz (fun _ d=>ac (QcL (d.v rfl) rfl Yd) rfl)<|zz (fun _ d=>ac (V6 (d.v rfl) (Qn rfl) rfl (by first|omega|(simp only[ai,av,aB];omega))) rfl)<|z_ ?_
 exact zz (fun _ d=>ac (Zf (d.v rfl) (QS 43 rfl) rfl) rfl)<|zz (fun _ d=>ac (Qh Qaf ⟨_,_,rfl,(d.w rfl),⟨_,_,rfl,(d.w rfl),rfl⟩⟩ (ao.1 rfl) rfl rfl) rfl)<|y1
 refine w8 ?_
 refine lc (Qh QeD rfl (ao.1 rfl) rfl rfl)<|lc (dBs 13 (e:=Zu) JE (hab:=by exact ⟨_,_,_,_,rfl,⟨[.val (.slice none 0 0)],[.val (.slice none 0 0)],_,_,_,_,rfl,rfl,(.inr ⟨rfl,rfl,rfl⟩),(.inr ⟨rfl,rfl,rfl⟩),rfl⟩,⟨rfl,rfl⟩,rfl⟩))<|lc (dA 14 QeG)<|w6 ?_
 apply dW (i7 74 _ _ _ _ _ _ _ (⟨some 81,lR 15,[ar 15 183 Q0 ([(Zj (fun x:Qs=>decide (x.1=(nm.extract 0 ((nm.size:Int) - 1).toNat))) b.1.2.1,decide (cz=43))])]⟩::⟨some 82,lR 16,[ar 16 183 Q0 (b.1.2.2.1++([(Zj (fun x:Qs=>decide (x.1=(nm.extract 0 ((nm.size:Int) - 1).toNat))) b.1.2.1,decide (cz=43))])),(4,none),(15,none)]⟩::i3 83 _ _ _ [⟨none,lf (.val undef),[bx 0 242 [dI b.1.1.1,.ref 14,.ref 1,.ref 16,dS b.1.2.2.2,.ref 2,.ref 7]]⟩])) [0,1,1,1,1,1,63,63,1,0,0,0,0]
 refine z7 ?_
 refine zz (fun _ d=>ac (dBs 15 (e:=Q0) Vh (hab:=by exact ⟨_,_,_,_,rfl,⟨[dI (Zj (fun x:Qs=>decide (x.1=(nm.extract 0 ((nm.size:Int) - 1).toNat))) b.1.2.1)],[dB (decide (cz=43))],_,_,_,_,rfl,rfl,⟨rfl,rfl⟩,⟨rfl,rfl⟩,rfl⟩,⟨rfl,rfl⟩,rfl⟩)) rfl)<|zz (fun _ d=>ac (dA 16 Qca) rfl)<|z3 ?_
 exact zz (fun _ d=>ac (QR (d.v rfl) (d.en 0 rfl) (d.w rfl) (by simp only[QH,Xh,aV,bo];rw[(d.en 16 rfl)];rfl) Qqj rfl) rfl)<|zN
 refine w6 ?_
 refine lc (V6 (Qa rfl) (Qn rfl) rfl (by first|omega|(simp only[ai,av,aB];omega)))<|w3 ?_
 have A:(((b.2.2++([word])).length:Int) - 1:Int)=(trI b word):=by
  (unfold trI;rw[QbY (Yn a (by omega)),ai];simp)
 exact fi_ [(3,14),(4,16),(5,7)] C ⟨(((congrArg (fun z_=>some (Ent.box 242 [dI z_,.ref 14,.ref 1,.ref 16,dS b.1.2.2.2,.ref 2,.ref 7])) (show (b.1.1.1:Int)=(ZC b word).1.1.1 by (rw[Ym (Yn a (by omega))];done)))).trans (congrArg (fun z_=>some (Ent.box 242 [dI ((ZC b word).1.1.1),.ref 14,.ref 1,.ref 16,dS z_,.ref 2,.ref 7])) (show (b.1.2.2.2:BA)=(ZC b word).1.2.2.2 by (rw[Ym (Yn a (by omega))];done)))),(Qg (by (rw[Ym (Yn a (by omega))];done))),(Qg (by (rw[Ym (Yn a (by omega))];done))),(Qg (by (rw[Ym (Yn a (by omega)),← QAR n r ‹_› E];done))),(Qg (by (rw[Ym (Yn a (by omega))];done))),(Qg (by (rw[Ym (Yn a (by omega))];done))),trivial⟩ (h0:=by rw[A] <;> rfl)
 have q:=aa o
 refine w7 ?_
 obtain ⟨x,j⟩:=gx b.2.2 k
 have f:=j
 refine w9 ?_
 cases g:(decide (x=word))
 have m:=ab g
 refine w4 ?_
 refine lc (V5 (Qa rfl) (Qn rfl) rfl (by first|omega|(simp only[ai,av,aB];omega)))<|w_ ?_
 exact Qc<|lK_ (a.step j (aj ‹_›))<|wo []
 have m:=aa g
 refine w6 ?_
 have B:((k:Int):Int)=(trI b word):=by
  exact Qtc a f ‹_›
 exact fi_ [] C ⟨(((congrArg (fun z_=>some (Ent.box 242 [dI z_,.ref 3,.ref 1,.ref 4,dS b.1.2.2.2,.ref 2,.ref 5])) (show (b.1.1.1:Int)=(ZC b word).1.1.1 by (rw[VY (Xx f ‹_›)];done)))).trans (congrArg (fun z_=>some (Ent.box 242 [dI ((ZC b word).1.1.1),.ref 3,.ref 1,.ref 4,dS z_,.ref 2,.ref 5])) (show (b.1.2.2.2:BA)=(ZC b word).1.2.2.2 by (rw[VY (Xx f ‹_›)];done)))),(Qg (by (rw[VY (Xx f ‹_›)];done))),(Qg (by (rw[VY (Xx f ‹_›)];done))),(Qg (by (rw[VY (Xx f ‹_›)];done))),(Qg (by (rw[VY (Xx f ‹_›)];done))),(Qg (by (rw[VY (Xx f ‹_›)];done))),trivial⟩ (h0:=by rw[B] <;> rfl)
section
variable {text tx fr to_ nm:BA}{c c0:UInt8}{b b1:DB}{p:Int}
def QBg (h:okA text=true):1≤text.size∧2≤(ZS (QaC text) 62).length∧(1≤(X1 text 0).size∧(b0 (X1 text 0)=95∨1≤(Qct (X1 text 0)).size))∧1≤(X1 text 1).size∧(b0 (X1 text 1)=95∨1≤(Qct (X1 text 1)).size):=by
 unfold okA okW at h
 simp only[aH,ci,aY] at h
 exact ⟨h.1,h.2.1,h.2.2.1,h.2.2.2⟩
def WC (a:text[(0:Int).toNat]? =some c):b0 text=c:=by unfold b0;rw[show text[0]? =some c from a];rfl
def QCM (a:text[(0:Int).toNat]? =some c)(h:c=42):text.extract (1:Int).toNat text.size=QaC text:=by unfold QaC;rw[WC a,if_pos h];rfl
def QCL (a:text[(0:Int).toNat]? =some c)(h:¬c=42):text=QaC text:=by unfold QaC;rw[WC a,if_neg h]
def Y8 {k:Nat}(a:tx=QaC text)(h:(ZS tx 62)[k]? =some fr):X1 text k=fr:=by unfold X1;rw[← a,h];rfl
def Qzt (a:X1 text 1=to_)(d:to_[(0:Int).toNat]? =some c)(h:c=95):to_=Qcs text:=by unfold Qcs;rw[a,WC d,if_pos h]
def QDO (d:X1 text 1=to_)(f:to_[(0:Int).toNat]? =some c)(h:¬c=95)(h0:X1 text 0=fr)(a:fr[(0:Int).toNat]? =some c0)(e:c0=95):fr=Qcs text:=by unfold Qcs;rw[d,WC f,if_neg h,h0,WC a,if_pos e]
def QDP (d:X1 text 1=to_)(f:to_[(0:Int).toNat]? =some c)(h:¬c=95)(h0:X1 text 0=fr)(a:fr[(0:Int).toNat]? =some c0)(e:¬c0=95)(g:tx=QaC text):tx=Qcs text:=by unfold Qcs;rw[d,WC f,if_neg h,h0,WC a,if_neg e,g]
def QCA (h0:X1 text 0=fr)(a:fr[(0:Int).toNat]? =some c0)(h:c0=95):b=ar1 p b text:=by unfold ar1;rw[h0,WC a,if_pos h]
def QCC (h0:X1 text 1=to_)(a:to_[(0:Int).toNat]? =some c0)(h:c0=95):b=ar2 p b text:=by unfold ar2;rw[h0,WC a,if_pos h]
def QCB (h0:X1 text 0=fr)(a:fr[(0:Int).toNat]? =some c0)(h:¬c0=95):((((ZC b fr).1.1.1,QgN (ZC b fr).1.1.2 (trI b fr) p),(ZC b fr).1.2.1,(ZC b fr).1.2.2.1,(ZC b fr).1.2.2.2),(ZC b fr).2.1,(ZC b fr).2.2)=ar1 p b text:=by unfold ar1;rw[h0,WC a,if_neg h]
def QCD (h0:X1 text 1=to_)(a:to_[(0:Int).toNat]? =some c0)(h:¬c0=95):((((ZC b to_).1.1.1,QgO (ZC b to_).1.1.2 (trI b to_) p),(ZC b to_).1.2.1,(ZC b to_).1.2.2.1,(ZC b to_).1.2.2.2),(ZC b to_).2.1,(ZC b to_).2.2)=ar2 p b text:=by unfold ar2;rw[h0,WC a,if_neg h]
def QjQ {k:Nat}(e:tx=QaC text)(a:(ZS tx 62)[k]? =some fr)(j:text.size≤1000)(d:b0 (X1 text k)=95∨1≤(Qct (X1 text k)).size)(g:fr[(0:Int).toNat]? =some c)(h:¬c=95):fr.size≤1000∧1≤(Qct fr).size:=by
 have f:=QbK (ah a)
 have i:(QaC text).size≤text.size:=by unfold QaC;split;simp only[aR];omega;exact aP _
 rw[Y8 e a,WC g] at d
 rw[e] at f
 exact ⟨by omega,d.resolve_left h⟩
def QlX {a:DB}(f:text[(0:Int).toNat]? =some c)(h:¬c=42)(g:nm=Qcs text)(d:b1=ar1 (plI b nm) (plV b nm) text)(e:a=ar2 (plI b nm) b1 text):arV b text=a:=by
 rw[e,d,g];unfold arV;dsimp only;rw[WC f,if_neg h]
def QlY {a:DB}(f:text[(0:Int).toNat]? =some c)(h:c=42)(g:nm=Qcs text)(d:b1=ar1 (plI b nm) (plV b nm) text)(e:a=ar2 (plI b nm) b1 text):arV b text=((a.1.1,a.1.2.1,a.1.2.2.1,QvC a.1.2.2.2 (plI b nm)),a.2.1,a.2.2):=by
 rw[e,d,g];unfold arV;dsimp only;rw[WC f,if_pos h]
def Qtp:(QaC text).size≤text.size:=by unfold QaC;split;simp only[aR];omega;exact aP _
end
theorem Qel (b:DB)(text:BA)(B:Nat)(X:DBJ b B (2*B) (2*B))(hn:B≤1000)(ht:okA text=true)(Y:text.size≤1000):FC prog 192 [(false,[.ptr 0 0]),(false,[dS text])] [bx 0 242 [dI b.1.1.1,.ref 2,.ref 1,.ref 3,dS b.1.2.2.2,.ref 4,.ref 5],ar 2 290 Zu b.1.1.2,ar 1 103 QG b.1.2.1,ar 3 183 Q0 b.1.2.2.1,ar 4 9 .str b.2.1,ar 5 9 .str b.2.2] 2 (Is (PV.tup []) [bx 0 242 [dI ((arV b text).1.1.1),.ref 2,.ref 1,.ref 3,dS ((arV b text).1.2.2.2),.ref 4,.ref 5],ar 2 290 Zu ((arV b text).1.1.2),ar 1 103 QG ((arV b text).1.2.1),ar 3 183 Q0 ((arV b text).1.2.2.1),ar 4 9 .str ((arV b text).2.1),ar 5 9 .str ((arV b text).2.2)]):=by
 obtain ⟨c4,a3,⟨O,P⟩,Q,R⟩:=QBg ht
 have b0:=Qtp (text:=text)
 have b3:=X.p0
 have b4:=X.pl
 have b5:=X.st
 refine Ql func192 rfl rfl ntmps192 fun O_ hO c7 a7 X_ a9 a8=>w2 ?_
 obtain ⟨U,a0⟩:=gs text ((0:Int).toNat)
 have i:=a0
 refine w_ ?_
 refine lc (Zf (Qa rfl) (QS 42 rfl) rfl)<|w2 ?_
 refine Xc (fun A=>∃(tx:BA),(tx=QaC text)∧A=⟨[(0,lP 0 0),(1,lf (dS tx)),(4,lB (decide (U=42)))],[bx 0 242 [dI b.1.1.1,.ref 2,.ref 1,.ref 3,dS b.1.2.2.2,.ref 4,.ref 5],ar 1 103 QG b.1.2.1,ar 2 290 Zu b.1.1.2,ar 3 183 Q0 b.1.2.2.1,ar 4 9 .str b.2.1,ar 5 9 .str b.2.2]⟩) ?_ fun J3=> ?_
 rintro A ⟨tx,n,rfl⟩
 have c6:2≤(ZS tx 62).length:=by rw[n];exact a3
 refine w2 ?_
 refine lc (Kg (VG tx 62 (by rw[n];omega)).frozen Qbg ⟨_,_,rfl,(Qm rfl),⟨_,_,rfl,(Evl.ev (QS 62 rfl)),rfl⟩⟩ rfl rfl)<|w2 ?_
 obtain ⟨fr,F⟩:=gx (ZS tx 62) 0
 have w:=F
 have a6:1≤fr.size:=by first|(rw[← Y8 (k:=0) n F];exact O)|(rw[← Y8 (k:=1) n F];exact Q)
 obtain ⟨to_,G⟩:=gx (ZS tx 62) 1
 have m:=G
 have a4:1≤to_.size:=by first|(rw[← Y8 (k:=0) n G];exact O)|(rw[← Y8 (k:=1) n G];exact Q)
 apply dW (i6 20 _ _ _ _ _ _ (i2 6 _ _ [])) [0,0,0,7,7,7,56,0]
 exact y8
 refine Qj6 (fun A=>∃(nm:BA),(nm=Qcs text)∧A=⟨[(0,lP 0 0),(4,lB (decide (U=42))),(6,lf (dS fr)),(7,lf (dS to_)),(8,lf (dS nm))],[bx 0 242 [dI b.1.1.1,.ref 2,.ref 1,.ref 3,dS b.1.2.2.2,.ref 4,.ref 5],ar 1 103 QG b.1.2.1,ar 2 290 Zu b.1.1.2,ar 3 183 Q0 b.1.2.2.1,ar 4 9 .str b.2.1,ar 5 9 .str b.2.2]⟩) ?_ fun W=> ?_
 rintro A ⟨nm,u,rfl⟩
 have H:=X.pl_ (name:=nm)
 have b9:=H.tr
 have c1:=H.la
 have c2:=H.ws
 have c5:=QpO (b:=b) (name:=nm)
 refine w3 ?_
 refine lc (dP 6 [(1,2),(2,1),(4,5),(5,4)] (Qcl b nm (by omega) (by omega)) Qne)<|w2 ?_
 refine Xc (fun A=>∃(b1:((Int×(List (List Int×List Int)))×(List (BA×Int))×(List (Int×Bool))×BA)×List BA×List BA),(b1=ar1 (plI b nm) (plV b nm) text)∧A=⟨[(0,lP 0 0),(4,lB (decide (U=42))),(7,lf (dS to_)),(9,lI (plI b nm))],[bx 0 242 [dI b1.1.1.1,.ref 12,.ref 1,.ref 13,dS b1.1.2.2.2,.ref 14,.ref 15],ar 1 103 QG b1.1.2.1,ar 12 290 Zu b1.1.1.2,ar 13 183 Q0 b1.1.2.2.1,ar 14 9 .str b1.2.1,ar 15 9 .str b1.2.2]⟩) ?_ fun J9=> ?_
 rintro A ⟨b1,f,rfl⟩
 have x:DBJ b1 (B+1) (2*B+1) (2*B+1):=by rw[f];exact H.ar1_
 have b6:=x.tr
 have b7:=x.la
 have b8:=x.ws
 refine Xc (fun A=>∃(d:((Int×(List (List Int×List Int)))×(List (BA×Int))×(List (Int×Bool))×BA)×List BA×List BA),(d=ar2 (plI b nm) b1 text)∧A=⟨[(0,lP 0 0),(4,lB (decide (U=42))),(9,lI (plI b nm))],[bx 0 242 [dI d.1.1.1,.ref 16,.ref 1,.ref 17,dS d.1.2.2.2,.ref 18,.ref 19],ar 1 103 QG d.1.2.1,ar 16 290 Zu d.1.1.2,ar 17 183 Q0 d.1.2.2.1,ar 18 9 .str d.2.1,ar 19 9 .str d.2.2]⟩) ?_ fun I=> ?_
 rintro A ⟨d,g,rfl⟩
 have Z:DBJ d (B+1) (2*B+2) (2*B+2):=by rw[g];exact x.ar2_
 have T:=Z.st
 have S:d.2.1=(plV b nm).2.1:=by rw[g,Qs7,f,Qs6]
 rw[S] at T
 have c3:=H.pl
 refine w3 ?_
 refine cd_ (fun _ _=> ?_) fun _ _=> ?_
 refine w_ ?_
 refine (?_:fin _ _ _ _ .normal _)
 exact fi_ [(2,16),(3,17),(4,18),(5,19)] hO ⟨(((congrArg (fun z_=>some (Ent.box 242 [dI z_,.ref 16,.ref 1,.ref 17,dS d.1.2.2.2,.ref 18,.ref 19])) (show (d.1.1.1:Int)=(arV b text).1.1.1 by (rw[QlX i ‹_› u f g];done)))).trans (congrArg (fun z_=>some (Ent.box 242 [dI ((arV b text).1.1.1),.ref 16,.ref 1,.ref 17,dS z_,.ref 18,.ref 19])) (show (d.1.2.2.2:BA)=(arV b text).1.2.2.2 by (rw[QlX i ‹_› u f g];done)))),(Qg (by (rw[QlX i ‹_› u f g];done))),(Qg (by (rw[QlX i ‹_› u f g];done))),(Qg (by (rw[QlX i ‹_› u f g];done))),(Qg (by (rw[QlX i ‹_› u f g];done))),(Qg (by (rw[QlX i ‹_› u f g];done))),trivial⟩
 apply dV (i7 93 _ _ _ _ _ _ _ (io 100 (lf (dS (d.1.2.2.2.extract 0 (plI b nm).toNat)))::io 101 (lf (dS ((d.1.2.2.2.extract 0 (plI b nm).toNat)++(⟨#[49]⟩:BA))))::i7 102 _ _ _ _ _ _ _ (io 109 (lf (dS (d.1.2.2.2.extract ((plI b nm)+1).toNat d.1.2.2.2.size)))::io 110 (lf (dS (((d.1.2.2.2.extract 0 (plI b nm).toNat)++(⟨#[49]⟩:BA))++(d.1.2.2.2.extract ((plI b nm)+1).toNat d.1.2.2.2.size))))::i3 111 _ _ _ [⟨none,lf (.val undef),[bx 0 242 [dI d.1.1.1,.ref 16,.ref 1,.ref 17,dS (((d.1.2.2.2.extract 0 (plI b nm).toNat)++(⟨#[49]⟩:BA))++(d.1.2.2.2.extract ((plI b nm)+1).toNat d.1.2.2.2.size)),.ref 18,.ref 19]]⟩]))) [0,1,1,1,1,1,63,1,1,511,511,511,511,511,16383,16383,511,1,0,0,0,0]
 refine z7 ?_
 refine zz (fun _ a=>ac (show Does _ _ _ _ (St.put _ 100 (lf (dS (d.1.2.2.2.extract 0 (plI b nm).toNat)))) from QT (l:=none) (h:=(some (plI b nm))) (a.v rfl) (by exact trivial) (by exact (a.v rfl)) Yd rfl (by first|omega|(simp only[aq,ap];omega)) (by first|omega|(simp only[aq,ap];omega)) (by first|omega|(simp only[aq,ap];omega))) rfl)<|zz (fun _ a=>ac (QX (a.v rfl) (Evl.str rfl) rfl (by (simp only[aE,aR,ZJ];omega))) rfl)<|z7 ?_
 exact zz (fun _ a=>ac (show Does _ _ _ _ (St.put _ 109 (lf (dS (d.1.2.2.2.extract ((plI b nm)+1).toNat d.1.2.2.2.size)))) from QT (l:=(some ((plI b nm)+1))) (h:=none) (a.v rfl) (by exact (a.v rfl)) (by exact trivial) Yd rfl (by first|omega|(simp only[aq,ap];omega)) (by first|omega|(simp only[aq,ap];omega)) (by first|omega|(simp only[aq,ap];omega))) rfl)<|zz (fun _ a=>ac (QX (a.v rfl) (a.v rfl) rfl (by (simp only[aE,aR,ZJ];omega))) rfl)<|y4
 refine (?_:fin _ _ _ _ .normal _)
 exact fi_ [(2,16),(3,17),(4,18),(5,19)] hO ⟨(((congrArg (fun z_=>some (Ent.box 242 [dI z_,.ref 16,.ref 1,.ref 17,dS (((d.1.2.2.2.extract 0 (plI b nm).toNat)++(⟨#[49]⟩:BA))++(d.1.2.2.2.extract ((plI b nm)+1).toNat d.1.2.2.2.size)),.ref 18,.ref 19])) (show (d.1.1.1:Int)=(arV b text).1.1.1 by (rw[QlY i ‹_› u f g];done)))).trans (congrArg (fun z_=>some (Ent.box 242 [dI ((arV b text).1.1.1),.ref 16,.ref 1,.ref 17,dS z_,.ref 18,.ref 19])) (show (((d.1.2.2.2.extract 0 (plI b nm).toNat)++(⟨#[49]⟩:BA))++(d.1.2.2.2.extract ((plI b nm)+1).toNat d.1.2.2.2.size):BA)=(arV b text).1.2.2.2 by (rw[QlY i ‹_› u f g];rfl)))),(Qg (by (rw[QlY i ‹_› u f g];done))),(Qg (by (rw[QlY i ‹_› u f g];done))),(Qg (by (rw[QlY i ‹_› u f g];done))),(Qg (by (rw[QlY i ‹_› u f g];done))),(Qg (by (rw[QlY i ‹_› u f g];done))),trivial⟩
 refine w3 ?_
 obtain ⟨V,J⟩:=gs to_ ((0:Int).toNat)
 have j:=J
 refine w_ ?_
 refine lc (QW (Qa rfl) (QS 95 rfl) rfl)<|w_ ?_
 refine cn_ (fun _ _=> ?_) fun _ _=> ?_
 refine w_ ?_
 exact Yf (I _ ⟨b1,(by exact QCC (Y8 n m) j ‹_›),rfl⟩)<|wo [(16,12),(17,13),(18,14),(19,15)]
 refine w3 ?_
 refine lc (dP 20 [(2,14),(3,12),(4,13),(5,15)] (UU b1 to_ (by first|exact QjQ n w Y P o ‹_› | exact QjQ n m Y R j ‹_›) (by omega)) QfP)<|w2 ?_
 have z:=x.tr_ (word:=to_)
 have a2:=z.tr
 have a1:=Qqh (b:=b1) (word:=to_)
 obtain ⟨y,D⟩:=gx ((ZC b1 to_).1.1.2) ((trI b1 to_).toNat)
 have C:=(Qkw D).2
 have a5:=z.inn y (ah D)
 have r:(trI b1 to_).toNat*2+0<(Zh Zu ((ZC b1 to_).1.1.2)).length:=by rw[Wn];exact QGs (by omega)
 refine AC.wk (Qab (q:=23) rfl (by omega))<|AC.wk (V1 26 (q:=23) (p:=(trI b1 to_).toNat*2+0) (E':=3) (e':= .int) (ys:=y.1) rfl (C) (Fresh.of rfl) (aD rfl)) ?_
 apply dZ (i9 71 _ _ _ _ _ _ _ _ _ (i5 80 _ _ _ _ _ [io 85 (lf (.ept 23 2 ((trI b1 to_).toNat) 0)),io 86 (lf (.ept 23 2 ((trI b1 to_).toNat) 0)),io 87 (lR 26),io 88 _,⟨some 89,lR 27,[ar 27 3 .int (Zc ltI (plI b nm) y.1),(26,none)]⟩,io 90 (lf (.ept 23 2 ((trI b1 to_).toNat) 0)),io 91 (lf (.ept 23 2 ((trI b1 to_).toNat) 0)),⟨none,lf (.val undef),[(23,some (.obx 290 2 (((ZC b1 to_).1.1.2).length) (Zh Zu ((ZC b1 to_).1.1.2)) [((trI b1 to_).toNat*2+0,.ref 27),((trI b1 to_).toNat*2+0,.ref 26)]))]⟩])) [0,0,0,0,0,0,63,127,127,127,127,127,127,8191,127,127,127,131071,127,0,0,0]
 refine z14 ?_
 refine zz (fun _ a=>ac (ZW (a.v rfl) (a.en 23 rfl) (a.v rfl) Qat Qas rfl (by omega) (by omega)) rfl)<|zz (fun _ a=>ac (Zd (a.v rfl) Qh3 (by rw[(a.en 23 rfl)];rfl) rfl) rfl)<|zz (fun _ a=>ac (Y4 (a.v rfl) (a.en 23 rfl) (by simp only[ovr,bp,ax,r,C,dc,if_true,if_false,↓reduceIte]) (a.en 26 rfl) VK rfl) rfl)<|z_ ?_
 exact zz (fun _ a=>ac (dP 27 [(0,26)] (QaR y.1 (plI b nm) (by omega)) QfQ) rfl)<|zz (fun _ a=>ac (ZW (a.v rfl) (a.en 23 rfl) (a.v rfl) Qat Qas rfl (by omega) (by omega)) rfl)<|zz (fun _ a=>ac (Zd (a.v rfl) Qh3 (by rw[(a.en 23 rfl)];rfl) rfl) rfl)<|zz (fun _ a=>ac (Hb (t:=26) (a.v rfl) (a.en 23 rfl) (by simp only[ovr,bp,ax,r,C,dc,if_true,if_false,↓reduceIte]) (a.v rfl) (a.en 27 rfl) VK) rfl)<|zN
 exact Yf (I _ ⟨((((ZC b1 to_).1.1.1,QgO ((ZC b1 to_).1.1.2) (trI b1 to_) (plI b nm)),(ZC b1 to_).1.2.1,(ZC b1 to_).1.2.2.1,(ZC b1 to_).1.2.2.2),(ZC b1 to_).2.1,(ZC b1 to_).2.2),(by exact QCD (Y8 n m) j ‹_›),rfl⟩)<|Wk.trans (Vp (q:=23) (t:=27) (p:=(trI b1 to_).toNat*2+0) rfl (by simp only[ovr,bp,ax,r,C,dc,if_true,if_false,↓reduceIte]) rfl)<|Wk.trans (Vo (q:=23) (e:=Zu) (QgO ((ZC b1 to_).1.1.2) (trI b1 to_) (plI b nm)) rfl (by simp[QgO]) (by simp only[ovr];rw[cM,cM,Ql4 D,Qr0 D]))<|wp [(16,23),(17,24),(18,14),(19,25)] ⟨rfl,(Qg (by first|rfl|simp)),(Qg (by first|rfl|simp)),(Qg (by first|rfl|simp)),(Qg (by first|rfl|simp)),(Qg (by first|rfl|simp)),trivial⟩
 refine w3 ?_
 obtain ⟨fc,K⟩:=gs fr ((0:Int).toNat)
 have o:=K
 refine w_ ?_
 refine lc (QW (Qa rfl) (QS 95 rfl) rfl)<|w_ ?_
 refine cn_ (fun _ _=> ?_) fun _ _=> ?_
 refine w_ ?_
 exact Yf (J9 _ ⟨(plV b nm),(by exact QCA (Y8 n w) o ‹_›),rfl⟩)<|wo [(12,2),(13,3),(14,11),(15,5)]
 refine w3 ?_
 refine lc (dP 28 [(2,11),(3,2),(4,3)] (UU (plV b nm) fr (by first|exact QjQ n w Y P o ‹_› | exact QjQ n m Y R j ‹_›) (by omega)) QfP)<|w2 ?_
 have z:=H.tr_ (word:=fr)
 have a2:=z.tr
 have a1:=Qqh (b:=plV b nm) (word:=fr)
 obtain ⟨y,D⟩:=gx ((ZC (plV b nm) fr).1.1.2) ((trI (plV b nm) fr).toNat)
 have C:=(Qkw D).1
 have a5:=z.inn y (ah D)
 have r:(trI (plV b nm) fr).toNat*2+1<(Zh Zu ((ZC (plV b nm) fr).1.1.2)).length:=by rw[Wn];exact QGt (by omega)
 refine AC.wk (Qab (q:=31) rfl (by omega))<|AC.wk (V1 34 (q:=31) (p:=(trI (plV b nm) fr).toNat*2+1) (E':=3) (e':= .int) (ys:=y.2) rfl (C) (Fresh.of rfl) (aD rfl)) ?_
 apply dZ (i9 44 _ _ _ _ _ _ _ _ _ (i5 53 _ _ _ _ _ [io 58 (lf (.ept 31 2 ((trI (plV b nm) fr).toNat) 0)),io 59 (lf (.ept 31 2 ((trI (plV b nm) fr).toNat) 1)),io 60 (lR 34),io 61 _,⟨some 62,lR 35,[ar 35 3 .int (Zc ltI (plI b nm) y.2),(34,none)]⟩,io 63 (lf (.ept 31 2 ((trI (plV b nm) fr).toNat) 0)),io 64 (lf (.ept 31 2 ((trI (plV b nm) fr).toNat) 1)),⟨none,lf (.val undef),[(31,some (.obx 290 2 (((ZC (plV b nm) fr).1.1.2).length) (Zh Zu ((ZC (plV b nm) fr).1.1.2)) [((trI (plV b nm) fr).toNat*2+1,.ref 35),((trI (plV b nm) fr).toNat*2+1,.ref 34)]))]⟩])) [0,0,0,0,0,0,63,127,127,127,127,127,127,8191,127,127,127,131071,127,0,0,0]
 refine z14 ?_
 refine zz (fun _ a=>ac (ZW (a.v rfl) (a.en 31 rfl) (a.v rfl) Qat Qas rfl (by omega) (by omega)) rfl)<|zz (fun _ a=>ac (Zd (a.v rfl) Qh4 (by rw[(a.en 31 rfl)];rfl) rfl) rfl)<|zz (fun _ a=>ac (Y4 (a.v rfl) (a.en 31 rfl) (by simp only[ovr,bp,ax,r,C,dc,if_true,if_false,↓reduceIte]) (a.en 34 rfl) VK rfl) rfl)<|z_ ?_
 exact zz (fun _ a=>ac (dP 35 [(0,34)] (QaR y.2 (plI b nm) (by omega)) QfQ) rfl)<|zz (fun _ a=>ac (ZW (a.v rfl) (a.en 31 rfl) (a.v rfl) Qat Qas rfl (by omega) (by omega)) rfl)<|zz (fun _ a=>ac (Zd (a.v rfl) Qh4 (by rw[(a.en 31 rfl)];rfl) rfl) rfl)<|zz (fun _ a=>ac (Hb (t:=34) (a.v rfl) (a.en 31 rfl) (by simp only[ovr,bp,ax,r,C,dc,if_true,if_false,↓reduceIte]) (a.v rfl) (a.en 35 rfl) VK) rfl)<|zN
 exact Yf (J9 _ ⟨((((ZC (plV b nm) fr).1.1.1,QgN ((ZC (plV b nm) fr).1.1.2) (trI (plV b nm) fr) (plI b nm)),(ZC (plV b nm) fr).1.2.1,(ZC (plV b nm) fr).1.2.2.1,(ZC (plV b nm) fr).1.2.2.2),(ZC (plV b nm) fr).2.1,(ZC (plV b nm) fr).2.2),(by exact QCB (Y8 n w) o ‹_›),rfl⟩)<|Wk.trans (Vp (q:=31) (t:=35) (p:=(trI (plV b nm) fr).toNat*2+1) rfl (by simp only[ovr,bp,ax,r,C,dc,if_true,if_false,↓reduceIte]) rfl)<|Wk.trans (Vo (q:=31) (e:=Zu) (QgN ((ZC (plV b nm) fr).1.1.2) (trI (plV b nm) fr) (plI b nm)) rfl (by simp[QgN]) (by simp only[ovr];rw[cM,cM,Ql5 D,QrZ D]))<|wp [(12,31),(13,32),(14,11),(15,33)] ⟨rfl,(Qg (by first|rfl|simp)),(Qg (by first|rfl|simp)),(Qg (by first|rfl|simp)),(Qg (by first|rfl|simp)),(Qg (by first|rfl|simp)),trivial⟩
 refine w7 ?_
 obtain ⟨fc,L⟩:=gs fr ((0:Int).toNat)
 have o:=L
 refine w_ ?_
 refine lc (Zf (Qa rfl) (QS 95 rfl) rfl)<|w_ ?_
 refine cd_ (fun _ _=> ?_) fun _ _=> ?_
 refine w4 ?_
 obtain ⟨V,M⟩:=gs to_ ((0:Int).toNat)
 have j:=M
 refine w_ ?_
 refine lc (Zf (Qa rfl) (QS 95 rfl) rfl)<|w_ ?_
 refine cd_ (fun _ _=> ?_) fun _ _=> ?_
 refine w_ ?_
 exact Yf (W _ ⟨tx,(by exact QDP (Y8 n m) j ‹_› (Y8 n w) o ‹_› n),rfl⟩)<|wo []
 refine w4 ?_
 exact Yf (W _ ⟨to_,(by exact Qzt (Y8 n m) j ‹_›),rfl⟩)<|wo []
 refine w7 ?_
 obtain ⟨V,N⟩:=gs to_ ((0:Int).toNat)
 have j:=N
 refine w_ ?_
 refine lc (Zf (Qa rfl) (QS 95 rfl) rfl)<|w_ ?_
 refine cd_ (fun _ _=> ?_) fun _ _=> ?_
 refine w_ ?_
 exact Yf (W _ ⟨fr,(by exact QDO (Y8 n m) j ‹_› (Y8 n w) o ‹_›),rfl⟩)<|wo []
 refine w4 ?_
 exact Yf (W _ ⟨to_,(by exact Qzt (Y8 n m) j ‹_›),rfl⟩)<|wo []
 refine w4 ?_
 cases s:(decide (U=42))
 have E:=ab s
 refine w2 ?_
 exact Yf (J3 _ ⟨text,(by exact QCL i ‹_›),rfl⟩)<|Wk.of [] rfl ⟨rfl,rfl,(congrArg (fun z_=>some (lB z_)) ((s).symm)),trivial⟩ ⟨rfl,rfl,rfl,rfl,rfl,rfl,trivial⟩ rfl rfl
 have E:=aa s
 refine w3 ?_
 refine lc (show Does _ _ _ _ (St.put _ 17 (lf (dS (text.extract (1:Int).toNat text.size)))) from QT (l:=(some 1)) (h:=none) (Qa rfl) (by exact (Qn rfl)) (by exact trivial) Yd rfl (by first|omega|(simp only[aq,ap];omega)) (by first|omega|(simp only[aq,ap];omega)) (by first|omega|(simp only[aq,ap];omega)))<|w2 ?_
 exact Yf (J3 _ ⟨(text.extract (1:Int).toNat text.size),(by exact QCM i ‹_›),rfl⟩)<|Wk.of [] rfl ⟨rfl,rfl,(congrArg (fun z_=>some (lB z_)) ((s).symm)),trivial⟩ ⟨rfl,rfl,rfl,rfl,rfl,rfl,trivial⟩ rfl rfl
end Go.Proofs.YtjfpbcmfbnnooaaGreat
