/- Walks over abstract states: drawn graphs. -/
import Derived.Test.YtjaadeknhofhpaaGreatDi
import Derived.Test.YtjaadeknhofhpaaGreatDe
import Derived.Test.YtjaadeknhofhpaaGreatBu
set_option linter.unusedSimpArgs false
set_option linter.unusedVariables false
set_option linter.unusedSectionVars false
namespace Go.Proofs.YtjaadeknhofhpaaGreat
open Go.RowKit
set_option maxRecDepth 100000
set_option maxHeartbeats 4000000
section
variable {l:List ByteArray}{x:ByteArray}{j kd:Int}{i k:Nat}{g:List QJ}
theorem QlS:∀(l:List ByteArray) (j:Int),sgA (l++[x]) j=sgA l j++sgN x (j+(l.length:Int)) x.size
  | [],j=>by simp[sgA]
  | y :: l,j=>by
    rw[bR,sgA,sgA,QlS l (j+1),aM,ao]
    congr 3
    omega
theorem Qqp (hx:l[k]? =some x):sgA (l.take k) 1++sgN x ((k:Int)+1) x.size=sgA (l.take (k+1)) 1:=by
  have hk:=(ab.1 hx).1
  rw[QO hx,QlS,ak,show (1:Int)+((min k l.length:Nat):Int)=(k:Int)+1 by omega]
theorem Qqc:(g++sgN x kd i)++[(x.extract ((i:Nat):Int).toNat ((i:Int)+1).toNat,kd)]=g++sgN x kd (i+1):=by
  unfold sgN
  rw[bK,bh,aM,cM,show ((i:Int)+1).toNat=i+1 by omega]; rfl
end
theorem Q4 (ins:ByteArray)(outs:ByteArray)(inner:ByteArray)(arcs:ByteArray)(hk:(ZW arcs 32).all okA=true)(hs:arcs.size≤900∧ins.size≤100∧outs.size≤100∧inner.size≤100):FC Tryz.prog 259 [(false,[dS ins]),(false,[dS outs]),(false,[dS inner]),(false,[dS arcs])] [] 0 (Is (ag [dI (((QQ ins outs inner arcs).1).1), .ref 0, .ref 1, .ref 2,dS ((QQ ins outs inner arcs).2.2.2)]) [(0,some (.arr 198 Zw (((QQ ins outs inner arcs).1).2))),(1,some (.arr 90 QK ((QQ ins outs inner arcs).2.1))),(2,some (.arr 55 Qw ((QQ ins outs inner arcs).2.2.1)))]):=by
 have hsl:=Qnn (s:=arcs) (b:=32)
 have h3l:([ins,outs,inner]:List ByteArray).length=3:=rfl
 refine Qy Tryz.func259 rfl rfl Tryz.ntmps259 fun O_ hO w0_ N0_ X_ h0_ f0_=> ?_
 refine w_ ?_
 refine lc (xal 0 Qnz Qab) ?_
 iterate 2 refine w_ ?_
 refine lc (Qi Qrp rfl (ah.1 rfl) rfl rfl) ?_
 refine xbx 1 ?_
 iterate 7 refine w_ ?_
 refine lc (dBs 2 (e:= .str) U2) ?_
 iterate 4 refine w_ ?_
 refine AC.wk (Qv 3 (p:=1) (off:=2) 90 QK rfl rfl (Fresh.of rfl) (nlr rfl)) ?_
 refine Qm (fun m_ s_=>∃(k:Nat) (g1:List (ByteArray×Int)),k≤([ins,outs,inner]).length∧m_=([ins,outs,inner]).length - k∧(g1=sgA (([ins,outs,inner]:List ByteArray).take k) 1)∧(g1.length≤100*k)∧s_=⟨[(3,lf (dS arcs)),(8,lP 0 0),(9,lP 1 0),(20,lR 2),(21,lI (([ins,outs,inner]).length:Int)),(22,lI (k:Int))],[(0,some (.box 29 [dI 0, .val (.slice none 0 0), .val (.slice none 0 0), .val (.slice none 0 0),dS ByteArray.empty])),(1,some (.box 347 [dI 0, .val (.slice none 0 0), .ref 4, .val (.slice none 0 0),dS ByteArray.empty, .val (.slice none 0 0), .val (.slice none 0 0)])),(2,some (.arr 9 .str ([ins,outs,inner]))),(4,some (.arr 90 QK g1))]⟩) ⟨0,([]:(Qo:Ty).Den),ap _,rfl,rfl,(ap _),rfl⟩ ?_ ?_
 exact wp [(4,3)] ⟨rfl,rfl,rfl,(Qh (by first | rfl | simp)),trivial⟩
 rintro m_ s_ ⟨k,g1,hk1,hm2,hG,hL,rfl⟩
 iterate 4 refine w_ ?_
 cases hb3:(decide ((k:Int) < (([ins,outs,inner]).length:Int)))
 have hb3':=a6 hb3
 iterate 6 refine w_ ?_
 refine lc (JO (Vj arcs 32 (by omega)).frozen H7 ⟨_,_,rfl,(Qf rfl),⟨_,_,rfl,(Evl.ev (QB 32 rfl)),rfl⟩⟩ rfl rfl)<|AL.fact (Qp (x:= .tmp 54) (Qa rfl)) fun hl4=> ?_
 iterate 4 refine w_ ?_
 refine AC.wk (Qv 5 (p:=1) (off:=1) 198 Zw rfl rfl (Fresh.of rfl) (nlr rfl))<|AC.wk (Qv 6 (p:=1) (off:=3) 55 Qw rfl rfl (Fresh.of rfl) (nlr rfl))<|AC.wk (Qv 7 (p:=1) (off:=5) 9 .str rfl rfl (Fresh.of rfl) (nlr rfl))<|AC.wk (Qv 8 (p:=1) (off:=6) 9 .str rfl rfl (Fresh.of rfl) (nlr rfl)) ?_
 refine Qm (fun m_ s_=>∃(m:Nat) (bb:((Int×(List (List Int×List Int)))×(List (ByteArray×Int))×(List (Int×Bool))×ByteArray)×List ByteArray×List ByteArray),m≤(ZW arcs 32).length∧m_=(ZW arcs 32).length - m∧(bb=((ZW arcs 32).take m).foldl arV (((0,[]),g1,[],ByteArray.empty),[],[]))∧(DBJ bb m (2*m) (2*m))∧s_=⟨[(8,lP 0 0),(9,lP 1 0),(54,lf (.dat Qr (ZW arcs 32))),(55,lI ((ZW arcs 32).length:Int)),(56,lI (m:Int))],[(0,some (.box 29 [dI 0, .val (.slice none 0 0), .val (.slice none 0 0), .val (.slice none 0 0),dS ByteArray.empty])),(1,some (.box 347 [dI bb.1.1.1, .ref 9, .ref 10, .ref 11,dS bb.1.2.2.2, .ref 12, .ref 13])),(9,some (.arr 198 Zw bb.1.1.2)),(10,some (.arr 90 QK bb.1.2.1)),(11,some (.arr 55 Qw bb.1.2.2.1)),(12,some (.arr 9 .str bb.2.1)),(13,some (.arr 9 .str bb.2.2))]⟩) ⟨0,(((0,([]:(X3:Ty).Den)),g1,([]:(YQ:Ty).Den),ByteArray.empty),([]:(Qr:Ty).Den),([]:(Qr:Ty).Den)),ap _,rfl,rfl,(DBJ.zero _),rfl⟩ ?_ ?_
 exact wp [(9,5),(10,4),(11,6),(12,7),(13,8)] ⟨rfl,rfl,(Qh (by first | rfl | simp)),(Qh (by first | rfl | simp)),(Qh (by first | rfl | simp)),(Qh (by first | rfl | simp)),(Qh (by first | rfl | simp)),trivial⟩
 rintro m_ s_ ⟨m,bb,hk5,hm6,hB,hJ,rfl⟩
 iterate 4 refine w_ ?_
 cases hb7:(decide ((m:Int) < ((ZW arcs 32).length:Int)))
 have hb7':=a6 hb7
 iterate 11 refine w_ ?_
 subst hO
 have e8:(bb.1.1.1:Int)=(((QQ ins outs inner arcs).1).1):=by
  (rw[hB,QN (by omega),hG,QN (by omega)]; rfl)
 have e9:(bb.1.2.2.2:ByteArray)=((QQ ins outs inner arcs).2.2.2):=by
  (rw[hB,QN (by omega),hG,QN (by omega)]; rfl)
 exact QF _ _ [(0,9),(1,10),(2,11)] (Res.one rfl (Qz rfl rfl YB rfl)) (by rw[e8,e9] <;> rfl) ⟨(Qh (by (rw[hB,QN (by omega),hG,QN (by omega)]; rfl))),(Qh (by (rw[hB,QN (by omega),hG,QN (by omega)]; rfl))),(Qh (by (rw[hB,QN (by omega),hG,QN (by omega)]; rfl))),trivial⟩ rfl rfl
 have hb7':=a7 hb7
 iterate 5 refine w_ ?_
 obtain ⟨tx,hx11⟩:=gx (ZW arcs 32) m
 have htx:=hx11
 have hts:=H8 (a8 hx11)
 iterate 7 refine w_ ?_
 refine lc (dP 14 [(0,1),(1,10),(2,9),(3,11),(4,12),(5,13)] (Qcr bb tx m hJ (by omega) (ah.1 hk _ (a8 htx)) (by omega)) Qlc) ?_
 refine Qc ?_
 iterate 4 refine w_ ?_
 refine Qc<|QE ⟨m+1,((((arV bb tx).1.1.1,(arV bb tx).1.1.2),(arV bb tx).1.2.1,(arV bb tx).1.2.2.1,(arV bb tx).1.2.2.2),(arV bb tx).2.1,(arV bb tx).2.2),by omega,rfl,(by rw[hB,QO htx,b9]; rfl),(hJ.ar_ (text:=tx)),rfl⟩ (by omega) ?_
 exact wp [(9,16),(11,17),(12,18),(13,19)] ⟨rfl,rfl,(Qh (by first | rfl | simp)),(Qh (by first | rfl | simp)),(Qh (by first | rfl | simp)),(Qh (by first | rfl | simp)),(Qh (by first | rfl | simp)),trivial⟩
 have hb3':=a7 hb3
 iterate 7 refine w_ ?_
 obtain ⟨nm,hx13⟩:=gx ([ins,outs,inner]) k
 have hnm:=hx13
 have hns:nm.size≤100:=by have h_:=a8 hx13; simp only[aH,cp,or_false] at h_; rcases h_ with rfl | rfl | rfl <;> omega
 iterate 8 refine w_ ?_
 refine Qm (fun m_ s_=>∃(i:Nat) (g2:List (ByteArray×Int)),i≤nm.size∧m_=nm.size - i∧(g2=g1++sgN nm ((k:Int)+1) i)∧(g2.length≤100*k+i)∧s_=⟨[(3,lf (dS arcs)),(8,lP 0 0),(9,lP 1 0),(10,lI (k:Int)),(11,lf (dS nm)),(12,lI (i:Int)),(20,lR 2),(21,lI (([ins,outs,inner]).length:Int)),(22,lI (k:Int)),(23,lB true),(24,lI (k:Int)),(25,lf (.ept 2 1 k 0)),(26,lf (dS nm))],[(0,some (.box 29 [dI 0, .val (.slice none 0 0), .val (.slice none 0 0), .val (.slice none 0 0),dS ByteArray.empty])),(1,some (.box 347 [dI 0, .val (.slice none 0 0), .ref 20, .val (.slice none 0 0),dS ByteArray.empty, .val (.slice none 0 0), .val (.slice none 0 0)])),(2,some (.arr 9 .str ([ins,outs,inner]))),(20,some (.arr 90 QK g2))]⟩) ⟨0,g1,ap _,rfl,(by simp[sgN]),(by omega),rfl⟩ ?_ ?_
 exact wo [(20,4)]
 rintro m_ s_ ⟨i,g2,hk14,hm15,hG2,hL2,rfl⟩
 iterate 4 refine w_ ?_
 refine AL.fact (Z4 (x:= .tmp 28) (Qa rfl)) fun hl16=>lc (ZO (Qa rfl) rfl Zo) ?_
 iterate 2 refine w_ ?_
 cases hb17:(decide ((i:Int) < (nm.size:Int)))
 have hb17':=a6 hb17
 iterate 6 refine w_ ?_
 refine Qc<|QE ⟨k+1,g2,by omega,rfl,(by rw[hG2,hG,show i=nm.size by omega]; exact Qqp hnm),(by omega),rfl⟩ (by omega) ?_
 exact wo [(4,20)]
 have hb17':=a7 hb17
 iterate 4 refine w_ ?_
 apply dV [io 33 _,io 34 _,io 35 _,io 36 _,io 37 _,io 38 _,io 39 _,io 40 _,io 41 _,io 42 _,io 43 (lf (dS (nm.extract ((i:Int)).toNat ((i:Int)+1).toNat))),io 44 _,io 45 _,io 46 (ag [dS (nm.extract ((i:Int)).toNat ((i:Int)+1).toNat),dI ((k:Int)+1)]),⟨some 47,lR 21,[(21,some (.arr 90 QK ([(nm.extract ((i:Int)).toNat ((i:Int)+1).toNat,(k:Int)+1)])))]⟩,⟨some 48,lR 22,[(22,some (.arr 90 QK (g2++([(nm.extract ((i:Int)).toNat ((i:Int)+1).toNat,(k:Int)+1)])))),(20,none),(21,none)]⟩,io 49 _,io 50 _,io 51 _,⟨none,lf (.val undef),[(1,some (.box 347 [dI 0, .val (.slice none 0 0), .ref 22, .val (.slice none 0 0),dS ByteArray.empty, .val (.slice none 0 0), .val (.slice none 0 0)]))]⟩] [0,1,1,1,1,1,63,127,255,255,63,2047,2047,63,63,1,0,0,0,0]
 iterate 10 refine z_ ?_
 refine zz (fun _ h_=>ac (show Does _ _ _ _ (St.put _ 43 (lf (dS (nm.extract ((i:Int)).toNat ((i:Int)+1).toNat)))) from Zm (l:=(some (i:Int))) (h:=(some ((i:Int)+1))) (h_.v rfl) (by exact (h_.v rfl)) (by exact (h_.v rfl)) Zo rfl (by first | omega | (simp only[aj,ae]; omega)) (by first | omega | (simp only[aj,ae]; omega)) (by first | omega | (simp only[aj,ae]; omega))) rfl) ?_
 iterate 2 refine z_ ?_
 refine zz (fun _ h_=>ac (Qi Qlg ⟨_,_,rfl,(h_.w rfl),⟨_,_,rfl,(h_.w rfl),rfl⟩⟩ (ah.1 rfl) rfl rfl) rfl) ?_
 refine zz (fun _ h_=>ac (dBs 21 (e:=QK) Vp (hab:=by exact ⟨_,_,_,_,rfl,⟨[dS (nm.extract ((i:Int)).toNat ((i:Int)+1).toNat)],[dI ((k:Int)+1)],_,_,_,_,rfl,rfl,⟨rfl,rfl⟩,⟨rfl,rfl⟩,rfl⟩,⟨rfl,rfl⟩,rfl⟩)) rfl) ?_
 refine zz (fun _ h_=>ac (dA 22 Jg (hb:=by first | omega | (simp only[ao,aD]; omega))) rfl) ?_
 iterate 3 refine z_ ?_
 refine zz (fun _ h_=>ac (QZ (h_.v rfl) (h_.en 1 rfl) (h_.w rfl) (by simp only[Q6,Wx,aW,bc]; rw[(h_.en 22 rfl)]; rfl) Qs3 rfl) rfl) ?_
 exact zN
 iterate 5 refine w_ ?_
 refine Qc<|QE ⟨i+1,(g2++([(nm.extract ((i:Int)).toNat ((i:Int)+1).toNat,(k:Int)+1)])),by omega,rfl,(by rw[hG2]; exact Qqc),(by simp only[aa,ao,aD]; omega),rfl⟩ (by omega) ?_
 exact wp [(20,22)] ⟨rfl,rfl,rfl,(Qh (by first | rfl | simp)),trivial⟩
def tx0:ByteArray:=⟨#[97,98]⟩
def tx1:ByteArray:=⟨#[99]⟩
def tx2:ByteArray:=⟨#[]⟩
def tx3:ByteArray:=⟨#[97,43,62,99,43,32,98,43,62,99,43,32,99,43,62,97,45,32,99,43,62,98,45,32,97,45,62,99,45,32,98,45,62,99,45,32,42,99,45,62,97,43,32,42,99,45,62,98,43]⟩
def tx4:ByteArray:=⟨#[97]⟩
def tx5:ByteArray:=⟨#[98]⟩
def tx6:ByteArray:=⟨#[97,43,62,98,43,32,98,43,62,97,45,32,97,45,62,98,45,32,42,98,45,62,97,43]⟩
def tx7:ByteArray:=⟨#[114]⟩
def tx8:ByteArray:=⟨#[120,121]⟩
def tx9:ByteArray:=⟨#[114,43,62,120,43,32,114,43,62,121,43,32,120,43,62,114,45,32,121,43,62,114,45,32,114,45,62,120,45,32,114,45,62,121,45,32,42,120,45,62,114,43,32,42,121,45,62,114,43]⟩
def QnH:ByteArray:=⟨#[97,100]⟩
def QcC:ByteArray:=⟨#[98,99]⟩
def QoC:ByteArray:=⟨#[97,43,62,98,43,32,98,43,62,100,43,32,100,43,62,99,43,32,99,43,62,97,45,32,97,45,62,98,45,32,98,45,62,100,45,32,100,45,62,99,45,32,42,99,45,62,97,43]⟩
def Qm9:ByteArray:=⟨#[120]⟩
def Qnw:ByteArray:=⟨#[97,43,62,120,43,32,120,43,62,98,43,32,98,43,62,97,45,32,97,45,62,120,45,32,120,45,62,98,45,32,42,98,45,62,97,43]⟩
def QnX:ByteArray:=⟨#[42,95,112,62,97,43,32,95,112,62,98,43,32,97,43,62,99,43,47,49,32,99,43,47,49,62,97,45,32,97,45,62,99,45,47,49,32,99,45,47,49,62,95,112,32,98,43,62,99,43,47,50,32,99,43,47,50,62,98,45,32,98,45,62,99,45,47,50,32,99,45,47,50,62,95,112]⟩
def Qod:ByteArray:=⟨#[97,43,62,126,32,126,62,98,43,32,98,43,62,97,45,32,97,45,62,98,45,32,42,98,45,62,97,43]⟩
def Qoz:ByteArray:=⟨#[42,121,45,62,114,43,32,114,43,62,120,43,32,120,43,62,120,45,32,120,45,62,121,43,32,121,43,62,114,45,32,114,45,62,121,45]⟩
def Qne:ByteArray:=⟨#[42,97,45,62,97,43,32,97,43,62,95,112,32,95,112,62,98,43,32,95,112,62,99,43,32,98,43,62,98,45,32,99,43,62,99,45,32,98,45,62,95,113,32,99,45,62,95,113,32,95,113,62,97,45]⟩
def Qnu:ByteArray:=⟨#[97,43,47,49,62,98,43,32,98,43,62,97,43,47,50,32,97,43,47,50,62,98,45,32,42,98,45,62,97,43,47,49]⟩
def Qub:ByteArray:=⟨#[112]⟩
def Qup:ByteArray:=⟨#[113]⟩
def QuY:ByteArray:=⟨#[112,43,62,113,43,32,113,43,62,112,45,32,112,45,62,113,45,32,42,113,45,62,112,43]⟩
def Qn5:ByteArray:=⟨#[42,95,112,62,97,43,32,97,43,62,98,43,32,98,43,62,95,113]⟩
theorem WF (code:List UInt8)(at_:Int)(sd:Int)(ha:0≤at_∧at_≤999999000):FC Tryz.prog 261 [(false,[.ptr 0 0])] [(0,some (.box 121 [.dat Zn code,dI at_, .val (.int .u64 sd)]))] 1 (Ex (fun x:Q9×Int×Int=>Ty.tot Qco x.1≤1000∧(1≤x.1.2.1.length∧1≤x.1.2.2.1.length)∧(at_≤x.2.1∧x.2.1≤at_+10)) (fun x:Q9×Int×Int=>ag [dI x.1.1.1, .ref 1, .ref 2, .ref 3,dS x.1.2.2.2]) (fun x:Q9×Int×Int=>[(0,some (.box 121 [.dat Zn code,dI x.2.1, .val (.int .u64 x.2.2)])),(1,some (.arr 198 Zw x.1.1.2)),(2,some (.arr 90 QK x.1.2.1)),(3,some (.arr 55 Qw x.1.2.2.1))])):=by
 refine Qy Tryz.func261 rfl rfl Tryz.ntmps261 fun O_ hO w0_ N0_ X_ h0_ f0_=> ?_
 refine w_ ?_
 refine lc (xal 1 Qnz Qab) ?_
 iterate 4 refine w_ ?_
 have hp1:=YK code at_ sd 7
 refine lc (dP 2 [] (QX code at_ sd 7 (by omega)) Yk) ?_
 iterate 6 refine w_ ?_
 cases hb2:(decide ((pkV code at_ sd 7)=0))
 have hb2':=a6 hb2
 iterate 5 refine w_ ?_
 cases hb3:(decide ((pkV code at_ sd 7)=1))
 have hb3':=a6 hb3
 iterate 5 refine w_ ?_
 cases hb4:(decide ((pkV code at_ sd 7)=2))
 have hb4':=a6 hb4
 iterate 5 refine w_ ?_
 cases hb5:(decide ((pkV code at_ sd 7)=3))
 have hb5':=a6 hb5
 iterate 5 refine w_ ?_
 cases hb6:(decide ((pkV code at_ sd 7)=4))
 have hb6':=a6 hb6
 iterate 5 refine w_ ?_
 cases hb7:(decide ((pkV code at_ sd 7)=5))
 have hb7':=a6 hb7
 iterate 4 refine w_ ?_
 refine lc (dG 3 (Q4 tx4 tx5 tx2 Qod (by decide+kernel) (by decide+kernel)) ZY) ?_
 iterate 3 refine w_ ?_
 subst hO
 refine Zl (x:=(((((QQ tx4 tx5 tx2 Qod).1).1,((QQ tx4 tx5 tx2 Qod).1).2),((QQ tx4 tx5 tx2 Qod).2.1,((QQ tx4 tx5 tx2 Qod).2.2.1,(QQ tx4 tx5 tx2 Qod).2.2.2))),((pkA 7 at_),(pkS code at_ sd 7)))) [(0,0),(1,3),(2,4),(3,5)] ?_ (Res.one rfl (Qz rfl rfl YB rfl)) rfl ⟨rfl,rfl,rfl,rfl,trivial⟩ rfl rfl
 first | (dsimp only; exact ⟨by decide+kernel,⟨by decide+kernel,by decide+kernel⟩,by omega⟩)
 have hb7':=a7 hb7
 iterate 2 refine w_ ?_
 refine lc (dG 6 (Q4 tx0 tx1 tx2 QnX (by decide+kernel) (by decide+kernel)) ZY) ?_
 iterate 3 refine w_ ?_
 subst hO
 refine Zl (x:=(((((QQ tx0 tx1 tx2 QnX).1).1,((QQ tx0 tx1 tx2 QnX).1).2),((QQ tx0 tx1 tx2 QnX).2.1,((QQ tx0 tx1 tx2 QnX).2.2.1,(QQ tx0 tx1 tx2 QnX).2.2.2))),((pkA 7 at_),(pkS code at_ sd 7)))) [(0,0),(1,6),(2,7),(3,8)] ?_ (Res.one rfl (Qz rfl rfl YB rfl)) rfl ⟨rfl,rfl,rfl,rfl,trivial⟩ rfl rfl
 first | (dsimp only; exact ⟨by decide+kernel,⟨by decide+kernel,by decide+kernel⟩,by omega⟩)
 have hb6':=a7 hb6
 iterate 2 refine w_ ?_
 refine lc (dG 9 (Q4 tx4 tx5 Qm9 Qnw (by decide+kernel) (by decide+kernel)) ZY) ?_
 iterate 3 refine w_ ?_
 subst hO
 refine Zl (x:=(((((QQ tx4 tx5 Qm9 Qnw).1).1,((QQ tx4 tx5 Qm9 Qnw).1).2),((QQ tx4 tx5 Qm9 Qnw).2.1,((QQ tx4 tx5 Qm9 Qnw).2.2.1,(QQ tx4 tx5 Qm9 Qnw).2.2.2))),((pkA 7 at_),(pkS code at_ sd 7)))) [(0,0),(1,9),(2,10),(3,11)] ?_ (Res.one rfl (Qz rfl rfl YB rfl)) rfl ⟨rfl,rfl,rfl,rfl,trivial⟩ rfl rfl
 first | (dsimp only; exact ⟨by decide+kernel,⟨by decide+kernel,by decide+kernel⟩,by omega⟩)
 have hb5':=a7 hb5
 iterate 2 refine w_ ?_
 refine lc (dG 12 (Q4 QnH QcC tx2 QoC (by decide+kernel) (by decide+kernel)) ZY) ?_
 iterate 3 refine w_ ?_
 subst hO
 refine Zl (x:=(((((QQ QnH QcC tx2 QoC).1).1,((QQ QnH QcC tx2 QoC).1).2),((QQ QnH QcC tx2 QoC).2.1,((QQ QnH QcC tx2 QoC).2.2.1,(QQ QnH QcC tx2 QoC).2.2.2))),((pkA 7 at_),(pkS code at_ sd 7)))) [(0,0),(1,12),(2,13),(3,14)] ?_ (Res.one rfl (Qz rfl rfl YB rfl)) rfl ⟨rfl,rfl,rfl,rfl,trivial⟩ rfl rfl
 first | (dsimp only; exact ⟨by decide+kernel,⟨by decide+kernel,by decide+kernel⟩,by omega⟩)
 have hb4':=a7 hb4
 iterate 2 refine w_ ?_
 refine lc (dG 15 (Q4 tx7 tx8 tx2 tx9 (by decide+kernel) (by decide+kernel)) ZY) ?_
 iterate 3 refine w_ ?_
 subst hO
 refine Zl (x:=(((((QQ tx7 tx8 tx2 tx9).1).1,((QQ tx7 tx8 tx2 tx9).1).2),((QQ tx7 tx8 tx2 tx9).2.1,((QQ tx7 tx8 tx2 tx9).2.2.1,(QQ tx7 tx8 tx2 tx9).2.2.2))),((pkA 7 at_),(pkS code at_ sd 7)))) [(0,0),(1,15),(2,16),(3,17)] ?_ (Res.one rfl (Qz rfl rfl YB rfl)) rfl ⟨rfl,rfl,rfl,rfl,trivial⟩ rfl rfl
 first | (dsimp only; exact ⟨by decide+kernel,⟨by decide+kernel,by decide+kernel⟩,by omega⟩)
 have hb3':=a7 hb3
 iterate 2 refine w_ ?_
 refine lc (dG 18 (Q4 tx4 tx5 tx2 tx6 (by decide+kernel) (by decide+kernel)) ZY) ?_
 iterate 3 refine w_ ?_
 subst hO
 refine Zl (x:=(((((QQ tx4 tx5 tx2 tx6).1).1,((QQ tx4 tx5 tx2 tx6).1).2),((QQ tx4 tx5 tx2 tx6).2.1,((QQ tx4 tx5 tx2 tx6).2.2.1,(QQ tx4 tx5 tx2 tx6).2.2.2))),((pkA 7 at_),(pkS code at_ sd 7)))) [(0,0),(1,18),(2,19),(3,20)] ?_ (Res.one rfl (Qz rfl rfl YB rfl)) rfl ⟨rfl,rfl,rfl,rfl,trivial⟩ rfl rfl
 first | (dsimp only; exact ⟨by decide+kernel,⟨by decide+kernel,by decide+kernel⟩,by omega⟩)
 have hb2':=a7 hb2
 iterate 2 refine w_ ?_
 refine lc (dG 21 (Q4 tx0 tx1 tx2 tx3 (by decide+kernel) (by decide+kernel)) ZY) ?_
 iterate 3 refine w_ ?_
 subst hO
 refine Zl (x:=(((((QQ tx0 tx1 tx2 tx3).1).1,((QQ tx0 tx1 tx2 tx3).1).2),((QQ tx0 tx1 tx2 tx3).2.1,((QQ tx0 tx1 tx2 tx3).2.2.1,(QQ tx0 tx1 tx2 tx3).2.2.2))),((pkA 7 at_),(pkS code at_ sd 7)))) [(0,0),(1,21),(2,22),(3,23)] ?_ (Res.one rfl (Qz rfl rfl YB rfl)) rfl ⟨rfl,rfl,rfl,rfl,trivial⟩ rfl rfl
 first | (dsimp only; exact ⟨by decide+kernel,⟨by decide+kernel,by decide+kernel⟩,by omega⟩)
theorem QaR (code:List UInt8)(at_:Int)(sd:Int)[∀s,Decidable (StgOk s)][∀s,Decidable (XG s)](ha:0≤at_∧at_≤999998900):FC Tryz.prog 161 [(false,[.ptr 0 0])] [(0,some (.box 121 [.dat Zn code,dI at_, .val (.int .u64 sd)]))] 1 (Ex (fun x:Q9×Int×Int=>Ty.tot Qco x.1≤1000∧(1≤x.1.2.1.length∧1≤x.1.2.2.1.length)∧(at_≤x.2.1∧x.2.1≤at_+20)) (fun x:Q9×Int×Int=>ag [dI x.1.1.1, .ref 1, .ref 2, .ref 3,dS x.1.2.2.2]) (fun x:Q9×Int×Int=>[(0,some (.box 121 [.dat Zn code,dI x.2.1, .val (.int .u64 x.2.2)])),(1,some (.arr 198 Zw x.1.1.2)),(2,some (.arr 90 QK x.1.2.1)),(3,some (.arr 55 Qw x.1.2.2.1))])):=by
 refine Qy Tryz.func161 rfl rfl Tryz.ntmps161 fun O_ hO w0_ N0_ X_ h0_ f0_=> ?_
 refine w_ ?_
 refine lc (xal 1 Qnz Qab) ?_
 iterate 4 refine w_ ?_
 have hp1:=YK code at_ sd 9
 refine lc (dP 2 [] (QX code at_ sd 9 (by omega)) Yk) ?_
 iterate 6 refine w_ ?_
 cases hb2:(decide ((pkV code at_ sd 9)=0))
 have hb2':=a6 hb2
 iterate 5 refine w_ ?_
 cases hb3:(decide ((pkV code at_ sd 9)=1))
 have hb3':=a6 hb3
 iterate 5 refine w_ ?_
 cases hb4:(decide ((pkV code at_ sd 9)=2))
 have hb4':=a6 hb4
 iterate 5 refine w_ ?_
 cases hb5:(decide ((pkV code at_ sd 9)=3))
 have hb5':=a6 hb5
 iterate 5 refine w_ ?_
 cases hb6:(decide ((pkV code at_ sd 9)=4))
 have hb6':=a6 hb6
 iterate 5 refine w_ ?_
 refine Y7 3 [(0,0)] (WF code (pkA 9 at_) (pkS code at_ sd 9) (by omega)) Qd2 e1_ ⟨rfl,trivial⟩ rfl (fun _=>rfl) (fun _=>⟨trivial,(Fresh.of rfl),(Fresh.of rfl),(Fresh.of rfl),trivial⟩) (nlr rfl) fun x7 hx8=> ?_
 iterate 3 refine w_ ?_
 subst hO
 refine Zl (x:=(((x7.1.1.1,x7.1.1.2),(x7.1.2.1,(x7.1.2.2.1,x7.1.2.2.2))),(x7.2.1,x7.2.2))) [(0,0),(1,4),(2,5),(3,6)] ?_ (Res.one rfl (Qz rfl rfl YB rfl)) rfl ⟨rfl,rfl,rfl,rfl,trivial⟩ rfl rfl
 (have h_:=‹Ty.tot Qco _≤1000∧_›; dsimp only; exact ⟨h_.1,h_.2.1,by omega⟩)
 have hb6':=a7 hb6
 iterate 2 refine w_ ?_
 refine lc (dG 7 (Q4 tx4 tx5 tx2 Qn5 (by decide+kernel) (by decide+kernel)) ZY) ?_
 iterate 3 refine w_ ?_
 subst hO
 refine Zl (x:=(((((QQ tx4 tx5 tx2 Qn5).1).1,((QQ tx4 tx5 tx2 Qn5).1).2),((QQ tx4 tx5 tx2 Qn5).2.1,((QQ tx4 tx5 tx2 Qn5).2.2.1,(QQ tx4 tx5 tx2 Qn5).2.2.2))),((pkA 9 at_),(pkS code at_ sd 9)))) [(0,0),(1,7),(2,8),(3,9)] ?_ (Res.one rfl (Qz rfl rfl YB rfl)) rfl ⟨rfl,rfl,rfl,rfl,trivial⟩ rfl rfl
 (dsimp only; exact ⟨by decide+kernel,⟨by decide+kernel,by decide+kernel⟩,by omega⟩)
 have hb5':=a7 hb5
 iterate 2 refine w_ ?_
 refine lc (dK (Q4 Qub Qup tx2 QuY (by decide+kernel) (by decide+kernel)).frozenG ZY) ?_
 refine lc (dK (Q4 tx4 tx5 tx2 tx6 (by decide+kernel) (by decide+kernel)).frozenG ZY) ?_
 refine Y7 10 [] (QaD (QQ Qub Qup tx2 QuY) (QQ tx4 tx5 tx2 tx6) (by decide+kernel) (by decide+kernel)) Qla e2_ trivial rfl (fun _=>rfl) (fun _=>⟨(Fresh.of rfl),(Fresh.of rfl),(Fresh.of rfl),trivial⟩) (nlr rfl) fun x9 hx10=> ?_
 iterate 3 refine w_ ?_
 refine lc (xal 13 Qnz Qab) ?_
 iterate 6 refine w_ ?_
 cases hb11:(x9.2)
 iterate 5 refine w_ ?_
 refine Y7 14 [(0,0)] (WF code (pkA 9 at_) (pkS code at_ sd 9) (by omega)) Qd2 e1_ ⟨rfl,trivial⟩ rfl (fun _=>rfl) (fun _=>⟨trivial,(Fresh.of rfl),(Fresh.of rfl),(Fresh.of rfl),trivial⟩) (nlr rfl) fun x12 hx13=> ?_
 iterate 3 refine w_ ?_
 subst hO
 refine Zl (x:=(((x12.1.1.1,x12.1.1.2),(x12.1.2.1,(x12.1.2.2.1,x12.1.2.2.2))),(x12.2.1,x12.2.2))) [(0,0),(1,15),(2,16),(3,17)] ?_ (Res.one rfl (Qz rfl rfl YB rfl)) rfl ⟨rfl,rfl,rfl,rfl,trivial⟩ rfl rfl
 (have h_:=‹Ty.tot Qco _≤1000∧_›; dsimp only; exact ⟨h_.1,h_.2.1,by omega⟩)
 iterate 6 refine w_ ?_
 subst hO
 refine Zl (x:=(((x9.1.1.1,x9.1.1.2),(x9.1.2.1,(x9.1.2.2.1,x9.1.2.2.2))),((pkA 9 at_),(pkS code at_ sd 9)))) [(0,0),(1,10),(2,11),(3,12)] ?_ (Res.one rfl (Qz rfl rfl YB rfl)) rfl ⟨rfl,rfl,rfl,rfl,trivial⟩ rfl rfl
 (have h_:=‹_=true→_=unS _ _›; have h2_:=h_ ‹_›; dsimp only; rw[h2_]; exact ⟨by decide+kernel,⟨by decide+kernel,by decide+kernel⟩,by omega⟩)
 have hb4':=a7 hb4
 iterate 2 refine w_ ?_
 refine lc (dG 18 (Q4 tx4 tx5 tx2 Qnu (by decide+kernel) (by decide+kernel)) ZY) ?_
 iterate 3 refine w_ ?_
 subst hO
 refine Zl (x:=(((((QQ tx4 tx5 tx2 Qnu).1).1,((QQ tx4 tx5 tx2 Qnu).1).2),((QQ tx4 tx5 tx2 Qnu).2.1,((QQ tx4 tx5 tx2 Qnu).2.2.1,(QQ tx4 tx5 tx2 Qnu).2.2.2))),((pkA 9 at_),(pkS code at_ sd 9)))) [(0,0),(1,18),(2,19),(3,20)] ?_ (Res.one rfl (Qz rfl rfl YB rfl)) rfl ⟨rfl,rfl,rfl,rfl,trivial⟩ rfl rfl
 (dsimp only; exact ⟨by decide+kernel,⟨by decide+kernel,by decide+kernel⟩,by omega⟩)
 have hb3':=a7 hb3
 iterate 2 refine w_ ?_
 refine lc (dG 21 (Q4 tx4 QcC tx2 Qne (by decide+kernel) (by decide+kernel)) ZY) ?_
 iterate 3 refine w_ ?_
 subst hO
 refine Zl (x:=(((((QQ tx4 QcC tx2 Qne).1).1,((QQ tx4 QcC tx2 Qne).1).2),((QQ tx4 QcC tx2 Qne).2.1,((QQ tx4 QcC tx2 Qne).2.2.1,(QQ tx4 QcC tx2 Qne).2.2.2))),((pkA 9 at_),(pkS code at_ sd 9)))) [(0,0),(1,21),(2,22),(3,23)] ?_ (Res.one rfl (Qz rfl rfl YB rfl)) rfl ⟨rfl,rfl,rfl,rfl,trivial⟩ rfl rfl
 (dsimp only; exact ⟨by decide+kernel,⟨by decide+kernel,by decide+kernel⟩,by omega⟩)
 have hb2':=a7 hb2
 iterate 2 refine w_ ?_
 refine lc (dG 24 (Q4 tx7 tx8 tx2 Qoz (by decide+kernel) (by decide+kernel)) ZY) ?_
 iterate 3 refine w_ ?_
 subst hO
 refine Zl (x:=(((((QQ tx7 tx8 tx2 Qoz).1).1,((QQ tx7 tx8 tx2 Qoz).1).2),((QQ tx7 tx8 tx2 Qoz).2.1,((QQ tx7 tx8 tx2 Qoz).2.2.1,(QQ tx7 tx8 tx2 Qoz).2.2.2))),((pkA 9 at_),(pkS code at_ sd 9)))) [(0,0),(1,24),(2,25),(3,26)] ?_ (Res.one rfl (Qz rfl rfl YB rfl)) rfl ⟨rfl,rfl,rfl,rfl,trivial⟩ rfl rfl
 (dsimp only; exact ⟨by decide+kernel,⟨by decide+kernel,by decide+kernel⟩,by omega⟩)
end Go.Proofs.YtjaadeknhofhpaaGreat
namespace Go.Proofs.YtjaadeknhofhpaaGreat
open Go.RowKit
set_option maxRecDepth 100000
set_option maxHeartbeats 4000000
theorem Qgk {b:Nat}:∀(i:Nat) (c:List ByteArray) (vs:List UInt8),(∀z∈c,z.size≤b)→∀z∈UB i c vs,z.size≤b+vs.length
  | _,_,[],h=>by rw[UB]; exact fun z hz=>b4 (h z hz) (Nat.le_add_right ..)
  | i,c,v :: vs,h=>fun z hz=>by
    rw[UB] at hz
    have h2:∀z∈c.set i ((c[i]?).getD ByteArray.empty++⟨#[v]⟩),z.size≤b+1:=fun z hz=>by
      rcases bV hz with h1 | h1
      · exact Nat.le_succ_of_le (h z h1)
      · rw [h1, aU]
        show _+1≤b+1
        cases hc:c[i]? with
        | none=>exact Nat.succ_le_succ (ap b)
        | some x=>exact Nat.succ_le_succ (h x (a8 hc))
    have:=Qgk (i+1) _ vs h2 z hz
    rw[ao]; omega
theorem Qik {n:Nat}{arcs:List DAr}(hr:∀a∈arcs,InR n a):∀{f k b:Nat} {c d:List ByteArray},goS n arcs f k c=some d→(∀z∈c,z.size≤b)→∀z∈d,z.size≤b+n*f
  | 0,_,b,c,d,h,hb=>by rw[goS] at h; cases h; exact hb
  | f+1,k,b,c,d,h,hb=>fun z hz=>by
    rw[goS] at h
    split at h
    · have h1 := Qik hr h (Qgk 0 c _ hb) z hz
      have h2:=QpR hr (k:Int)
      rw[Nat.mul_add]; omega
    · cases h
section
variable [∀s,Decidable (StgOk s)]{s:Q9}
theorem QfX (h:(sgV s).2=true):∀z∈(sgV s).1.2.1,z.size≤2400:=by
  unfold sgV at h ⊢
  split at h
  · rename_i h1
    rw[if_pos h1]
    obtain ⟨hs,hN1,hN2,_,hM,hL⟩:=Yi h1.1
    split at h
    · rename_i c hg
      intro z hz
      have h2:=Qik (VX hM) hg (b:=0) (fun z hz=>by rw[cG hz]; exact aO _) z hz
      have h3:=hs.sigs.2.2
      have h4:(Qs s).1.1.length*s.2.1.length≤300*8:=Nat.mul_le_mul (by omega) h3
      omega
    · cases h
  · cases h
theorem Qqb:(sgV (QQ ⟨#[97]⟩ ⟨#[98]⟩ ⟨#[]⟩ ⟨#[97,43,62,98,43,32,98,43,62,97,45,32,97,45,62,98,45,32,42,98,45,62,97,43]⟩)).2=true:=by rw[QtO]; exact QtJ
end
theorem Hg (code:List UInt8)(at_:Int)(sd:Int)[∀s,Decidable (StgOk s)][∀s,Decidable (XG s)](ha:0≤at_∧at_≤800000000):FC Tryz.prog 238 [(false,[.ptr 0 0])] [(0,some (.box 121 [.dat Zn code,dI at_, .val (.int .u64 sd)]))] 1 (Ex (fun x:DSg×Int×Int=>((1≤x.1.2.1.length∧x.1.2.1.length≤300)∧x.1.1.length≤8∧∀z∈x.1.2.1,ByteArray.size z≤2400)∧(at_≤x.2.1∧x.2.1≤at_+80)) (fun x:DSg×Int×Int=>ag [.ref 1, .ref 2, .ref 3]) (fun x:DSg×Int×Int=>[(0,some (.box 121 [.dat Zn code,dI x.2.1, .val (.int .u64 x.2.2)])),(1,some (.arr 90 QK x.1.1)),(2,some (.arr 9 .str x.1.2.1)),(3,some (.arr 106 QA x.1.2.2))])):=by
 refine Qy Tryz.func238 rfl rfl Tryz.ntmps238 fun O_ hO w0_ N0_ X_ h0_ f0_=> ?_
 refine w_ ?_
 refine lc (xal 1 Wu ZS) ?_
 iterate 6 refine w_ ?_
 refine Qm (fun m_ s_=>∃(k:Nat) (a_:Int) (sd_:Int),k≤4∧m_=4 - k∧(at_≤a_∧a_≤at_+20*k)∧s_=⟨[(0,lP 0 0),(2,lP 1 0),(3,lI (k:Int))],[(0,some (.box 121 [.dat Zn code,dI a_, .val (.int .u64 sd_)])),(1,some (.box 52 [.val (.slice none 0 0), .val (.slice none 0 0), .val (.slice none 0 0)]))]⟩) ⟨0,at_,sd,ap _,rfl,by omega,rfl⟩ ?_ ?_
 exact wo []
 rintro m_ s_ ⟨k,a_,sd_,hk1,hm2,hb,rfl⟩
 iterate 5 refine w_ ?_
 cases hb3:(decide ((k:Int) < 4))
 have hb3':=a6 hb3
 iterate 4 refine w_ ?_
 refine lc (dG 2 (Q4 (⟨#[97]⟩:ByteArray) (⟨#[98]⟩:ByteArray) (⟨#[]⟩:ByteArray) (⟨#[97,43,62,98,43,32,98,43,62,97,45,32,97,45,62,98,45,32,42,98,45,62,97,43]⟩:ByteArray) (by decide+kernel) (by decide+kernel)) ZY) ?_
 refine lc (Qcl 5 (Wn (QQ (⟨#[97]⟩:ByteArray) (⟨#[98]⟩:ByteArray) (⟨#[]⟩:ByteArray) (⟨#[97,43,62,98,43,32,98,43,62,97,45,32,97,45,62,98,45,32,42,98,45,62,97,43]⟩:ByteArray))) QdD ⟨_,_,rfl,(K6 (Qf rfl) ⟨_,_,rfl, .inl rfl,⟨_,_,rfl, .inr ⟨_,_,_,_,rfl,rfl,rfl⟩,⟨_,_,rfl, .inr ⟨_,_,_,_,rfl,rfl,rfl⟩,⟨_,_,rfl, .inr ⟨_,_,_,_,rfl,rfl,rfl⟩,⟨_,_,rfl, .inl rfl,rfl⟩⟩⟩⟩⟩),rfl⟩ rfl rfl rfl ⟨Fresh.of rfl,Fresh.of rfl,Fresh.of rfl,trivial⟩ (nlr rfl)) ?_
 iterate 3 refine w_ ?_
 refine lc (xal 8 Wu ZS) ?_
 iterate 8 refine w_ ?_
 subst hO
 refine Zl (x:=((((sgV (QQ (⟨#[97]⟩:ByteArray) (⟨#[98]⟩:ByteArray) (⟨#[]⟩:ByteArray) (⟨#[97,43,62,98,43,32,98,43,62,97,45,32,97,45,62,98,45,32,42,98,45,62,97,43]⟩:ByteArray))).1).1,(((sgV (QQ (⟨#[97]⟩:ByteArray) (⟨#[98]⟩:ByteArray) (⟨#[]⟩:ByteArray) (⟨#[97,43,62,98,43,32,98,43,62,97,45,32,97,45,62,98,45,32,42,98,45,62,97,43]⟩:ByteArray))).1).2.1,((sgV (QQ (⟨#[97]⟩:ByteArray) (⟨#[98]⟩:ByteArray) (⟨#[]⟩:ByteArray) (⟨#[97,43,62,98,43,32,98,43,62,97,45,32,97,45,62,98,45,32,42,98,45,62,97,43]⟩:ByteArray))).1).2.2)),(a_,sd_))) [(0,0),(1,5),(2,6),(3,7)] ?_ (Res.one rfl (Qz rfl rfl Q3 rfl)) rfl ⟨rfl,rfl,rfl,rfl,trivial⟩ rfl rfl
 exact ⟨⟨(QmN Qqb).some_,(QmN Qqb).sig8,QfX Qqb⟩,by dsimp only; omega⟩
 have hb3':=a7 hb3
 iterate 6 refine w_ ?_
 refine Y7 9 [(0,0)] (QaR code a_ sd_ (by omega)) Qkc e1_ ⟨rfl,trivial⟩ rfl (fun _=>rfl) (fun _=>⟨trivial,(Fresh.of rfl),(Fresh.of rfl),(Fresh.of rfl),trivial⟩) (nlr rfl) fun x4 hx5=>lc (Qcl 13 (Wn x4.1) QdD ⟨_,_,rfl,(K6 (Qf rfl) ⟨_,_,rfl, .inl rfl,⟨_,_,rfl, .inr ⟨_,_,_,_,rfl,rfl,rfl⟩,⟨_,_,rfl, .inr ⟨_,_,_,_,rfl,rfl,rfl⟩,⟨_,_,rfl, .inr ⟨_,_,_,_,rfl,rfl,rfl⟩,⟨_,_,rfl, .inl rfl,rfl⟩⟩⟩⟩⟩),rfl⟩ rfl rfl rfl ⟨Fresh.of rfl,Fresh.of rfl,Fresh.of rfl,trivial⟩ (nlr rfl)) ?_
 iterate 3 refine w_ ?_
 refine lc (xal 16 Wu ZS) ?_
 iterate 6 refine w_ ?_
 cases hb6:((sgV x4.1).2)
 iterate 7 refine w_ ?_
 refine Qc<|QE ⟨k+1,x4.2.1,x4.2.2,by omega,rfl,(by omega),rfl⟩ (by omega) ?_
 exact wo []
 iterate 6 refine w_ ?_
 subst hO
 refine Zl (x:=((((sgV x4.1).1).1,(((sgV x4.1).1).2.1,((sgV x4.1).1).2.2)),(x4.2.1,x4.2.2))) [(0,0),(1,13),(2,14),(3,15)] ?_ (Res.one rfl (Qz rfl rfl Q3 rfl)) rfl ⟨rfl,rfl,rfl,rfl,trivial⟩ rfl rfl
 exact ⟨⟨(QmN ‹_›).some_,(QmN ‹_›).sig8,QfX ‹_›⟩,by dsimp only; omega⟩
theorem WA (code:List UInt8)(at_:Int)(sd:Int)[∀s,Decidable (StgOk s)][∀s,Decidable (XG s)](ha:0≤at_∧at_≤700000000):FC Tryz.prog 133 [(false,[.ptr 0 0])] [(0,some (.box 121 [.dat Zn code,dI at_, .val (.int .u64 sd)]))] 1 (Ex (fun x:DSg×Int×Int=>x.1.1.length≤8∧(at_≤x.2.1∧x.2.1≤at_+120)) (fun x:DSg×Int×Int=>ag [.dat Qo x.1.1, .dat Qr x.1.2.1, .dat QD x.1.2.2]) (fun x:DSg×Int×Int=>[(0,some (.box 121 [.dat Zn code,dI x.2.1, .val (.int .u64 x.2.2)]))])):=by
 refine Qy Tryz.func133 rfl rfl Tryz.ntmps133 fun O_ hO w0_ N0_ X_ h0_ f0_=> ?_
 refine w_ ?_
 refine lc (xal 1 Wu ZS) ?_
 iterate 3 refine w_ ?_
 refine Y7 2 [(0,0)] (Hg code at_ sd (by omega)) QjP e1_ ⟨rfl,trivial⟩ rfl (fun _=>rfl) (fun _=>⟨trivial,(Fresh.of rfl),(Fresh.of rfl),(Fresh.of rfl),trivial⟩) (nlr rfl) fun x1 hx2=>lc (xal 6 Wu ZS) ?_
 iterate 5 refine w_ ?_
 have hp3:=YK code x1.2.1 x1.2.2 20
 refine lc (dP 7 [] (QX code x1.2.1 x1.2.2 20 (by omega)) Yk) ?_
 iterate 6 refine w_ ?_
 cases hb4:(decide ((pkV code x1.2.1 x1.2.2 20)=0))
 have hb4':=a6 hb4
 iterate 5 refine w_ ?_
 cases hb5:(decide ((pkV code x1.2.1 x1.2.2 20)=1))
 have hb5':=a6 hb5
 iterate 5 refine w_ ?_
 cases hb6:(decide ((pkV code x1.2.1 x1.2.2 20)=2))
 have hb6':=a6 hb6
 iterate 5 refine w_ ?_
 cases hb7:(decide ((pkV code x1.2.1 x1.2.2 20)=3))
 have hb7':=a6 hb7
 iterate 3 refine w_ ?_
 refine Yd<|AC.wk (Q8 (p:=6) (off:=0) (q:=3) rfl rfl rfl)<|AC.wk (Q8 (p:=6) (off:=1) (q:=4) rfl rfl rfl)<|AC.wk (Q8 (p:=6) (off:=2) (q:=5) rfl rfl rfl) ?_
 iterate 5 refine w_ ?_
 subst hO
 refine Zl (x:=((x1.1.1,(x1.1.2.1,x1.1.2.2)),((pkA 20 x1.2.1),(pkS code x1.2.1 x1.2.2 20)))) [(0,0)] ?_ (Res.one rfl (Qz rfl rfl Q3 rfl)) rfl ⟨rfl,trivial⟩ rfl rfl
 (dsimp only; omega)
 have hb7':=a7 hb7
 iterate 7 refine w_ ?_
 cases hb8:(decide (0 < (x1.1.2.2.length:Int)))
 have hb8':=a6 hb8
 iterate 3 refine w_ ?_
 refine Yd<|AC.wk (Q8 (p:=6) (off:=0) (q:=3) rfl rfl rfl)<|AC.wk (Q8 (p:=6) (off:=1) (q:=4) rfl rfl rfl)<|AC.wk (Q8 (p:=6) (off:=2) (q:=5) rfl rfl rfl) ?_
 iterate 5 refine w_ ?_
 subst hO
 refine Zl (x:=((x1.1.1,(x1.1.2.1,x1.1.2.2)),((pkA 20 x1.2.1),(pkS code x1.2.1 x1.2.2 20)))) [(0,0)] ?_ (Res.one rfl (Qz rfl rfl Q3 rfl)) rfl ⟨rfl,trivial⟩ rfl rfl
 (dsimp only; omega)
 have hb8':=a7 hb8
 refine w_ ?_
 obtain ⟨x9,hx10⟩:=gx x1.1.2.2 0
 apply dV [io 49 _,io 50 _,io 51 _,io 52 _,io 53 (lf (.ept 5 4 0 0)),io 54 (lf (.ept 5 4 0 2)),io 55 (lB x9.2.2.1),io 56 _,io 57 (lf (.ept 5 4 0 0)),io 58 (lf (.ept 5 4 0 2)),⟨none,lf (.val undef),[(5,some (.arr 106 QA (x1.1.2.2.set 0 (x9.1,x9.2.1, !x9.2.2.1,x9.2.2.2))))]⟩] [0,0,3,3,3,3,3,3,0,0,0]
 iterate 4 refine z_ ?_
 refine zz (fun _ h_=>ac (QS (e:=QA) (h_.v rfl) (h_.en 5 rfl) (Qu rfl) VR Wv rfl (by omega) (by first | omega | (simp only[au]; omega))) rfl)<|zz (fun _ h_=>ac (YV (h_.v rfl) QfK (by rw[(h_.en 5 rfl)]; rfl) rfl) rfl)<|zz (fun _ h_=>ac (Zp (e:=QA) (h_.v rfl) (h_.n 5 rfl) hx10 rfl Qa8 rfl rfl) rfl) ?_
 refine z_ ?_
 refine zz (fun _ h_=>ac (QS (e:=QA) (h_.v rfl) (h_.en 5 rfl) (Qu rfl) VR Wv rfl (by omega) (by first | omega | (simp only[au]; omega))) rfl)<|zz (fun _ h_=>ac (YV (h_.v rfl) QfK (by rw[(h_.en 5 rfl)]; rfl) rfl) rfl)<|zz (fun _ h_=>ac (QG (e:=QA) (z':=(x9.1,x9.2.1, !x9.2.2.1,x9.2.2.2)) (h_.v rfl) (h_.n 5 rfl) hx10 rfl (h_.w rfl) rfl Qa8 rfl rfl) rfl) ?_
 exact zN
 refine w_ ?_
 refine Yd<|AC.wk (Q8 (p:=6) (off:=0) (q:=3) rfl rfl rfl)<|AC.wk (Q8 (p:=6) (off:=1) (q:=4) rfl rfl rfl)<|AC.wk (Q8 (p:=6) (off:=2) (q:=5) rfl rfl rfl) ?_
 iterate 5 refine w_ ?_
 subst hO
 refine Zl (x:=((x1.1.1,(x1.1.2.1,x1.1.2.2.set 0 (x9.1,x9.2.1, !x9.2.2.1,x9.2.2.2))),((pkA 20 x1.2.1),(pkS code x1.2.1 x1.2.2 20)))) [(0,0)] ?_ (Res.one rfl (Qz rfl rfl Q3 rfl)) rfl ⟨rfl,trivial⟩ rfl rfl
 (dsimp only; omega)
 have hb6':=a7 hb6
 refine w_ ?_
 obtain ⟨x11,hx12⟩:=gx x1.1.2.1 0
 apply dV [io 34 _,io 35 _,io 36 _,io 37 _,io 38 (lf (.ept 4 1 0 0)),io 39 (lf (dS x11)),⟨some 40,lR 8,[(8,some (.arr 9 .str ([x11])))]⟩,⟨some 41,lR 9,[(9,some (.arr 9 .str (x1.1.2.1++([x11])))),(4,none),(8,none)]⟩,io 42 _,⟨none,lf (.val undef),[(6,some (.box 52 [.ref 3, .ref 9, .ref 5]))]⟩] [0,0,3,3,3,3,3,0,0,0]
 iterate 4 refine z_ ?_
 refine zz (fun _ h_=>ac (QS (e:= .str) (h_.v rfl) (h_.en 4 rfl) (Qu rfl) Qbw KT rfl (by omega) (by first | omega | (simp only[au]; omega))) rfl)<|zz (fun _ h_=>ac (Zp (e:= .str) (h_.v rfl) (h_.n 4 rfl) hx12 rfl KT rfl rfl) rfl) ?_
 refine zz (fun _ h_=>ac (dBs 8 (e:= .str) U2) rfl) ?_
 refine zz (fun _ h_=>ac (dA 9 Qcd (hb:=by (simp only[ao,aD]; omega))) rfl) ?_
 refine z_ ?_
 refine zz (fun _ h_=>ac (QZ (h_.v rfl) (h_.en 6 rfl) (h_.w rfl) (by simp only[Q6,Wx,aW,bc]; rw[(h_.en 9 rfl)]; rfl) Qjs rfl) rfl) ?_
 exact zN
 refine w_ ?_
 refine Yd<|AC.wk (Q8 (p:=6) (off:=0) (q:=3) rfl rfl rfl)<|AC.wk (Q8 (p:=6) (off:=1) (q:=9) rfl rfl rfl)<|AC.wk (Q8 (p:=6) (off:=2) (q:=5) rfl rfl rfl) ?_
 iterate 5 refine w_ ?_
 subst hO
 refine Zl (x:=((x1.1.1,(x1.1.2.1++([x11]),x1.1.2.2)),((pkA 20 x1.2.1),(pkS code x1.2.1 x1.2.2 20)))) [(0,0)] ?_ (Res.one rfl (Qz rfl rfl Q3 rfl)) rfl ⟨rfl,trivial⟩ rfl rfl
 (dsimp only; omega)
 have hb5':=a7 hb5
 iterate 7 refine w_ ?_
 cases hb13:(decide (0 < (x1.1.2.2.length:Int)))
 have hb13':=a6 hb13
 iterate 3 refine w_ ?_
 refine Yd<|AC.wk (Q8 (p:=6) (off:=0) (q:=3) rfl rfl rfl)<|AC.wk (Q8 (p:=6) (off:=1) (q:=4) rfl rfl rfl)<|AC.wk (Q8 (p:=6) (off:=2) (q:=5) rfl rfl rfl) ?_
 iterate 5 refine w_ ?_
 subst hO
 refine Zl (x:=((x1.1.1,(x1.1.2.1,x1.1.2.2)),((pkA 20 x1.2.1),(pkS code x1.2.1 x1.2.2 20)))) [(0,0)] ?_ (Res.one rfl (Qz rfl rfl Q3 rfl)) rfl ⟨rfl,trivial⟩ rfl rfl
 (dsimp only; omega)
 have hb13':=a7 hb13
 refine w_ ?_
 have hp14:=YK code (pkA 20 x1.2.1) (pkS code x1.2.1 x1.2.2 20) 9
 obtain ⟨x15,hx16⟩:=gx x1.1.2.2 0
 apply dV [io 25 _,io 26 _,io 27 _,⟨some 28,lI (pkV code (pkA 20 x1.2.1) (pkS code x1.2.1 x1.2.2 20) 9),[(0,some (.box 121 [.dat Zn code,dI (pkA 9 (pkA 20 x1.2.1)), .val (.int .u64 (pkS code (pkA 20 x1.2.1) (pkS code x1.2.1 x1.2.2 20) 9))])),(0,none)]⟩,io 29 _,io 30 (lf (.ept 5 4 0 0)),io 31 (lf (.ept 5 4 0 3)),⟨none,lf (.val undef),[(5,some (.arr 106 QA (x1.1.2.2.set 0 (x15.1,x15.2.1,x15.2.2.1,(pkV code (pkA 20 x1.2.1) (pkS code x1.2.1 x1.2.2 20) 9) - 1))))]⟩] [0,0,3,3,3,0,0,0]
 iterate 3 refine z_ ?_
 refine zz (fun _ h_=>ac (dP 10 [] (QX code (pkA 20 x1.2.1) (pkS code x1.2.1 x1.2.2 20) 9 (by omega)) Yk) rfl) ?_
 refine z_ ?_
 refine zz (fun _ h_=>ac (QS (e:=QA) (h_.v rfl) (h_.en 5 rfl) (Qu rfl) VR Wv rfl (by omega) (by first | omega | (simp only[au]; omega))) rfl)<|zz (fun _ h_=>ac (YV (h_.v rfl) QoH (by rw[(h_.en 5 rfl)]; rfl) rfl) rfl)<|zz (fun _ h_=>ac (QG (e:=QA) (z':=(x15.1,x15.2.1,x15.2.2.1,(pkV code (pkA 20 x1.2.1) (pkS code x1.2.1 x1.2.2 20) 9) - 1)) (h_.v rfl) (h_.n 5 rfl) hx16 rfl (h_.w rfl) rfl WK rfl rfl) rfl) ?_
 exact zN
 refine w_ ?_
 refine Yd<|AC.wk (Q8 (p:=6) (off:=0) (q:=3) rfl rfl rfl)<|AC.wk (Q8 (p:=6) (off:=1) (q:=4) rfl rfl rfl)<|AC.wk (Q8 (p:=6) (off:=2) (q:=5) rfl rfl rfl) ?_
 iterate 5 refine w_ ?_
 subst hO
 refine Zl (x:=((x1.1.1,(x1.1.2.1,x1.1.2.2.set 0 (x15.1,x15.2.1,x15.2.2.1,(pkV code (pkA 20 x1.2.1) (pkS code x1.2.1 x1.2.2 20) 9) - 1))),((pkA 9 (pkA 20 x1.2.1)),(pkS code (pkA 20 x1.2.1) (pkS code x1.2.1 x1.2.2 20) 9)))) [(0,0)] ?_ (Res.one rfl (Qz rfl rfl Q3 rfl)) rfl ⟨rfl,trivial⟩ rfl rfl
 (dsimp only; omega)
 have hb4':=a7 hb4
 refine w_ ?_
 obtain ⟨x17,hx18⟩:=gx x1.1.2.1 0
 have hp19:=QtF code (⟨#[48,49,50]⟩:ByteArray) x17 (pkA 20 x1.2.1) (pkS code x1.2.1 x1.2.2 20)
 apply dV [io 10 _,io 11 _,io 12 _,io 13 _,io 14 _,io 15 (lf (.ept 4 1 0 0)),io 16 (lf (dS x17)),⟨some 17,lf (dS ((spV code (⟨#[48,49,50]⟩:ByteArray) x17 (pkA 20 x1.2.1) (pkS code x1.2.1 x1.2.2 20)).1)),[(0,some (.box 121 [.dat Zn code,dI ((spV code (⟨#[48,49,50]⟩:ByteArray) x17 (pkA 20 x1.2.1) (pkS code x1.2.1 x1.2.2 20)).2.1), .val (.int .u64 ((spV code (⟨#[48,49,50]⟩:ByteArray) x17 (pkA 20 x1.2.1) (pkS code x1.2.1 x1.2.2 20)).2.2))])),(0,none)]⟩,io 18 (lf (.ept 4 1 0 0)),⟨none,lf (.val undef),[(4,some (.arr 9 .str (x1.1.2.1.set 0 ((spV code (⟨#[48,49,50]⟩:ByteArray) x17 (pkA 20 x1.2.1) (pkS code x1.2.1 x1.2.2 20)).1))))]⟩] [0,0,3,7,7,7,7,3,0,0]
 iterate 5 refine z_ ?_
 refine zz (fun _ h_=>ac (QS (e:= .str) (h_.v rfl) (h_.en 4 rfl) (Qu rfl) Qbw KT rfl (by omega) (by first | omega | (simp only[au]; omega))) rfl)<|zz (fun _ h_=>ac (Zp (e:= .str) (h_.v rfl) (h_.n 4 rfl) hx18 rfl KT rfl rfl) rfl) ?_
 refine zz (fun _ h_=>ac (dP 11 [] (Ji code (pkA 20 x1.2.1) (pkS code x1.2.1 x1.2.2 20) x17 (⟨#[48,49,50]⟩:ByteArray) (by omega) (by have h_:=‹(_∧_∧∀z∈_,ByteArray.size z≤2400)∧_›; have h2_:=h_.1.2.2 _ (a8 ‹_›); exact ⟨by omega,by decide⟩)) Qj7) rfl) ?_
 refine zz (fun _ h_=>ac (QS (e:= .str) (h_.v rfl) (h_.en 4 rfl) (Qu rfl) Qbw KT rfl (by omega) (by first | omega | (simp only[au]; omega))) rfl)<|zz (fun _ h_=>ac (QG (e:= .str) (z':=(spV code (⟨#[48,49,50]⟩:ByteArray) x17 (pkA 20 x1.2.1) (pkS code x1.2.1 x1.2.2 20)).1) (h_.v rfl) (h_.n 4 rfl) hx18 rfl (h_.w rfl) rfl KT rfl rfl) rfl) ?_
 exact zN
 refine w_ ?_
 refine Yd<|AC.wk (Q8 (p:=6) (off:=0) (q:=3) rfl rfl rfl)<|AC.wk (Q8 (p:=6) (off:=1) (q:=4) rfl rfl rfl)<|AC.wk (Q8 (p:=6) (off:=2) (q:=5) rfl rfl rfl) ?_
 iterate 5 refine w_ ?_
 subst hO
 refine Zl (x:=((x1.1.1,(x1.1.2.1.set 0 ((spV code (⟨#[48,49,50]⟩:ByteArray) x17 (pkA 20 x1.2.1) (pkS code x1.2.1 x1.2.2 20)).1),x1.1.2.2)),(((spV code (⟨#[48,49,50]⟩:ByteArray) x17 (pkA 20 x1.2.1) (pkS code x1.2.1 x1.2.2 20)).2.1),((spV code (⟨#[48,49,50]⟩:ByteArray) x17 (pkA 20 x1.2.1) (pkS code x1.2.1 x1.2.2 20)).2.2)))) [(0,0)] ?_ (Res.one rfl (Qz rfl rfl Q3 rfl)) rfl ⟨rfl,trivial⟩ rfl rfl
 (dsimp only; omega)
end Go.Proofs.YtjaadeknhofhpaaGreat
