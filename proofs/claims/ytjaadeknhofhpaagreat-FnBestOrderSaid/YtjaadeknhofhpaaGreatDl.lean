/- Walks over abstract states: drawn graphs. -/
import Derived.Test.YtjaadeknhofhpaaGreatDk
import Derived.Test.YtjaadeknhofhpaaGreatDd
import Derived.Test.YtjaadeknhofhpaaGreatBu
import Derived.Test.YtjaadeknhofhpaaGreatDi
set_option linter.unusedSimpArgs false
set_option linter.unusedVariables false
set_option linter.unusedSectionVars false
namespace Go.Proofs.YtjaadeknhofhpaaGreat
open Go.RowKit
set_option maxRecDepth 100000
set_option maxHeartbeats 4000000
section
variable {l:List ByteArray}{x:ByteArray}{j kd:Int}{i k:Nat}{g:List Q9}
theorem Qlz:∀(l:List ByteArray) (j:Int),sgA (l++[x]) j=sgA l j++sgN x (j+(l.length:Int)) x.size
  | [],j=>by simp[sgA]
  | y :: l,j=>by
    rw[bl,sgA,sgA,Qlz l (j+1),aI,ah]
    congr 3
    omega
theorem QnE (hx:l[k]? =some x):sgA (l.take k) 1++sgN x ((k:Int)+1) x.size=sgA (l.take (k+1)) 1:=by
  have hk:=(au.1 hx).1
  rw[Q0 hx,Qlz,ab,show (1:Int)+((min k l.length:Nat):Int)=(k:Int)+1 by omega]
theorem Qpl:(g++sgN x kd i)++[(x.extract ((i:Nat):Int).toNat ((i:Int)+1).toNat,kd)]=g++sgN x kd (i+1):=by
  unfold sgN
  rw[cd,bA,aI,cY,show ((i:Int)+1).toNat=i+1 by omega]; rfl
end
theorem Zu (ins:ByteArray)(outs:ByteArray)(inner:ByteArray)(arcs:ByteArray)(hk:(Z5 arcs 32).all okA=true)(hs:arcs.size≤900∧ins.size≤100∧outs.size≤100∧inner.size≤100):FC Tryz.prog 259 [(false,[dS ins]),(false,[dS outs]),(false,[dS inner]),(false,[dS arcs])] [] 0 (Is (ag [dI (((Za ins outs inner arcs).1).1), .ref 0, .ref 1, .ref 2,dS ((Za ins outs inner arcs).2.2.2)]) [(0,some (.arr 198 QS (((Za ins outs inner arcs).1).2))),(1,some (.arr 90 QY ((Za ins outs inner arcs).2.1))),(2,some (.arr 55 Q5 ((Za ins outs inner arcs).2.2.1)))]):=by
 have hsl:=Qm3 (s:=arcs) (b:=32)
 have h3l:([ins,outs,inner]:List ByteArray).length=3:=rfl
 refine QO Tryz.func259 rfl rfl Tryz.ntmps259 fun O_ hO w0_ N0_ X_ h0_ f0_=> ?_
 refine w_ ?_
 refine lc (Qj 0 Xr ZE rfl rfl (Fresh.of rfl) (nlr rfl)) ?_
 iterate 2 refine w_ ?_
 refine lc (QA QpQ rfl (ae.1 rfl) rfl rfl)<|lc (Qy 1 (Qb rfl) rfl rfl (Fresh.of rfl) (nlr rfl)) ?_
 iterate 7 refine w_ ?_
 refine lc (Qf 2 (e:= .str) Zo Zg H8 rfl ⟨_,_,rfl,(Qb rfl),⟨_,_,rfl,(Qb rfl),⟨_,_,rfl,(Qb rfl),rfl⟩⟩⟩ (ae.1 rfl) ⟨_,_,_,_,rfl,⟨rfl,rfl⟩,⟨_,_,_,_,rfl,⟨rfl,rfl⟩,⟨_,_,_,_,rfl,⟨rfl,rfl⟩,⟨rfl,rfl⟩,rfl⟩,rfl⟩,rfl⟩ (by decide) rfl rfl (Fresh.of rfl) (nlr rfl)) ?_
 iterate 4 refine w_ ?_
 refine AC.wk (QF 3 (p:=1) (off:=2) 90 QY rfl rfl (Fresh.of rfl) (nlr rfl)) ?_
 refine Qu (fun m_ s_=>∃(k:Nat) (g1:List (ByteArray×Int)),k≤([ins,outs,inner]).length∧m_=([ins,outs,inner]).length - k∧(g1=sgA (([ins,outs,inner]:List ByteArray).take k) 1)∧(g1.length≤100*k)∧s_=⟨[(3,lf (dS arcs)),(8,lP 0 0),(9,lP 1 0),(20,lR 2),(21,lI (([ins,outs,inner]).length:Int)),(22,lI (k:Int))],[(0,some (.box 29 [dI 0, .val (.slice none 0 0), .val (.slice none 0 0), .val (.slice none 0 0),dS ByteArray.empty])),(1,some (.box 347 [dI 0, .val (.slice none 0 0), .ref 4, .val (.slice none 0 0),dS ByteArray.empty, .val (.slice none 0 0), .val (.slice none 0 0)])),(2,some (.arr 9 .str ([ins,outs,inner]))),(4,some (.arr 90 QY g1))]⟩) ⟨0,([]:(QJ:Ty).Den),aw _,rfl,rfl,(aw _),rfl⟩ ?_ ?_
 exact wp [(0,0),(1,1),(2,2),(4,3)] ⟨rfl,rfl,rfl,(Qp (by first | rfl | simp)),trivial⟩
 rintro m_ s_ ⟨k,g1,hk1,hm2,hG,hL,rfl⟩
 iterate 4 refine w_ ?_
 cases hb3:(decide ((k:Int) < (([ins,outs,inner]).length:Int)))
 have hb3':=a7 hb3
 iterate 6 refine w_ ?_
 refine lc (Ql (Vz arcs 32 (by omega)).frozen QaK ⟨_,_,rfl,(Qb rfl),⟨_,_,rfl,(Evl.ev (ZJ 32 rfl)),rfl⟩⟩ rfl rfl)<|AL.fact (Qo (x:= .tmp 54) (Qa rfl)) fun hl4=> ?_
 iterate 4 refine w_ ?_
 refine AC.wk (QF 5 (p:=1) (off:=1) 198 QS rfl rfl (Fresh.of rfl) (nlr rfl))<|AC.wk (QF 6 (p:=1) (off:=3) 55 Q5 rfl rfl (Fresh.of rfl) (nlr rfl))<|AC.wk (QF 7 (p:=1) (off:=5) 9 .str rfl rfl (Fresh.of rfl) (nlr rfl))<|AC.wk (QF 8 (p:=1) (off:=6) 9 .str rfl rfl (Fresh.of rfl) (nlr rfl)) ?_
 refine Qu (fun m_ s_=>∃(m:Nat) (bb:((Int×(List (List Int×List Int)))×(List (ByteArray×Int))×(List (Int×Bool))×ByteArray)×List ByteArray×List ByteArray),m≤(Z5 arcs 32).length∧m_=(Z5 arcs 32).length - m∧(bb=((Z5 arcs 32).take m).foldl arV (((0,[]),g1,[],ByteArray.empty),[],[]))∧(DBJ bb m (2*m) (2*m))∧s_=⟨[(8,lP 0 0),(9,lP 1 0),(54,lf (.dat Zr (Z5 arcs 32))),(55,lI ((Z5 arcs 32).length:Int)),(56,lI (m:Int))],[(0,some (.box 29 [dI 0, .val (.slice none 0 0), .val (.slice none 0 0), .val (.slice none 0 0),dS ByteArray.empty])),(1,some (.box 347 [dI bb.1.1.1, .ref 9, .ref 10, .ref 11,dS bb.1.2.2.2, .ref 12, .ref 13])),(9,some (.arr 198 QS bb.1.1.2)),(10,some (.arr 90 QY bb.1.2.1)),(11,some (.arr 55 Q5 bb.1.2.2.1)),(12,some (.arr 9 .str bb.2.1)),(13,some (.arr 9 .str bb.2.2))]⟩) ⟨0,(((0,([]:(QZ:Ty).Den)),g1,([]:(QR:Ty).Den),ByteArray.empty),([]:(Zr:Ty).Den),([]:(Zr:Ty).Den)),aw _,rfl,rfl,(DBJ.zero _),rfl⟩ ?_ ?_
 exact wp [(0,0),(1,1),(9,5),(10,4),(11,6),(12,7),(13,8)] ⟨rfl,rfl,(Qp (by first | rfl | simp)),(Qp (by first | rfl | simp)),(Qp (by first | rfl | simp)),(Qp (by first | rfl | simp)),(Qp (by first | rfl | simp)),trivial⟩
 rintro m_ s_ ⟨m,bb,hk5,hm6,hB,hJ,rfl⟩
 iterate 4 refine w_ ?_
 cases hb7:(decide ((m:Int) < ((Z5 arcs 32).length:Int)))
 have hb7':=a7 hb7
 iterate 8 refine w_ ?_
 refine lc (Qc (Qa rfl) rfl (Qb rfl) rfl Qz rfl) ?_
 iterate 2 refine w_ ?_
 subst hO
 have e8:(bb.1.1.1:Int)=(((Za ins outs inner arcs).1).1):=by
  (rw[hB,ZF (by omega),hG,ZF (by omega)]; rfl)
 have e9:(bb.1.2.2.2:ByteArray)=((Za ins outs inner arcs).2.2.2):=by
  (rw[hB,ZF (by omega),hG,ZF (by omega)]; rfl)
 exact QD _ _ [(0,9),(1,10),(2,11)] (Qg rfl (QG rfl rfl Qz rfl)) (by rw[e8,e9] <;> rfl) ⟨(Qp (by (rw[hB,ZF (by omega),hG,ZF (by omega)]; rfl))),(Qp (by (rw[hB,ZF (by omega),hG,ZF (by omega)]; rfl))),(Qp (by (rw[hB,ZF (by omega),hG,ZF (by omega)]; rfl))),trivial⟩ rfl rfl
 have hb7':=a8 hb7
 iterate 5 refine w_ ?_
 obtain ⟨tx,hx11⟩:=gx (Z5 arcs 32) m
 have htx:=hx11
 have hts:=Qat (ai hx11)
 refine lc (Qh (Qa rfl) (Qa rfl) Zo Zg rfl (by omega) hx11) ?_
 iterate 6 refine w_ ?_
 refine lc (QK 14 [(0,1),(1,10),(2,9),(3,11),(4,12),(5,13)] (QcT bb tx m hJ (by omega) (ae.1 hk _ (ai htx)) (by omega)) Qj9 ⟨_,_,rfl,(Qb rfl),⟨_,_,rfl,(Qb rfl),rfl⟩⟩ ⟨rfl,rfl,rfl,rfl,rfl,rfl,trivial⟩ rfl ⟨trivial,(Fresh.of rfl),trivial,(Fresh.of rfl),(Fresh.of rfl),(Fresh.of rfl),(Fresh.of rfl),trivial,(Fresh.of rfl),(Fresh.of rfl),(Fresh.of rfl),trivial⟩ (nlr rfl))<|Qm ?_
 iterate 4 refine w_ ?_
 refine Qm<|QV ⟨m+1,((((arV bb tx).1.1.1,(arV bb tx).1.1.2),(arV bb tx).1.2.1,(arV bb tx).1.2.2.1,(arV bb tx).1.2.2.2),(arV bb tx).2.1,(arV bb tx).2.2),by omega,rfl,(by rw[hB,Q0 htx,cp]; rfl),(hJ.ar_ (text:=tx)),rfl⟩ (by omega) ?_
 exact wp [(0,0),(1,1),(9,16),(10,10),(11,17),(12,18),(13,19)] ⟨rfl,rfl,(Qp (by first | rfl | simp)),(Qp (by first | rfl | simp)),(Qp (by first | rfl | simp)),(Qp (by first | rfl | simp)),(Qp (by first | rfl | simp)),trivial⟩
 have hb3':=a8 hb3
 iterate 6 refine w_ ?_
 refine lc (Qw (e:= .str) (Qa rfl) rfl (Qa rfl) Zo Zg rfl (by omega) (by first | omega | (simp only[aq]; omega))) ?_
 obtain ⟨nm,hx13⟩:=gx ([ins,outs,inner]) k
 have hnm:=hx13
 have hns:nm.size≤100:=by have h_:=ai hx13; simp only[aG,cQ,or_false] at h_; rcases h_ with rfl | rfl | rfl <;> omega
 refine lc (QP (e:= .str) (Qa rfl) rfl hx13 rfl Zg rfl rfl) ?_
 iterate 7 refine w_ ?_
 refine Qu (fun m_ s_=>∃(i:Nat) (g2:List (ByteArray×Int)),i≤nm.size∧m_=nm.size - i∧(g2=g1++sgN nm ((k:Int)+1) i)∧(g2.length≤100*k+i)∧s_=⟨[(3,lf (dS arcs)),(8,lP 0 0),(9,lP 1 0),(10,lI (k:Int)),(11,lf (dS nm)),(12,lI (i:Int)),(20,lR 2),(21,lI (([ins,outs,inner]).length:Int)),(22,lI (k:Int)),(23,lB true),(24,lI (k:Int)),(25,lf (.ept 2 1 k 0)),(26,lf (dS nm))],[(0,some (.box 29 [dI 0, .val (.slice none 0 0), .val (.slice none 0 0), .val (.slice none 0 0),dS ByteArray.empty])),(1,some (.box 347 [dI 0, .val (.slice none 0 0), .ref 20, .val (.slice none 0 0),dS ByteArray.empty, .val (.slice none 0 0), .val (.slice none 0 0)])),(2,some (.arr 9 .str ([ins,outs,inner]))),(20,some (.arr 90 QY g2))]⟩) ⟨0,g1,aw _,rfl,(by simp[sgN]),(by omega),rfl⟩ ?_ ?_
 exact wo [(0,0),(1,1),(2,2),(20,4)]
 rintro m_ s_ ⟨i,g2,hk14,hm15,hG2,hL2,rfl⟩
 iterate 4 refine w_ ?_
 refine AL.fact (U6 (x:= .tmp 28) (Qa rfl)) fun hl16=>lc (W2 (Qa rfl) rfl ZS) ?_
 iterate 2 refine w_ ?_
 cases hb17:(decide ((i:Int) < (nm.size:Int)))
 have hb17':=a7 hb17
 iterate 6 refine w_ ?_
 refine Qm<|QV ⟨k+1,g2,by omega,rfl,(by rw[hG2,hG,show i=nm.size by omega]; exact QnE hnm),(by omega),rfl⟩ (by omega) ?_
 exact wo [(0,0),(1,1),(2,2),(4,20)]
 have hb17':=a8 hb17
 iterate 4 refine w_ ?_
 refine dv [io 33 (lP 1 0),io 34 (lP 1 0),io 35 (lP 1 0),io 36 (lP 1 0),io 37 (lP 1 2),io 38 (lR 20),io 39 (lf (dS nm)),io 40 (lI (i:Int)),io 41 (lI (i:Int)),io 42 (lI ((i:Int)+1)),io 43 (lf (dS (nm.extract ((i:Int)).toNat ((i:Int)+1).toNat))),io 44 (lI (k:Int)),io 45 (lI ((k:Int)+1)),io 46 (ag [dS (nm.extract ((i:Int)).toNat ((i:Int)+1).toNat),dI ((k:Int)+1)]),⟨some 47,lR 21,[(21,some (.arr 90 QY ([(nm.extract ((i:Int)).toNat ((i:Int)+1).toNat,(k:Int)+1)])))]⟩,⟨some 48,lR 22,[(22,some (.arr 90 QY (g2++([(nm.extract ((i:Int)).toNat ((i:Int)+1).toNat,(k:Int)+1)])))),(20,none),(21,none)]⟩,io 49 (lP 1 0),io 50 (lP 1 0),io 51 (lP 1 2),⟨none,lf (.val undef),[(1,some (.box 347 [dI 0, .val (.slice none 0 0), .ref 22, .val (.slice none 0 0),dS ByteArray.empty, .val (.slice none 0 0), .val (.slice none 0 0)]))]⟩] [0,0,2,6,14,30,0,0,0,256,960,0,2048,8128,16320,32766,65535,131071,262143,524287] mixed rfl (by kernel_rfl) ⟨dxm rfl rfl,dxm rfl rfl,dxn rfl rfl rfl,dxf YB rfl rfl rfl,dxf XH rfl rfl rfl,dxl Ub rfl rfl rfl rfl rfl,dxm rfl rfl,dxm rfl rfl,dxm rfl rfl,fun _ h_=>ac (Xb (h_.v rfl) (Qv rfl) rfl (by omega)) rfl,fun _ h_=>ac (show Does _ _ _ _ (St.put _ 43 (lf (dS (nm.extract ((i:Int)).toNat ((i:Int)+1).toNat)))) from ZW (l:=(some (i:Int))) (h:=(some ((i:Int)+1))) (h_.v rfl) (by exact (h_.v rfl)) (by exact (h_.v rfl)) ZS rfl (by first | omega | (simp only[ao,ak]; omega)) (by first | omega | (simp only[ao,ak]; omega)) (by first | omega | (simp only[ao,ak]; omega))) rfl,dxm rfl rfl,fun _ h_=>ac (Xb (h_.v rfl) (Qv rfl) rfl (by omega)) rfl,fun _ h_=>ac (QA QrL ⟨_,_,rfl,(h_.w rfl),⟨_,_,rfl,(h_.w rfl),rfl⟩⟩ (ae.1 rfl) rfl rfl) rfl,fun _ h_=>ac (Qf 21 (e:=QY) YE YJ UZ rfl ⟨_,_,rfl,(h_.w rfl),rfl⟩ (ae.1 rfl) ⟨_,_,_,_,rfl,⟨[dS (nm.extract ((i:Int)).toNat ((i:Int)+1).toNat)],[dI ((k:Int)+1)],_,_,_,_,rfl,rfl,⟨rfl,rfl⟩,⟨rfl,rfl⟩,rfl⟩,⟨rfl,rfl⟩,rfl⟩ (by decide) rfl rfl (h_.fr 21 rfl) (nlr rfl)) rfl,fun _ h_=>ac (QH 22 (h_.v rfl) (h_.en 20 rfl) (h_.v rfl) (h_.en 21 rfl) rfl YE QaO (by first | omega | (simp only[ah,aj]; omega)) rfl (h_.fr 22 rfl) (nlr rfl)) rfl,dxn rfl rfl rfl,dxf YB rfl rfl rfl,dxf XH rfl rfl rfl,fun _ h_=>ac (Qc (h_.v rfl) (h_.en 1 rfl) (h_.w rfl) (by simp only[ZB,X7,aQ,b8]; rw[(h_.en 22 rfl)]; rfl) Ub rfl) rfl,⟨⟩⟩ ?_
 iterate 5 refine w_ ?_
 refine Qm<|QV ⟨i+1,(g2++([(nm.extract ((i:Int)).toNat ((i:Int)+1).toNat,(k:Int)+1)])),by omega,rfl,(by rw[hG2]; exact Qpl),(by simp only[aa,ah,aj]; omega),rfl⟩ (by omega) ?_
 exact wp [(0,0),(1,1),(2,2),(20,22)] ⟨rfl,rfl,rfl,(Qp (by first | rfl | simp)),trivial⟩
def tx0:ByteArray:=⟨#[97,98]⟩
def tx1:ByteArray:=⟨#[99]⟩
def tx2:ByteArray:=⟨#[]⟩
def tx3:ByteArray:=⟨#[97,43,62,99,43,32,98,43,62,99,43,32,99,43,62,97,45,32,99,43,62,98,45,32,97,45,62,99,45,32,98,45,62,99,45,32,42,99,45,62,97,43,32,42,99,45,62,98,43]⟩
def tx4:ByteArray:=⟨#[97]⟩
def tx5:ByteArray:=⟨#[98]⟩
def tx6:ByteArray:=⟨#[97,43,62,98,43,32,98,43,62,97,45,32,97,45,62,98,45,32,42,98,45,62,97,43]⟩
def tx7:ByteArray:=⟨#[114]⟩
def tx8:ByteArray:=⟨#[120,121]⟩
def tx9:ByteArray:=⟨#[114,43,62,120,43,32,114,43,62,121,43,32,120,43,62,114,45,32,121,43,62,114,45,32,114,45,62,120,45,32,114,45,62,121,45,32,42,120,45,62,114,43,32,42,121,45,62,114,43]⟩
def Qm0:ByteArray:=⟨#[97,100]⟩
def QcG:ByteArray:=⟨#[98,99]⟩
def Qnl:ByteArray:=⟨#[97,43,62,98,43,32,98,43,62,100,43,32,100,43,62,99,43,32,99,43,62,97,45,32,97,45,62,98,45,32,98,45,62,100,45,32,100,45,62,99,45,32,42,99,45,62,97,43]⟩
def QmB:ByteArray:=⟨#[120]⟩
def QmL:ByteArray:=⟨#[97,43,62,120,43,32,120,43,62,98,43,32,98,43,62,97,45,32,97,45,62,120,45,32,120,45,62,98,45,32,42,98,45,62,97,43]⟩
def Qmx:ByteArray:=⟨#[42,95,112,62,97,43,32,95,112,62,98,43,32,97,43,62,99,43,47,49,32,99,43,47,49,62,97,45,32,97,45,62,99,45,47,49,32,99,45,47,49,62,95,112,32,98,43,62,99,43,47,50,32,99,43,47,50,62,98,45,32,98,45,62,99,45,47,50,32,99,45,47,50,62,95,112]⟩
def Qm8:ByteArray:=⟨#[97,43,62,126,32,126,62,98,43,32,98,43,62,97,45,32,97,45,62,98,45,32,42,98,45,62,97,43]⟩
def Ql7:ByteArray:=⟨#[42,121,45,62,114,43,32,114,43,62,120,43,32,120,43,62,120,45,32,120,45,62,121,43,32,121,43,62,114,45,32,114,45,62,121,45]⟩
def Qmw:ByteArray:=⟨#[42,97,45,62,97,43,32,97,43,62,95,112,32,95,112,62,98,43,32,95,112,62,99,43,32,98,43,62,98,45,32,99,43,62,99,45,32,98,45,62,95,113,32,99,45,62,95,113,32,95,113,62,97,45]⟩
def Qm4:ByteArray:=⟨#[97,43,47,49,62,98,43,32,98,43,62,97,43,47,50,32,97,43,47,50,62,98,45,32,42,98,45,62,97,43,47,49]⟩
def QsO:ByteArray:=⟨#[112]⟩
def Qsu:ByteArray:=⟨#[113]⟩
def Qsi:ByteArray:=⟨#[112,43,62,113,43,32,113,43,62,112,45,32,112,45,62,113,45,32,42,113,45,62,112,43]⟩
def QmZ:ByteArray:=⟨#[42,95,112,62,97,43,32,97,43,62,98,43,32,98,43,62,95,113]⟩
theorem WY (code:List UInt8)(at_:Int)(sd:Int)(ha:0≤at_∧at_≤999999000):FC Tryz.prog 261 [(false,[.ptr 0 0])] [(0,some (.box 121 [.dat Zt code,dI at_, .val (.int .u64 sd)]))] 1 (Ex (fun x:QX×Int×Int=>Ty.tot ZC x.1≤1000∧(1≤x.1.2.1.length∧1≤x.1.2.2.1.length)∧(at_≤x.2.1∧x.2.1≤at_+10)) (fun x:QX×Int×Int=>ag [dI x.1.1.1, .ref 1, .ref 2, .ref 3,dS x.1.2.2.2]) (fun x:QX×Int×Int=>[(0,some (.box 121 [.dat Zt code,dI x.2.1, .val (.int .u64 x.2.2)])),(1,some (.arr 198 QS x.1.1.2)),(2,some (.arr 90 QY x.1.2.1)),(3,some (.arr 55 Q5 x.1.2.2.1))])):=by
 refine QO Tryz.func261 rfl rfl Tryz.ntmps261 fun O_ hO w0_ N0_ X_ h0_ f0_=> ?_
 refine w_ ?_
 refine lc (Qj 1 Xr ZE rfl rfl (Fresh.of rfl) (nlr rfl)) ?_
 iterate 4 refine w_ ?_
 have hp1:=Z2 code at_ sd 7
 refine lc (QK 2 [(0,0)] (Zh code at_ sd 7 (by omega)) YO ⟨_,_,rfl,(Qb rfl),⟨_,_,rfl,(Evl.ev (Qv rfl)),rfl⟩⟩ ⟨rfl,trivial⟩ rfl ⟨trivial,trivial⟩ (nlr rfl)) ?_
 iterate 6 refine w_ ?_
 cases hb2:(decide ((pkV code at_ sd 7)=0))
 have hb2':=a7 hb2
 iterate 5 refine w_ ?_
 cases hb3:(decide ((pkV code at_ sd 7)=1))
 have hb3':=a7 hb3
 iterate 5 refine w_ ?_
 cases hb4:(decide ((pkV code at_ sd 7)=2))
 have hb4':=a7 hb4
 iterate 5 refine w_ ?_
 cases hb5:(decide ((pkV code at_ sd 7)=3))
 have hb5':=a7 hb5
 iterate 5 refine w_ ?_
 cases hb6:(decide ((pkV code at_ sd 7)=4))
 have hb6':=a7 hb6
 iterate 5 refine w_ ?_
 cases hb7:(decide ((pkV code at_ sd 7)=5))
 have hb7':=a7 hb7
 iterate 4 refine w_ ?_
 refine lc (Q8 3 (Zu tx4 tx5 tx2 Qm8 (by decide+kernel) (by decide+kernel)) Yw ⟨_,_,rfl,(Evl.ev (Evl.str rfl)),⟨_,_,rfl,(Evl.ev (Evl.str rfl)),⟨_,_,rfl,(Evl.ev (Evl.str rfl)),⟨_,_,rfl,(Evl.ev (Evl.str rfl)),rfl⟩⟩⟩⟩ rfl rfl ⟨Fresh.of rfl,Fresh.of rfl,Fresh.of rfl,trivial⟩ (nlr rfl))<|lc (Qc (Qa rfl) rfl (Qb rfl) rfl Qz rfl) ?_
 iterate 2 refine w_ ?_
 subst hO
 refine ZU (x:=(((((Za tx4 tx5 tx2 Qm8).1).1,((Za tx4 tx5 tx2 Qm8).1).2),((Za tx4 tx5 tx2 Qm8).2.1,((Za tx4 tx5 tx2 Qm8).2.2.1,(Za tx4 tx5 tx2 Qm8).2.2.2))),((pkA 7 at_),(pkS code at_ sd 7)))) [(0,0),(1,3),(2,4),(3,5)] ?_ (Qg rfl (QG rfl rfl Qz rfl)) rfl ⟨rfl,rfl,rfl,rfl,trivial⟩ rfl rfl
 first | (dsimp only; exact ⟨by decide+kernel,⟨by decide+kernel,by decide+kernel⟩,by omega⟩)
 have hb7':=a8 hb7
 iterate 2 refine w_ ?_
 refine lc (Q8 6 (Zu tx0 tx1 tx2 Qmx (by decide+kernel) (by decide+kernel)) Yw ⟨_,_,rfl,(Evl.ev (Evl.str rfl)),⟨_,_,rfl,(Evl.ev (Evl.str rfl)),⟨_,_,rfl,(Evl.ev (Evl.str rfl)),⟨_,_,rfl,(Evl.ev (Evl.str rfl)),rfl⟩⟩⟩⟩ rfl rfl ⟨Fresh.of rfl,Fresh.of rfl,Fresh.of rfl,trivial⟩ (nlr rfl))<|lc (Qc (Qa rfl) rfl (Qb rfl) rfl Qz rfl) ?_
 iterate 2 refine w_ ?_
 subst hO
 refine ZU (x:=(((((Za tx0 tx1 tx2 Qmx).1).1,((Za tx0 tx1 tx2 Qmx).1).2),((Za tx0 tx1 tx2 Qmx).2.1,((Za tx0 tx1 tx2 Qmx).2.2.1,(Za tx0 tx1 tx2 Qmx).2.2.2))),((pkA 7 at_),(pkS code at_ sd 7)))) [(0,0),(1,6),(2,7),(3,8)] ?_ (Qg rfl (QG rfl rfl Qz rfl)) rfl ⟨rfl,rfl,rfl,rfl,trivial⟩ rfl rfl
 first | (dsimp only; exact ⟨by decide+kernel,⟨by decide+kernel,by decide+kernel⟩,by omega⟩)
 have hb6':=a8 hb6
 iterate 2 refine w_ ?_
 refine lc (Q8 9 (Zu tx4 tx5 QmB QmL (by decide+kernel) (by decide+kernel)) Yw ⟨_,_,rfl,(Evl.ev (Evl.str rfl)),⟨_,_,rfl,(Evl.ev (Evl.str rfl)),⟨_,_,rfl,(Evl.ev (Evl.str rfl)),⟨_,_,rfl,(Evl.ev (Evl.str rfl)),rfl⟩⟩⟩⟩ rfl rfl ⟨Fresh.of rfl,Fresh.of rfl,Fresh.of rfl,trivial⟩ (nlr rfl))<|lc (Qc (Qa rfl) rfl (Qb rfl) rfl Qz rfl) ?_
 iterate 2 refine w_ ?_
 subst hO
 refine ZU (x:=(((((Za tx4 tx5 QmB QmL).1).1,((Za tx4 tx5 QmB QmL).1).2),((Za tx4 tx5 QmB QmL).2.1,((Za tx4 tx5 QmB QmL).2.2.1,(Za tx4 tx5 QmB QmL).2.2.2))),((pkA 7 at_),(pkS code at_ sd 7)))) [(0,0),(1,9),(2,10),(3,11)] ?_ (Qg rfl (QG rfl rfl Qz rfl)) rfl ⟨rfl,rfl,rfl,rfl,trivial⟩ rfl rfl
 first | (dsimp only; exact ⟨by decide+kernel,⟨by decide+kernel,by decide+kernel⟩,by omega⟩)
 have hb5':=a8 hb5
 iterate 2 refine w_ ?_
 refine lc (Q8 12 (Zu Qm0 QcG tx2 Qnl (by decide+kernel) (by decide+kernel)) Yw ⟨_,_,rfl,(Evl.ev (Evl.str rfl)),⟨_,_,rfl,(Evl.ev (Evl.str rfl)),⟨_,_,rfl,(Evl.ev (Evl.str rfl)),⟨_,_,rfl,(Evl.ev (Evl.str rfl)),rfl⟩⟩⟩⟩ rfl rfl ⟨Fresh.of rfl,Fresh.of rfl,Fresh.of rfl,trivial⟩ (nlr rfl))<|lc (Qc (Qa rfl) rfl (Qb rfl) rfl Qz rfl) ?_
 iterate 2 refine w_ ?_
 subst hO
 refine ZU (x:=(((((Za Qm0 QcG tx2 Qnl).1).1,((Za Qm0 QcG tx2 Qnl).1).2),((Za Qm0 QcG tx2 Qnl).2.1,((Za Qm0 QcG tx2 Qnl).2.2.1,(Za Qm0 QcG tx2 Qnl).2.2.2))),((pkA 7 at_),(pkS code at_ sd 7)))) [(0,0),(1,12),(2,13),(3,14)] ?_ (Qg rfl (QG rfl rfl Qz rfl)) rfl ⟨rfl,rfl,rfl,rfl,trivial⟩ rfl rfl
 first | (dsimp only; exact ⟨by decide+kernel,⟨by decide+kernel,by decide+kernel⟩,by omega⟩)
 have hb4':=a8 hb4
 iterate 2 refine w_ ?_
 refine lc (Q8 15 (Zu tx7 tx8 tx2 tx9 (by decide+kernel) (by decide+kernel)) Yw ⟨_,_,rfl,(Evl.ev (Evl.str rfl)),⟨_,_,rfl,(Evl.ev (Evl.str rfl)),⟨_,_,rfl,(Evl.ev (Evl.str rfl)),⟨_,_,rfl,(Evl.ev (Evl.str rfl)),rfl⟩⟩⟩⟩ rfl rfl ⟨Fresh.of rfl,Fresh.of rfl,Fresh.of rfl,trivial⟩ (nlr rfl))<|lc (Qc (Qa rfl) rfl (Qb rfl) rfl Qz rfl) ?_
 iterate 2 refine w_ ?_
 subst hO
 refine ZU (x:=(((((Za tx7 tx8 tx2 tx9).1).1,((Za tx7 tx8 tx2 tx9).1).2),((Za tx7 tx8 tx2 tx9).2.1,((Za tx7 tx8 tx2 tx9).2.2.1,(Za tx7 tx8 tx2 tx9).2.2.2))),((pkA 7 at_),(pkS code at_ sd 7)))) [(0,0),(1,15),(2,16),(3,17)] ?_ (Qg rfl (QG rfl rfl Qz rfl)) rfl ⟨rfl,rfl,rfl,rfl,trivial⟩ rfl rfl
 first | (dsimp only; exact ⟨by decide+kernel,⟨by decide+kernel,by decide+kernel⟩,by omega⟩)
 have hb3':=a8 hb3
 iterate 2 refine w_ ?_
 refine lc (Q8 18 (Zu tx4 tx5 tx2 tx6 (by decide+kernel) (by decide+kernel)) Yw ⟨_,_,rfl,(Evl.ev (Evl.str rfl)),⟨_,_,rfl,(Evl.ev (Evl.str rfl)),⟨_,_,rfl,(Evl.ev (Evl.str rfl)),⟨_,_,rfl,(Evl.ev (Evl.str rfl)),rfl⟩⟩⟩⟩ rfl rfl ⟨Fresh.of rfl,Fresh.of rfl,Fresh.of rfl,trivial⟩ (nlr rfl))<|lc (Qc (Qa rfl) rfl (Qb rfl) rfl Qz rfl) ?_
 iterate 2 refine w_ ?_
 subst hO
 refine ZU (x:=(((((Za tx4 tx5 tx2 tx6).1).1,((Za tx4 tx5 tx2 tx6).1).2),((Za tx4 tx5 tx2 tx6).2.1,((Za tx4 tx5 tx2 tx6).2.2.1,(Za tx4 tx5 tx2 tx6).2.2.2))),((pkA 7 at_),(pkS code at_ sd 7)))) [(0,0),(1,18),(2,19),(3,20)] ?_ (Qg rfl (QG rfl rfl Qz rfl)) rfl ⟨rfl,rfl,rfl,rfl,trivial⟩ rfl rfl
 first | (dsimp only; exact ⟨by decide+kernel,⟨by decide+kernel,by decide+kernel⟩,by omega⟩)
 have hb2':=a8 hb2
 iterate 2 refine w_ ?_
 refine lc (Q8 21 (Zu tx0 tx1 tx2 tx3 (by decide+kernel) (by decide+kernel)) Yw ⟨_,_,rfl,(Evl.ev (Evl.str rfl)),⟨_,_,rfl,(Evl.ev (Evl.str rfl)),⟨_,_,rfl,(Evl.ev (Evl.str rfl)),⟨_,_,rfl,(Evl.ev (Evl.str rfl)),rfl⟩⟩⟩⟩ rfl rfl ⟨Fresh.of rfl,Fresh.of rfl,Fresh.of rfl,trivial⟩ (nlr rfl))<|lc (Qc (Qa rfl) rfl (Qb rfl) rfl Qz rfl) ?_
 iterate 2 refine w_ ?_
 subst hO
 refine ZU (x:=(((((Za tx0 tx1 tx2 tx3).1).1,((Za tx0 tx1 tx2 tx3).1).2),((Za tx0 tx1 tx2 tx3).2.1,((Za tx0 tx1 tx2 tx3).2.2.1,(Za tx0 tx1 tx2 tx3).2.2.2))),((pkA 7 at_),(pkS code at_ sd 7)))) [(0,0),(1,21),(2,22),(3,23)] ?_ (Qg rfl (QG rfl rfl Qz rfl)) rfl ⟨rfl,rfl,rfl,rfl,trivial⟩ rfl rfl
 first | (dsimp only; exact ⟨by decide+kernel,⟨by decide+kernel,by decide+kernel⟩,by omega⟩)
theorem QbO (code:List UInt8)(at_:Int)(sd:Int)[∀s,Decidable (StgOk s)][∀s,Decidable (Xv s)](ha:0≤at_∧at_≤999998900):FC Tryz.prog 161 [(false,[.ptr 0 0])] [(0,some (.box 121 [.dat Zt code,dI at_, .val (.int .u64 sd)]))] 1 (Ex (fun x:QX×Int×Int=>Ty.tot ZC x.1≤1000∧(1≤x.1.2.1.length∧1≤x.1.2.2.1.length)∧(at_≤x.2.1∧x.2.1≤at_+20)) (fun x:QX×Int×Int=>ag [dI x.1.1.1, .ref 1, .ref 2, .ref 3,dS x.1.2.2.2]) (fun x:QX×Int×Int=>[(0,some (.box 121 [.dat Zt code,dI x.2.1, .val (.int .u64 x.2.2)])),(1,some (.arr 198 QS x.1.1.2)),(2,some (.arr 90 QY x.1.2.1)),(3,some (.arr 55 Q5 x.1.2.2.1))])):=by
 refine QO Tryz.func161 rfl rfl Tryz.ntmps161 fun O_ hO w0_ N0_ X_ h0_ f0_=> ?_
 refine w_ ?_
 refine lc (Qj 1 Xr ZE rfl rfl (Fresh.of rfl) (nlr rfl)) ?_
 iterate 4 refine w_ ?_
 have hp1:=Z2 code at_ sd 9
 refine lc (QK 2 [(0,0)] (Zh code at_ sd 9 (by omega)) YO ⟨_,_,rfl,(Qb rfl),⟨_,_,rfl,(Evl.ev (Qv rfl)),rfl⟩⟩ ⟨rfl,trivial⟩ rfl ⟨trivial,trivial⟩ (nlr rfl)) ?_
 iterate 6 refine w_ ?_
 cases hb2:(decide ((pkV code at_ sd 9)=0))
 have hb2':=a7 hb2
 iterate 5 refine w_ ?_
 cases hb3:(decide ((pkV code at_ sd 9)=1))
 have hb3':=a7 hb3
 iterate 5 refine w_ ?_
 cases hb4:(decide ((pkV code at_ sd 9)=2))
 have hb4':=a7 hb4
 iterate 5 refine w_ ?_
 cases hb5:(decide ((pkV code at_ sd 9)=3))
 have hb5':=a7 hb5
 iterate 5 refine w_ ?_
 cases hb6:(decide ((pkV code at_ sd 9)=4))
 have hb6':=a7 hb6
 iterate 5 refine w_ ?_
 refine Y9 3 [(0,0)] (WY code (pkA 9 at_) (pkS code at_ sd 9) (by omega)) QdA ⟨_,_,rfl,(Qb rfl),rfl⟩ ⟨rfl,trivial⟩ rfl (fun _=>rfl) (fun _=>⟨trivial,(Fresh.of rfl),(Fresh.of rfl),(Fresh.of rfl),trivial⟩) (nlr rfl) fun x7 hx8=>lc (Qc (Qa rfl) rfl (Qb rfl) rfl Qz rfl) ?_
 iterate 2 refine w_ ?_
 subst hO
 refine ZU (x:=(((x7.1.1.1,x7.1.1.2),(x7.1.2.1,(x7.1.2.2.1,x7.1.2.2.2))),(x7.2.1,x7.2.2))) [(0,0),(1,4),(2,5),(3,6)] ?_ (Qg rfl (QG rfl rfl Qz rfl)) rfl ⟨rfl,rfl,rfl,rfl,trivial⟩ rfl rfl
 (have h_:=‹Ty.tot ZC _≤1000∧_›; dsimp only; exact ⟨h_.1,h_.2.1,by omega⟩)
 have hb6':=a8 hb6
 iterate 2 refine w_ ?_
 refine lc (Q8 7 (Zu tx4 tx5 tx2 QmZ (by decide+kernel) (by decide+kernel)) Yw ⟨_,_,rfl,(Evl.ev (Evl.str rfl)),⟨_,_,rfl,(Evl.ev (Evl.str rfl)),⟨_,_,rfl,(Evl.ev (Evl.str rfl)),⟨_,_,rfl,(Evl.ev (Evl.str rfl)),rfl⟩⟩⟩⟩ rfl rfl ⟨Fresh.of rfl,Fresh.of rfl,Fresh.of rfl,trivial⟩ (nlr rfl))<|lc (Qc (Qa rfl) rfl (Qb rfl) rfl Qz rfl) ?_
 iterate 2 refine w_ ?_
 subst hO
 refine ZU (x:=(((((Za tx4 tx5 tx2 QmZ).1).1,((Za tx4 tx5 tx2 QmZ).1).2),((Za tx4 tx5 tx2 QmZ).2.1,((Za tx4 tx5 tx2 QmZ).2.2.1,(Za tx4 tx5 tx2 QmZ).2.2.2))),((pkA 9 at_),(pkS code at_ sd 9)))) [(0,0),(1,7),(2,8),(3,9)] ?_ (Qg rfl (QG rfl rfl Qz rfl)) rfl ⟨rfl,rfl,rfl,rfl,trivial⟩ rfl rfl
 (dsimp only; exact ⟨by decide+kernel,⟨by decide+kernel,by decide+kernel⟩,by omega⟩)
 have hb5':=a8 hb5
 iterate 2 refine w_ ?_
 refine lc (Ql (Zu QsO Qsu tx2 Qsi (by decide+kernel) (by decide+kernel)).frozenG Yw ⟨_,_,rfl,(Evl.ev (Evl.str rfl)),⟨_,_,rfl,(Evl.ev (Evl.str rfl)),⟨_,_,rfl,(Evl.ev (Evl.str rfl)),⟨_,_,rfl,(Evl.ev (Evl.str rfl)),rfl⟩⟩⟩⟩ rfl rfl)<|lc (Ql (Zu tx4 tx5 tx2 tx6 (by decide+kernel) (by decide+kernel)).frozenG Yw ⟨_,_,rfl,(Evl.ev (Evl.str rfl)),⟨_,_,rfl,(Evl.ev (Evl.str rfl)),⟨_,_,rfl,(Evl.ev (Evl.str rfl)),⟨_,_,rfl,(Evl.ev (Evl.str rfl)),rfl⟩⟩⟩⟩ rfl rfl)<|Y9 10 [] (QaY (Za QsO Qsu tx2 Qsi) (Za tx4 tx5 tx2 tx6) (by decide+kernel) (by decide+kernel)) Qko ⟨_,_,rfl,(Qb rfl),⟨_,_,rfl,(Qb rfl),rfl⟩⟩ trivial rfl (fun _=>rfl) (fun _=>⟨(Fresh.of rfl),(Fresh.of rfl),(Fresh.of rfl),trivial⟩) (nlr rfl) fun x9 hx10=> ?_
 iterate 3 refine w_ ?_
 refine lc (Qj 13 Xr ZE rfl rfl (Fresh.of rfl) (nlr rfl))<|lc (Qc (Qa rfl) rfl (Qb rfl) rfl Qz rfl) ?_
 iterate 5 refine w_ ?_
 cases hb11:(x9.2)
 iterate 5 refine w_ ?_
 refine Y9 14 [(0,0)] (WY code (pkA 9 at_) (pkS code at_ sd 9) (by omega)) QdA ⟨_,_,rfl,(Qb rfl),rfl⟩ ⟨rfl,trivial⟩ rfl (fun _=>rfl) (fun _=>⟨trivial,(Fresh.of rfl),(Fresh.of rfl),(Fresh.of rfl),trivial⟩) (nlr rfl) fun x12 hx13=>lc (Qc (Qa rfl) rfl (Qb rfl) rfl Qz rfl) ?_
 iterate 2 refine w_ ?_
 subst hO
 refine ZU (x:=(((x12.1.1.1,x12.1.1.2),(x12.1.2.1,(x12.1.2.2.1,x12.1.2.2.2))),(x12.2.1,x12.2.2))) [(0,0),(1,15),(2,16),(3,17)] ?_ (Qg rfl (QG rfl rfl Qz rfl)) rfl ⟨rfl,rfl,rfl,rfl,trivial⟩ rfl rfl
 (have h_:=‹Ty.tot ZC _≤1000∧_›; dsimp only; exact ⟨h_.1,h_.2.1,by omega⟩)
 iterate 3 refine w_ ?_
 refine lc (Qc (Qa rfl) rfl (Qb rfl) rfl Qz rfl) ?_
 iterate 2 refine w_ ?_
 subst hO
 refine ZU (x:=(((x9.1.1.1,x9.1.1.2),(x9.1.2.1,(x9.1.2.2.1,x9.1.2.2.2))),((pkA 9 at_),(pkS code at_ sd 9)))) [(0,0),(1,10),(2,11),(3,12)] ?_ (Qg rfl (QG rfl rfl Qz rfl)) rfl ⟨rfl,rfl,rfl,rfl,trivial⟩ rfl rfl
 (have h_:=‹_=true→_=unS _ _›; have h2_:=h_ ‹_›; dsimp only; rw[h2_]; exact ⟨by decide+kernel,⟨by decide+kernel,by decide+kernel⟩,by omega⟩)
 have hb4':=a8 hb4
 iterate 2 refine w_ ?_
 refine lc (Q8 18 (Zu tx4 tx5 tx2 Qm4 (by decide+kernel) (by decide+kernel)) Yw ⟨_,_,rfl,(Evl.ev (Evl.str rfl)),⟨_,_,rfl,(Evl.ev (Evl.str rfl)),⟨_,_,rfl,(Evl.ev (Evl.str rfl)),⟨_,_,rfl,(Evl.ev (Evl.str rfl)),rfl⟩⟩⟩⟩ rfl rfl ⟨Fresh.of rfl,Fresh.of rfl,Fresh.of rfl,trivial⟩ (nlr rfl))<|lc (Qc (Qa rfl) rfl (Qb rfl) rfl Qz rfl) ?_
 iterate 2 refine w_ ?_
 subst hO
 refine ZU (x:=(((((Za tx4 tx5 tx2 Qm4).1).1,((Za tx4 tx5 tx2 Qm4).1).2),((Za tx4 tx5 tx2 Qm4).2.1,((Za tx4 tx5 tx2 Qm4).2.2.1,(Za tx4 tx5 tx2 Qm4).2.2.2))),((pkA 9 at_),(pkS code at_ sd 9)))) [(0,0),(1,18),(2,19),(3,20)] ?_ (Qg rfl (QG rfl rfl Qz rfl)) rfl ⟨rfl,rfl,rfl,rfl,trivial⟩ rfl rfl
 (dsimp only; exact ⟨by decide+kernel,⟨by decide+kernel,by decide+kernel⟩,by omega⟩)
 have hb3':=a8 hb3
 iterate 2 refine w_ ?_
 refine lc (Q8 21 (Zu tx4 QcG tx2 Qmw (by decide+kernel) (by decide+kernel)) Yw ⟨_,_,rfl,(Evl.ev (Evl.str rfl)),⟨_,_,rfl,(Evl.ev (Evl.str rfl)),⟨_,_,rfl,(Evl.ev (Evl.str rfl)),⟨_,_,rfl,(Evl.ev (Evl.str rfl)),rfl⟩⟩⟩⟩ rfl rfl ⟨Fresh.of rfl,Fresh.of rfl,Fresh.of rfl,trivial⟩ (nlr rfl))<|lc (Qc (Qa rfl) rfl (Qb rfl) rfl Qz rfl) ?_
 iterate 2 refine w_ ?_
 subst hO
 refine ZU (x:=(((((Za tx4 QcG tx2 Qmw).1).1,((Za tx4 QcG tx2 Qmw).1).2),((Za tx4 QcG tx2 Qmw).2.1,((Za tx4 QcG tx2 Qmw).2.2.1,(Za tx4 QcG tx2 Qmw).2.2.2))),((pkA 9 at_),(pkS code at_ sd 9)))) [(0,0),(1,21),(2,22),(3,23)] ?_ (Qg rfl (QG rfl rfl Qz rfl)) rfl ⟨rfl,rfl,rfl,rfl,trivial⟩ rfl rfl
 (dsimp only; exact ⟨by decide+kernel,⟨by decide+kernel,by decide+kernel⟩,by omega⟩)
 have hb2':=a8 hb2
 iterate 2 refine w_ ?_
 refine lc (Q8 24 (Zu tx7 tx8 tx2 Ql7 (by decide+kernel) (by decide+kernel)) Yw ⟨_,_,rfl,(Evl.ev (Evl.str rfl)),⟨_,_,rfl,(Evl.ev (Evl.str rfl)),⟨_,_,rfl,(Evl.ev (Evl.str rfl)),⟨_,_,rfl,(Evl.ev (Evl.str rfl)),rfl⟩⟩⟩⟩ rfl rfl ⟨Fresh.of rfl,Fresh.of rfl,Fresh.of rfl,trivial⟩ (nlr rfl))<|lc (Qc (Qa rfl) rfl (Qb rfl) rfl Qz rfl) ?_
 iterate 2 refine w_ ?_
 subst hO
 refine ZU (x:=(((((Za tx7 tx8 tx2 Ql7).1).1,((Za tx7 tx8 tx2 Ql7).1).2),((Za tx7 tx8 tx2 Ql7).2.1,((Za tx7 tx8 tx2 Ql7).2.2.1,(Za tx7 tx8 tx2 Ql7).2.2.2))),((pkA 9 at_),(pkS code at_ sd 9)))) [(0,0),(1,24),(2,25),(3,26)] ?_ (Qg rfl (QG rfl rfl Qz rfl)) rfl ⟨rfl,rfl,rfl,rfl,trivial⟩ rfl rfl
 (dsimp only; exact ⟨by decide+kernel,⟨by decide+kernel,by decide+kernel⟩,by omega⟩)
end Go.Proofs.YtjaadeknhofhpaaGreat
namespace Go.Proofs.YtjaadeknhofhpaaGreat
open Go.RowKit
set_option maxRecDepth 100000
set_option maxHeartbeats 4000000
theorem Qg3 {α:Type _}(f:α→Nat)(x:α):∀(l:List α) (i:Nat),((l.set i x).map f).sum≤(l.map f).sum+f x
  | [],i=>by simp
  | y :: l,0=>by simp only[List.set_cons_zero,aW,List.sum_cons]; omega
  | y :: l,i+1=>by have:=Qg3 f x l i; simp only[co,aW,List.sum_cons]; omega
theorem QoL {α:Type _}(f:α→Nat):∀(l:List α),((l.drop 1).map f).sum≤(l.map f).sum
  | []=>aL _
  | y :: l=>by simp
theorem QpW (l:ZD):Ty.tot Wj l=0:=rfl
theorem QlK (g:Q9):Ty.tot Y6 g=g.1.size:=rfl
section
variable {n:Xj}{ss:List Q9}{ls:List ZD}{t:ByteArray}
theorem Qgl (n:Xj)(ss:List Q9)(ls:List ZD)(t:ByteArray):Ty.tot ZC (n,ss,ls,t)=Ty.tot UD n+((ss.length+(ss.map (Ty.tot Y6)).sum)+((ls.length+(ls.map (Ty.tot Wj)).sum)+t.size)):=rfl
theorem HT {u:ByteArray}(h:Ty.tot ZC (n,ss,ls,t)≤1000)(hu:u.size≤t.size+2):Ty.tot ZC (n,ss,ls,u)≤3000:=by
  rw[Qgl] at h ⊢; omega
theorem QgF {i:Nat}{l:ZD}(h:Ty.tot ZC (n,ss,ls,t)≤1000):Ty.tot ZC (n,ss,ls.set i l,t)≤3000:=by
  have h1:=Qg3 (Ty.tot Wj) l ls i
  rw[QpW] at h1
  rw[Qgl] at h ⊢; rw[aq]; omega
theorem QeT {i:Nat}{g:Q9}(h:Ty.tot ZC (n,ss,ls,t)≤1000)(hg:g.1.size≤1000):Ty.tot ZC (n,ss.set i g,ls,t)≤3000:=by
  have h1:=Qg3 (Ty.tot Y6) g ss i
  rw[QlK] at h1
  rw[Qgl] at h ⊢; rw[aq]; omega
theorem Qce (h:Ty.tot ZC (n,ss,ls,t)≤1000):Ty.tot ZC (n,ss,ls.drop 1,t)≤3000:=by
  have h1:=QoL (Ty.tot Wj) ls
  rw[Qgl] at h ⊢; rw[ay]; omega
theorem Qsw {g:Q9}(h:Ty.tot ZC (n,ss,ls,t)≤1000)(hg:g∈ss):g.1.size≤1000:=by
  have h1:=QlC (Ty.tot Y6) hg
  rw[QlK] at h1
  rw[Qgl] at h; omega
theorem Qb0 {i j:Nat}{g:Q9}{k:Int}(h:Ty.tot ZC (n,ss,ls,t)≤1000)(hx:ss[j]? =some g):Ty.tot ZC (n,ss.set i (g.1,k),ls,t)≤3000:=QeT h (show g.1.size≤1000 from Qsw (g:=g) h (ai hx))
theorem Qru {s:QX}(h:Ty.tot ZC s≤1000):s.2.2.2.size≤1000:=by
  have h1:=Qgl s.1 s.2.1 s.2.2.1 s.2.2.2
  have h2:Ty.tot ZC s=_:=h1
  omega
theorem Hx {l:List ByteArray}{i:Nat}(h:(l.all fun x=>decide (x.size≤7))=true):((l[i]?).getD ByteArray.empty).size≤1000:=by
  cases hc:l[i]? with
  | none=>decide
  | some x=>have:=a8 (ae.1 h x (ai hc)); show x.size≤1000; omega
end
theorem XL (code:List UInt8)(at_:Int)(sd:Int)[∀s,Decidable (StgOk s)][∀s,Decidable (Xv s)](ha:0≤at_∧at_≤800000000):FC Tryz.prog 74 [(false,[.ptr 0 0])] [(0,some (.box 121 [.dat Zt code,dI at_, .val (.int .u64 sd)]))] 1 (Ex (fun x:QX×Int×Int=>Ty.tot ZC x.1≤3000∧(at_≤x.2.1∧x.2.1≤at_+60)) (fun x:QX×Int×Int=>ag [dI x.1.1.1, .dat QZ x.1.1.2, .dat QJ x.1.2.1, .dat QR x.1.2.2.1,dS x.1.2.2.2]) (fun x:QX×Int×Int=>[(0,some (.box 121 [.dat Zt code,dI x.2.1, .val (.int .u64 x.2.2)]))])):=by
 refine QO Tryz.func74 rfl rfl Tryz.ntmps74 fun O_ hO w0_ N0_ X_ h0_ f0_=> ?_
 refine w_ ?_
 refine lc (Qj 1 Xr ZE rfl rfl (Fresh.of rfl) (nlr rfl)) ?_
 iterate 3 refine w_ ?_
 refine Y9 2 [(0,0)] (QbO code at_ sd (by omega)) QjP ⟨_,_,rfl,(Qb rfl),rfl⟩ ⟨rfl,trivial⟩ rfl (fun _=>rfl) (fun _=>⟨trivial,(Fresh.of rfl),(Fresh.of rfl),(Fresh.of rfl),trivial⟩) (nlr rfl) fun x1 hx2=>lc (Qj 6 Xr ZE rfl rfl (Fresh.of rfl) (nlr rfl))<|lc (Qc (Qa rfl) rfl (Qb rfl) rfl Qz rfl) ?_
 iterate 4 refine w_ ?_
 have hp3:=Z2 code x1.2.1 x1.2.2 30
 refine lc (QK 7 [(0,0)] (Zh code x1.2.1 x1.2.2 30 (by omega)) YO ⟨_,_,rfl,(Qb rfl),⟨_,_,rfl,(Evl.ev (Qv rfl)),rfl⟩⟩ ⟨rfl,trivial⟩ rfl ⟨trivial,trivial⟩ (nlr rfl)) ?_
 iterate 6 refine w_ ?_
 cases hb4:(decide ((pkV code x1.2.1 x1.2.2 30)=0))
 have hb4':=a7 hb4
 iterate 5 refine w_ ?_
 cases hb5:(decide ((pkV code x1.2.1 x1.2.2 30)=1))
 have hb5':=a7 hb5
 iterate 5 refine w_ ?_
 cases hb6:(decide ((pkV code x1.2.1 x1.2.2 30)=2))
 have hb6':=a7 hb6
 iterate 5 refine w_ ?_
 cases hb7:(decide ((pkV code x1.2.1 x1.2.2 30)=3))
 have hb7':=a7 hb7
 iterate 5 refine w_ ?_
 cases hb8:(decide ((pkV code x1.2.1 x1.2.2 30)=4))
 have hb8':=a7 hb8
 iterate 3 refine w_ ?_
 refine YY<|AC.wk (ZK (p:=6) (off:=1) (q:=3) rfl rfl rfl)<|AC.wk (ZK (p:=6) (off:=2) (q:=4) rfl rfl rfl)<|AC.wk (ZK (p:=6) (off:=3) (q:=5) rfl rfl rfl) ?_
 iterate 2 refine w_ ?_
 refine lc (Qc (Qa rfl) rfl (Qb rfl) rfl Qz rfl) ?_
 iterate 2 refine w_ ?_
 subst hO
 refine ZU (x:=(((x1.1.1.1,x1.1.1.2),(x1.1.2.1,(x1.1.2.2.1,x1.1.2.2.2))),((pkA 30 x1.2.1),(pkS code x1.2.1 x1.2.2 30)))) [(0,0)] ?_ (Qg rfl (QG rfl rfl Qz rfl)) rfl ⟨rfl,trivial⟩ rfl rfl
 (have h_:=‹Ty.tot ZC _≤1000∧_›; refine ⟨?_,by dsimp only; omega⟩; first | exact b5 h_.1 (by decide) | exact QgF h_.1 | exact QeT h_.1 (Hx (by decide)) | exact Qb0 h_.1 ‹_› | exact HT h_.1 (Qam ..).1 | (dsimp only; rw[br]; exact Qce h_.1))
 have hb8':=a8 hb8
 refine w_ ?_
 refine AC.wk (ZK (p:=6) (off:=3) (q:=5) rfl rfl rfl) ?_
 iterate 3 refine w_ ?_
 refine lc (UH (l:=(some 1)) (h:=none) (Qa rfl) (by exact (Qv rfl)) (by exact trivial) Yq ZO rfl (by simp only[ao,ak]; omega) (by simp only[ao,ak]; omega) (by simp only[ao,ak]; omega)) ?_
 refine w_ ?_
 refine lc (Qc (Qa rfl) rfl (Qb rfl) rfl WK rfl)<|Qm ?_
 refine w_ ?_
 refine YY<|AC.wk (ZK (p:=6) (off:=1) (q:=3) rfl rfl rfl)<|AC.wk (ZK (p:=6) (off:=2) (q:=4) rfl rfl rfl) ?_
 iterate 2 refine w_ ?_
 refine lc (Qc (Qa rfl) rfl (Qb rfl) rfl Qz rfl) ?_
 iterate 2 refine w_ ?_
 subst hO
 refine ZU (x:=(((x1.1.1.1,x1.1.1.2),(x1.1.2.1,((x1.1.2.2.1.take x1.1.2.2.1.length).drop (1:Int).toNat,x1.1.2.2.2))),((pkA 30 x1.2.1),(pkS code x1.2.1 x1.2.2 30)))) [(0,0)] ?_ (Qg rfl (QG rfl rfl Qz rfl)) rfl ⟨rfl,trivial⟩ rfl rfl
 (have h_:=‹Ty.tot ZC _≤1000∧_›; refine ⟨?_,by dsimp only; omega⟩; first | exact b5 h_.1 (by decide) | exact QgF h_.1 | exact QeT h_.1 (Hx (by decide)) | exact Qb0 h_.1 ‹_› | exact HT h_.1 (Qam ..).1 | (dsimp only; rw[br]; exact Qce h_.1))
 have hb7':=a8 hb7
 refine w_ ?_
 have hp9:=Z2 code (pkA 30 x1.2.1) (pkS code x1.2.1 x1.2.2 30) (([0,4,3]).length:Int)
 obtain ⟨x10,hx11⟩:=gx x1.1.2.1 0
 refine dv [io 35 (lP 6 2),io 36 (lR 4),io 37 (lP 0 0),⟨some 38,lR 8,[(8,some (.arr 3 .int ([0,4,3])))]⟩,⟨some 39,lI ((([0,4,3])[(pkV code (pkA 30 x1.2.1) (pkS code x1.2.1 x1.2.2 30) (([0,4,3]).length:Int)).toNat]?).getD 0),[(0,some (.box 121 [.dat Zt code,dI (pkA (([0,4,3]).length:Int) (pkA 30 x1.2.1)), .val (.int .u64 (pkS code (pkA 30 x1.2.1) (pkS code x1.2.1 x1.2.2 30) (([0,4,3]).length:Int)))])),(10,some (.arr 3 .int ([0,4,3]))),(0,none),(8,none)]⟩,io 40 (lf (.ept 4 2 0 0)),io 41 (lf (.ept 4 2 0 1)),⟨none,lf (.val undef),[(4,some (.arr 90 QY (x1.1.2.1.set 0 (x10.1,(([0,4,3])[(pkV code (pkA 30 x1.2.1) (pkS code x1.2.1 x1.2.2 30) (([0,4,3]).length:Int)).toNat]?).getD 0))))]⟩] [0,1,0,0,12,31,63,127] mixed rfl (by kernel_rfl) ⟨dxf XH rfl rfl rfl,dxl Ub rfl rfl rfl rfl rfl,dxm rfl rfl,fun _ h_=>ac (Qf 8 (e:= .int) QN QL Yu rfl ⟨_,_,rfl,(Evl.ev (Qv rfl)),⟨_,_,rfl,(Evl.ev (Qv rfl)),⟨_,_,rfl,(Evl.ev (Qv rfl)),rfl⟩⟩⟩ (ae.1 rfl) ⟨_,_,_,_,rfl,⟨rfl,rfl⟩,⟨_,_,_,_,rfl,⟨rfl,rfl⟩,⟨_,_,_,_,rfl,⟨rfl,rfl⟩,⟨rfl,rfl⟩,rfl⟩,rfl⟩,rfl⟩ (by decide) rfl rfl (h_.fr 8 rfl) (nlr rfl)) rfl,fun _ h_=>ac (QK 9 [(0,0),(1,8)] (Y8 code (pkA 30 x1.2.1) (pkS code x1.2.1 x1.2.2 30) ([0,4,3]) (by omega) (by decide)) Hg ⟨_,_,rfl,(h_.w rfl),⟨_,_,rfl,(h_.w rfl),rfl⟩⟩ ⟨(h_.en 0 rfl),(h_.en 8 rfl),trivial⟩ rfl ⟨trivial,(h_.fr 10 rfl),trivial⟩ (nlr rfl)) rfl,fun _ h_=>ac (Qw (e:=QY) (h_.v rfl) (h_.en 4 rfl) (Qv rfl) YE YJ rfl (by omega) (by first | omega | (simp only[aq]; omega))) rfl,fun _ h_=>ac (ZI (h_.v rfl) QoB (by rw[(h_.en 4 rfl)]; rfl) rfl) rfl,fun _ h_=>ac (Q6 (e:=QY) (z':=(x10.1,(([0,4,3])[(pkV code (pkA 30 x1.2.1) (pkS code x1.2.1 x1.2.2 30) (([0,4,3]).length:Int)).toNat]?).getD 0)) (h_.v rfl) (h_.n 4 rfl) hx11 rfl (h_.w rfl) rfl QL rfl rfl) rfl,⟨⟩⟩ ?_
 refine w_ ?_
 refine YY<|AC.wk (ZK (p:=6) (off:=1) (q:=3) rfl rfl rfl)<|AC.wk (ZK (p:=6) (off:=2) (q:=4) rfl rfl rfl)<|AC.wk (ZK (p:=6) (off:=3) (q:=5) rfl rfl rfl) ?_
 iterate 2 refine w_ ?_
 refine lc (Qc (Qa rfl) rfl (Qb rfl) rfl Qz rfl) ?_
 iterate 2 refine w_ ?_
 subst hO
 refine ZU (x:=(((x1.1.1.1,x1.1.1.2),(x1.1.2.1.set 0 (x10.1,(([0,4,3])[(pkV code (pkA 30 x1.2.1) (pkS code x1.2.1 x1.2.2 30) (([0,4,3]).length:Int)).toNat]?).getD 0),(x1.1.2.2.1,x1.1.2.2.2))),((pkA (([0,4,3]).length:Int) (pkA 30 x1.2.1)),(pkS code (pkA 30 x1.2.1) (pkS code x1.2.1 x1.2.2 30) (([0,4,3]).length:Int))))) [(0,0)] ?_ (Qg rfl (QG rfl rfl Qz rfl)) rfl ⟨rfl,trivial⟩ rfl rfl
 (have h_:=‹Ty.tot ZC _≤1000∧_›; refine ⟨?_,by dsimp only; omega⟩; first | exact b5 h_.1 (by decide) | exact QgF h_.1 | exact QeT h_.1 (Hx (by decide)) | exact Qb0 h_.1 ‹_› | exact HT h_.1 (Qam ..).1 | (dsimp only; rw[br]; exact Qce h_.1))
 have hb6':=a8 hb6
 refine w_ ?_
 have hp12:=Z2 code (pkA 30 x1.2.1) (pkS code x1.2.1 x1.2.2 30) (([(⟨#[]⟩:ByteArray),(⟨#[65]⟩:ByteArray),(⟨#[97,98,99,100,101,102,103]⟩:ByteArray),(⟨#[49,97]⟩:ByteArray)]).length:Int)
 obtain ⟨x13,hx14⟩:=gx x1.1.2.1 0
 refine dv [io 26 (lP 6 2),io 27 (lR 4),io 28 (lP 0 0),⟨some 29,lR 11,[(11,some (.arr 9 .str ([(⟨#[]⟩:ByteArray),(⟨#[65]⟩:ByteArray),(⟨#[97,98,99,100,101,102,103]⟩:ByteArray),(⟨#[49,97]⟩:ByteArray)])))]⟩,⟨some 30,lf (dS ((([(⟨#[]⟩:ByteArray),(⟨#[65]⟩:ByteArray),(⟨#[97,98,99,100,101,102,103]⟩:ByteArray),(⟨#[49,97]⟩:ByteArray)])[(pkV code (pkA 30 x1.2.1) (pkS code x1.2.1 x1.2.2 30) (([(⟨#[]⟩:ByteArray),(⟨#[65]⟩:ByteArray),(⟨#[97,98,99,100,101,102,103]⟩:ByteArray),(⟨#[49,97]⟩:ByteArray)]).length:Int)).toNat]?).getD ByteArray.empty)),[(0,some (.box 121 [.dat Zt code,dI (pkA (([(⟨#[]⟩:ByteArray),(⟨#[65]⟩:ByteArray),(⟨#[97,98,99,100,101,102,103]⟩:ByteArray),(⟨#[49,97]⟩:ByteArray)]).length:Int) (pkA 30 x1.2.1)), .val (.int .u64 (pkS code (pkA 30 x1.2.1) (pkS code x1.2.1 x1.2.2 30) (([(⟨#[]⟩:ByteArray),(⟨#[65]⟩:ByteArray),(⟨#[97,98,99,100,101,102,103]⟩:ByteArray),(⟨#[49,97]⟩:ByteArray)]).length:Int)))])),(13,some (.arr 9 .str ([(⟨#[]⟩:ByteArray),(⟨#[65]⟩:ByteArray),(⟨#[97,98,99,100,101,102,103]⟩:ByteArray),(⟨#[49,97]⟩:ByteArray)]))),(0,none),(11,none)]⟩,io 31 (lf (.ept 4 2 0 0)),io 32 (lf (.ept 4 2 0 0)),⟨none,lf (.val undef),[(4,some (.arr 90 QY (x1.1.2.1.set 0 ((([(⟨#[]⟩:ByteArray),(⟨#[65]⟩:ByteArray),(⟨#[97,98,99,100,101,102,103]⟩:ByteArray),(⟨#[49,97]⟩:ByteArray)])[(pkV code (pkA 30 x1.2.1) (pkS code x1.2.1 x1.2.2 30) (([(⟨#[]⟩:ByteArray),(⟨#[65]⟩:ByteArray),(⟨#[97,98,99,100,101,102,103]⟩:ByteArray),(⟨#[49,97]⟩:ByteArray)]).length:Int)).toNat]?).getD ByteArray.empty,x13.2))))]⟩] [0,1,0,0,12,31,63,127] mixed rfl (by kernel_rfl) ⟨dxf XH rfl rfl rfl,dxl Ub rfl rfl rfl rfl rfl,dxm rfl rfl,fun _ h_=>ac (Qf 11 (e:= .str) Zo Zg H8 rfl ⟨_,_,rfl,(Evl.ev (Evl.str rfl)),⟨_,_,rfl,(Evl.ev (Evl.str rfl)),⟨_,_,rfl,(Evl.ev (Evl.str rfl)),⟨_,_,rfl,(Evl.ev (Evl.str rfl)),rfl⟩⟩⟩⟩ (ae.1 rfl) ⟨_,_,_,_,rfl,⟨rfl,rfl⟩,⟨_,_,_,_,rfl,⟨rfl,rfl⟩,⟨_,_,_,_,rfl,⟨rfl,rfl⟩,⟨_,_,_,_,rfl,⟨rfl,rfl⟩,⟨rfl,rfl⟩,rfl⟩,rfl⟩,rfl⟩,rfl⟩ (by decide) rfl rfl (h_.fr 11 rfl) (nlr rfl)) rfl,fun _ h_=>ac (QK 12 [(0,0),(1,11)] (Qcf code (pkA 30 x1.2.1) (pkS code x1.2.1 x1.2.2 30) ([(⟨#[]⟩:ByteArray),(⟨#[65]⟩:ByteArray),(⟨#[97,98,99,100,101,102,103]⟩:ByteArray),(⟨#[49,97]⟩:ByteArray)]) (by omega) (by decide)) Qkx ⟨_,_,rfl,(h_.w rfl),⟨_,_,rfl,(h_.w rfl),rfl⟩⟩ ⟨(h_.en 0 rfl),(h_.en 11 rfl),trivial⟩ rfl ⟨trivial,(h_.fr 13 rfl),trivial⟩ (nlr rfl)) rfl,fun _ h_=>ac (Qw (e:=QY) (h_.v rfl) (h_.en 4 rfl) (Qv rfl) YE YJ rfl (by omega) (by first | omega | (simp only[aq]; omega))) rfl,fun _ h_=>ac (ZI (h_.v rfl) QnY (by rw[(h_.en 4 rfl)]; rfl) rfl) rfl,fun _ h_=>ac (Q6 (e:=QY) (z':=((([(⟨#[]⟩:ByteArray),(⟨#[65]⟩:ByteArray),(⟨#[97,98,99,100,101,102,103]⟩:ByteArray),(⟨#[49,97]⟩:ByteArray)])[(pkV code (pkA 30 x1.2.1) (pkS code x1.2.1 x1.2.2 30) (([(⟨#[]⟩:ByteArray),(⟨#[65]⟩:ByteArray),(⟨#[97,98,99,100,101,102,103]⟩:ByteArray),(⟨#[49,97]⟩:ByteArray)]).length:Int)).toNat]?).getD ByteArray.empty,x13.2)) (h_.v rfl) (h_.n 4 rfl) hx14 rfl (h_.w rfl) rfl Zg rfl rfl) rfl,⟨⟩⟩ ?_
 refine w_ ?_
 refine YY<|AC.wk (ZK (p:=6) (off:=1) (q:=3) rfl rfl rfl)<|AC.wk (ZK (p:=6) (off:=2) (q:=4) rfl rfl rfl)<|AC.wk (ZK (p:=6) (off:=3) (q:=5) rfl rfl rfl) ?_
 iterate 2 refine w_ ?_
 refine lc (Qc (Qa rfl) rfl (Qb rfl) rfl Qz rfl) ?_
 iterate 2 refine w_ ?_
 subst hO
 refine ZU (x:=(((x1.1.1.1,x1.1.1.2),(x1.1.2.1.set 0 ((([(⟨#[]⟩:ByteArray),(⟨#[65]⟩:ByteArray),(⟨#[97,98,99,100,101,102,103]⟩:ByteArray),(⟨#[49,97]⟩:ByteArray)])[(pkV code (pkA 30 x1.2.1) (pkS code x1.2.1 x1.2.2 30) (([(⟨#[]⟩:ByteArray),(⟨#[65]⟩:ByteArray),(⟨#[97,98,99,100,101,102,103]⟩:ByteArray),(⟨#[49,97]⟩:ByteArray)]).length:Int)).toNat]?).getD ByteArray.empty,x13.2),(x1.1.2.2.1,x1.1.2.2.2))),((pkA (([(⟨#[]⟩:ByteArray),(⟨#[65]⟩:ByteArray),(⟨#[97,98,99,100,101,102,103]⟩:ByteArray),(⟨#[49,97]⟩:ByteArray)]).length:Int) (pkA 30 x1.2.1)),(pkS code (pkA 30 x1.2.1) (pkS code x1.2.1 x1.2.2 30) (([(⟨#[]⟩:ByteArray),(⟨#[65]⟩:ByteArray),(⟨#[97,98,99,100,101,102,103]⟩:ByteArray),(⟨#[49,97]⟩:ByteArray)]).length:Int))))) [(0,0)] ?_ (Qg rfl (QG rfl rfl Qz rfl)) rfl ⟨rfl,trivial⟩ rfl rfl
 (have h_:=‹Ty.tot ZC _≤1000∧_›; refine ⟨?_,by dsimp only; omega⟩; first | exact b5 h_.1 (by decide) | exact QgF h_.1 | exact QeT h_.1 (Hx (by decide)) | exact Qb0 h_.1 ‹_› | exact HT h_.1 (Qam ..).1 | (dsimp only; rw[br]; exact Qce h_.1))
 have hb5':=a8 hb5
 refine w_ ?_
 have hp15:=Z2 code (pkA 30 x1.2.1) (pkS code x1.2.1 x1.2.2 30) (([(-1),(-2),8]).length:Int)
 obtain ⟨x16,hx17⟩:=gx x1.1.2.2.1 0
 refine dv [io 17 (lP 6 3),io 18 (lR 5),io 19 (lP 0 0),⟨some 20,lR 14,[(14,some (.arr 3 .int ([(-1),(-2),8])))]⟩,⟨some 21,lI ((([(-1),(-2),8])[(pkV code (pkA 30 x1.2.1) (pkS code x1.2.1 x1.2.2 30) (([(-1),(-2),8]).length:Int)).toNat]?).getD 0),[(0,some (.box 121 [.dat Zt code,dI (pkA (([(-1),(-2),8]).length:Int) (pkA 30 x1.2.1)), .val (.int .u64 (pkS code (pkA 30 x1.2.1) (pkS code x1.2.1 x1.2.2 30) (([(-1),(-2),8]).length:Int)))])),(16,some (.arr 3 .int ([(-1),(-2),8]))),(0,none),(14,none)]⟩,io 22 (lf (.ept 5 2 0 0)),io 23 (lf (.ept 5 2 0 0)),⟨none,lf (.val undef),[(5,some (.arr 55 Q5 (x1.1.2.2.1.set 0 ((([(-1),(-2),8])[(pkV code (pkA 30 x1.2.1) (pkS code x1.2.1 x1.2.2 30) (([(-1),(-2),8]).length:Int)).toNat]?).getD 0,x16.2))))]⟩] [0,1,0,0,12,31,63,127] mixed rfl (by kernel_rfl) ⟨dxf XP rfl rfl rfl,dxl WK rfl rfl rfl rfl rfl,dxm rfl rfl,fun _ h_=>ac (Qf 14 (e:= .int) QN QL Yu rfl ⟨_,_,rfl,(Evl.ev (Qv rfl)),⟨_,_,rfl,(Evl.ev (Qv rfl)),⟨_,_,rfl,(Evl.ev (Qv rfl)),rfl⟩⟩⟩ (ae.1 rfl) ⟨_,_,_,_,rfl,⟨rfl,rfl⟩,⟨_,_,_,_,rfl,⟨rfl,rfl⟩,⟨_,_,_,_,rfl,⟨rfl,rfl⟩,⟨rfl,rfl⟩,rfl⟩,rfl⟩,rfl⟩ (by decide) rfl rfl (h_.fr 14 rfl) (nlr rfl)) rfl,fun _ h_=>ac (QK 15 [(0,0),(1,14)] (Y8 code (pkA 30 x1.2.1) (pkS code x1.2.1 x1.2.2 30) ([(-1),(-2),8]) (by omega) (by decide)) Hg ⟨_,_,rfl,(h_.w rfl),⟨_,_,rfl,(h_.w rfl),rfl⟩⟩ ⟨(h_.en 0 rfl),(h_.en 14 rfl),trivial⟩ rfl ⟨trivial,(h_.fr 16 rfl),trivial⟩ (nlr rfl)) rfl,fun _ h_=>ac (Qw (e:=Q5) (h_.v rfl) (h_.en 5 rfl) (Qv rfl) Yq ZO rfl (by omega) (by first | omega | (simp only[aq]; omega))) rfl,fun _ h_=>ac (ZI (h_.v rfl) Qi0 (by rw[(h_.en 5 rfl)]; rfl) rfl) rfl,fun _ h_=>ac (Q6 (e:=Q5) (z':=((([(-1),(-2),8])[(pkV code (pkA 30 x1.2.1) (pkS code x1.2.1 x1.2.2 30) (([(-1),(-2),8]).length:Int)).toNat]?).getD 0,x16.2)) (h_.v rfl) (h_.n 5 rfl) hx17 rfl (h_.w rfl) rfl QL rfl rfl) rfl,⟨⟩⟩ ?_
 refine w_ ?_
 refine YY<|AC.wk (ZK (p:=6) (off:=1) (q:=3) rfl rfl rfl)<|AC.wk (ZK (p:=6) (off:=2) (q:=4) rfl rfl rfl)<|AC.wk (ZK (p:=6) (off:=3) (q:=5) rfl rfl rfl) ?_
 iterate 2 refine w_ ?_
 refine lc (Qc (Qa rfl) rfl (Qb rfl) rfl Qz rfl) ?_
 iterate 2 refine w_ ?_
 subst hO
 refine ZU (x:=(((x1.1.1.1,x1.1.1.2),(x1.1.2.1,(x1.1.2.2.1.set 0 ((([(-1),(-2),8])[(pkV code (pkA 30 x1.2.1) (pkS code x1.2.1 x1.2.2 30) (([(-1),(-2),8]).length:Int)).toNat]?).getD 0,x16.2),x1.1.2.2.2))),((pkA (([(-1),(-2),8]).length:Int) (pkA 30 x1.2.1)),(pkS code (pkA 30 x1.2.1) (pkS code x1.2.1 x1.2.2 30) (([(-1),(-2),8]).length:Int))))) [(0,0)] ?_ (Qg rfl (QG rfl rfl Qz rfl)) rfl ⟨rfl,trivial⟩ rfl rfl
 (have h_:=‹Ty.tot ZC _≤1000∧_›; refine ⟨?_,by dsimp only; omega⟩; first | exact b5 h_.1 (by decide) | exact QgF h_.1 | exact QeT h_.1 (Hx (by decide)) | exact Qb0 h_.1 ‹_› | exact HT h_.1 (Qam ..).1 | (dsimp only; rw[br]; exact Qce h_.1))
 have hb4':=a8 hb4
 iterate 5 refine w_ ?_
 have hp18:=Qam code (⟨#[48,49,50]⟩:ByteArray) x1.1.2.2.2 (pkA 30 x1.2.1) (pkS code x1.2.1 x1.2.2 30)
 refine lc (QK 17 [(0,0)] (Hd code (pkA 30 x1.2.1) (pkS code x1.2.1 x1.2.2 30) x1.1.2.2.2 (⟨#[48,49,50]⟩:ByteArray) (by omega) (by have h_:=‹Ty.tot ZC _≤1000∧_›; exact ⟨b5 (Qru h_.1) (by decide),by decide⟩)) Qjx ⟨_,_,rfl,(Qb rfl),⟨_,_,rfl,(Qb rfl),⟨_,_,rfl,(Evl.ev (Evl.str rfl)),rfl⟩⟩⟩ ⟨rfl,trivial⟩ rfl ⟨trivial,trivial⟩ (nlr rfl)) ?_
 refine w_ ?_
 refine lc (Qc (Qa rfl) rfl (Qb rfl) rfl Zg rfl)<|Qm ?_
 refine w_ ?_
 refine YY<|AC.wk (ZK (p:=6) (off:=1) (q:=3) rfl rfl rfl)<|AC.wk (ZK (p:=6) (off:=2) (q:=4) rfl rfl rfl)<|AC.wk (ZK (p:=6) (off:=3) (q:=5) rfl rfl rfl) ?_
 iterate 2 refine w_ ?_
 refine lc (Qc (Qa rfl) rfl (Qb rfl) rfl Qz rfl) ?_
 iterate 2 refine w_ ?_
 subst hO
 refine ZU (x:=(((x1.1.1.1,x1.1.1.2),(x1.1.2.1,(x1.1.2.2.1,(spV code (⟨#[48,49,50]⟩:ByteArray) x1.1.2.2.2 (pkA 30 x1.2.1) (pkS code x1.2.1 x1.2.2 30)).1))),(((spV code (⟨#[48,49,50]⟩:ByteArray) x1.1.2.2.2 (pkA 30 x1.2.1) (pkS code x1.2.1 x1.2.2 30)).2.1),((spV code (⟨#[48,49,50]⟩:ByteArray) x1.1.2.2.2 (pkA 30 x1.2.1) (pkS code x1.2.1 x1.2.2 30)).2.2)))) [(0,0)] ?_ (Qg rfl (QG rfl rfl Qz rfl)) rfl ⟨rfl,trivial⟩ rfl rfl
 (have h_:=‹Ty.tot ZC _≤1000∧_›; refine ⟨?_,by dsimp only; omega⟩; first | exact b5 h_.1 (by decide) | exact QgF h_.1 | exact QeT h_.1 (Hx (by decide)) | exact Qb0 h_.1 ‹_› | exact HT h_.1 (Qam ..).1 | (dsimp only; rw[br]; exact Qce h_.1))
end Go.Proofs.YtjaadeknhofhpaaGreat
