/- Walks over abstract states: drawn graphs. -/
import Derived.Test.YtfkmmpfdncopdaaGreatDh
import Derived.Test.YtfkmmpfdncopdaaGreatDe
import Derived.Test.YtfkmmpfdncopdaaGreatBu
import Derived.Test.YtfkmmpfdncopdaaGreatTb
import Derived.Test.YtfkmmpfdncopdaaGreatBc
import Derived.Test.YtfkmmpfdncopdaaGreatWk
import Derived.Test.YtfkmmpfdncopdaaGreatAk
import Derived.Test.YtfkmmpfdncopdaaGreatStr
import Derived.Test.YtfkmmpfdncopdaaGreatProg
import Derived.KernelRfl
import Derived.Test.YtfkmmpfdncopdaaGreatAv
import Derived.Test.YtfkmmpfdncopdaaGreatCq
set_option linter.unusedSimpArgs false
set_option linter.unusedVariables false
set_option linter.unusedSectionVars false
namespace Go.Proofs.YtfkmmpfdncopdaaGreat
open Go.RowKit
set_option maxRecDepth 100000
set_option maxHeartbeats 4000000
section
variable {l:List ByteArray}{x:ByteArray}{j kd:Int}{i k:Nat}{g:List Qy}
theorem QhJ:∀(l:List ByteArray) (j:Int),sgA (l++[x]) j=sgA l j++sgN x (j+(l.length:Int)) x.size
  | [],j=>by simp[sgA]
  | y :: l,j=>by
    rw[cD,sgA,sgA,QhJ l (j+1),aW,aq]
    congr 3
    omega
theorem QkX (hx:l[k]? =some x):sgA (l.take k) 1++sgN x ((k:Int)+1) x.size=sgA (l.take (k+1)) 1:=by
  have hk:=(aj.1 hx).1
  rw[Q0 hx,QhJ,ap,show (1:Int)+((min k l.length:Nat):Int)=(k:Int)+1 by omega]
theorem Qkl:(g++sgN x kd i)++[(x.extract ((i:Nat):Int).toNat ((i:Int)+1).toNat,kd)]=g++sgN x kd (i+1):=by
  unfold sgN
  rw[cH,bS,aW,Int.toNat_natCast,show ((i:Int)+1).toNat=i+1 by omega]; rfl
end
theorem QM (ins:ByteArray)(outs:ByteArray)(inner:ByteArray)(arcs:ByteArray)(hk:(Zt arcs 32).all okA=true)(hs:arcs.size≤900∧ins.size≤100∧outs.size≤100∧inner.size≤100):FC Tryz.prog 188 [(false,[dS ins]),(false,[dS outs]),(false,[dS inner]),(false,[dS arcs])] [] 0 (Is (ag [dI (((Qq ins outs inner arcs).1).1), .ref 0, .ref 1, .ref 2,dS ((Qq ins outs inner arcs).2.2.2)]) [ar 0 237 (.pr (.sl 3 .int) (.sl 3 .int)) (((Qq ins outs inner arcs).1).2),ar 1 203 (.pr .str .int) ((Qq ins outs inner arcs).2.1),ar 2 120 (.pr .int .bool) ((Qq ins outs inner arcs).2.2.1)]):=by
 have hsl:=Qik (s:=arcs) (b:=32)
 have h3l:([ins,outs,inner]:List ByteArray).length=3:=rfl
 refine Qj Tryz.func188 rfl rfl Tryz.ntmps188 fun O_ hO w0_ N0_ X_ h0_ f0_=> ?_
 refine w_ ?_
 refine lc (xal 0 (.pr (.pr .int (.sl 237 (.pr (.sl 3 .int) (.sl 3 .int)))) (.pr (.sl 203 (.pr .str .int)) (.pr (.sl 120 (.pr .int .bool)) .str))) Kg) ?_
 iterate 2 refine w_ ?_
 refine lc (Qn Qmp rfl (aw.1 rfl) rfl rfl) ?_
 refine xbx 1 ?_
 iterate 7 refine w_ ?_
 refine lc (dBs 2 (e:= .str) ZZ) ?_
 iterate 4 refine w_ ?_
 refine AC.wk (QB 3 (p:=1) (off:=2) 203 (.pr .str .int) rfl rfl (Fresh.of rfl) (nlr rfl)) ?_
 refine QE (fun m_ s_=>∃(k:Nat) (g1:List (ByteArray×Int)),k≤([ins,outs,inner]).length∧m_=([ins,outs,inner]).length - k∧(g1=sgA (([ins,outs,inner]:List ByteArray).take k) 1)∧(g1.length≤100*k)∧s_=⟨[(3,lf (dS arcs)),(8,lP 0 0),(9,lP 1 0),(20,lR 2),(21,lI (([ins,outs,inner]).length:Int)),(22,lI (k:Int))],[bx 0 83 [dI 0, .val (.slice none 0 0), .val (.slice none 0 0), .val (.slice none 0 0),dS ByteArray.empty],bx 1 274 [dI 0, .val (.slice none 0 0), .ref 4, .val (.slice none 0 0),dS ByteArray.empty, .val (.slice none 0 0), .val (.slice none 0 0)],ar 2 9 .str ([ins,outs,inner]),ar 4 203 (.pr .str .int) g1]⟩) ⟨0,([]:((.sl 203 (.pr .str .int)):Ty).Den),aS _,rfl,rfl,(aS _),rfl⟩ ?_ ?_
 · exact Wk.of [(4,3)] rfl ⟨rfl,rfl,rfl,rfl,rfl,rfl,trivial⟩ ⟨rfl,rfl,rfl,(Qk (by first | rfl | simp)),trivial⟩ rfl rfl
 rintro m_ s_ ⟨k,g1,hk1,hm2,hG,hL,rfl⟩
 iterate 4 refine w_ ?_
 cases hb3:(decide ((k:Int) < (([ins,outs,inner]).length:Int)))
 ·have hb3':=ab hb3
  refine w_ ?_
  refine Qi ?_
  refine (?_:AC _ _ _ _ _)
  iterate 3 refine w_ ?_
  refine lc (UD (XQ arcs 32 (by omega)).frozen KB ⟨_,_,rfl,(Qm rfl),⟨_,_,rfl,(Evl.ev (QK 32 rfl)),rfl⟩⟩ rfl rfl) ?_
  refine alL 54 fun hl4=> ?_
  iterate 4 refine w_ ?_
  refine AC.wk (QB 5 (p:=1) (off:=1) 237 (.pr (.sl 3 .int) (.sl 3 .int)) rfl rfl (Fresh.of rfl) (nlr rfl))<|AC.wk (QB 6 (p:=1) (off:=3) 120 (.pr .int .bool) rfl rfl (Fresh.of rfl) (nlr rfl))<|AC.wk (QB 7 (p:=1) (off:=5) 9 .str rfl rfl (Fresh.of rfl) (nlr rfl))<|AC.wk (QB 8 (p:=1) (off:=6) 9 .str rfl rfl (Fresh.of rfl) (nlr rfl)) ?_
  refine QE (fun m_ s_=>∃(m:Nat) (bb:((Int×(List (List Int×List Int)))×(List (ByteArray×Int))×(List (Int×Bool))×ByteArray)×List ByteArray×List ByteArray),m≤(Zt arcs 32).length∧m_=(Zt arcs 32).length - m∧(bb=((Zt arcs 32).take m).foldl arV (((0,[]),g1,[],ByteArray.empty),[],[]))∧(DBJ bb m (2*m) (2*m))∧s_=⟨[(8,lP 0 0),(9,lP 1 0),(54,lf (.dat (.sl 9 .str) (Zt arcs 32))),(55,lI ((Zt arcs 32).length:Int)),(56,lI (m:Int))],[bx 0 83 [dI 0, .val (.slice none 0 0), .val (.slice none 0 0), .val (.slice none 0 0),dS ByteArray.empty],bx 1 274 [dI bb.1.1.1, .ref 9, .ref 10, .ref 11,dS bb.1.2.2.2, .ref 12, .ref 13],ar 9 237 (.pr (.sl 3 .int) (.sl 3 .int)) bb.1.1.2,ar 10 203 (.pr .str .int) bb.1.2.1,ar 11 120 (.pr .int .bool) bb.1.2.2.1,ar 12 9 .str bb.2.1,ar 13 9 .str bb.2.2]⟩) ⟨0,(((0,([]:((.sl 237 (.pr (.sl 3 .int) (.sl 3 .int))):Ty).Den)),g1,([]:((.sl 120 (.pr .int .bool)):Ty).Den),ByteArray.empty),([]:((.sl 9 .str):Ty).Den),([]:((.sl 9 .str):Ty).Den)),aS _,rfl,rfl,(DBJ.zero _),rfl⟩ ?_ ?_
  · exact Wk.of [(9,5),(10,4),(11,6),(12,7),(13,8)] rfl ⟨rfl,rfl,rfl,rfl,rfl,trivial⟩ ⟨rfl,rfl,(Qk (by first | rfl | simp)),(Qk (by first | rfl | simp)),(Qk (by first | rfl | simp)),(Qk (by first | rfl | simp)),(Qk (by first | rfl | simp)),trivial⟩ rfl rfl
  rintro m_ s_ ⟨m,bb,hk5,hm6,hB,hJ,rfl⟩
  iterate 4 refine w_ ?_
  cases hb7:(decide ((m:Int) < ((Zt arcs 32).length:Int)))
  ·have hb7':=ab hb7
   refine w_ ?_
   refine Qi ?_
   refine (?_:AC _ _ _ _ _)
   iterate 7 refine w_ ?_
   refine Qb ?_
   have e8:(bb.1.1.1:Int)=(((Qq ins outs inner arcs).1).1):=by
    (rw[hB,ZG (by omega),hG,ZG (by omega)]; rfl)
   have e9:(bb.1.2.2.2:ByteArray)=((Qq ins outs inner arcs).2.2.2):=by
    (rw[hB,ZG (by omega),hG,ZG (by omega)]; rfl)
   exact fi_ [(0,9),(1,10),(2,11)] hO ⟨(Qk (by (rw[hB,ZG (by omega),hG,ZG (by omega)]; rfl))),(Qk (by (rw[hB,ZG (by omega),hG,ZG (by omega)]; rfl))),(Qk (by (rw[hB,ZG (by omega),hG,ZG (by omega)]; rfl))),trivial⟩ (h0:=((congrArg (fun z_=>ag [dI z_, .ref 9, .ref 10, .ref 11,dS bb.1.2.2.2]) e8)).trans (congrArg (fun z_=>ag [dI (((Qq ins outs inner arcs).1).1), .ref 9, .ref 10, .ref 11,dS z_]) e9))
  ·have hb7':=ae hb7
   iterate 5 refine w_ ?_
   obtain ⟨tx,hx11⟩:∃z,(Zt arcs 32)[m]? =some z:=⟨_,aa (by omega)⟩
   have htx:=hx11
   have hts:=KE (ao hx11)
   iterate 7 refine w_ ?_
   refine lc (dP 14 [(0,1),(1,10),(2,9),(3,11),(4,12),(5,13)] (Hk bb tx m hJ (by omega) (aw.1 hk _ (ao htx)) (by omega)) Qga) ?_
   refine Qd ?_
   refine (?_:AC _ _ _ _ _)
   iterate 3 refine w_ ?_
   refine Qd<|Q5 ⟨m+1,((((arV bb tx).1.1.1,(arV bb tx).1.1.2),(arV bb tx).1.2.1,(arV bb tx).1.2.2.1,(arV bb tx).1.2.2.2),(arV bb tx).2.1,(arV bb tx).2.2),by omega,rfl,(by rw[hB,Q0 htx,List.foldl_append]; rfl),(hJ.ar_ (text:=tx)),rfl⟩ (by omega) ?_
   exact Wk.of [(9,16),(11,17),(12,18),(13,19)] rfl ⟨rfl,rfl,rfl,rfl,rfl,trivial⟩ ⟨rfl,rfl,(Qk (by first | rfl | simp)),(Qk (by first | rfl | simp)),(Qk (by first | rfl | simp)),(Qk (by first | rfl | simp)),(Qk (by first | rfl | simp)),trivial⟩ rfl rfl
 ·have hb3':=ae hb3
  iterate 7 refine w_ ?_
  obtain ⟨nm,hx13⟩:∃z,([ins,outs,inner])[k]? =some z:=⟨_,aa (by omega)⟩
  have hnm:=hx13
  have hns:nm.size≤100:=by have h_:=ao hx13; simp only[aC,cC,or_false] at h_; rcases h_ with rfl | rfl | rfl <;> omega
  iterate 8 refine w_ ?_
  refine QE (fun m_ s_=>∃(i:Nat) (g2:List (ByteArray×Int)),i≤nm.size∧m_=nm.size - i∧(g2=g1++sgN nm ((k:Int)+1) i)∧(g2.length≤100*k+i)∧s_=⟨[(3,lf (dS arcs)),(8,lP 0 0),(9,lP 1 0),(10,lI (k:Int)),(11,lf (dS nm)),(12,lI (i:Int)),(20,lR 2),(21,lI (([ins,outs,inner]).length:Int)),(22,lI (k:Int)),(23,lB true),(24,lI (k:Int)),(25,lf (.ept 2 1 k 0)),(26,lf (dS nm))],[bx 0 83 [dI 0, .val (.slice none 0 0), .val (.slice none 0 0), .val (.slice none 0 0),dS ByteArray.empty],bx 1 274 [dI 0, .val (.slice none 0 0), .ref 20, .val (.slice none 0 0),dS ByteArray.empty, .val (.slice none 0 0), .val (.slice none 0 0)],ar 2 9 .str ([ins,outs,inner]),ar 20 203 (.pr .str .int) g2]⟩) ⟨0,g1,aS _,rfl,(by simp[sgN]),(by omega),rfl⟩ ?_ ?_
  · exact Wk.of [(20,4)] rfl ⟨rfl,rfl,rfl,rfl,rfl,rfl,rfl,rfl,rfl,rfl,rfl,rfl,rfl,trivial⟩ ⟨rfl,rfl,rfl,rfl,trivial⟩ rfl rfl
  rintro m_ s_ ⟨i,g2,hk14,hm15,hG2,hL2,rfl⟩
  iterate 4 refine w_ ?_
  refine alS 28 fun hl16=> ?_
  refine lc (QI (Qa rfl) rfl QR) ?_
  iterate 2 refine w_ ?_
  cases hb17:(decide ((i:Int) < (nm.size:Int)))
  ·have hb17':=ab hb17
   refine w_ ?_
   refine Qi ?_
   refine (?_:AC _ _ _ _ _)
   iterate 3 refine w_ ?_
   refine Qd<|Q5 ⟨k+1,g2,by omega,rfl,(by rw[hG2,hG,show i=nm.size by omega]; exact QkX hnm),(by omega),rfl⟩ (by omega) ?_
   exact Wk.of [(4,20)] rfl ⟨rfl,rfl,rfl,rfl,rfl,rfl,trivial⟩ ⟨rfl,rfl,rfl,rfl,trivial⟩ rfl rfl
  ·have hb17':=ae hb17
   iterate 4 refine w_ ?_
   apply dV (i9 33 _ _ _ _ _ _ _ _ _ (io 42 _ :: io 43 (lf (dS (nm.extract ((i:Int)).toNat ((i:Int)+1).toNat))) :: i2 44 _ _ (io 46 (ag [dS (nm.extract ((i:Int)).toNat ((i:Int)+1).toNat),dI ((k:Int)+1)]) :: ⟨some 47,lR 21,[ar 21 203 (.pr .str .int) ([(nm.extract ((i:Int)).toNat ((i:Int)+1).toNat,(k:Int)+1)])]⟩ :: ⟨some 48,lR 22,[ar 22 203 (.pr .str .int) (g2++([(nm.extract ((i:Int)).toNat ((i:Int)+1).toNat,(k:Int)+1)])),(20,none),(21,none)]⟩ :: i3 49 _ _ _ [⟨none,lf (.val undef),[bx 1 274 [dI 0, .val (.slice none 0 0), .ref 22, .val (.slice none 0 0),dS ByteArray.empty, .val (.slice none 0 0), .val (.slice none 0 0)]]⟩]))) [0,1,1,1,1,1,63,127,255,255,63,2047,2047,63,63,1,0,0,0,0]
   iterate 10 refine z_ ?_
   refine zz (fun _ h_=>ac (show Does _ _ _ _ (St.put _ 43 (lf (dS (nm.extract ((i:Int)).toNat ((i:Int)+1).toNat)))) from Qw (l:=(some (i:Int))) (h:=(some ((i:Int)+1))) (h_.v rfl) (by exact (h_.v rfl)) (by exact (h_.v rfl)) QR rfl (by first | omega | (simp only[ai,ah]; omega)) (by first | omega | (simp only[ai,ah]; omega)) (by first | omega | (simp only[ai,ah]; omega))) rfl) ?_
   iterate 2 refine z_ ?_
   refine zz (fun _ h_=>ac (Qn Qnq ⟨_,_,rfl,(h_.w rfl),⟨_,_,rfl,(h_.w rfl),rfl⟩⟩ (aw.1 rfl) rfl rfl) rfl) ?_
   refine zz (fun _ h_=>ac (dBs 21 (e:=(.pr .str .int)) KT (hab:=by exact ⟨_,_,_,_,rfl,⟨[dS (nm.extract ((i:Int)).toNat ((i:Int)+1).toNat)],[dI ((k:Int)+1)],_,_,_,_,rfl,rfl,⟨rfl,rfl⟩,⟨rfl,rfl⟩,rfl⟩,⟨rfl,rfl⟩,rfl⟩)) rfl) ?_
   refine zz (fun _ h_=>ac (dA 22 H2 (hb:=by first | omega | (simp only[aq,aD]; omega))) rfl) ?_
   iterate 3 refine z_ ?_
   refine zz (fun _ h_=>ac (Zy (h_.v rfl) (h_.en 1 rfl) (h_.w rfl) (by simp only[Q9,VM,bm,bI]; rw[(h_.en 22 rfl)]; rfl) Qn6 rfl) rfl) ?_
   exact zN
   refine (?_:AC _ _ _ _ _)
   iterate 4 refine w_ ?_
   refine Qd<|Q5 ⟨i+1,(g2++([(nm.extract ((i:Int)).toNat ((i:Int)+1).toNat,(k:Int)+1)])),by omega,rfl,(by rw[hG2]; exact Qkl),(by simp only[ak,aq,aD]; omega),rfl⟩ (by omega) ?_
   exact Wk.of [(20,22)] rfl ⟨rfl,rfl,rfl,rfl,rfl,rfl,rfl,rfl,rfl,rfl,rfl,rfl,rfl,trivial⟩ ⟨rfl,rfl,rfl,(Qk (by first | rfl | simp)),trivial⟩ rfl rfl
def tx0:ByteArray:=⟨#[97,98]⟩
def tx1:ByteArray:=⟨#[99]⟩
def tx2:ByteArray:=⟨#[]⟩
def tx3:ByteArray:=⟨#[97,43,62,99,43,32,98,43,62,99,43,32,99,43,62,97,45,32,99,43,62,98,45,32,97,45,62,99,45,32,98,45,62,99,45,32,42,99,45,62,97,43,32,42,99,45,62,98,43]⟩
def tx4:ByteArray:=⟨#[97]⟩
def tx5:ByteArray:=⟨#[98]⟩
def tx6:ByteArray:=⟨#[97,43,62,98,43,32,98,43,62,97,45,32,97,45,62,98,45,32,42,98,45,62,97,43]⟩
def tx7:ByteArray:=⟨#[114]⟩
def tx8:ByteArray:=⟨#[120,121]⟩
def tx9:ByteArray:=⟨#[114,43,62,120,43,32,114,43,62,121,43,32,120,43,62,114,45,32,121,43,62,114,45,32,114,45,62,120,45,32,114,45,62,121,45,32,42,120,45,62,114,43,32,42,121,45,62,114,43]⟩
def QjQ:ByteArray:=⟨#[97,100]⟩
def Ht:ByteArray:=⟨#[98,99]⟩
def Qjo:ByteArray:=⟨#[97,43,62,98,43,32,98,43,62,100,43,32,100,43,62,99,43,32,99,43,62,97,45,32,97,45,62,98,45,32,98,45,62,100,45,32,100,45,62,99,45,32,42,99,45,62,97,43]⟩
def QiU:ByteArray:=⟨#[120]⟩
def QiT:ByteArray:=⟨#[97,43,62,120,43,32,120,43,62,98,43,32,98,43,62,97,45,32,97,45,62,120,45,32,120,45,62,98,45,32,42,98,45,62,97,43]⟩
def QiL:ByteArray:=⟨#[42,95,112,62,97,43,32,95,112,62,98,43,32,97,43,62,99,43,47,49,32,99,43,47,49,62,97,45,32,97,45,62,99,45,47,49,32,99,45,47,49,62,95,112,32,98,43,62,99,43,47,50,32,99,43,47,50,62,98,45,32,98,45,62,99,45,47,50,32,99,45,47,50,62,95,112]⟩
def QjE:ByteArray:=⟨#[97,43,62,126,32,126,62,98,43,32,98,43,62,97,45,32,97,45,62,98,45,32,42,98,45,62,97,43]⟩
def Qjb:ByteArray:=⟨#[42,121,45,62,114,43,32,114,43,62,120,43,32,120,43,62,120,45,32,120,45,62,121,43,32,121,43,62,114,45,32,114,45,62,121,45]⟩
def Qi4:ByteArray:=⟨#[42,97,45,62,97,43,32,97,43,62,95,112,32,95,112,62,98,43,32,95,112,62,99,43,32,98,43,62,98,45,32,99,43,62,99,45,32,98,45,62,95,113,32,99,45,62,95,113,32,95,113,62,97,45]⟩
def Qi7:ByteArray:=⟨#[97,43,47,49,62,98,43,32,98,43,62,97,43,47,50,32,97,43,47,50,62,98,45,32,42,98,45,62,97,43,47,49]⟩
def Qpo:ByteArray:=⟨#[112]⟩
def QpU:ByteArray:=⟨#[113]⟩
def Qp6:ByteArray:=⟨#[112,43,62,113,43,32,113,43,62,112,45,32,112,45,62,113,45,32,42,113,45,62,112,43]⟩
def QjC:ByteArray:=⟨#[42,95,112,62,97,43,32,97,43,62,98,43,32,98,43,62,95,113]⟩
theorem Xk (code:List UInt8)(at_:Int)(sd:Int)(ha:0≤at_∧at_≤999999000):FC Tryz.prog 187 [(false,[.ptr 0 0])] [bx 0 93 [.dat (.sl 5 .u8) code,dI at_, .val (.int .u64 sd)]] 1 (Ex (fun x:Zk×Int×Int=>Ty.tot Hj x.1≤1000∧(1≤x.1.2.1.length∧1≤x.1.2.2.1.length)∧(at_≤x.2.1∧x.2.1≤at_+10)) (fun x:Zk×Int×Int=>ag [dI x.1.1.1, .ref 1, .ref 2, .ref 3,dS x.1.2.2.2]) (fun x:Zk×Int×Int=>[bx 0 93 [.dat (.sl 5 .u8) code,dI x.2.1, .val (.int .u64 x.2.2)],ar 1 237 (.pr (.sl 3 .int) (.sl 3 .int)) x.1.1.2,ar 2 203 (.pr .str .int) x.1.2.1,ar 3 120 (.pr .int .bool) x.1.2.2.1])):=by
 refine Qj Tryz.func187 rfl rfl Tryz.ntmps187 fun O_ hO w0_ N0_ X_ h0_ f0_=> ?_
 refine w_ ?_
 refine lc (xal 1 (.pr (.pr .int (.sl 237 (.pr (.sl 3 .int) (.sl 3 .int)))) (.pr (.sl 203 (.pr .str .int)) (.pr (.sl 120 (.pr .int .bool)) .str))) Kg) ?_
 iterate 4 refine w_ ?_
 have hp1:=Zj code at_ sd 7
 refine lc (dP 2 [] (Qp code at_ sd 7 (by omega)) Zd) ?_
 iterate 6 refine w_ ?_
 refine cd_ (fun hb2 hb2'=> ?_) fun hb2 hb2'=> ?_
 ·iterate 4 refine w_ ?_
  refine cd_ (fun hb3 hb3'=> ?_) fun hb3 hb3'=> ?_
  ·iterate 4 refine w_ ?_
   refine cd_ (fun hb4 hb4'=> ?_) fun hb4 hb4'=> ?_
   ·iterate 4 refine w_ ?_
    refine cd_ (fun hb5 hb5'=> ?_) fun hb5 hb5'=> ?_
    ·iterate 4 refine w_ ?_
     refine cd_ (fun hb6 hb6'=> ?_) fun hb6 hb6'=> ?_
     ·iterate 4 refine w_ ?_
      refine cd_ (fun hb7 hb7'=> ?_) fun hb7 hb7'=> ?_
      ·refine AC.skip ?_
       refine (?_:AC _ _ _ _ _)
       refine w_ ?_
       refine lc (dG 3 (QM tx4 tx5 tx2 QjE (by decide+kernel) (by decide+kernel)) Zq) ?_
       iterate 2 refine w_ ?_
       refine Qb ?_
       subst hO
       refine QJ (x:=(((((Qq tx4 tx5 tx2 QjE).1).1,((Qq tx4 tx5 tx2 QjE).1).2),((Qq tx4 tx5 tx2 QjE).2.1,((Qq tx4 tx5 tx2 QjE).2.2.1,(Qq tx4 tx5 tx2 QjE).2.2.2))),((pkA 7 at_),(pkS code at_ sd 7)))) [(0,0),(1,3),(2,4),(3,5)] ?_ (Res.one rfl (QD rfl rfl Yh rfl)) rfl ⟨rfl,rfl,rfl,rfl,trivial⟩ rfl rfl
       first | (dsimp only; exact ⟨by decide+kernel,⟨by decide+kernel,by decide+kernel⟩,by omega⟩)
      ·refine w_ ?_
       refine lc (dG 6 (QM tx0 tx1 tx2 QiL (by decide+kernel) (by decide+kernel)) Zq) ?_
       iterate 2 refine w_ ?_
       refine Qb ?_
       subst hO
       refine QJ (x:=(((((Qq tx0 tx1 tx2 QiL).1).1,((Qq tx0 tx1 tx2 QiL).1).2),((Qq tx0 tx1 tx2 QiL).2.1,((Qq tx0 tx1 tx2 QiL).2.2.1,(Qq tx0 tx1 tx2 QiL).2.2.2))),((pkA 7 at_),(pkS code at_ sd 7)))) [(0,0),(1,6),(2,7),(3,8)] ?_ (Res.one rfl (QD rfl rfl Yh rfl)) rfl ⟨rfl,rfl,rfl,rfl,trivial⟩ rfl rfl
       first | (dsimp only; exact ⟨by decide+kernel,⟨by decide+kernel,by decide+kernel⟩,by omega⟩)
     ·refine w_ ?_
      refine lc (dG 9 (QM tx4 tx5 QiU QiT (by decide+kernel) (by decide+kernel)) Zq) ?_
      iterate 2 refine w_ ?_
      refine Qb ?_
      subst hO
      refine QJ (x:=(((((Qq tx4 tx5 QiU QiT).1).1,((Qq tx4 tx5 QiU QiT).1).2),((Qq tx4 tx5 QiU QiT).2.1,((Qq tx4 tx5 QiU QiT).2.2.1,(Qq tx4 tx5 QiU QiT).2.2.2))),((pkA 7 at_),(pkS code at_ sd 7)))) [(0,0),(1,9),(2,10),(3,11)] ?_ (Res.one rfl (QD rfl rfl Yh rfl)) rfl ⟨rfl,rfl,rfl,rfl,trivial⟩ rfl rfl
      first | (dsimp only; exact ⟨by decide+kernel,⟨by decide+kernel,by decide+kernel⟩,by omega⟩)
    ·refine w_ ?_
     refine lc (dG 12 (QM QjQ Ht tx2 Qjo (by decide+kernel) (by decide+kernel)) Zq) ?_
     iterate 2 refine w_ ?_
     refine Qb ?_
     subst hO
     refine QJ (x:=(((((Qq QjQ Ht tx2 Qjo).1).1,((Qq QjQ Ht tx2 Qjo).1).2),((Qq QjQ Ht tx2 Qjo).2.1,((Qq QjQ Ht tx2 Qjo).2.2.1,(Qq QjQ Ht tx2 Qjo).2.2.2))),((pkA 7 at_),(pkS code at_ sd 7)))) [(0,0),(1,12),(2,13),(3,14)] ?_ (Res.one rfl (QD rfl rfl Yh rfl)) rfl ⟨rfl,rfl,rfl,rfl,trivial⟩ rfl rfl
     first | (dsimp only; exact ⟨by decide+kernel,⟨by decide+kernel,by decide+kernel⟩,by omega⟩)
   ·refine w_ ?_
    refine lc (dG 15 (QM tx7 tx8 tx2 tx9 (by decide+kernel) (by decide+kernel)) Zq) ?_
    iterate 2 refine w_ ?_
    refine Qb ?_
    subst hO
    refine QJ (x:=(((((Qq tx7 tx8 tx2 tx9).1).1,((Qq tx7 tx8 tx2 tx9).1).2),((Qq tx7 tx8 tx2 tx9).2.1,((Qq tx7 tx8 tx2 tx9).2.2.1,(Qq tx7 tx8 tx2 tx9).2.2.2))),((pkA 7 at_),(pkS code at_ sd 7)))) [(0,0),(1,15),(2,16),(3,17)] ?_ (Res.one rfl (QD rfl rfl Yh rfl)) rfl ⟨rfl,rfl,rfl,rfl,trivial⟩ rfl rfl
    first | (dsimp only; exact ⟨by decide+kernel,⟨by decide+kernel,by decide+kernel⟩,by omega⟩)
  ·refine w_ ?_
   refine lc (dG 18 (QM tx4 tx5 tx2 tx6 (by decide+kernel) (by decide+kernel)) Zq) ?_
   iterate 2 refine w_ ?_
   refine Qb ?_
   subst hO
   refine QJ (x:=(((((Qq tx4 tx5 tx2 tx6).1).1,((Qq tx4 tx5 tx2 tx6).1).2),((Qq tx4 tx5 tx2 tx6).2.1,((Qq tx4 tx5 tx2 tx6).2.2.1,(Qq tx4 tx5 tx2 tx6).2.2.2))),((pkA 7 at_),(pkS code at_ sd 7)))) [(0,0),(1,18),(2,19),(3,20)] ?_ (Res.one rfl (QD rfl rfl Yh rfl)) rfl ⟨rfl,rfl,rfl,rfl,trivial⟩ rfl rfl
   first | (dsimp only; exact ⟨by decide+kernel,⟨by decide+kernel,by decide+kernel⟩,by omega⟩)
 ·refine w_ ?_
  refine lc (dG 21 (QM tx0 tx1 tx2 tx3 (by decide+kernel) (by decide+kernel)) Zq) ?_
  iterate 2 refine w_ ?_
  refine Qb ?_
  subst hO
  refine QJ (x:=(((((Qq tx0 tx1 tx2 tx3).1).1,((Qq tx0 tx1 tx2 tx3).1).2),((Qq tx0 tx1 tx2 tx3).2.1,((Qq tx0 tx1 tx2 tx3).2.2.1,(Qq tx0 tx1 tx2 tx3).2.2.2))),((pkA 7 at_),(pkS code at_ sd 7)))) [(0,0),(1,21),(2,22),(3,23)] ?_ (Res.one rfl (QD rfl rfl Yh rfl)) rfl ⟨rfl,rfl,rfl,rfl,trivial⟩ rfl rfl
  first | (dsimp only; exact ⟨by decide+kernel,⟨by decide+kernel,by decide+kernel⟩,by omega⟩)
theorem KU (code:List UInt8)(at_:Int)(sd:Int)[∀s,Decidable (StgOk s)][∀s,Decidable (YP s)](ha:0≤at_∧at_≤999998900):FC Tryz.prog 241 [(false,[.ptr 0 0])] [bx 0 93 [.dat (.sl 5 .u8) code,dI at_, .val (.int .u64 sd)]] 1 (Ex (fun x:Zk×Int×Int=>Ty.tot Hj x.1≤1000∧(1≤x.1.2.1.length∧1≤x.1.2.2.1.length)∧(at_≤x.2.1∧x.2.1≤at_+20)) (fun x:Zk×Int×Int=>ag [dI x.1.1.1, .ref 1, .ref 2, .ref 3,dS x.1.2.2.2]) (fun x:Zk×Int×Int=>[bx 0 93 [.dat (.sl 5 .u8) code,dI x.2.1, .val (.int .u64 x.2.2)],ar 1 237 (.pr (.sl 3 .int) (.sl 3 .int)) x.1.1.2,ar 2 203 (.pr .str .int) x.1.2.1,ar 3 120 (.pr .int .bool) x.1.2.2.1])):=by
 refine Qj Tryz.func241 rfl rfl Tryz.ntmps241 fun O_ hO w0_ N0_ X_ h0_ f0_=> ?_
 refine w_ ?_
 refine lc (xal 1 (.pr (.pr .int (.sl 237 (.pr (.sl 3 .int) (.sl 3 .int)))) (.pr (.sl 203 (.pr .str .int)) (.pr (.sl 120 (.pr .int .bool)) .str))) Kg) ?_
 iterate 4 refine w_ ?_
 have hp1:=Zj code at_ sd 9
 refine lc (dP 2 [] (Qp code at_ sd 9 (by omega)) Zd) ?_
 iterate 6 refine w_ ?_
 refine cd_ (fun hb2 hb2'=> ?_) fun hb2 hb2'=> ?_
 ·iterate 4 refine w_ ?_
  refine cd_ (fun hb3 hb3'=> ?_) fun hb3 hb3'=> ?_
  ·iterate 4 refine w_ ?_
   refine cd_ (fun hb4 hb4'=> ?_) fun hb4 hb4'=> ?_
   ·iterate 4 refine w_ ?_
    refine cd_ (fun hb5 hb5'=> ?_) fun hb5 hb5'=> ?_
    ·iterate 4 refine w_ ?_
     refine cd_ (fun hb6 hb6'=> ?_) fun hb6 hb6'=> ?_
     ·refine AC.skip ?_
      refine (?_:AC _ _ _ _ _)
      iterate 2 refine w_ ?_
      refine Q4 3 [(0,0)] (Xk code (pkA 9 at_) (pkS code at_ sd 9) (by omega)) Qbi e1_ ⟨rfl,trivial⟩ rfl (fun _=>rfl) (fun _=>⟨trivial,(Fresh.of rfl),(Fresh.of rfl),(Fresh.of rfl),trivial⟩) (nlr rfl) fun x7 hx8=> ?_
      iterate 2 refine w_ ?_
      refine Qb ?_
      subst hO
      refine QJ (x:=(((x7.1.1.1,x7.1.1.2),(x7.1.2.1,(x7.1.2.2.1,x7.1.2.2.2))),(x7.2.1,x7.2.2))) [(0,0),(1,4),(2,5),(3,6)] ?_ (Res.one rfl (QD rfl rfl Yh rfl)) rfl ⟨rfl,rfl,rfl,rfl,trivial⟩ rfl rfl
      (have h_:=‹Ty.tot Hj _≤1000∧_›; dsimp only; exact ⟨h_.1,h_.2.1,by omega⟩)
     ·refine w_ ?_
      refine lc (dG 7 (QM tx4 tx5 tx2 QjC (by decide+kernel) (by decide+kernel)) Zq) ?_
      iterate 2 refine w_ ?_
      refine Qb ?_
      subst hO
      refine QJ (x:=(((((Qq tx4 tx5 tx2 QjC).1).1,((Qq tx4 tx5 tx2 QjC).1).2),((Qq tx4 tx5 tx2 QjC).2.1,((Qq tx4 tx5 tx2 QjC).2.2.1,(Qq tx4 tx5 tx2 QjC).2.2.2))),((pkA 9 at_),(pkS code at_ sd 9)))) [(0,0),(1,7),(2,8),(3,9)] ?_ (Res.one rfl (QD rfl rfl Yh rfl)) rfl ⟨rfl,rfl,rfl,rfl,trivial⟩ rfl rfl
      (dsimp only; exact ⟨by decide+kernel,⟨by decide+kernel,by decide+kernel⟩,by omega⟩)
    ·refine w_ ?_
     refine lc (dK (QM Qpo QpU tx2 Qp6 (by decide+kernel) (by decide+kernel)).frozenG Zq) ?_
     refine lc (dK (QM tx4 tx5 tx2 tx6 (by decide+kernel) (by decide+kernel)).frozenG Zq) ?_
     refine Q4 10 [] (KZ (Qq Qpo QpU tx2 Qp6) (Qq tx4 tx5 tx2 tx6) (by decide+kernel) (by decide+kernel)) Qfz e2_ trivial rfl (fun _=>rfl) (fun _=>⟨(Fresh.of rfl),(Fresh.of rfl),(Fresh.of rfl),trivial⟩) (nlr rfl) fun x9 hx10=> ?_
     iterate 3 refine w_ ?_
     refine lc (xal 13 (.pr (.pr .int (.sl 237 (.pr (.sl 3 .int) (.sl 3 .int)))) (.pr (.sl 203 (.pr .str .int)) (.pr (.sl 120 (.pr .int .bool)) .str))) Kg) ?_
     iterate 6 refine w_ ?_
     refine cb_ (fun hb11=> ?_) fun hb11=> ?_
     ·refine AC.skip ?_
      refine (?_:AC _ _ _ _ _)
      iterate 2 refine w_ ?_
      refine Q4 14 [(0,0)] (Xk code (pkA 9 at_) (pkS code at_ sd 9) (by omega)) Qbi e1_ ⟨rfl,trivial⟩ rfl (fun _=>rfl) (fun _=>⟨trivial,(Fresh.of rfl),(Fresh.of rfl),(Fresh.of rfl),trivial⟩) (nlr rfl) fun x12 hx13=> ?_
      iterate 2 refine w_ ?_
      refine Qb ?_
      subst hO
      refine QJ (x:=(((x12.1.1.1,x12.1.1.2),(x12.1.2.1,(x12.1.2.2.1,x12.1.2.2.2))),(x12.2.1,x12.2.2))) [(0,0),(1,15),(2,16),(3,17)] ?_ (Res.one rfl (QD rfl rfl Yh rfl)) rfl ⟨rfl,rfl,rfl,rfl,trivial⟩ rfl rfl
      (have h_:=‹Ty.tot Hj _≤1000∧_›; dsimp only; exact ⟨h_.1,h_.2.1,by omega⟩)
     ·iterate 4 refine w_ ?_
      refine Qb ?_
      subst hO
      refine QJ (x:=(((x9.1.1.1,x9.1.1.2),(x9.1.2.1,(x9.1.2.2.1,x9.1.2.2.2))),((pkA 9 at_),(pkS code at_ sd 9)))) [(0,0),(1,10),(2,11),(3,12)] ?_ (Res.one rfl (QD rfl rfl Yh rfl)) rfl ⟨rfl,rfl,rfl,rfl,trivial⟩ rfl rfl
      (have h_:=‹_=true→_=unS _ _›; have h2_:=h_ (by assumption); dsimp only; rw[h2_]; exact ⟨by decide+kernel,⟨by decide+kernel,by decide+kernel⟩,by omega⟩)
   ·refine w_ ?_
    refine lc (dG 18 (QM tx4 tx5 tx2 Qi7 (by decide+kernel) (by decide+kernel)) Zq) ?_
    iterate 2 refine w_ ?_
    refine Qb ?_
    subst hO
    refine QJ (x:=(((((Qq tx4 tx5 tx2 Qi7).1).1,((Qq tx4 tx5 tx2 Qi7).1).2),((Qq tx4 tx5 tx2 Qi7).2.1,((Qq tx4 tx5 tx2 Qi7).2.2.1,(Qq tx4 tx5 tx2 Qi7).2.2.2))),((pkA 9 at_),(pkS code at_ sd 9)))) [(0,0),(1,18),(2,19),(3,20)] ?_ (Res.one rfl (QD rfl rfl Yh rfl)) rfl ⟨rfl,rfl,rfl,rfl,trivial⟩ rfl rfl
    (dsimp only; exact ⟨by decide+kernel,⟨by decide+kernel,by decide+kernel⟩,by omega⟩)
  ·refine w_ ?_
   refine lc (dG 21 (QM tx4 Ht tx2 Qi4 (by decide+kernel) (by decide+kernel)) Zq) ?_
   iterate 2 refine w_ ?_
   refine Qb ?_
   subst hO
   refine QJ (x:=(((((Qq tx4 Ht tx2 Qi4).1).1,((Qq tx4 Ht tx2 Qi4).1).2),((Qq tx4 Ht tx2 Qi4).2.1,((Qq tx4 Ht tx2 Qi4).2.2.1,(Qq tx4 Ht tx2 Qi4).2.2.2))),((pkA 9 at_),(pkS code at_ sd 9)))) [(0,0),(1,21),(2,22),(3,23)] ?_ (Res.one rfl (QD rfl rfl Yh rfl)) rfl ⟨rfl,rfl,rfl,rfl,trivial⟩ rfl rfl
   (dsimp only; exact ⟨by decide+kernel,⟨by decide+kernel,by decide+kernel⟩,by omega⟩)
 ·refine w_ ?_
  refine lc (dG 24 (QM tx7 tx8 tx2 Qjb (by decide+kernel) (by decide+kernel)) Zq) ?_
  iterate 2 refine w_ ?_
  refine Qb ?_
  subst hO
  refine QJ (x:=(((((Qq tx7 tx8 tx2 Qjb).1).1,((Qq tx7 tx8 tx2 Qjb).1).2),((Qq tx7 tx8 tx2 Qjb).2.1,((Qq tx7 tx8 tx2 Qjb).2.2.1,(Qq tx7 tx8 tx2 Qjb).2.2.2))),((pkA 9 at_),(pkS code at_ sd 9)))) [(0,0),(1,24),(2,25),(3,26)] ?_ (Res.one rfl (QD rfl rfl Yh rfl)) rfl ⟨rfl,rfl,rfl,rfl,trivial⟩ rfl rfl
  (dsimp only; exact ⟨by decide+kernel,⟨by decide+kernel,by decide+kernel⟩,by omega⟩)
end Go.Proofs.YtfkmmpfdncopdaaGreat
namespace Go.Proofs.YtfkmmpfdncopdaaGreat
open Go.RowKit
set_option maxRecDepth 100000
set_option maxHeartbeats 4000000
theorem Qce {b:Nat}:∀(i:Nat) (c:List ByteArray) (vs:List UInt8),(∀z∈c,z.size≤b)→∀z∈WH i c vs,z.size≤b+vs.length
  | _,_,[],h=>by rw[WH]; exact fun z hz=>bn (h z hz) (Nat.le_add_right ..)
  | i,c,v :: vs,h=>fun z hz=>by
    rw[WH] at hz
    have h2:∀z∈c.set i ((c[i]?).getD ByteArray.empty++⟨#[v]⟩),z.size≤b+1:=fun z hz=>by
      rcases bX hz with h1 | h1
      · exact cJ (h z h1)
      · rw [h1, aK]
        show _+1≤b+1
        cases hc:c[i]? with
        | none=>exact Nat.succ_le_succ (aS b)
        | some x=>exact Nat.succ_le_succ (h x (ao hc))
    have:=Qce (i+1) _ vs h2 z hz
    rw[aq]; omega
theorem Qek {n:Nat}{arcs:List DAr}(hr:∀a∈arcs,InR n a):∀{f k b:Nat} {c d:List ByteArray},goS n arcs f k c=some d→(∀z∈c,z.size≤b)→∀z∈d,z.size≤b+n*f
  | 0,_,b,c,d,h,hb=>by rw[goS] at h; cases h; exact hb
  | f+1,k,b,c,d,h,hb=>fun z hz=>by
    rw[goS] at h
    split at h
    · have h1 := Qek hr h (Qce 0 c _ hb) z hz
      have h2:=QkI hr (k:Int)
      rw[Nat.mul_add]; omega
    · cases h
section
variable [∀s,Decidable (StgOk s)]{s:Zk}
theorem Qcf (h:(sgV s).2=true):∀z∈(sgV s).1.2.1,z.size≤2400:=by
  unfold sgV at h ⊢
  split at h
  · rename_i h1
    rw[if_pos h1]
    obtain ⟨hs,hN1,hN2,_,hM,hL⟩:=ZT h1.1
    split at h
    · rename_i c hg
      intro z hz
      have h2:=Qek (Wh hM) hg (b:=0) (fun z hz=>by rw[cw hz]; exact aO _) z hz
      have h3:=hs.sigs.2.2
      have h4:(Qh s).1.1.length*s.2.1.length≤300*8:=Nat.mul_le_mul (by omega) h3
      omega
    · cases h
  · cases h
theorem QkQ:(sgV (Qq ⟨#[97]⟩ ⟨#[98]⟩ ⟨#[]⟩ ⟨#[97,43,62,98,43,32,98,43,62,97,45,32,97,45,62,98,45,32,42,98,45,62,97,43]⟩)).2=true:=by rw[Qo2]; exact Qo7
end
theorem UP (code:List UInt8)(at_:Int)(sd:Int)[∀s,Decidable (StgOk s)][∀s,Decidable (YP s)](ha:0≤at_∧at_≤800000000):FC Tryz.prog 151 [(false,[.ptr 0 0])] [bx 0 93 [.dat (.sl 5 .u8) code,dI at_, .val (.int .u64 sd)]] 1 (Ex (fun x:DSg×Int×Int=>((1≤x.1.2.1.length∧x.1.2.1.length≤300)∧x.1.1.length≤8∧∀z∈x.1.2.1,ByteArray.size z≤2400)∧(at_≤x.2.1∧x.2.1≤at_+80)) (fun x:DSg×Int×Int=>ag [.ref 1, .ref 2, .ref 3]) (fun x:DSg×Int×Int=>[bx 0 93 [.dat (.sl 5 .u8) code,dI x.2.1, .val (.int .u64 x.2.2)],ar 1 203 (.pr .str .int) x.1.1,ar 2 9 .str x.1.2.1,ar 3 136 (.pr .int (.pr .int (.pr .bool .int))) x.1.2.2])):=by
 refine Qj Tryz.func151 rfl rfl Tryz.ntmps151 fun O_ hO w0_ N0_ X_ h0_ f0_=> ?_
 refine w_ ?_
 refine lc (xal 1 (.pr (.sl 203 (.pr .str .int)) (.pr (.sl 9 .str) (.sl 136 (.pr .int (.pr .int (.pr .bool .int)))))) Yr) ?_
 iterate 6 refine w_ ?_
 refine QE (fun m_ s_=>∃(k:Nat) (a_:Int) (sd_:Int),k≤4∧m_=4 - k∧(at_≤a_∧a_≤at_+20*k)∧s_=⟨[(0,lP 0 0),(2,lP 1 0),(3,lI (k:Int))],[bx 0 93 [.dat (.sl 5 .u8) code,dI a_, .val (.int .u64 sd_)],bx 1 28 [.val (.slice none 0 0), .val (.slice none 0 0), .val (.slice none 0 0)]]⟩) ⟨0,at_,sd,aS _,rfl,by omega,rfl⟩ ?_ ?_
 · exact Wk.of [] rfl ⟨rfl,rfl,rfl,trivial⟩ ⟨rfl,rfl,trivial⟩ rfl rfl
 rintro m_ s_ ⟨k,a_,sd_,hk1,hm2,hb,rfl⟩
 iterate 5 refine w_ ?_
 cases hb3:(decide ((k:Int) < 4))
 ·have hb3':=ab hb3
  refine w_ ?_
  refine Qi ?_
  refine (?_:AC _ _ _ _ _)
  refine w_ ?_
  refine lc (dG 2 (QM (⟨#[97]⟩:ByteArray) (⟨#[98]⟩:ByteArray) (⟨#[]⟩:ByteArray) (⟨#[97,43,62,98,43,32,98,43,62,97,45,32,97,45,62,98,45,32,42,98,45,62,97,43]⟩:ByteArray) (by decide+kernel) (by decide+kernel)) Zq) ?_
  refine lc (JZ 5 (Y1 (Qq (⟨#[97]⟩:ByteArray) (⟨#[98]⟩:ByteArray) (⟨#[]⟩:ByteArray) (⟨#[97,43,62,98,43,32,98,43,62,97,45,32,97,45,62,98,45,32,42,98,45,62,97,43]⟩:ByteArray))) Qcc ⟨_,_,rfl,(QbO (Qm rfl) ⟨_,_,rfl, .inl rfl,⟨_,_,rfl, .inr ⟨_,_,_,_,rfl,rfl,rfl⟩,⟨_,_,rfl, .inr ⟨_,_,_,_,rfl,rfl,rfl⟩,⟨_,_,rfl, .inr ⟨_,_,_,_,rfl,rfl,rfl⟩,⟨_,_,rfl, .inl rfl,rfl⟩⟩⟩⟩⟩),rfl⟩ rfl rfl rfl ⟨Fresh.of rfl,Fresh.of rfl,Fresh.of rfl,trivial⟩ (nlr rfl)) ?_
  iterate 3 refine w_ ?_
  refine lc (xal 8 (.pr (.sl 203 (.pr .str .int)) (.pr (.sl 9 .str) (.sl 136 (.pr .int (.pr .int (.pr .bool .int)))))) Yr) ?_
  iterate 7 refine w_ ?_
  refine Qb ?_
  subst hO
  refine QJ (x:=((((sgV (Qq (⟨#[97]⟩:ByteArray) (⟨#[98]⟩:ByteArray) (⟨#[]⟩:ByteArray) (⟨#[97,43,62,98,43,32,98,43,62,97,45,32,97,45,62,98,45,32,42,98,45,62,97,43]⟩:ByteArray))).1).1,(((sgV (Qq (⟨#[97]⟩:ByteArray) (⟨#[98]⟩:ByteArray) (⟨#[]⟩:ByteArray) (⟨#[97,43,62,98,43,32,98,43,62,97,45,32,97,45,62,98,45,32,42,98,45,62,97,43]⟩:ByteArray))).1).2.1,((sgV (Qq (⟨#[97]⟩:ByteArray) (⟨#[98]⟩:ByteArray) (⟨#[]⟩:ByteArray) (⟨#[97,43,62,98,43,32,98,43,62,97,45,32,97,45,62,98,45,32,42,98,45,62,97,43]⟩:ByteArray))).1).2.2)),(a_,sd_))) [(0,0),(1,5),(2,6),(3,7)] ?_ (Res.one rfl (QD rfl rfl YL rfl)) rfl ⟨rfl,rfl,rfl,rfl,trivial⟩ rfl rfl
  exact ⟨⟨(Qhl QkQ).some_,(Qhl QkQ).sig8,Qcf QkQ⟩,by dsimp only; omega⟩
 ·have hb3':=ae hb3
  iterate 6 refine w_ ?_
  refine Q4 9 [(0,0)] (KU code a_ sd_ (by omega)) QfN e1_ ⟨rfl,trivial⟩ rfl (fun _=>rfl) (fun _=>⟨trivial,(Fresh.of rfl),(Fresh.of rfl),(Fresh.of rfl),trivial⟩) (nlr rfl) fun x4 hx5=>lc (JZ 13 (Y1 x4.1) Qcc ⟨_,_,rfl,(QbO (Qm rfl) ⟨_,_,rfl, .inl rfl,⟨_,_,rfl, .inr ⟨_,_,_,_,rfl,rfl,rfl⟩,⟨_,_,rfl, .inr ⟨_,_,_,_,rfl,rfl,rfl⟩,⟨_,_,rfl, .inr ⟨_,_,_,_,rfl,rfl,rfl⟩,⟨_,_,rfl, .inl rfl,rfl⟩⟩⟩⟩⟩),rfl⟩ rfl rfl rfl ⟨Fresh.of rfl,Fresh.of rfl,Fresh.of rfl,trivial⟩ (nlr rfl)) ?_
  iterate 3 refine w_ ?_
  refine lc (xal 16 (.pr (.sl 203 (.pr .str .int)) (.pr (.sl 9 .str) (.sl 136 (.pr .int (.pr .int (.pr .bool .int)))))) Yr) ?_
  iterate 6 refine w_ ?_
  cases hb6:((sgV x4.1).2)
  ·refine w_ ?_
   refine AC.skip ?_
   refine (?_:AC _ _ _ _ _)
   iterate 4 refine w_ ?_
   refine Qd<|Q5 ⟨k+1,x4.2.1,x4.2.2,by omega,rfl,(by omega),rfl⟩ (by omega) ?_
   exact Wk.of [] rfl ⟨rfl,rfl,rfl,trivial⟩ ⟨rfl,rfl,trivial⟩ rfl rfl
  ·iterate 5 refine w_ ?_
   refine Qb ?_
   subst hO
   refine QJ (x:=((((sgV x4.1).1).1,(((sgV x4.1).1).2.1,((sgV x4.1).1).2.2)),(x4.2.1,x4.2.2))) [(0,0),(1,13),(2,14),(3,15)] ?_ (Res.one rfl (QD rfl rfl YL rfl)) rfl ⟨rfl,rfl,rfl,rfl,trivial⟩ rfl rfl
   exact ⟨⟨(Qhl (by assumption)).some_,(Qhl (by assumption)).sig8,Qcf (by assumption)⟩,by dsimp only; omega⟩
theorem Xf (code:List UInt8)(at_:Int)(sd:Int)[∀s,Decidable (StgOk s)][∀s,Decidable (YP s)](ha:0≤at_∧at_≤700000000):FC Tryz.prog 61 [(false,[.ptr 0 0])] [bx 0 93 [.dat (.sl 5 .u8) code,dI at_, .val (.int .u64 sd)]] 1 (Ex (fun x:DSg×Int×Int=>x.1.1.length≤8∧(1≤x.1.2.1.length∧x.1.2.1.length≤301)∧(at_≤x.2.1∧x.2.1≤at_+120)) (fun x:DSg×Int×Int=>ag [.dat (.sl 203 (.pr .str .int)) x.1.1, .dat (.sl 9 .str) x.1.2.1, .dat (.sl 136 (.pr .int (.pr .int (.pr .bool .int)))) x.1.2.2]) (fun x:DSg×Int×Int=>[bx 0 93 [.dat (.sl 5 .u8) code,dI x.2.1, .val (.int .u64 x.2.2)]])):=by
 refine Qj Tryz.func61 rfl rfl Tryz.ntmps61 fun O_ hO w0_ N0_ X_ h0_ f0_=> ?_
 refine w_ ?_
 refine lc (xal 1 (.pr (.sl 203 (.pr .str .int)) (.pr (.sl 9 .str) (.sl 136 (.pr .int (.pr .int (.pr .bool .int)))))) Yr) ?_
 iterate 3 refine w_ ?_
 refine Q4 2 [(0,0)] (UP code at_ sd (by omega)) Qg3 e1_ ⟨rfl,trivial⟩ rfl (fun _=>rfl) (fun _=>⟨trivial,(Fresh.of rfl),(Fresh.of rfl),(Fresh.of rfl),trivial⟩) (nlr rfl) fun x1 hx2=>lc (xal 6 (.pr (.sl 203 (.pr .str .int)) (.pr (.sl 9 .str) (.sl 136 (.pr .int (.pr .int (.pr .bool .int)))))) Yr) ?_
 iterate 5 refine w_ ?_
 have hp3:=Zj code x1.2.1 x1.2.2 20
 refine lc (dP 7 [] (Qp code x1.2.1 x1.2.2 20 (by omega)) Zd) ?_
 iterate 6 refine w_ ?_
 refine cd_ (fun hb4 hb4'=> ?_) fun hb4 hb4'=> ?_
 ·iterate 4 refine w_ ?_
  refine cd_ (fun hb5 hb5'=> ?_) fun hb5 hb5'=> ?_
  ·iterate 4 refine w_ ?_
   refine cd_ (fun hb6 hb6'=> ?_) fun hb6 hb6'=> ?_
   ·iterate 4 refine w_ ?_
    refine cd_ (fun hb7 hb7'=> ?_) fun hb7 hb7'=> ?_
    ·refine AC.skip ?_
     refine (?_:AC _ _ _ _ _)
     refine Zl<|AC.wk (QS (p:=6) (off:=0) (q:=3) rfl rfl rfl)<|AC.wk (QS (p:=6) (off:=1) (q:=4) rfl rfl rfl)<|AC.wk (QS (p:=6) (off:=2) (q:=5) rfl rfl rfl) ?_
     iterate 4 refine w_ ?_
     refine Qb ?_
     subst hO
     refine QJ (x:=((x1.1.1,(x1.1.2.1,x1.1.2.2)),((pkA 20 x1.2.1),(pkS code x1.2.1 x1.2.2 20)))) [(0,0)] ?_ (Res.one rfl (QD rfl rfl YL rfl)) rfl ⟨rfl,trivial⟩ rfl rfl
     (dsimp only; omega)
    ·iterate 6 refine w_ ?_
     refine cd_ (fun hb8 hb8'=> ?_) fun hb8 hb8'=> ?_
     ·refine AC.skip ?_
      refine (?_:AC _ _ _ _ _)
      refine Zl<|AC.wk (QS (p:=6) (off:=0) (q:=3) rfl rfl rfl)<|AC.wk (QS (p:=6) (off:=1) (q:=4) rfl rfl rfl)<|AC.wk (QS (p:=6) (off:=2) (q:=5) rfl rfl rfl) ?_
      iterate 4 refine w_ ?_
      refine Qb ?_
      subst hO
      refine QJ (x:=((x1.1.1,(x1.1.2.1,x1.1.2.2)),((pkA 20 x1.2.1),(pkS code x1.2.1 x1.2.2 20)))) [(0,0)] ?_ (Res.one rfl (QD rfl rfl YL rfl)) rfl ⟨rfl,trivial⟩ rfl rfl
      (dsimp only; omega)
     ·obtain ⟨x9,hx10⟩:∃z,x1.1.2.2[0]? =some z:=⟨_,aa (by omega)⟩
      apply dV (i4 49 _ _ _ _ [io 53 (lf (.ept 5 4 0 0)),io 54 (lf (.ept 5 4 0 2)),io 55 (lB x9.2.2.1),io 56 _,io 57 (lf (.ept 5 4 0 0)),io 58 (lf (.ept 5 4 0 2)),⟨none,lf (.val undef),[ar 5 136 (.pr .int (.pr .int (.pr .bool .int))) (x1.1.2.2.set 0 (x9.1,x9.2.1, !x9.2.2.1,x9.2.2.2))]⟩]) [0,0,3,3,3,3,3,3,0,0,0]
      iterate 4 refine z_ ?_
      refine zz (fun _ h_=>ac (ZD (e:=(.pr .int (.pr .int (.pr .bool .int)))) (h_.v rfl) (h_.en 5 rfl) (Ql rfl) QgS Qdk rfl (by omega) (by first | omega | (simp only[aA]; omega))) rfl)<|zz (fun _ h_=>ac (Yl (h_.v rfl) QcV (by rw[(h_.en 5 rfl)]; rfl) rfl) rfl)<|zz (fun _ h_=>ac (Z9 (e:=(.pr .int (.pr .int (.pr .bool .int)))) (h_.v rfl) (h_.n 5 rfl) hx10 rfl Qes rfl rfl) rfl) ?_
      refine z_ ?_
      refine zz (fun _ h_=>ac (ZD (e:=(.pr .int (.pr .int (.pr .bool .int)))) (h_.v rfl) (h_.en 5 rfl) (Ql rfl) QgS Qdk rfl (by omega) (by first | omega | (simp only[aA]; omega))) rfl)<|zz (fun _ h_=>ac (Yl (h_.v rfl) QcV (by rw[(h_.en 5 rfl)]; rfl) rfl) rfl)<|zz (fun _ h_=>ac (Qs (e:=(.pr .int (.pr .int (.pr .bool .int)))) (z':=(x9.1,x9.2.1, !x9.2.2.1,x9.2.2.2)) (h_.v rfl) (h_.n 5 rfl) hx10 rfl (h_.w rfl) rfl Qes rfl rfl) rfl) ?_
      exact zN
      refine (?_:AC _ _ _ _ _)
      refine Zl<|AC.wk (QS (p:=6) (off:=0) (q:=3) rfl rfl rfl)<|AC.wk (QS (p:=6) (off:=1) (q:=4) rfl rfl rfl)<|AC.wk (QS (p:=6) (off:=2) (q:=5) rfl rfl rfl) ?_
      iterate 4 refine w_ ?_
      refine Qb ?_
      subst hO
      refine QJ (x:=((x1.1.1,(x1.1.2.1,x1.1.2.2.set 0 (x9.1,x9.2.1, !x9.2.2.1,x9.2.2.2))),((pkA 20 x1.2.1),(pkS code x1.2.1 x1.2.2 20)))) [(0,0)] ?_ (Res.one rfl (QD rfl rfl YL rfl)) rfl ⟨rfl,trivial⟩ rfl rfl
      (dsimp only; omega)
   ·obtain ⟨x11,hx12⟩:∃z,x1.1.2.1[0]? =some z:=⟨_,aa (by omega)⟩
    apply dV (i4 34 _ _ _ _ [io 38 (lf (.ept 4 1 0 0)),io 39 (lf (dS x11)),⟨some 40,lR 8,[ar 8 9 .str ([x11])]⟩,⟨some 41,lR 9,[ar 9 9 .str (x1.1.2.1++([x11])),(4,none),(8,none)]⟩,io 42 _,⟨none,lf (.val undef),[bx 6 28 [.ref 3, .ref 9, .ref 5]]⟩]) [0,0,3,3,3,3,3,0,0,0]
    iterate 4 refine z_ ?_
    refine zz (fun _ h_=>ac (ZD (e:= .str) (h_.v rfl) (h_.en 4 rfl) (Ql rfl) ZE ZM rfl (by omega) (by first | omega | (simp only[aA]; omega))) rfl)<|zz (fun _ h_=>ac (Z9 (e:= .str) (h_.v rfl) (h_.n 4 rfl) hx12 rfl ZM rfl rfl) rfl) ?_
    refine zz (fun _ h_=>ac (dBs 8 (e:= .str) ZZ) rfl) ?_
    refine zz (fun _ h_=>ac (dA 9 YS (hb:=by (simp only[aq,aD]; omega))) rfl) ?_
    refine z_ ?_
    refine zz (fun _ h_=>ac (Zy (h_.v rfl) (h_.en 6 rfl) (h_.w rfl) (by simp only[Q9,VM,bm,bI]; rw[(h_.en 9 rfl)]; rfl) Qg2 rfl) rfl) ?_
    exact zN
    refine (?_:AC _ _ _ _ _)
    refine Zl<|AC.wk (QS (p:=6) (off:=0) (q:=3) rfl rfl rfl)<|AC.wk (QS (p:=6) (off:=1) (q:=9) rfl rfl rfl)<|AC.wk (QS (p:=6) (off:=2) (q:=5) rfl rfl rfl) ?_
    iterate 4 refine w_ ?_
    refine Qb ?_
    subst hO
    refine QJ (x:=((x1.1.1,(x1.1.2.1++([x11]),x1.1.2.2)),((pkA 20 x1.2.1),(pkS code x1.2.1 x1.2.2 20)))) [(0,0)] ?_ (Res.one rfl (QD rfl rfl YL rfl)) rfl ⟨rfl,trivial⟩ rfl rfl
    (dsimp only; simp only[ak,aA,aq,aD]; omega)
  ·iterate 6 refine w_ ?_
   refine cd_ (fun hb13 hb13'=> ?_) fun hb13 hb13'=> ?_
   ·refine AC.skip ?_
    refine (?_:AC _ _ _ _ _)
    refine Zl<|AC.wk (QS (p:=6) (off:=0) (q:=3) rfl rfl rfl)<|AC.wk (QS (p:=6) (off:=1) (q:=4) rfl rfl rfl)<|AC.wk (QS (p:=6) (off:=2) (q:=5) rfl rfl rfl) ?_
    iterate 4 refine w_ ?_
    refine Qb ?_
    subst hO
    refine QJ (x:=((x1.1.1,(x1.1.2.1,x1.1.2.2)),((pkA 20 x1.2.1),(pkS code x1.2.1 x1.2.2 20)))) [(0,0)] ?_ (Res.one rfl (QD rfl rfl YL rfl)) rfl ⟨rfl,trivial⟩ rfl rfl
    (dsimp only; omega)
   ·have hp14:=Zj code (pkA 20 x1.2.1) (pkS code x1.2.1 x1.2.2 20) 9
    obtain ⟨x15,hx16⟩:∃z,x1.1.2.2[0]? =some z:=⟨_,aa (by omega)⟩
    apply dV (i3 25 _ _ _ [⟨some 28,lI (pkV code (pkA 20 x1.2.1) (pkS code x1.2.1 x1.2.2 20) 9),[bx 0 93 [.dat (.sl 5 .u8) code,dI (pkA 9 (pkA 20 x1.2.1)), .val (.int .u64 (pkS code (pkA 20 x1.2.1) (pkS code x1.2.1 x1.2.2 20) 9))],(0,none)]⟩,io 29 _,io 30 (lf (.ept 5 4 0 0)),io 31 (lf (.ept 5 4 0 3)),⟨none,lf (.val undef),[ar 5 136 (.pr .int (.pr .int (.pr .bool .int))) (x1.1.2.2.set 0 (x15.1,x15.2.1,x15.2.2.1,(pkV code (pkA 20 x1.2.1) (pkS code x1.2.1 x1.2.2 20) 9) - 1))]⟩]) [0,0,3,3,3,0,0,0]
    iterate 3 refine z_ ?_
    refine zz (fun _ h_=>ac (dP 10 [] (Qp code (pkA 20 x1.2.1) (pkS code x1.2.1 x1.2.2 20) 9 (by omega)) Zd) rfl) ?_
    refine z_ ?_
    refine zz (fun _ h_=>ac (ZD (e:=(.pr .int (.pr .int (.pr .bool .int)))) (h_.v rfl) (h_.en 5 rfl) (Ql rfl) QgS Qdk rfl (by omega) (by first | omega | (simp only[aA]; omega))) rfl)<|zz (fun _ h_=>ac (Yl (h_.v rfl) Qja (by rw[(h_.en 5 rfl)]; rfl) rfl) rfl)<|zz (fun _ h_=>ac (Qs (e:=(.pr .int (.pr .int (.pr .bool .int)))) (z':=(x15.1,x15.2.1,x15.2.2.1,(pkV code (pkA 20 x1.2.1) (pkS code x1.2.1 x1.2.2 20) 9) - 1)) (h_.v rfl) (h_.n 5 rfl) hx16 rfl (h_.w rfl) rfl U8 rfl rfl) rfl) ?_
    exact zN
    refine (?_:AC _ _ _ _ _)
    refine Zl<|AC.wk (QS (p:=6) (off:=0) (q:=3) rfl rfl rfl)<|AC.wk (QS (p:=6) (off:=1) (q:=4) rfl rfl rfl)<|AC.wk (QS (p:=6) (off:=2) (q:=5) rfl rfl rfl) ?_
    iterate 4 refine w_ ?_
    refine Qb ?_
    subst hO
    refine QJ (x:=((x1.1.1,(x1.1.2.1,x1.1.2.2.set 0 (x15.1,x15.2.1,x15.2.2.1,(pkV code (pkA 20 x1.2.1) (pkS code x1.2.1 x1.2.2 20) 9) - 1))),((pkA 9 (pkA 20 x1.2.1)),(pkS code (pkA 20 x1.2.1) (pkS code x1.2.1 x1.2.2 20) 9)))) [(0,0)] ?_ (Res.one rfl (QD rfl rfl YL rfl)) rfl ⟨rfl,trivial⟩ rfl rfl
    (dsimp only; omega)
 ·obtain ⟨x17,hx18⟩:∃z,x1.1.2.1[0]? =some z:=⟨_,aa (by omega)⟩
  have hp19:=QnU code (⟨#[48,49,50]⟩:ByteArray) x17 (pkA 20 x1.2.1) (pkS code x1.2.1 x1.2.2 20)
  apply dV (i5 10 _ _ _ _ _ [io 15 (lf (.ept 4 1 0 0)),io 16 (lf (dS x17)),⟨some 17,lf (dS ((spV code (⟨#[48,49,50]⟩:ByteArray) x17 (pkA 20 x1.2.1) (pkS code x1.2.1 x1.2.2 20)).1)),[bx 0 93 [.dat (.sl 5 .u8) code,dI ((spV code (⟨#[48,49,50]⟩:ByteArray) x17 (pkA 20 x1.2.1) (pkS code x1.2.1 x1.2.2 20)).2.1), .val (.int .u64 ((spV code (⟨#[48,49,50]⟩:ByteArray) x17 (pkA 20 x1.2.1) (pkS code x1.2.1 x1.2.2 20)).2.2))],(0,none)]⟩,io 18 (lf (.ept 4 1 0 0)),⟨none,lf (.val undef),[ar 4 9 .str (x1.1.2.1.set 0 ((spV code (⟨#[48,49,50]⟩:ByteArray) x17 (pkA 20 x1.2.1) (pkS code x1.2.1 x1.2.2 20)).1))]⟩]) [0,0,3,7,7,7,7,3,0,0]
  iterate 5 refine z_ ?_
  refine zz (fun _ h_=>ac (ZD (e:= .str) (h_.v rfl) (h_.en 4 rfl) (Ql rfl) ZE ZM rfl (by omega) (by first | omega | (simp only[aA]; omega))) rfl)<|zz (fun _ h_=>ac (Z9 (e:= .str) (h_.v rfl) (h_.n 4 rfl) hx18 rfl ZM rfl rfl) rfl) ?_
  refine zz (fun _ h_=>ac (dP 11 [] (Ul code (pkA 20 x1.2.1) (pkS code x1.2.1 x1.2.2 20) x17 (⟨#[48,49,50]⟩:ByteArray) (by omega) (by have h_:=‹(_∧_∧∀z∈_,ByteArray.size z≤2400)∧_›; have h2_:=h_.1.2.2 _ (ao (by assumption)); exact ⟨by omega,by decide⟩)) QfD) rfl) ?_
  refine zz (fun _ h_=>ac (ZD (e:= .str) (h_.v rfl) (h_.en 4 rfl) (Ql rfl) ZE ZM rfl (by omega) (by first | omega | (simp only[aA]; omega))) rfl)<|zz (fun _ h_=>ac (Qs (e:= .str) (z':=(spV code (⟨#[48,49,50]⟩:ByteArray) x17 (pkA 20 x1.2.1) (pkS code x1.2.1 x1.2.2 20)).1) (h_.v rfl) (h_.n 4 rfl) hx18 rfl (h_.w rfl) rfl ZM rfl rfl) rfl) ?_
  exact zN
  refine (?_:AC _ _ _ _ _)
  refine Zl<|AC.wk (QS (p:=6) (off:=0) (q:=3) rfl rfl rfl)<|AC.wk (QS (p:=6) (off:=1) (q:=4) rfl rfl rfl)<|AC.wk (QS (p:=6) (off:=2) (q:=5) rfl rfl rfl) ?_
  iterate 4 refine w_ ?_
  refine Qb ?_
  subst hO
  refine QJ (x:=((x1.1.1,(x1.1.2.1.set 0 ((spV code (⟨#[48,49,50]⟩:ByteArray) x17 (pkA 20 x1.2.1) (pkS code x1.2.1 x1.2.2 20)).1),x1.1.2.2)),(((spV code (⟨#[48,49,50]⟩:ByteArray) x17 (pkA 20 x1.2.1) (pkS code x1.2.1 x1.2.2 20)).2.1),((spV code (⟨#[48,49,50]⟩:ByteArray) x17 (pkA 20 x1.2.1) (pkS code x1.2.1 x1.2.2 20)).2.2)))) [(0,0)] ?_ (Res.one rfl (QD rfl rfl YL rfl)) rfl ⟨rfl,trivial⟩ rfl rfl
  (dsimp only; simp only[ak,aA,aq,aD]; omega)
end Go.Proofs.YtfkmmpfdncopdaaGreat
