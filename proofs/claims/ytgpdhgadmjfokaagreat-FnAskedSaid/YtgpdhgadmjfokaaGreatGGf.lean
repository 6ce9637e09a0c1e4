/- Walks over abstract states: excitation regions asked for, quiescent regions, both sides. -/
import Derived.Test.YtgpdhgadmjfokaaGreatGGd
set_option linter.unusedSimpArgs false
set_option linter.unusedVariables false
set_option linter.unusedSectionVars false
namespace Go.Proofs.YtgpdhgadmjfokaaGreat
open Go.RowKit
set_option maxRecDepth 100000
set_option maxHeartbeats 4000000
theorem QkB {c:DSg}{l:Int×Bool}(hr:∀a∈c.2.2,InR c.2.1.length a):InN (xS c.2.2 l) c.2.1.length:=fun _ hu=>QhI hr hu
theorem Qn6 {c:DSg}{l:Int×Bool}{k:Nat}(hr:∀a∈c.2.2,InR c.2.1.length a)(h:c.2.1.length≤k)(h2:k≤c.2.1.length):rg (lbG (xS c.2.2 l) (QJ (lpR c.2.2 (xS c.2.2 l)) c.2.1.length (lpZ c.2.1.length)) c.2.1.length) k=regV c.2.2 (xS c.2.2 l):=by
  obtain rfl:k=c.2.1.length:=by omega
  exact Qo8 Hb (QkB hr) (QnD Hb (QkB hr) (Qnj (QkB hr)))
theorem QlX {n k:Nat}(h:n≤k)(h2:k≤n):ini (fun i:Nat=>(i:Int)) 0 n k=lpZ n:=Qjf h h2
theorem QmX {c:DSg}{l:Int×Bool}{k:Nat}(h:c.2.1.length≤k)(h2:k≤c.2.1.length):ini (fun i:Nat=>decide ((i:Int)∈xS c.2.2 l)) false c.2.1.length k=Xe c l:=Qjf h h2
theorem QaQ {c:DSg}{l:Int×Bool}{m:Nat}{b:Bool}(h:(Xe c l)[m]? =some b):∀q:Int,q.toNat=m→0≤q→b=decide (q∈xS c.2.2 l):=fun q hq h0=>by subst hq; exact Qn9 h0 h
theorem Qid {α:Type}{f:α→α}{x:α}{n k:Nat}(h:n≤k)(h2:k≤n):QJ f k x=QJ f n x:=by
  obtain rfl:k=n:=by omega
  rfl
theorem QdF (a:Int)(b:Int):FC Tryz.prog 246 [(false,[dI a]),(false,[dI b])] [] 0 (QY (lI (min a b))):=by
 refine Qn Tryz.func246 rfl rfl Tryz.ntmps246 fun O_ hO w0_ N0_ X_ h0_ f0_=> ?_
 refine acI 0 fun hi1=> ?_
 refine acI 1 fun hi2=> ?_
 iterate 9 refine w_ ?_
 refine cd_ (fun hb3 hb3'=> ?_) fun hb3 hb3'=> ?_
 ·iterate 5 refine w_ ?_
  refine Qb<|fqI hO ?_
  omega
 ·iterate 4 refine w_ ?_
  refine Qb<|fqI hO ?_
  omega
theorem Wt (c:(List (ByteArray×Int))×List ByteArray×(List (Int×Int×Bool×Int)))(sig:Int)(up:Bool)(hs:SgOk c):FC Tryz.prog 158 [(true,[.dat (.sl 44 (.pr .str .int)) c.1, .dat (.sl 9 .str) c.2.1, .dat (.sl 46 (.pr .int (.pr .int (.pr .bool .int)))) c.2.2]),(false,[dI sig]),(false,[dB up])] [] 0 (QY (lf (.dat (.sl 32 (.sl 3 .int)) (regV c.2.2 (xS c.2.2 (sig,up)))))):=by
 have hr:∀a∈c.2.2,InR c.2.1.length a:=fun a ha=>Yn (hs.arcs a ha)
 have hn3:=hs.some_
 have hfw:=hs.few
 have h8:=hs.sigs.2.2
 refine Qn Tryz.func158 rfl rfl Tryz.ntmps158 fun O_ hO w0_ N0_ X_ h0_ f0_=> ?_
 refine acI 1 fun hi1=> ?_
 refine w_ ?_
 refine xbx 0 ?_
 iterate 2 refine w_ ?_
 apply dW (i4 7 _ _ _ _ [io 11 (ag [dI sig,dB up]),io 12 (lf (.dat (.sl 3 .int) (xS c.2.2 (sig,up)))),io 13 (lf (.dat (.sl 32 (.sl 3 .int)) (regV c.2.2 (xS c.2.2 (sig,up))))),io 6 _]) [0,1,3,7,3,1,0,0]
 iterate 4 refine z_ ?_
 refine zz (fun _ h_=>ac (Qm WR ⟨_,_,rfl,(h_.w rfl),⟨_,_,rfl,(h_.w rfl),rfl⟩⟩ (aA.1 rfl) rfl rfl) rfl) ?_
 refine zz (fun _ h_=>ac (dK (HE c (sig,up) (by omega)).frozen QgV) rfl) ?_
 refine zz (fun _ h_=>ac (dK (U7 c (xS c.2.2 (sig,up)) Hb (by have:=QmN (l:=(sig,up)) hr; omega) (by omega)) QhZ) rfl) ?_
 refine z_ ?_
 exact zN
 refine Qb ?_
 exact fe_ hO
theorem YG (c:(List (ByteArray×Int))×List ByteArray×(List (Int×Int×Bool×Int)))(sig:Int)(up:Bool)[∀c,Decidable (SgOk c)]:FC Tryz.prog 50 [(true,[.dat (.sl 44 (.pr .str .int)) c.1, .dat (.sl 9 .str) c.2.1, .dat (.sl 46 (.pr .int (.pr .int (.pr .bool .int)))) c.2.2]),(false,[dI sig]),(false,[dB up])] [] 0 (QY (PV.tup [(false,[.dat (.sl 32 (.sl 3 .int)) (if ((0≤sig∧sig≤(c.1.length:Int) - 1)∧QE c sig=false∧SgOk c∧QG c=Qu) then regV c.2.2 (xS c.2.2 (sig,up)) else [])]),(false,[dB (decide ((0≤sig∧sig≤(c.1.length:Int) - 1)∧QE c sig=false∧SgOk c∧QG c=Qu))])])):=by
 refine Qn Tryz.func50 rfl rfl Tryz.ntmps50 fun O_ hO w0_ N0_ X_ h0_ f0_=> ?_
 refine acI 1 fun hi1=> ?_
 refine w_ ?_
 refine xbx 0 ?_
 iterate 7 refine w_ ?_
 refine lc (dK (Jd c sig) Qgm) ?_
 iterate 2 refine w_ ?_
 cases hb2:(decide ((0≤sig∧sig≤(c.1.length:Int) - 1)∧QE c sig=false∧SgOk c∧QG c=Qu))
 ·have hb2':=ae hb2
  iterate 5 refine w_ ?_
  refine AC.wk (UE (i:=6) 32 (.sl 3 .int) rfl)<|Qb ?_
  have e3:([]:((.sl 32 (.sl 3 .int)):Ty).Den)=(if ((0≤sig∧sig≤(c.1.length:Int) - 1)∧QE c sig=false∧SgOk c∧QG c=Qu) then regV c.2.2 (xS c.2.2 (sig,up)) else []):=by
   (rw[if_neg (by assumption)]; done)
  have e4:(false:Bool)=(decide ((0≤sig∧sig≤(c.1.length:Int) - 1)∧QE c sig=false∧SgOk c∧QG c=Qu)):=by
   exact (if_neg (by assumption)).symm
  exact fr_ hO (e:=((congrArg (fun z_=>PV.tup [(false,[.dat (.sl 32 (.sl 3 .int)) z_]),(false,[dB false])]) e3)).trans (congrArg (fun z_=>PV.tup [(false,[.dat (.sl 32 (.sl 3 .int)) (if ((0≤sig∧sig≤(c.1.length:Int) - 1)∧QE c sig=false∧SgOk c∧QG c=Qu) then regV c.2.2 (xS c.2.2 (sig,up)) else [])]),(false,[dB z_])]) e4))
 ·have hb2':=ab hb2
  iterate 6 refine w_ ?_
  refine lc (dK (Wt c sig up (by assumption:((0≤sig∧sig≤(c.1.length:Int) - 1)∧QE c sig=false∧SgOk c∧QG c=Qu)).2.2.1) QhG) ?_
  iterate 3 refine w_ ?_
  refine Qb ?_
  have e5:(regV c.2.2 (xS c.2.2 (sig,up)):((.sl 32 (.sl 3 .int)):Ty).Den)=(if ((0≤sig∧sig≤(c.1.length:Int) - 1)∧QE c sig=false∧SgOk c∧QG c=Qu) then regV c.2.2 (xS c.2.2 (sig,up)) else []):=by
   (rw[if_pos (by assumption)]; done)
  have e6:(true:Bool)=(decide ((0≤sig∧sig≤(c.1.length:Int) - 1)∧QE c sig=false∧SgOk c∧QG c=Qu)):=by
   exact (if_pos (by assumption)).symm
  exact fr_ hO (e:=((congrArg (fun z_=>PV.tup [(false,[.dat (.sl 32 (.sl 3 .int)) z_]),(false,[dB true])]) e5)).trans (congrArg (fun z_=>PV.tup [(false,[.dat (.sl 32 (.sl 3 .int)) (if ((0≤sig∧sig≤(c.1.length:Int) - 1)∧QE c sig=false∧SgOk c∧QG c=Qu) then regV c.2.2 (xS c.2.2 (sig,up)) else [])]),(false,[dB z_])]) e6))
theorem Qcj (c:(List (ByteArray×Int))×List ByteArray×(List (Int×Int×Bool×Int)))(sig:Int)(up:Bool)(hs:SgOk c)(hg:0≤sig∧sig≤(c.1.length:Int) - 1):FC Tryz.prog 282 [(true,[.dat (.sl 44 (.pr .str .int)) c.1, .dat (.sl 9 .str) c.2.1, .dat (.sl 46 (.pr .int (.pr .int (.pr .bool .int)))) c.2.2]),(false,[dI sig]),(false,[dB up])] [] 0 (Yo 4 .bool (Xe c (sig,up))):=by
 have hr:∀a∈c.2.2,InR c.2.1.length a:=fun a ha=>Yn (hs.arcs a ha)
 have hn3:=hs.some_
 have hfw:=hs.few
 have h8:=hs.sigs.2.2
 refine Qn Tryz.func282 rfl rfl Tryz.ntmps282 fun O_ hO w0_ N0_ X_ h0_ f0_=> ?_
 refine acI 1 fun hi1=> ?_
 refine w_ ?_
 refine xbx 0 ?_
 iterate 5 refine w_ ?_
 refine alL 11 fun hl2=> ?_
 refine w_ ?_
 refine lc (YD 1 (e:= .bool) (n:=c.2.1.length) (Qa rfl) (Qa rfl) V1 QiD rfl (by omega) (by omega) rfl (Fresh.of rfl) (nlr rfl)) ?_
 iterate 6 refine w_ ?_
 refine alL 15 fun hl3=> ?_
 iterate 4 refine w_ ?_
 refine lp0 c.2.1.length (fun k=>⟨[(1,lI sig),(2,lB up),(3,lP 0 0),(6,lf (.val (.slice none 0 0))),(7,lR 2),(15,lf (.dat (.sl 9 .str) c.2.1)),(16,lI (c.2.1.length:Int)),(17,lI (k:Int))],[bx 0 27 [.dat (.sl 44 (.pr .str .int)) c.1, .dat (.sl 9 .str) c.2.1, .dat (.sl 46 (.pr .int (.pr .int (.pr .bool .int)))) c.2.2],ar 2 4 .bool (ini (fun i:Nat=>decide ((i:Int)∈xS c.2.2 (sig,up))) false c.2.1.length k)]⟩) ?_ fun k hk4=> ?_
 · exact Wk.of [(2,1)] rfl ⟨rfl,rfl,rfl,rfl,rfl,rfl,rfl,rfl,trivial⟩ ⟨rfl,(Qj (Qox)),trivial⟩ rfl rfl
 have hil:=Qjb (f:=fun i:Nat=>decide ((i:Int)∈xS c.2.2 (sig,up))) (z:=false) (n:=c.2.1.length) (k:=k) (by omega)
 iterate 4 refine w_ ?_
 cases hb5:(decide ((k:Int) < (c.2.1.length:Int)))
 ·have hb5':=ae hb5
  refine w_ ?_
  refine Qh ?_
  refine (?_:AC _ _ _ _ _)
  iterate 4 refine w_ ?_
  refine Qb<|fo_ hO ?_
  exact QmX (by omega) (by omega)
 ·have hb5':=ab hb5
  iterate 6 refine w_ ?_
  obtain ⟨code,hx7⟩:∃z,c.2.1[k]? =some z:=⟨_,aa (by omega)⟩
  have hcode:=hx7
  have hcz:=(hs.codes code (aj hx7)).2
  iterate 5 refine w_ ?_
  cases hb8:(QH c (k:Int) sig)
  ·obtain ⟨x9,hx10⟩:∃z,(ini (fun i:Nat=>decide ((i:Int)∈xS c.2.2 (sig,up))) false c.2.1.length k)[k]? =some z:=⟨_,aa (by omega)⟩
   apply dV (i5 22 _ _ _ _ _ (io 27 (lB false) :: i9 28 _ _ _ _ _ _ _ _ _ (i2 37 _ _ [io 39 (lf (.ept 2 1 k 0)),⟨none,lf (.val undef),[ar 2 4 .bool ((ini (fun i:Nat=>decide ((i:Int)∈xS c.2.2 (sig,up))) false c.2.1.length k).set k false)]⟩]))) [0,1,3,7,15,3,3,3,131,387,387,3,3971,3971,3971,3,3,0,0]
   iterate 5 refine z_ ?_
   refine zz (fun _ h_=>ac (Q8 (hb8) (dK (Zd c (k:Int) sig) Yy)) rfl) ?_
   iterate 11 refine z_ ?_
   refine zz (fun _ h_=>ac (QF (e:= .bool) (h_.v rfl) (h_.en 2 rfl) (h_.v rfl) V1 XO rfl (by omega) (by first | omega | (simp only[ay]; omega))) rfl)<|zz (fun _ h_=>ac (Qp (e:= .bool) (z':=false) (h_.v rfl) (h_.n 2 rfl) hx10 rfl (h_.w rfl) rfl XO rfl rfl) rfl) ?_
   exact zN
   refine (?_:AC _ _ _ _ _)
   iterate 3 refine w_ ?_
   refine Qc ?_
   refine l0_ ?_
   exact Wk.of [] rfl ⟨rfl,rfl,rfl,rfl,rfl,rfl,rfl,rfl,trivial⟩ ⟨rfl,(Qj (Qeg (by omega) (by first | exact QoA (by assumption) | exact Qot hs (by assumption) hg hcode))),trivial⟩ rfl rfl
  ·obtain ⟨x11,hx12⟩:∃z,(ini (fun i:Nat=>decide ((i:Int)∈xS c.2.2 (sig,up))) false c.2.1.length k)[k]? =some z:=⟨_,aa (by omega)⟩
   apply dV (i5 22 _ _ _ _ _ (io 27 (lB true) :: i5 28 _ _ _ _ _ (io 33 (lf (dS (code.extract (sig).toNat (sig+1).toNat))) :: i2 34 _ _ (io 36 (lf (dS (Z6 (!up)))) :: i2 37 _ _ [io 39 (lf (.ept 2 1 k 0)),⟨none,lf (.val undef),[ar 2 4 .bool ((ini (fun i:Nat=>decide ((i:Int)∈xS c.2.2 (sig,up))) false c.2.1.length k).set k (decide ((code.extract (sig).toNat (sig+1).toNat)=(Z6 (!up)))))]⟩])))) [0,1,3,7,15,3,3,3,131,387,387,3,3971,3971,3971,3,3,0,0]
   iterate 5 refine z_ ?_
   refine zz (fun _ h_=>ac (Q8 (hb8) (dK (Zd c (k:Int) sig) Yy)) rfl) ?_
   iterate 5 refine z_ ?_
   refine zz (fun _ h_=>day rfl (h_.k rfl) (show Does _ _ _ _ (St.put _ 33 (lf (dS (code.extract (sig).toNat (sig+1).toNat)))) from QW (l:=(some sig)) (h:=(some (sig+1))) (h_.v rfl) (by exact (h_.v rfl)) (by exact (h_.v rfl)) Zx rfl (by first | omega | (simp only[au,ap]; omega)) (by first | omega | (simp only[au,ap]; omega)) (by first | omega | (simp only[au,ap]; omega))) rfl) ?_
   iterate 2 refine z_ ?_
   refine zz (fun _ h_=>day rfl (h_.k rfl) (dK (Yi (!up)) Xn) rfl) ?_
   iterate 2 refine z_ ?_
   refine zz (fun _ h_=>ac (QF (e:= .bool) (h_.v rfl) (h_.en 2 rfl) (h_.v rfl) V1 XO rfl (by omega) (by first | omega | (simp only[ay]; omega))) rfl)<|zz (fun _ h_=>ac (Qp (e:= .bool) (z':=decide ((code.extract (sig).toNat (sig+1).toNat)=(Z6 (!up)))) (h_.v rfl) (h_.n 2 rfl) hx12 rfl (h_.w rfl) rfl XO rfl rfl) rfl) ?_
   exact zN
   refine (?_:AC _ _ _ _ _)
   iterate 3 refine w_ ?_
   refine Qc ?_
   refine l0_ ?_
   exact Wk.of [] rfl ⟨rfl,rfl,rfl,rfl,rfl,rfl,rfl,rfl,trivial⟩ ⟨rfl,(Qj (Qeg (by omega) (by first | exact QoA (by assumption) | exact Qot hs (by assumption) hg hcode))),trivial⟩ rfl rfl
theorem YX (c:(List (ByteArray×Int))×List ByteArray×(List (Int×Int×Bool×Int)))(sig:Int)(up:Bool)(hs:SgOk c)(hg:0≤sig∧sig≤(c.1.length:Int) - 1):FC Tryz.prog 160 [(true,[.dat (.sl 44 (.pr .str .int)) c.1, .dat (.sl 9 .str) c.2.1, .dat (.sl 46 (.pr .int (.pr .int (.pr .bool .int)))) c.2.2]),(false,[dI sig]),(false,[dB up])] [] 0 (Yo 32 (.sl 3 .int) (regV c.2.2 (xS c.2.2 (sig,up)))):=by
 have hr:∀a∈c.2.2,InR c.2.1.length a:=fun a ha=>Yn (hs.arcs a ha)
 have hn3:=hs.some_
 have hfw:=hs.few
 have h8:=hs.sigs.2.2
 have hbl:=Qky (c:=c) (l:=(sig,up))
 have hrl:(List.replicate (Xe c (sig,up)).length (Ty.zero .int)).length=c.2.1.length:=by rw[aD]; exact hbl
 refine Qn Tryz.func160 rfl rfl Tryz.ntmps160 fun O_ hO w0_ N0_ X_ h0_ f0_=> ?_
 refine acI 1 fun hi1=> ?_
 refine w_ ?_
 refine xbx 0 ?_
 iterate 6 refine w_ ?_
 refine lc (dK (Qcj c sig up hs hg).frozen Qgs) ?_
 iterate 4 refine w_ ?_
 refine alL 21 fun hl2=> ?_
 refine w_ ?_
 refine lc (YD 1 (e:= .int) (n:=(Xe c (sig,up)).length) (Qa rfl) (Qa rfl) Q9 Qe3 rfl (by omega) (by omega) rfl (Fresh.of rfl) (nlr rfl)) ?_
 iterate 9 refine w_ ?_
 refine lp0 c.2.1.length (fun k=>⟨[(3,lP 0 0),(6,lf (.val (.slice none 0 0))),(7,lf (.dat (.sl 4 .bool) (Xe c (sig,up)))),(8,lR 2),(25,lI ((List.replicate ((Xe c (sig,up)).length) (Ty.zero .int)).length:Int)),(26,lI (k:Int))],[bx 0 27 [.dat (.sl 44 (.pr .str .int)) c.1, .dat (.sl 9 .str) c.2.1, .dat (.sl 46 (.pr .int (.pr .int (.pr .bool .int)))) c.2.2],(2,some (.arr 3 .int (ini (fun i:Nat=>(i:Int)) 0 c.2.1.length k)))]⟩) ?_ fun k hk3=> ?_
 · exact Wk.of [(2,1)] rfl ⟨rfl,rfl,rfl,rfl,rfl,rfl,trivial⟩ ⟨rfl,(Qj ((by rw[hbl]; exact Qox))),trivial⟩ rfl rfl
 have hil:=Qjb (f:=fun i:Nat=>(i:Int)) (z:=0) (n:=c.2.1.length) (k:=k) (by omega)
 iterate 4 refine w_ ?_
 cases hb4:(decide ((k:Int) < ((List.replicate ((Xe c (sig,up)).length) (Ty.zero .int)).length:Int)))
 ·have hb4':=ae hb4
  refine w_ ?_
  refine Qh ?_
  refine (?_:AC _ _ _ _ _)
  refine w_ ?_
  refine Zv ?_
  rw[QlX (by omega) (by omega)]
  iterate 2 refine w_ ?_
  refine alL 34 fun hl5=> ?_
  iterate 4 refine w_ ?_
  refine lp0 c.2.1.length (fun j=>⟨[(3,lP 0 0),(6,lf (.val (.slice none 0 0))),(7,lf (.dat (.sl 4 .bool) (Xe c (sig,up)))),(8,lR 3),(35,lI ((Xe c (sig,up)).length:Int)),(36,lI (j:Int))],[bx 0 27 [.dat (.sl 44 (.pr .str .int)) c.1, .dat (.sl 9 .str) c.2.1, .dat (.sl 46 (.pr .int (.pr .int (.pr .bool .int)))) c.2.2],(3,some (.arr 3 .int (QJ (lpR c.2.2 (xS c.2.2 (sig,up))) j (lpZ c.2.1.length))))]⟩) ?_ fun j hk6=> ?_
  · exact Wk.of [(3,2)] rfl ⟨rfl,rfl,rfl,rfl,rfl,rfl,trivial⟩ ⟨rfl,(Qj (rfl)),trivial⟩ rfl rfl
  iterate 4 refine w_ ?_
  cases hb7:(decide ((j:Int) < ((Xe c (sig,up)).length:Int)))
  ·have hb7':=ae hb7
   refine w_ ?_
   refine Qh ?_
   refine (?_:AC _ _ _ _ _)
   refine Zv ?_
   rw[Qid (n:=c.2.1.length) (by omega) (by omega)]
   iterate 6 refine w_ ?_
   refine alL 80 fun hl8=> ?_
   iterate 4 refine w_ ?_
   refine AC.wk (Wk.nilS 4 13 32 (.sl 3 .int) rfl (Fresh.of rfl) (nlr rfl)) ?_
   refine lp0 c.2.1.length (fun k=>⟨[(6,lf (.val (.slice none 0 0))),(7,lf (.dat (.sl 4 .bool) (Xe c (sig,up)))),(8,lR 3),(13,lR 5),(81,lI ((Xe c (sig,up)).length:Int)),(82,lI (k:Int))],[(3,some (.arr 3 .int (QJ (lpR c.2.2 (xS c.2.2 (sig,up))) c.2.1.length (lpZ c.2.1.length)))),(5,some (.arr 32 (.sl 3 .int) (rg (lbG (xS c.2.2 (sig,up)) (QJ (lpR c.2.2 (xS c.2.2 (sig,up))) c.2.1.length (lpZ c.2.1.length)) c.2.1.length) k)))]⟩) ?_ fun k hk9=> ?_
   · exact Wk.of [(5,4)] rfl ⟨rfl,rfl,rfl,rfl,rfl,rfl,trivial⟩ ⟨rfl,(Qj (rfl)),trivial⟩ rfl rfl
   have hgl:=WL (f:=lbG (xS c.2.2 (sig,up)) (QJ (lpR c.2.2 (xS c.2.2 (sig,up))) c.2.1.length (lpZ c.2.1.length)) c.2.1.length) (m:=k)
   have hpn:(QJ (lpR c.2.2 (xS c.2.2 (sig,up))) c.2.1.length (lpZ c.2.1.length)).length=c.2.1.length:=by rw[Qhv,Qjg]
   iterate 4 refine w_ ?_
   cases hb10:(decide ((k:Int) < ((Xe c (sig,up)).length:Int)))
   ·have hb10':=ae hb10
    refine w_ ?_
    refine Qh ?_
    refine (?_:AC _ _ _ _ _)
    iterate 4 refine w_ ?_
    refine Qb<|fo_ hO ?_
    exact Qn6 hr (by omega) (by omega)
   ·have hb10':=ab hb10
    iterate 14 refine w_ ?_
    refine alL 85 fun hl11=> ?_
    iterate 4 refine w_ ?_
    refine AC.wk (Wk.nilS 6 15 3 .int rfl (Fresh.of rfl) (nlr rfl)) ?_
    refine lp0 c.2.1.length (fun i=>⟨[(6,lf (.val (.slice none 0 0))),(7,lf (.dat (.sl 4 .bool) (Xe c (sig,up)))),(8,lR 3),(13,lR 5),(14,lI (k:Int)),(15,lR 7),(81,lI ((Xe c (sig,up)).length:Int)),(82,lI (k:Int)),(83,lB true),(84,lI (k:Int)),(85,lf (.dat (.sl 4 .bool) (Xe c (sig,up)))),(86,lI ((Xe c (sig,up)).length:Int)),(87,lI (i:Int))],[(3,some (.arr 3 .int (QJ (lpR c.2.2 (xS c.2.2 (sig,up))) c.2.1.length (lpZ c.2.1.length)))),(5,some (.arr 32 (.sl 3 .int) (rg (lbG (xS c.2.2 (sig,up)) (QJ (lpR c.2.2 (xS c.2.2 (sig,up))) c.2.1.length (lpZ c.2.1.length)) c.2.1.length) k))),(7,some (.arr 3 .int (rg (spF (xS c.2.2 (sig,up)) (QJ (lpR c.2.2 (xS c.2.2 (sig,up))) c.2.1.length (lpZ c.2.1.length)) (k:Int)) i)))]⟩) ?_ fun i hk12=> ?_
    · exact Wk.of [(7,6)] rfl ⟨rfl,rfl,rfl,rfl,rfl,rfl,rfl,rfl,rfl,rfl,rfl,rfl,rfl,trivial⟩ ⟨rfl,rfl,(Qj (rfl)),trivial⟩ rfl rfl
    have hgf:=WL (f:=spF (xS c.2.2 (sig,up)) (QJ (lpR c.2.2 (xS c.2.2 (sig,up))) c.2.1.length (lpZ c.2.1.length)) (k:Int)) (m:=i)
    iterate 4 refine w_ ?_
    cases hb13:(decide ((i:Int) < ((Xe c (sig,up)).length:Int)))
    ·have hb13':=ae hb13
     refine w_ ?_
     refine Qh ?_
     refine (?_:AC _ _ _ _ _)
     iterate 5 refine w_ ?_
     cases hb14:(decide (0 < ((rg (spF (xS c.2.2 (sig,up)) (QJ (lpR c.2.2 (xS c.2.2 (sig,up))) c.2.1.length (lpZ c.2.1.length)) (k:Int)) i).length:Int)))
     ·have hb14':=ae hb14
      refine w_ ?_
      refine AC.skip ?_
      refine (?_:AC _ _ _ _ _)
      iterate 3 refine w_ ?_
      refine Qc ?_
      refine l0_ ?_
      exact Wk.of [] rfl ⟨rfl,rfl,rfl,rfl,rfl,rfl,trivial⟩ ⟨rfl,(Qj (by first | exact Qic (m:=i) (by omega) (by omega) (by assumption) | exact QkE (m:=i) (by omega) (by omega) (by assumption))),trivial⟩ rfl rfl
     ·have hb14':=ab hb14
      iterate 4 refine w_ ?_
      refine lc (dBs 8 (e:=(.sl 3 .int)) YW (hab:=by exact ⟨_,_,_,_,rfl,(.inl ⟨_,rfl,rfl,rfl⟩),⟨rfl,rfl⟩,rfl⟩)) ?_
      refine lc (dA 9 Kg) ?_
      refine w_ ?_
      refine Qc ?_
      refine (?_:AC _ _ _ _ _)
      iterate 3 refine w_ ?_
      refine Qc ?_
      refine l0_ ?_
      exact Wk.of [(5,9)] rfl ⟨rfl,rfl,rfl,rfl,rfl,rfl,trivial⟩ ⟨rfl,(Qj (by first | exact Qic (m:=i) (by omega) (by omega) (by assumption) | exact QkE (m:=i) (by omega) (by omega) (by assumption))),trivial⟩ rfl rfl
    ·have hb13':=ab hb13
     iterate 11 refine w_ ?_
     obtain ⟨bi,hx16⟩:∃z,(Xe c (sig,up))[i]? =some z:=⟨_,aa (by omega)⟩
     have hbi:=QaQ hx16
     iterate 3 refine w_ ?_
     cases hb17:(bi)
     ·iterate 9 refine w_ ?_
      refine AC.skip ?_
      refine (?_:AC _ _ _ _ _)
      iterate 3 refine w_ ?_
      refine Qc ?_
      refine l0_ ?_
      exact Wk.of [] rfl ⟨rfl,rfl,rfl,rfl,rfl,rfl,rfl,rfl,rfl,rfl,rfl,rfl,rfl,trivial⟩ ⟨rfl,rfl,(Qj (by first | exact rgN (Qdp ((by assumption:bi=true).symm.trans (hbi (i:Int) rfl (by omega))) hpi (by assumption)) | exact Q0 (Qd0 ((by assumption:bi=false).symm.trans (hbi (i:Int) rfl (by omega)))) | exact Q0 (Qd1 hpi (by assumption)))),trivial⟩ rfl rfl
     ·iterate 3 refine w_ ?_
      obtain ⟨pi,hx19⟩:∃z,(QJ (lpR c.2.2 (xS c.2.2 (sig,up))) c.2.1.length (lpZ c.2.1.length))[i]? =some z:=⟨_,aa (by omega)⟩
      have hpi:=hx19
      iterate 5 refine w_ ?_
      cases hb20:(decide (pi=(k:Int)))
      ·have hb20':=ae hb20
       refine w_ ?_
       refine AC.skip ?_
       refine (?_:AC _ _ _ _ _)
       iterate 3 refine w_ ?_
       refine Qc ?_
       refine l0_ ?_
       exact Wk.of [] rfl ⟨rfl,rfl,rfl,rfl,rfl,rfl,rfl,rfl,rfl,rfl,rfl,rfl,rfl,trivial⟩ ⟨rfl,rfl,(Qj (by first | exact rgN (Qdp ((by assumption:bi=true).symm.trans (hbi (i:Int) rfl (by omega))) hpi (by assumption)) | exact Q0 (Qd0 ((by assumption:bi=false).symm.trans (hbi (i:Int) rfl (by omega)))) | exact Q0 (Qd1 hpi (by assumption)))),trivial⟩ rfl rfl
      ·have hb20':=ab hb20
       iterate 4 refine w_ ?_
       refine lc (dBs 10 (e:= .int) ZL) ?_
       refine lc (dA 11 YO) ?_
       refine w_ ?_
       refine Qc ?_
       refine (?_:AC _ _ _ _ _)
       iterate 3 refine w_ ?_
       refine Qc ?_
       refine l0_ ?_
       exact Wk.of [(7,11)] rfl ⟨rfl,rfl,rfl,rfl,rfl,rfl,rfl,rfl,rfl,rfl,rfl,rfl,rfl,trivial⟩ ⟨rfl,rfl,(Qj (by first | exact rgN (Qdp ((by assumption:bi=true).symm.trans (hbi (i:Int) rfl (by omega))) hpi (by assumption)) | exact Q0 (Qd0 ((by assumption:bi=false).symm.trans (hbi (i:Int) rfl (by omega)))) | exact Q0 (Qd1 hpi (by assumption)))),trivial⟩ rfl rfl
  ·have hb7':=ab hb7
   iterate 7 refine w_ ?_
   refine alL 39 fun hl21=> ?_
   iterate 4 refine w_ ?_
   refine lp0 c.2.2.length (fun i=>⟨[(3,lP 0 0),(6,lf (.val (.slice none 0 0))),(7,lf (.dat (.sl 4 .bool) (Xe c (sig,up)))),(8,lR 12),(35,lI ((Xe c (sig,up)).length:Int)),(36,lI (j:Int)),(37,lB true),(38,lP 0 2),(39,lf (.dat (.sl 46 (.pr .int (.pr .int (.pr .bool .int)))) c.2.2)),(40,lI (c.2.2.length:Int)),(41,lI (i:Int))],[bx 0 27 [.dat (.sl 44 (.pr .str .int)) c.1, .dat (.sl 9 .str) c.2.1, .dat (.sl 46 (.pr .int (.pr .int (.pr .bool .int)))) c.2.2],(12,some (.arr 3 .int ((c.2.2.take i).foldl (lpS (xS c.2.2 (sig,up))) (QJ (lpR c.2.2 (xS c.2.2 (sig,up))) j (lpZ c.2.1.length)))))]⟩) ?_ fun i hk22=> ?_
   · exact Wk.of [(12,3)] rfl ⟨rfl,rfl,rfl,rfl,rfl,rfl,rfl,rfl,rfl,rfl,rfl,trivial⟩ ⟨rfl,(Qj (rfl)),trivial⟩ rfl rfl
   have hpl:((c.2.2.take i).foldl (lpS (xS c.2.2 (sig,up))) (QJ (lpR c.2.2 (xS c.2.2 (sig,up))) j (lpZ c.2.1.length))).length=c.2.1.length:=by rw[QkG,Qhv,Qjg]
   iterate 4 refine w_ ?_
   cases hb23:(decide ((i:Int) < (c.2.2.length:Int)))
   ·have hb23':=ae hb23
    refine w_ ?_
    refine Qh ?_
    refine (?_:AC _ _ _ _ _)
    iterate 3 refine w_ ?_
    refine Qc ?_
    refine l0_ ?_
    exact Wk.of [(3,12)] rfl ⟨rfl,rfl,rfl,rfl,rfl,rfl,trivial⟩ ⟨rfl,(Qj ((by rw[QO (by omega)]; rfl))),trivial⟩ rfl rfl
   ·have hb23':=ab hb23
    iterate 5 refine w_ ?_
    obtain ⟨ar,hx25⟩:∃z,c.2.2[i]? =some z:=⟨_,aa (by omega)⟩
    have hain:=hr _ (aj hx25)
    obtain ⟨⟨ha1,ha2⟩,ha3,ha4⟩:=hain
    have har:=hx25
    iterate 2 refine w_ ?_
    refine lc (xal 13 (.pr .int (.pr .int (.pr .bool .int))) ZJ) ?_
    iterate 6 refine w_ ?_
    refine alI 47 fun hi26=> ?_
    obtain ⟨b1,hx28⟩:∃z,(Xe c (sig,up))[(ar.1).toNat]? =some z:=⟨_,aa (by omega)⟩
    have hb1:=QaQ hx28
    iterate 3 refine w_ ?_
    cases hb29:(b1)
    ·iterate 8 refine w_ ?_
     refine AC.skip ?_
     refine (?_:AC _ _ _ _ _)
     iterate 3 refine w_ ?_
     refine Qc ?_
     refine l0_ ?_
     exact Wk.of [] rfl ⟨rfl,rfl,rfl,rfl,rfl,rfl,rfl,rfl,rfl,rfl,rfl,trivial⟩ ⟨rfl,(Qj (by first | exact QhP har ((by assumption:b1=true).symm.trans (hb1 _ rfl (by omega))) ((by assumption:b2=true).symm.trans (hb2 _ rfl (by omega))) hp1 hp2 | exact Qcx har (fun g=>fls ((by assumption:b1=false).symm.trans (hb1 _ rfl (by omega))) g.1) | exact Qcx har (fun g=>fls ((by assumption:b2=false).symm.trans (hb2 _ rfl (by omega))) g.2))),trivial⟩ rfl rfl
    ·iterate 3 refine w_ ?_
     obtain ⟨b2,hx31⟩:∃z,(Xe c (sig,up))[(ar.2.2.2).toNat]? =some z:=⟨_,aa (by omega)⟩
     have hb2:=QaQ hx31
     iterate 4 refine w_ ?_
     cases hb32:(b2)
     ·refine w_ ?_
      refine AC.skip ?_
      refine (?_:AC _ _ _ _ _)
      iterate 3 refine w_ ?_
      refine Qc ?_
      refine l0_ ?_
      exact Wk.of [] rfl ⟨rfl,rfl,rfl,rfl,rfl,rfl,rfl,rfl,rfl,rfl,rfl,trivial⟩ ⟨rfl,(Qj (by first | exact QhP har ((by assumption:b1=true).symm.trans (hb1 _ rfl (by omega))) ((by assumption:b2=true).symm.trans (hb2 _ rfl (by omega))) hp1 hp2 | exact Qcx har (fun g=>fls ((by assumption:b1=false).symm.trans (hb1 _ rfl (by omega))) g.1) | exact Qcx har (fun g=>fls ((by assumption:b2=false).symm.trans (hb2 _ rfl (by omega))) g.2))),trivial⟩ rfl rfl
     ·refine w_ ?_
      obtain ⟨p1,hx34⟩:∃z,((c.2.2.take i).foldl (lpS (xS c.2.2 (sig,up))) (QJ (lpR c.2.2 (xS c.2.2 (sig,up))) j (lpZ c.2.1.length)))[(ar.1).toNat]? =some z:=⟨_,aa (by omega)⟩
      have hp1:=hx34
      obtain ⟨p2,hx36⟩:∃z,((c.2.2.take i).foldl (lpS (xS c.2.2 (sig,up))) (QJ (lpR c.2.2 (xS c.2.2 (sig,up))) j (lpZ c.2.1.length)))[(ar.2.2.2).toNat]? =some z:=⟨_,aa (by omega)⟩
      have hp2:=hx36
      apply dW (i3 57 _ _ _ (io 60 (lf (.ept 12 1 ((ar.1).toNat) 0)) :: io 61 (lI p1) :: i3 62 _ _ _ [io 65 (lf (.ept 12 1 ((ar.2.2.2).toNat) 0)),io 66 (lI p2),io 67 (lI (min p1 p2)),io 12 _])) [0,1,1,0,0,31,63,63,31,31,0,0]
      iterate 3 refine z_ ?_
      refine zz (fun _ h_=>ac (QF (e:= .int) (h_.v rfl) (h_.en 12 rfl) (h_.v rfl) Q9 Zn rfl (by omega) (by first | omega | (simp only[ay]; omega))) rfl)<|zz (fun _ h_=>ac (Q4 (e:= .int) (h_.v rfl) (h_.n 12 rfl) hx34 rfl Zn rfl rfl) rfl) ?_
      iterate 3 refine z_ ?_
      refine zz (fun _ h_=>ac (QF (e:= .int) (h_.v rfl) (h_.en 12 rfl) (h_.v rfl) Q9 Zn rfl (by omega) (by first | omega | (simp only[ay]; omega))) rfl)<|zz (fun _ h_=>ac (Q4 (e:= .int) (h_.v rfl) (h_.n 12 rfl) hx36 rfl Zn rfl rfl) rfl) ?_
      refine zz (fun _ h_=>ac (dK (QdF p1 p2) Qhr) rfl) ?_
      refine z_ ?_
      exact zN
      iterate 6 refine w_ ?_
      refine lc (Qp (e:= .int) (z':=min p1 p2) (Qa rfl) rfl hx34 rfl (Ql rfl) rfl Zn rfl rfl) ?_
      iterate 5 refine w_ ?_
      refine alI 75 fun hi37=> ?_
      iterate 2 refine w_ ?_
      obtain ⟨x38,hx39⟩:∃z,(((c.2.2.take i).foldl (lpS (xS c.2.2 (sig,up))) (QJ (lpR c.2.2 (xS c.2.2 (sig,up))) j (lpZ c.2.1.length))).set ((ar.1).toNat) (min p1 p2))[(ar.2.2.2).toNat]? =some z:=⟨_,aa (by first | omega | (simp only[ay]; omega))⟩
      refine lc (Qp (e:= .int) (z':=min p1 p2) (Qa rfl) rfl hx39 rfl (Ql rfl) rfl Zn rfl rfl)<|Qc ?_
      refine (?_:AC _ _ _ _ _)
      iterate 3 refine w_ ?_
      refine Qc ?_
      refine l0_ ?_
      exact Wk.of [] rfl ⟨rfl,rfl,rfl,rfl,rfl,rfl,rfl,rfl,rfl,rfl,rfl,trivial⟩ ⟨rfl,(Qj (by first | exact QhP har ((by assumption:b1=true).symm.trans (hb1 _ rfl (by omega))) ((by assumption:b2=true).symm.trans (hb2 _ rfl (by omega))) hp1 hp2 | exact Qcx har (fun g=>fls ((by assumption:b1=false).symm.trans (hb1 _ rfl (by omega))) g.1) | exact Qcx har (fun g=>fls ((by assumption:b2=false).symm.trans (hb2 _ rfl (by omega))) g.2))),trivial⟩ rfl rfl
 ·have hb4':=ab hb4
  iterate 13 refine w_ ?_
  obtain ⟨x40,hx41⟩:∃z,(ini (fun i:Nat=>(i:Int)) 0 c.2.1.length k)[k]? =some z:=⟨_,aa (by omega)⟩
  refine lc (Qp (e:= .int) (z':=(k:Int)) (Qa rfl) rfl hx41 rfl (Ql rfl) rfl Zn rfl rfl)<|Qc ?_
  refine (?_:AC _ _ _ _ _)
  iterate 3 refine w_ ?_
  refine Qc ?_
  refine l0_ ?_
  exact Wk.of [] rfl ⟨rfl,rfl,rfl,rfl,rfl,rfl,trivial⟩ ⟨rfl,(Qj (Qeg (by omega) rfl)),trivial⟩ rfl rfl
theorem Wu (c:(List (ByteArray×Int))×List ByteArray×(List (Int×Int×Bool×Int)))(sig:Int)(up:Bool)[∀c,Decidable (SgOk c)]:FC Tryz.prog 51 [(true,[.dat (.sl 44 (.pr .str .int)) c.1, .dat (.sl 9 .str) c.2.1, .dat (.sl 46 (.pr .int (.pr .int (.pr .bool .int)))) c.2.2]),(false,[dI sig]),(false,[dB up])] [] 0 (QY (PV.tup [(false,[.dat (.sl 32 (.sl 3 .int)) (if ((0≤sig∧sig≤(c.1.length:Int) - 1)∧QE c sig=false∧SgOk c∧QG c=Qu) then regV c.2.2 (xS c.2.2 (sig,up)) else [])]),(false,[dB (decide ((0≤sig∧sig≤(c.1.length:Int) - 1)∧QE c sig=false∧SgOk c∧QG c=Qu))])])):=by
 refine Qn Tryz.func51 rfl rfl Tryz.ntmps51 fun O_ hO w0_ N0_ X_ h0_ f0_=> ?_
 refine acI 1 fun hi1=> ?_
 refine w_ ?_
 refine xbx 0 ?_
 iterate 7 refine w_ ?_
 refine lc (dK (Ve c sig) Qav) ?_
 iterate 2 refine w_ ?_
 cases hb2:(decide ((0≤sig∧sig≤(c.1.length:Int) - 1)∧QE c sig=false∧SgOk c∧QG c=Qu))
 ·have hb2':=ae hb2
  iterate 5 refine w_ ?_
  refine AC.wk (UE (i:=6) 32 (.sl 3 .int) rfl)<|Qb ?_
  have e3:([]:((.sl 32 (.sl 3 .int)):Ty).Den)=(if ((0≤sig∧sig≤(c.1.length:Int) - 1)∧QE c sig=false∧SgOk c∧QG c=Qu) then regV c.2.2 (xS c.2.2 (sig,up)) else []):=by
   (rw[if_neg (by assumption)]; done)
  have e4:(false:Bool)=(decide ((0≤sig∧sig≤(c.1.length:Int) - 1)∧QE c sig=false∧SgOk c∧QG c=Qu)):=by
   exact (if_neg (by assumption)).symm
  exact fr_ hO (e:=((congrArg (fun z_=>PV.tup [(false,[.dat (.sl 32 (.sl 3 .int)) z_]),(false,[dB false])]) e3)).trans (congrArg (fun z_=>PV.tup [(false,[.dat (.sl 32 (.sl 3 .int)) (if ((0≤sig∧sig≤(c.1.length:Int) - 1)∧QE c sig=false∧SgOk c∧QG c=Qu) then regV c.2.2 (xS c.2.2 (sig,up)) else [])]),(false,[dB z_])]) e4))
 ·have hb2':=ab hb2
  iterate 6 refine w_ ?_
  refine lc (dK (YX c sig up (by assumption:((0≤sig∧sig≤(c.1.length:Int) - 1)∧QE c sig=false∧SgOk c∧QG c=Qu)).2.2.1 (by assumption:((0≤sig∧sig≤(c.1.length:Int) - 1)∧QE c sig=false∧SgOk c∧QG c=Qu)).1).frozen KA) ?_
  iterate 3 refine w_ ?_
  refine Qb ?_
  have e5:(regV c.2.2 (xS c.2.2 (sig,up)):((.sl 32 (.sl 3 .int)):Ty).Den)=(if ((0≤sig∧sig≤(c.1.length:Int) - 1)∧QE c sig=false∧SgOk c∧QG c=Qu) then regV c.2.2 (xS c.2.2 (sig,up)) else []):=by
   (rw[if_pos (by assumption)]; done)
  have e6:(true:Bool)=(decide ((0≤sig∧sig≤(c.1.length:Int) - 1)∧QE c sig=false∧SgOk c∧QG c=Qu)):=by
   exact (if_pos (by assumption)).symm
  exact fr_ hO (e:=((congrArg (fun z_=>PV.tup [(false,[.dat (.sl 32 (.sl 3 .int)) z_]),(false,[dB true])]) e5)).trans (congrArg (fun z_=>PV.tup [(false,[.dat (.sl 32 (.sl 3 .int)) (if ((0≤sig∧sig≤(c.1.length:Int) - 1)∧QE c sig=false∧SgOk c∧QG c=Qu) then regV c.2.2 (xS c.2.2 (sig,up)) else [])]),(false,[dB z_])]) e6))
end Go.Proofs.YtgpdhgadmjfokaaGreat
namespace Go.Proofs.YtgpdhgadmjfokaaGreat
open Go.RowKit
set_option maxRecDepth 100000
set_option maxHeartbeats 4000000
def adQ (c:DSg)(s:Int)(out:List Int)(k:Int):List Int:=if QH c k s=false∧¬k∈out then out++[k] else out
def qJ (c:DSg)(l:Int×Bool)(R out:List Int)(a:DAr):List Int:=if a.2.1=l.1∧a.2.2.1=l.2∧a.1∈R then adQ c l.1 out a.2.2.2 else out
def qU (c:DSg)(s u:Int)(out:List Int)(a:DAr):List Int:=if a.1=u then adQ c s out a.2.2.2 else out
def qE (c:DSg)(s:Int):List DAr:=(c.2.2.filter fun a=> !QH c a.2.2.2 s).map fun a=>(a.1, -1,false,a.2.2.2)
def qQ (c:DSg)(s:Int)(R:List Int)(v:Int):Prop:=∃a∈c.2.2,a.2.1=s∧a.1∈R∧QH c a.2.2.2 s=false∧a.2.2.2=v
abbrev QC (c:DSg)(s:Int)(R:List Int)(v:Int):Prop:=Ch (qE c s) (-1) (qQ c s R) v
noncomputable def qV (c:DSg) (s:Int) (R:List Int):List Int:=((List.range c.2.1.length).map fun k:Nat=>(k:Int)).filter fun v=> @decide (QC c s R v) (Classical.propDecidable _)
def chi (n:Nat)(S:List Int):List Bool:=(List.range n).map fun k:Nat=>decide ((k:Int)∈S)
def qZ (c:DSg)(s:Int)(R S:List Int)(a:DAr):List Int:=if a.1∈R∧a.2.1=s∧QH c a.2.2.2 s=false then Z7 ltI a.2.2.2 S else S
def qT (c:DSg)(s:Int)(S:List Int)(a:DAr):List Int:=if a.1∈S∧QH c a.2.2.2 s=false then Z7 ltI a.2.2.2 S else S
def qR (c:DSg)(s:Int)(S:List Int):List Int:=c.2.2.foldl (qT c s) S
def chF (S:List Int)(k:Nat):Option Int:=if (k:Int)∈S then some (k:Int) else none
section
variable {c:DSg}{as_:List DAr}{a b:DAr}{l:Int×Bool}{R S out:List Int}{s u v q x:Int}{k i j n m:Nat}{B:Bool}
theorem Qhi:b∈qE c s↔b.2.1= -1∧b.2.2.1=false∧∃a∈c.2.2,QH c a.2.2.2 s=false∧b.1=a.1∧b.2.2.2=a.2.2.2:=by
  unfold qE
  rw[bB]
  constructor
  · rintro ⟨a, h, rfl⟩
    rw[be] at h
    exact ⟨rfl,rfl,a,h.1,by simpa using h.2,rfl,rfl⟩
  · obtain ⟨b1, b2, b3, b4⟩ := b
    rintro ⟨h1,h2,a,h3,h4,h5,h6⟩
    simp only at h1 h2 h5 h6
    subst h1; subst h2; subst h5; subst h6
    exact ⟨a,be.2 ⟨h3,by simp[h4]⟩,rfl⟩
theorem Qgz (hr:∀a∈c.2.2,InR c.2.1.length a)(h:b∈qE c s):0≤b.2.2.2∧b.2.2.2 < (c.2.1.length:Int):=by
  obtain ⟨_,_,a,h1,_,_,h2⟩:=Qhi.1 h
  rw[h2]; exact (hr a h1).2
theorem QaD (hr:∀a∈c.2.2,InR c.2.1.length a)(h:QC c s R v):0≤v∧v < (c.2.1.length:Int):=by
  cases h with
  | base h1=>obtain ⟨a,h1,_,_,_,rfl⟩:=h1; exact (hr a h1).2
  | step _ h2 _=>exact Qgz hr h2
theorem Qf3 (h:QC c s R v):QH c v s=false:=by
  cases h with
  | base h1=>obtain ⟨a,_,_,_,h2,rfl⟩:=h1; exact h2
  | step _ h2 _=>obtain ⟨_,_,a,_,h4,_,h5⟩:=Qhi.1 h2; rw[h5]; exact h4
theorem QfP (hr:∀a∈c.2.2,InR c.2.1.length a):v∈qV c s R↔QC c s R v:=by
  unfold qV
  rw[be, @decide_eq_true_iff _ (Classical.propDecidable _)]
  refine ⟨fun h=>h.2,fun h=>⟨?_,h⟩⟩
  have:=QaD hr h
  exact bB.2 ⟨v.toNat,cd.2 (by omega),by omega⟩
theorem Qn2:Srt ((List.range n).map fun k:Nat=>(k:Int)):=by
  unfold Srt
  rw[dd]
  exact List.pairwise_lt_range.imp fun h=>by simp only[ltI,aS]; omega
theorem Qpy:Srt (qV c s R):=Qn2.filter _
theorem Qov (hr:∀a∈c.2.2,InR c.2.1.length a)(hS:Srt S)(h:∀v,v∈S↔QC c s R v):S=qV c s R:=Zo.ext hS Qpy fun v=>by rw[h,QfP hr]
theorem QoB (hs:SgOk c)(ha:a∈c.2.2)(hb:b∈c.2.2)(h1:a.1=b.1)(h2:a.2.1=b.2.1)(h3:0≤a.2.1∧a.2.1≤(c.1.length:Int) - 1):a.2.2.1=b.2.2.1:=by
  have hr:=(hs.arcs a ha).1
  obtain ⟨code,hc⟩:∃z,c.2.1[a.1.toNat]? =some z:=⟨_,aa (by omega)⟩
  have e1:=Qap hs ha rfl rfl h3 hc
  have e2:=Qap hs hb h1.symm h2.symm h3 hc
  rw[e1] at e2
  simpa using e2
theorem QpY (hs:SgOk c)(h3:0≤l.1∧l.1≤(c.1.length:Int) - 1)(hR:∀q∈R,q∈xS c.2.2 l)(hsub:∀a∈as_,a∈c.2.2):v∈as_.foldl (qJ c l R) out↔v∈out∨∃a∈as_,a.2.1=l.1∧a.1∈R∧QH c a.2.2.2 l.1=false∧a.2.2.2=v:=by
  induction as_ generalizing out with
  | nil=>simp
  | cons a as_ ih=>
    rw[aL,ih fun b hb=>hsub b (aC _ hb)]
    have hup:a.2.1=l.1→a.1∈R→a.2.2.1=l.2:=fun g1 g2=>by
      obtain ⟨b,k1,k2,k3,k4⟩:=VX.1 (hR _ g2)
      rw[← k3]
      exact QoB hs (hsub a (aB ..)) k1 k4.symm (by rw[g1,k2]) (by rw[g1]; exact h3)
    have e:v∈qJ c l R out a↔v∈out∨(a.2.1=l.1∧a.1∈R∧QH c a.2.2.2 l.1=false∧a.2.2.2=v):=by
      unfold qJ adQ
      split
      · rename_i g
        split
        · rename_i g2
          rw[aO,aR]
          exact ⟨fun h=>h.imp id fun h=>⟨g.1,g.2.2,g2.1,h.symm⟩,fun h=>h.imp id fun h=>h.2.2.2.symm⟩
        · rename_i g2
          refine ⟨.inl,fun h=>h.elim id fun h=> ?_⟩
          rw[← h.2.2.2]
          exact cg fun g3=>g2 ⟨h.2.2.1,g3⟩
      · rename_i g
        exact ⟨.inl,fun h=>h.elim id fun h=>absurd ⟨h.1,hup h.1 h.2.1,h.2.1⟩ g⟩
    rw[e]
    simp only[aJ,exists_eq_or_imp]
    rw[or_assoc]
theorem Qm4 (h:out.Nodup):(adQ c s out q).Nodup:=by
  unfold adQ; split
  · rename_i g; exact bd.2 ⟨h,by simp,fun x hx y hy e=>by rw[aR] at hy; subst hy; subst e; exact g.2 hx⟩
  · exact h
theorem QqK (h:out.Nodup):(as_.foldl (qJ c l R) out).Nodup:=by
  induction as_ generalizing out with
  | nil=>exact h
  | cons a as_ ih=>rw[aL]; refine ih ?_; unfold qJ; split; exact Qm4 h; exact h
theorem Qjc:(adQ c s out q).length≤out.length+1:=by unfold adQ; split <;> simp
theorem Qpz:(as_.foldl (qJ c l R) out).length≤out.length+as_.length:=by
  induction as_ generalizing out with
  | nil=>exact aQ _
  | cons a as_ ih=>
    rw[aL,ax]
    have h1:=ih (out:=qJ c l R out a)
    have h2:(qJ c l R out a).length≤out.length+1:=by unfold qJ; split; exact Qjc; omega
    omega
theorem Qpp:(as_.foldl (qU c s u) out).length≤out.length+as_.length:=by
  induction as_ generalizing out with
  | nil=>exact aQ _
  | cons a as_ ih=>
    rw[aL,ax]
    have h1:=ih (out:=qU c s u out a)
    have h2:(qU c s u out a).length≤out.length+1:=by unfold qU; split; exact Qjc; omega
    omega
theorem QnO:∃r,adQ c s out q=out++r:=by
  unfold adQ; split
  · exact ⟨_,rfl⟩
  · exact ⟨[],by simp⟩
theorem QpH:∃r,as_.foldl (qU c s u) out=out++r:=by
  induction as_ generalizing out with
  | nil=>exact ⟨[],by simp⟩
  | cons a as_ ih=>
    rw[aL]
    obtain ⟨r,hr⟩:=ih (out:=qU c s u out a)
    obtain ⟨r2,hr2⟩:∃r,qU c s u out a=out++r:=by
      unfold qU; split
      · exact QnO
      · exact ⟨[],by simp⟩
    exact ⟨r2++r,by rw[hr,hr2,aP]⟩
theorem QrP (hu:out[k]? =some x):(as_.foldl (qU c s u) out)[k]? =some x:=by
  obtain ⟨r,hr⟩:=QpH (c:=c) (s:=s) (u:=u) (as_:=as_) (out:=out)
  exact QlE hu hr
theorem QrB:c.2.2.foldl (qU c s u) out=clA (qE c s) (-1) u out:=by
  unfold clA qE
  have key:∀(as_:List DAr) (out:List Int),as_.foldl (qU c s u) out=((as_.filter fun a=> !QH c a.2.2.2 s).map fun a=>((a.1, -1,false,a.2.2.2):DAr)).foldl (fun out a=>if a.1=u∧inv (-1) a=true∧¬a.2.2.2∈out then out++[a.2.2.2] else out) out:=fun as_=>by
    induction as_ with
    | nil=>intro _; rfl
    | cons a as_ ih=>
      intro out
      rw[aL,ih,cB]
      cases he:QH c a.2.2.2 s with
      | true=>
        simp only[dt,bG,if_false]
        have:qU c s u out a=out:=by unfold qU adQ; rw[he]; simp
        rw[this]
      | false=>
        simp only[Bool.not_false,if_true,bc,aL]
        congr 1
        unfold qU adQ
        rw[he]
        by_cases h1:a.1=u <;> simp[h1,inv]
  exact key _ _
theorem Qhu (hx:as_[k]? =some a)(h1:a.2.1=l.1)(h2:a.2.2.1=l.2)(h3:R.any (fun y=>decide (a.1=y))=true):adQ c l.1 ((as_.take k).foldl (qJ c l R) out) a.2.2.2=(as_.take (k+1)).foldl (qJ c l R) out:=by
  rw[Qs hx,bl,aL,bT]
  conv=>rhs; unfold qJ
  rw[if_pos ⟨h1,h2,JI h3⟩]
  rfl
theorem QcA (hx:as_[k]? =some a)(h:¬(a.2.1=l.1∧a.2.2.1=l.2∧a.1∈R)):(as_.take k).foldl (qJ c l R) out=(as_.take (k+1)).foldl (qJ c l R) out:=by
  rw[Qs hx,bl,aL,bT]
  conv=>rhs; unfold qJ
  rw[if_neg h]
  rfl
theorem Qks (hx:as_[k]? =some a)(h1:a.1=u):adQ c s ((as_.take k).foldl (qU c s u) out) a.2.2.2=(as_.take (k+1)).foldl (qU c s u) out:=by
  rw[Qs hx,bl,aL,bT]
  conv=>rhs; unfold qU
  rw[if_pos h1]
  rfl
theorem Qou (hx:as_[k]? =some a)(h1:¬a.1=u):(as_.take k).foldl (qU c s u) out=(as_.take (k+1)).foldl (qU c s u) out:=by
  rw[Qs hx,bl,aL,bT]
  conv=>rhs; unfold qU
  rw[if_neg h1]
  rfl
theorem QnJ (hs:SgOk c)(h3:0≤l.1∧l.1≤(c.1.length:Int) - 1)(hR:∀q∈R,q∈xS c.2.2 l):ClI (qE c l.1) (-1) (qQ c l.1 R) 0 (c.2.2.foldl (qJ c l R) []):=
  ClI.zero (QqK bH) fun v=>by
    rw[QpY hs h3 hR fun _ h=>h]
    simp[qQ]
theorem QpB (hr:∀a∈c.2.2,InR c.2.1.length a)(h:ClI (qE c s) (-1) (qQ c s R) k out):out.length≤c.2.1.length:=by
  have h1:(out.map Int.toNat).Nodup:=by
    unfold List.Nodup
    rw[dd]
    exact h.nod.imp_of_mem fun ha hb h0 e=>h0 (by have:=QaD hr (h.ch _ ha); have:=QaD hr (h.ch _ hb); omega)
  have h2:=JO (m:=List.range c.2.1.length) h1 fun x hx=>by
    obtain ⟨u,hu,rfl⟩:=bB.1 hx
    have:=QaD hr (h.ch _ hu)
    exact cd.2 (by omega)
  simpa using h2
theorem QpU (hr:∀a∈c.2.2,InR c.2.1.length a)(h:ClI (qE c s) (-1) (qQ c s R) k out)(hk:out.length≤k):ofG ltI out=qV c s R:=
  Qov hr (Vj Zo _) fun v=>by rw[Xb Zo]; exact h.end_ hk v
theorem Vy:(chi n S).length=n:=by simp[chi]
theorem K1 (h:(chi n S)[m]? =some B):∀q:Int,q.toNat=m→0≤q→B=decide (q∈S):=fun q hq h0=>by
  unfold chi at h
  rw[bg] at h
  obtain ⟨m',h1,h2⟩:=bV.1 h
  obtain ⟨h3,h4⟩:=ah.1 h1
  rw[dc] at h4
  rw[← h2,← h4,show ((m:Nat):Int)=q by omega]
theorem Qh5 (h0:0≤q)(hq:q < (n:Int)):(chi n S).set q.toNat true=chi n (Z7 ltI q S):=by
  unfold chi
  apply List.ext_getElem
  · simp
  · intro i h1 h2
    simp only[ay,aN,List.length_range] at h1
    rw[List.getElem_set]
    simp only[List.getElem_map,dc]
    split
    · rename_i g; exact (aI (Z4.2 (.inl (by omega)))).symm
    · rename_i g
      rw[cA,Z4]
      exact ⟨.inr,fun h=>h.elim (fun h=>absurd h (by omega)) id⟩
theorem QiQ:List.replicate n false=chi n []:=by
  unfold chi
  apply List.ext_getElem
  · simp
  · intro i h1 h2; simp
theorem Qd5 (hr:∀a∈c.2.2,InR c.2.1.length a)(hx:c.2.2[k]? =some a)(h1:a.1∈R)(h2:a.2.1=s)(h3:QH c a.2.2.2 s=false):(chi c.2.1.length ((c.2.2.take k).foldl (qZ c s R) S)).set a.2.2.2.toNat true=chi c.2.1.length ((c.2.2.take (k+1)).foldl (qZ c s R) S):=by
  have h4:=(hr a (aj hx)).2
  rw[Qh5 h4.1 h4.2,Qs hx,bl,aL,bT]
  conv=>rhs; unfold qZ
  rw[if_pos ⟨h1,h2,h3⟩]
  rfl
theorem VG (hx:c.2.2[k]? =some a)(h:¬(a.1∈R∧a.2.1=s∧QH c a.2.2.2 s=false)):chi n ((c.2.2.take k).foldl (qZ c s R) S)=chi n ((c.2.2.take (k+1)).foldl (qZ c s R) S):=by
  rw[Qs hx,bl,aL,bT]
  conv=>rhs; unfold qZ
  rw[if_neg h]
  rfl
theorem QgW (hr:∀a∈c.2.2,InR c.2.1.length a)(hx:c.2.2[k]? =some a)(h1:true=decide (a.1∈(c.2.2.take k).foldl (qT c s) S))(h3:QH c a.2.2.2 s=false):(chi c.2.1.length ((c.2.2.take k).foldl (qT c s) S)).set a.2.2.2.toNat true=chi c.2.1.length ((c.2.2.take (k+1)).foldl (qT c s) S):=by
  have h4:=(hr a (aj hx)).2
  rw[Qh5 h4.1 h4.2,Qs hx,bl,aL,bT]
  generalize (c.2.2.take k).foldl (qT c s) S=o at h1
  unfold qT
  rw[if_pos ⟨ab h1.symm,h3⟩]
theorem Qdj (hx:c.2.2[k]? =some a)(h:¬(a.1∈(c.2.2.take k).foldl (qT c s) S∧QH c a.2.2.2 s=false)):chi n ((c.2.2.take k).foldl (qT c s) S)=chi n ((c.2.2.take (k+1)).foldl (qT c s) S):=by
  rw[Qs hx,bl,aL,bT]
  generalize (c.2.2.take k).foldl (qT c s) S=o at h
  unfold qT
  rw[if_neg h]
theorem Qrq:qR c s S=stP (-1) (qE c s) S:=by
  unfold qR stP qE
  have key:∀(as_:List DAr) (S:List Int),as_.foldl (qT c s) S=((as_.filter fun a=> !QH c a.2.2.2 s).map fun a=>((a.1, -1,false,a.2.2.2):DAr)).foldl (stS (-1)) S:=fun as_=>by
    induction as_ with
    | nil=>intro _; rfl
    | cons a as_ ih=>
      intro S
      rw[aL,ih,cB]
      cases he:QH c a.2.2.2 s with
      | true=>
        simp only[dt,bG,if_false]
        have:qT c s S a=S:=by unfold qT; rw[he]; simp
        rw[this]
      | false=>
        simp only[Bool.not_false,if_true,bc,aL]
        congr 1
        unfold qT stS
        rw[he]
        by_cases h1:a.1∈S <;> simp[h1,inv]
  exact key _ _
theorem QlT:∀{j:Nat},QJ (qR c s) j S=stN (-1) (qE c s) j S
  | 0=>rfl
  | j+1=>by rw[QJ,QlT,Qrq]; rfl
theorem Qqb (h:Srt S):Srt (as_.foldl (qZ c s R) S):=by
  induction as_ generalizing S with
  | nil=>exact h
  | cons a as_ ih=>rw[aL]; refine ih ?_; unfold qZ; split; exact Ju Zo h; exact h
theorem QoW:v∈as_.foldl (qZ c s R) S↔v∈S∨∃a∈as_,a.2.1=s∧a.1∈R∧QH c a.2.2.2 s=false∧a.2.2.2=v:=by
  induction as_ generalizing S with
  | nil=>simp
  | cons a as_ ih=>
    rw[aL,ih]
    have e:v∈qZ c s R S a↔v∈S∨(a.2.1=s∧a.1∈R∧QH c a.2.2.2 s=false∧a.2.2.2=v):=by
      unfold qZ
      split
      · rename_i g
        rw[Z4]
        exact ⟨fun h=>h.elim (fun h=> .inr ⟨g.2.1,g.1,g.2.2,h.symm⟩) .inl,fun h=>h.elim .inr fun h=> .inl h.2.2.2.symm⟩
      · rename_i g
        exact ⟨.inl,fun h=>h.elim id fun h=>absurd ⟨h.2.1,h.1,h.2.2.1⟩ g⟩
    rw[e]
    simp only[aJ,exists_eq_or_imp]
    rw[or_assoc]
theorem Qo6 (hS:Srt S)(hn:∀u∈S,0≤u∧u < (n:Int)):rg (chF S) n=S:=by
  refine Zo.ext (Qd4 fun i y h=>by unfold chF at h; split at h; exact (cY h).symm; cases h) hS fun v=> ?_
  rw[Qec]
  unfold chF
  constructor
  · rintro ⟨j, _, h⟩
    split at h
    · rename_i g; cases h; exact g
    · cases h
  · intro h
    have:=hn v h
    exact ⟨v.toNat,by omega,by rw[show ((v.toNat:Nat):Int)=v by omega,if_pos h]⟩
theorem QoV (hr:∀a∈c.2.2,InR c.2.1.length a)(hk:c.2.1.length≤k)(hk2:k≤c.2.1.length):rg (chF (QJ (qR c s) c.2.1.length (c.2.2.foldl (qZ c s R) []))) k=qV c s R:=by
  obtain rfl:k=c.2.1.length:=by omega
  have hZ:Srt (c.2.2.foldl (qZ c s R) []):=Qqb cE
  have hm:∀v,v∈c.2.2.foldl (qZ c s R) []↔qQ c s R v:=fun v=>by rw[QoW]; simp[qQ]
  have hrg:∀u∈c.2.2.foldl (qZ c s R) [],0≤u∧u < (c.2.1.length:Int):=fun u hu=>by
    obtain ⟨a,h1,_,_,_,rfl⟩:=(hm u).1 hu
    exact (hr a h1).2
  rw[QlT,Qo6 (K2 hZ) (QiZ (fun a ha=>Qgz hr ha) hrg)]
  refine Qov hr (K2 hZ) fun v=> ?_
  rw[Qhb hZ (fun a ha=>Qgz hr ha) hrg]
  exact QlY hm
theorem Qjd (h:true=decide ((k:Int)∈S)):rg (chF S) k++[(k:Int)]=rg (chF S) (k+1):=rgN (by unfold chF; rw[if_pos (ab h.symm)])
theorem Qk6 (h:false=decide ((k:Int)∈S)):rg (chF S) k=rg (chF S) (k+1):=Q0 (by unfold chF; rw[if_neg (ae h.symm)])
theorem Qm7 (hr:∀a∈c.2.2,InR c.2.1.length a):(regV c.2.2 (xS c.2.2 l)).length≤c.2.1.length:=by
  unfold regV
  rw[aN]
  exact bA (bX ..) (QmN hr)
end
end Go.Proofs.YtgpdhgadmjfokaaGreat
