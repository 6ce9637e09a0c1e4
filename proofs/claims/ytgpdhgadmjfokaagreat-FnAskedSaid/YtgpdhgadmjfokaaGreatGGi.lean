/- Walks over abstract states: quiescent regions, both sides. -/
import Derived.Test.YtgpdhgadmjfokaaGreatGGf
import Derived.Test.YtgpdhgadmjfokaaGreatGGa
import Derived.Test.YtgpdhgadmjfokaaGreatGDm
import Derived.Test.YtgpdhgadmjfokaaGreatGDg
set_option linter.unusedSimpArgs false
set_option linter.unusedVariables false
set_option linter.unusedSectionVars false
namespace Go.Proofs.YtgpdhgadmjfokaaGreat
open Go.RowKit
set_option maxRecDepth 100000
set_option maxHeartbeats 4000000
theorem Qau {b:Bool}(h:b=true)(g:b=false):False:=by rw[h] at g; cases g
theorem QqX {c:DSg}{s k:Int}{out:List Int}(h1:QH c k s=false)(h2:out.any (fun y=>decide (k=y))=false):out++[k]=adQ c s out k:=(if_pos ⟨h1,WJ h2⟩).symm
theorem Qqd {c:DSg}{s k:Int}{out:List Int}(h1:QH c k s=true):out=adQ c s out k:=(if_neg fun g=>by rw[h1] at g; cases g.1).symm
theorem QoT {c:DSg}{s k:Int}{out:List Int}(h2:out.any (fun y=>decide (k=y))=true):out=adQ c s out k:=(if_neg fun g=>g.2 (JI h2)).symm
theorem XR (k:Int)(c:(List (ByteArray×Int))×List ByteArray×(List (Int×Int×Bool×Int)))(l:Int×Bool)(out:List Int)(hl:out.length≤1000000000):FC Tryz.prog 283 [(false,[dI k]),(false,[.ptr 0 0]),(false,[.ptr 1 0]),(false,[.ptr 2 0])] [bx 0 27 [.dat (.sl 44 (.pr .str .int)) c.1, .dat (.sl 9 .str) c.2.1, .dat (.sl 46 (.pr .int (.pr .int (.pr .bool .int)))) c.2.2],bx 1 86 [dI l.1,dB l.2],bx 2 32 [.ref 3],ar 3 3 .int out] 3 (Is (PV.tup []) [bx 0 27 [.dat (.sl 44 (.pr .str .int)) c.1, .dat (.sl 9 .str) c.2.1, .dat (.sl 46 (.pr .int (.pr .int (.pr .bool .int)))) c.2.2],bx 1 86 [dI l.1,dB l.2],bx 2 32 [.ref 3],ar 3 3 .int (adQ c l.1 out k)]):=by
 refine Qn Tryz.func283 rfl rfl Tryz.ntmps283 fun O_ hO w0_ N0_ X_ h0_ f0_=> ?_
 refine acI 0 fun hi1=> ?_
 iterate 5 refine w_ ?_
 refine alI 8 fun hi2=> ?_
 refine lc (dK (WE c k l.1) QbS) ?_
 iterate 2 refine w_ ?_
 cases hb3:(QH c k l.1)
 ·iterate 2 refine w_ ?_
  refine lgy rfl rfl (dB_ (QM out k) YV) ?_
  iterate 3 refine w_ ?_
  cases hb4:(out.any (fun y=>decide (k=y)))
  ·iterate 4 refine w_ ?_
   refine lc (dBs 4 (e:= .int) ZL) ?_
   refine lc (dA 5 YO) ?_
   refine w_ ?_
   refine Qc ?_
   refine (?_:fin _ _ _ _ .normal _)
   exact fi_ [(3,5)] hO ⟨rfl,rfl,rfl,(Qj (by exact QqX (by assumption) (by assumption))),trivial⟩
  ·refine w_ ?_
   refine AC.skip ?_
   refine (?_:fin _ _ _ _ .normal _)
   exact fi_ [] hO ⟨rfl,rfl,rfl,(Qj (by exact QoT (by assumption))),trivial⟩
 ·iterate 7 refine w_ ?_
  refine AC.skip ?_
  refine (?_:fin _ _ _ _ .normal _)
  exact fi_ [] hO ⟨rfl,rfl,rfl,(Qj (by exact Qqd (by assumption))),trivial⟩
theorem Js (c:(List (ByteArray×Int))×List ByteArray×(List (Int×Int×Bool×Int)))(l:Int×Bool)(region:List Int)(hs:SgOk c)(hg:0≤l.1∧l.1≤(c.1.length:Int) - 1)(hR:∀q∈region,q∈xS c.2.2 l):FC Tryz.prog 161 [(true,[.dat (.sl 44 (.pr .str .int)) c.1, .dat (.sl 9 .str) c.2.1, .dat (.sl 46 (.pr .int (.pr .int (.pr .bool .int)))) c.2.2]),(true,[dI l.1,dB l.2]),(false,[.dat (.sl 3 .int) region])] [] 0 (Yo 3 .int (qV c l.1 region)):=by
 have hr:∀a∈c.2.2,InR c.2.1.length a:=fun a ha=>Yn (hs.arcs a ha)
 have hn3:=hs.some_
 have hfw:=hs.few
 have h8:=hs.sigs.2.2
 refine Qn Tryz.func161 rfl rfl Tryz.ntmps161 fun O_ hO w0_ N0_ X_ h0_ f0_=> ?_
 refine acG 1 0 fun hi1=> ?_
 refine w_ ?_
 refine xbx 0 ?_
 refine xbx 1 ?_
 iterate 3 refine w_ ?_
 refine lc (dBs 2 (e:= .int) ZL) ?_
 refine lc (xal 3 (.sl 3 .int) YW) ?_
 iterate 3 refine w_ ?_
 refine lc (YP ⟨_,_,rfl,(Qa rfl),rfl,⟨_,_,rfl,(Qa rfl),rfl,⟨_,_,rfl,(Qa rfl),rfl,rfl⟩⟩⟩ rfl) ?_
 iterate 6 refine w_ ?_
 refine alL 17 fun hl2=> ?_
 iterate 4 refine w_ ?_
 refine lp0 c.2.2.length (fun k=>⟨[(2,lf (.dat (.sl 3 .int) region)),(3,lP 0 0),(4,lP 1 0),(6,lf (.val (.slice none 0 0))),(7,lP 3 0),(8,lf (.clo 283 [0,1,3])),(17,lf (.dat (.sl 46 (.pr .int (.pr .int (.pr .bool .int)))) c.2.2)),(18,lI (c.2.2.length:Int)),(19,lI (k:Int))],[bx 0 27 [.dat (.sl 44 (.pr .str .int)) c.1, .dat (.sl 9 .str) c.2.1, .dat (.sl 46 (.pr .int (.pr .int (.pr .bool .int)))) c.2.2],bx 1 86 [dI l.1,dB l.2],bx 3 32 [.ref 4],(4,some (.arr 3 .int ((c.2.2.take k).foldl (qJ c l region) [])))]⟩) ?_ fun k hk3=> ?_
 · exact Wk.of [(4,2)] rfl ⟨rfl,rfl,rfl,rfl,rfl,rfl,rfl,rfl,rfl,trivial⟩ ⟨rfl,rfl,rfl,(Qj (rfl)),trivial⟩ rfl rfl
 have hjl:=Qpz (c:=c) (l:=l) (R:=region) (as_:=c.2.2.take k) (out:=[])
 have hjt:(c.2.2.take k).length≤c.2.2.length:=by simp only[aw]; omega
 have hj0:([]:List Int).length=0:=rfl
 iterate 4 refine w_ ?_
 cases hb4:(decide ((k:Int) < (c.2.2.length:Int)))
 ·have hb4':=ae hb4
  refine w_ ?_
  refine Qh ?_
  refine (?_:AC _ _ _ _ _)
  iterate 5 refine w_ ?_
  refine QK (fun m_ s_=>∃(k:Nat) (out:List Int),k≤c.2.1.length∧m_=c.2.1.length - k∧(ClI (qE c l.1) (-1) (qQ c l.1 region) k out)∧s_=⟨[(3,lP 0 0),(6,lf (.val (.slice none 0 0))),(7,lP 3 0),(8,lf (.clo 283 [0,1,3])),(11,lI (k:Int))],[bx 0 27 [.dat (.sl 44 (.pr .str .int)) c.1, .dat (.sl 9 .str) c.2.1, .dat (.sl 46 (.pr .int (.pr .int (.pr .bool .int)))) c.2.2],bx 1 86 [dI l.1,dB l.2],bx 3 32 [.ref 5],(5,some (.arr 3 .int out))]⟩) ⟨0,(c.2.2.take k).foldl (qJ c l region) [],aU _,rfl,(by rw[QO (by omega)]; exact QnJ hs hg hR),rfl⟩ ?_ ?_
  · exact Wk.of [(5,4)] rfl ⟨rfl,rfl,rfl,rfl,rfl,trivial⟩ ⟨rfl,rfl,rfl,(Qj (by first | rfl | simp)),trivial⟩ rfl rfl
  rintro m_ s_ ⟨k,out,hk5,hm6,hC,rfl⟩
  have hof:=QpB hr hC
  iterate 7 refine w_ ?_
  cases hb7:(decide ((k:Int) < (out.length:Int)))
  ·have hb7':=ae hb7
   refine w_ ?_
   refine Qh ?_
   refine (?_:AC _ _ _ _ _)
   iterate 2 refine w_ ?_
   refine lc (dP 6 [(0,5)] (KH out (by omega)) Kz) ?_
   iterate 2 refine w_ ?_
   refine Qb<|fo_ hO ?_
   exact QpU hr hC (by omega)
  ·have hb7':=ab hb7
   iterate 4 refine w_ ?_
   refine Zv ?_
   obtain ⟨u,hu⟩:∃z,out[k]? =some z:=⟨_,aa (by omega)⟩
   iterate 3 refine w_ ?_
   refine alL 45 fun hl8=> ?_
   iterate 4 refine w_ ?_
   refine lp0 c.2.2.length (fun i=>⟨[(3,lP 0 0),(6,lf (.val (.slice none 0 0))),(7,lP 3 0),(8,lf (.clo 283 [0,1,3])),(11,lI (k:Int)),(38,lI (k:Int)),(40,lI (out.length:Int)),(41,lB true),(44,lP 0 2),(45,lf (.dat (.sl 46 (.pr .int (.pr .int (.pr .bool .int)))) c.2.2)),(46,lI (c.2.2.length:Int)),(47,lI (i:Int))],[bx 0 27 [.dat (.sl 44 (.pr .str .int)) c.1, .dat (.sl 9 .str) c.2.1, .dat (.sl 46 (.pr .int (.pr .int (.pr .bool .int)))) c.2.2],bx 1 86 [dI l.1,dB l.2],bx 3 32 [.ref 7],(7,some (.arr 3 .int ((c.2.2.take i).foldl (qU c l.1 u) out)))]⟩) ?_ fun i hk9=> ?_
   · exact Wk.of [(7,5)] rfl ⟨rfl,rfl,rfl,rfl,rfl,rfl,rfl,rfl,rfl,rfl,rfl,rfl,trivial⟩ ⟨rfl,rfl,rfl,(Qj (rfl)),trivial⟩ rfl rfl
   have hul:=Qpp (c:=c) (s:=l.1) (u:=u) (as_:=c.2.2.take i) (out:=out)
   have hut:(c.2.2.take i).length≤c.2.2.length:=by simp only[aw]; omega
   have huk:((c.2.2.take i).foldl (qU c l.1 u) out)[k]? =some u:=QrP hu
   have huj:=(ah.1 huk).1
   iterate 4 refine w_ ?_
   cases hb10:(decide ((i:Int) < (c.2.2.length:Int)))
   ·have hb10':=ae hb10
    refine w_ ?_
    refine Qh ?_
    refine (?_:AC _ _ _ _ _)
    iterate 4 refine w_ ?_
    refine Qc<|Zq ⟨k+1,((c.2.2.take i).foldl (qU c l.1 u) out),by omega,rfl,(by rw[QO (by omega),QrB]; exact hC.step hu),rfl⟩ (by omega) ?_
    exact Wk.of [(5,7)] rfl ⟨rfl,rfl,rfl,rfl,rfl,trivial⟩ ⟨rfl,rfl,rfl,(Qj (by first | rfl | simp)),trivial⟩ rfl rfl
   ·have hb10':=ab hb10
    iterate 5 refine w_ ?_
    obtain ⟨ar,hx12⟩:∃z,c.2.2[i]? =some z:=⟨_,aa (by omega)⟩
    have har:=hx12
    iterate 2 refine w_ ?_
    refine lc (xal 8 (.pr .int (.pr .int (.pr .bool .int))) ZJ) ?_
    iterate 2 refine w_ ?_
    apply dW (i4 51 _ _ _ _ [io 55 (lf (.ept 7 1 k 0)),io 56 (lI u),io 57 _]) [0,0,3,7,3,3,0]
    iterate 4 refine z_ ?_
    refine zz (fun _ h_=>ac (QF (e:= .int) (h_.v rfl) (h_.en 7 rfl) (h_.v rfl) Q9 Zn rfl (by omega) (by first | omega | (simp only[ay]; omega))) rfl)<|zz (fun _ h_=>ac (Q4 (e:= .int) (h_.v rfl) (h_.n 7 rfl) huk rfl Zn rfl rfl) rfl) ?_
    refine z_ ?_
    exact zN
    cases hb13:(decide (ar.1=u))
    ·have hb13':=ae hb13
     refine w_ ?_
     refine AC.skip ?_
     refine (?_:AC _ _ _ _ _)
     iterate 3 refine w_ ?_
     refine Qc ?_
     refine l0_ ?_
     exact Wk.of [] rfl ⟨rfl,rfl,rfl,rfl,rfl,rfl,rfl,rfl,rfl,rfl,rfl,rfl,trivial⟩ ⟨rfl,rfl,rfl,(Qj (by first | exact Qks har (by assumption) | exact Qou har (by assumption))),trivial⟩ rfl rfl
    ·have hb13':=ab hb13
     iterate 5 refine w_ ?_
     refine alI 60 fun hi14=> ?_
     refine lc (Yd (args0:=[(false,[dI ar.2.2.2])]) (caps:=[0,1,2]) 9 [(0,0),(1,1),(2,3),(3,7)] (XR ar.2.2.2 c l ((c.2.2.take i).foldl (qU c l.1 u) out) (by omega)) QbK rfl (Qa rfl) rfl rfl ⟨_,_,rfl,(Ql rfl),rfl⟩ ⟨rfl,rfl,rfl,rfl,trivial⟩ rfl ⟨trivial,trivial,trivial,(Fresh.of rfl),(Fresh.of rfl),trivial⟩ (nlr rfl))<|Qc ?_
     refine (?_:AC _ _ _ _ _)
     iterate 3 refine w_ ?_
     refine Qc ?_
     refine l0_ ?_
     exact Wk.of [(7,12)] rfl ⟨rfl,rfl,rfl,rfl,rfl,rfl,rfl,rfl,rfl,rfl,rfl,rfl,trivial⟩ ⟨rfl,rfl,rfl,(Qj (by first | exact Qks har (by assumption) | exact Qou har (by assumption))),trivial⟩ rfl rfl
 ·have hb4':=ab hb4
  iterate 5 refine w_ ?_
  obtain ⟨x15,hx16⟩:∃z,c.2.2[k]? =some z:=⟨_,aa (by omega)⟩
  have har:=hx16
  iterate 2 refine w_ ?_
  refine lc (xal 13 (.pr .int (.pr .int (.pr .bool .int))) ZJ) ?_
  iterate 2 refine w_ ?_
  cases hb17:(Ty.beq (.pr .int .bool) (x15.2.1,x15.2.2.1) l)
  ·apply dW (io 23 _ :: io 24 (ag [dI x15.2.1,dB x15.2.2.1]) :: io 25 _ :: io 26 (lB false) :: i6 27 _ _ _ _ _ _ []) [0,0,3,0,0,0,32,32,0,0]
   refine z_ ?_
   refine zz (fun _ h_=>ac (dK (YU x15) KC) rfl) ?_
   refine z_ ?_
   refine zz (fun _ h_=>ac (Q8 (hb17) (Uq QdX Qea (h_.w rfl) (h_.w rfl) (p:=(x15.2.1,x15.2.2.1)) (q:=l) rfl rfl rfl)) rfl) ?_
   iterate 6 refine z_ ?_
   exact zN
   refine w_ ?_
   refine AC.skip ?_
   refine (?_:AC _ _ _ _ _)
   iterate 3 refine w_ ?_
   refine Qc ?_
   refine l0_ ?_
   exact Wk.of [] rfl ⟨rfl,rfl,rfl,rfl,rfl,rfl,rfl,rfl,rfl,trivial⟩ ⟨rfl,rfl,rfl,(Qj (by first | exact Qhu hx16 (WO (by assumption)).1 (WO (by assumption)).2 (by assumption) | exact QcA hx16 (fun g=>QaU (by assumption) ⟨g.1,g.2.1⟩) | exact QcA hx16 (fun g=>WJ (by assumption) g.2.2))),trivial⟩ rfl rfl
  ·apply dW (io 23 _ :: io 24 (ag [dI x15.2.1,dB x15.2.2.1]) :: io 25 _ :: io 26 (lB true) :: i4 27 _ _ _ _ [io 31 (lB (region.any (fun y=>decide (x15.1=y)))),io 32 _]) [0,0,3,0,0,0,32,32,0,0]
   refine z_ ?_
   refine zz (fun _ h_=>ac (dK (YU x15) KC) rfl) ?_
   refine z_ ?_
   refine zz (fun _ h_=>ac (Q8 (hb17) (Uq QdX Qea (h_.w rfl) (h_.w rfl) (p:=(x15.2.1,x15.2.2.1)) (q:=l) rfl rfl rfl)) rfl) ?_
   iterate 4 refine z_ ?_
   refine zz (fun _ h_=>day rfl (h_.k rfl) (dK (QM region x15.1) YV) rfl) ?_
   refine z_ ?_
   exact zN
   cases hb18:(region.any (fun y=>decide (x15.1=y)))
   ·refine w_ ?_
    refine AC.skip ?_
    refine (?_:AC _ _ _ _ _)
    iterate 3 refine w_ ?_
    refine Qc ?_
    refine l0_ ?_
    exact Wk.of [] rfl ⟨rfl,rfl,rfl,rfl,rfl,rfl,rfl,rfl,rfl,trivial⟩ ⟨rfl,rfl,rfl,(Qj (by first | exact Qhu hx16 (WO (by assumption)).1 (WO (by assumption)).2 (by assumption) | exact QcA hx16 (fun g=>QaU (by assumption) ⟨g.1,g.2.1⟩) | exact QcA hx16 (fun g=>WJ (by assumption) g.2.2))),trivial⟩ rfl rfl
   ·iterate 5 refine w_ ?_
    refine alI 35 fun hi19=> ?_
    refine lc (Yd (args0:=[(false,[dI x15.2.2.2])]) (caps:=[0,1,2]) 14 [(0,0),(1,1),(2,3),(3,4)] (XR x15.2.2.2 c l ((c.2.2.take k).foldl (qJ c l region) []) (by omega)) QbK rfl (Qa rfl) rfl rfl ⟨_,_,rfl,(Ql rfl),rfl⟩ ⟨rfl,rfl,rfl,rfl,trivial⟩ rfl ⟨trivial,trivial,trivial,(Fresh.of rfl),(Fresh.of rfl),trivial⟩ (nlr rfl))<|Qc ?_
    refine (?_:AC _ _ _ _ _)
    iterate 3 refine w_ ?_
    refine Qc ?_
    refine l0_ ?_
    exact Wk.of [(4,17)] rfl ⟨rfl,rfl,rfl,rfl,rfl,rfl,rfl,rfl,rfl,trivial⟩ ⟨rfl,rfl,rfl,(Qj (by first | exact Qhu hx16 (WO (by assumption)).1 (WO (by assumption)).2 (by assumption) | exact QcA hx16 (fun g=>QaU (by assumption) ⟨g.1,g.2.1⟩) | exact QcA hx16 (fun g=>WJ (by assumption) g.2.2))),trivial⟩ rfl rfl
theorem J1 (c:(List (ByteArray×Int))×List ByteArray×(List (Int×Int×Bool×Int)))(sig:Int)(region:List Int)(hs:SgOk c):FC Tryz.prog 164 [(true,[.dat (.sl 44 (.pr .str .int)) c.1, .dat (.sl 9 .str) c.2.1, .dat (.sl 46 (.pr .int (.pr .int (.pr .bool .int)))) c.2.2]),(false,[dI sig]),(false,[.dat (.sl 3 .int) region])] [] 0 (Yo 3 .int (qV c sig region)):=by
 have hr:∀a∈c.2.2,InR c.2.1.length a:=fun a ha=>Yn (hs.arcs a ha)
 have hn3:=hs.some_
 have hfw:=hs.few
 have h8:=hs.sigs.2.2
 refine Qn Tryz.func164 rfl rfl Tryz.ntmps164 fun O_ hO w0_ N0_ X_ h0_ f0_=> ?_
 refine acI 1 fun hi1=> ?_
 refine w_ ?_
 refine xbx 0 ?_
 iterate 5 refine w_ ?_
 refine alL 16 fun hl2=> ?_
 refine w_ ?_
 refine lc (YD 1 (e:= .bool) (n:=c.2.1.length) (Qa rfl) (Qa rfl) V1 QiD rfl (by omega) (by omega) rfl (Fresh.of rfl) (nlr rfl)) ?_
 iterate 6 refine w_ ?_
 refine alL 20 fun hl3=> ?_
 iterate 4 refine w_ ?_
 refine lp0 c.2.2.length (fun k=>⟨[(1,lI sig),(2,lf (.dat (.sl 3 .int) region)),(3,lP 0 0),(6,lf (.val (.slice none 0 0))),(7,lR 2),(20,lf (.dat (.sl 46 (.pr .int (.pr .int (.pr .bool .int)))) c.2.2)),(21,lI (c.2.2.length:Int)),(22,lI (k:Int))],[bx 0 27 [.dat (.sl 44 (.pr .str .int)) c.1, .dat (.sl 9 .str) c.2.1, .dat (.sl 46 (.pr .int (.pr .int (.pr .bool .int)))) c.2.2],(2,some (.arr 4 .bool (chi c.2.1.length ((c.2.2.take k).foldl (qZ c sig region) []))))]⟩) ?_ fun k hk4=> ?_
 · exact Wk.of [(2,1)] rfl ⟨rfl,rfl,rfl,rfl,rfl,rfl,rfl,rfl,trivial⟩ ⟨rfl,(Qj (QiQ)),trivial⟩ rfl rfl
 have hcl:=Vy (n:=c.2.1.length) (S:=(c.2.2.take k).foldl (qZ c sig region) [])
 iterate 4 refine w_ ?_
 cases hb5:(decide ((k:Int) < (c.2.2.length:Int)))
 ·have hb5':=ae hb5
  refine w_ ?_
  refine Qh ?_
  refine (?_:AC _ _ _ _ _)
  refine w_ ?_
  refine Zv ?_
  have hcz:=Vy (n:=c.2.1.length) (S:=c.2.2.foldl (qZ c sig region) [])
  rw[QO (by omega)]
  iterate 6 refine w_ ?_
  refine lp0 c.2.1.length (fun j=>⟨[(1,lI sig),(3,lP 0 0),(6,lf (.val (.slice none 0 0))),(7,lR 3),(50,lI ((chi c.2.1.length ((c.2.2).foldl (qZ c sig region) [])).length:Int)),(51,lI (j:Int))],[bx 0 27 [.dat (.sl 44 (.pr .str .int)) c.1, .dat (.sl 9 .str) c.2.1, .dat (.sl 46 (.pr .int (.pr .int (.pr .bool .int)))) c.2.2],(3,some (.arr 4 .bool (chi c.2.1.length (QJ (qR c sig) j (c.2.2.foldl (qZ c sig region) [])))))]⟩) ?_ fun j hk6=> ?_
  · exact Wk.of [(3,2)] rfl ⟨rfl,rfl,rfl,rfl,rfl,rfl,trivial⟩ ⟨rfl,(Qj (rfl)),trivial⟩ rfl rfl
  have hcl2:=Vy (n:=c.2.1.length) (S:=QJ (qR c sig) j (c.2.2.foldl (qZ c sig region) []))
  iterate 4 refine w_ ?_
  cases hb7:(decide ((j:Int) < ((chi c.2.1.length ((c.2.2).foldl (qZ c sig region) [])).length:Int)))
  ·have hb7':=ae hb7
   refine w_ ?_
   refine Qh ?_
   refine (?_:AC _ _ _ _ _)
   refine Zv ?_
   rw[Qid (n:=c.2.1.length) (by omega) (by omega)]
   iterate 10 refine w_ ?_
   refine AC.wk (Wk.nilS 4 12 3 .int rfl (Fresh.of rfl) (nlr rfl)) ?_
   refine lp0 c.2.1.length (fun k=>⟨[(6,lf (.val (.slice none 0 0))),(12,lR 5),(79,lR 3),(80,lI ((chi c.2.1.length (QJ (qR c sig) c.2.1.length (c.2.2.foldl (qZ c sig region) []))).length:Int)),(81,lI (k:Int))],[(3,some (.arr 4 .bool (chi c.2.1.length (QJ (qR c sig) c.2.1.length (c.2.2.foldl (qZ c sig region) []))))),(5,some (.arr 3 .int (rg (chF (QJ (qR c sig) c.2.1.length (c.2.2.foldl (qZ c sig region) []))) k)))]⟩) ?_ fun k hk8=> ?_
   · exact Wk.of [(5,4)] rfl ⟨rfl,rfl,rfl,rfl,rfl,trivial⟩ ⟨rfl,(Qj (rfl)),trivial⟩ rfl rfl
   have hgl:=WL (f:=chF (QJ (qR c sig) c.2.1.length (c.2.2.foldl (qZ c sig region) []))) (m:=k)
   have hcl4:=Vy (n:=c.2.1.length) (S:=QJ (qR c sig) c.2.1.length (c.2.2.foldl (qZ c sig region) []))
   iterate 4 refine w_ ?_
   cases hb9:(decide ((k:Int) < ((chi c.2.1.length (QJ (qR c sig) c.2.1.length (c.2.2.foldl (qZ c sig region) []))).length:Int)))
   ·have hb9':=ae hb9
    refine w_ ?_
    refine Qh ?_
    refine (?_:AC _ _ _ _ _)
    iterate 4 refine w_ ?_
    refine Qb<|fo_ hO ?_
    exact QoV hr (by omega) (by omega)
   ·have hb9':=ab hb9
    iterate 7 refine w_ ?_
    obtain ⟨bk,hx11⟩:∃z,(chi c.2.1.length (QJ (qR c sig) c.2.1.length (c.2.2.foldl (qZ c sig region) [])))[k]? =some z:=⟨_,aa (by omega)⟩
    have hbk:=K1 hx11
    iterate 7 refine w_ ?_
    cases hb12:(bk)
    ·refine w_ ?_
     refine AC.skip ?_
     refine (?_:AC _ _ _ _ _)
     iterate 3 refine w_ ?_
     refine Qc ?_
     refine l0_ ?_
     exact Wk.of [] rfl ⟨rfl,rfl,rfl,rfl,rfl,trivial⟩ ⟨rfl,(Qj (by first | exact Qjd ((by assumption:bk=true).symm.trans (hbk (k:Int) rfl (by omega))) | exact Qk6 ((by assumption:bk=false).symm.trans (hbk (k:Int) rfl (by omega))))),trivial⟩ rfl rfl
    ·iterate 4 refine w_ ?_
     refine lc (dBs 6 (e:= .int) ZL) ?_
     refine lc (dA 7 YO) ?_
     refine w_ ?_
     refine Qc ?_
     refine (?_:AC _ _ _ _ _)
     iterate 3 refine w_ ?_
     refine Qc ?_
     refine l0_ ?_
     exact Wk.of [(5,7)] rfl ⟨rfl,rfl,rfl,rfl,rfl,trivial⟩ ⟨rfl,(Qj (by first | exact Qjd ((by assumption:bk=true).symm.trans (hbk (k:Int) rfl (by omega))) | exact Qk6 ((by assumption:bk=false).symm.trans (hbk (k:Int) rfl (by omega))))),trivial⟩ rfl rfl
  ·have hb7':=ab hb7
   iterate 7 refine w_ ?_
   refine alL 54 fun hl13=> ?_
   iterate 4 refine w_ ?_
   refine lp0 c.2.2.length (fun i=>⟨[(1,lI sig),(3,lP 0 0),(6,lf (.val (.slice none 0 0))),(7,lR 8),(50,lI ((chi c.2.1.length ((c.2.2).foldl (qZ c sig region) [])).length:Int)),(51,lI (j:Int)),(52,lB true),(53,lP 0 2),(54,lf (.dat (.sl 46 (.pr .int (.pr .int (.pr .bool .int)))) c.2.2)),(55,lI (c.2.2.length:Int)),(56,lI (i:Int))],[bx 0 27 [.dat (.sl 44 (.pr .str .int)) c.1, .dat (.sl 9 .str) c.2.1, .dat (.sl 46 (.pr .int (.pr .int (.pr .bool .int)))) c.2.2],(8,some (.arr 4 .bool (chi c.2.1.length ((c.2.2.take i).foldl (qT c sig) (QJ (qR c sig) j (c.2.2.foldl (qZ c sig region) []))))))]⟩) ?_ fun i hk14=> ?_
   · exact Wk.of [(8,3)] rfl ⟨rfl,rfl,rfl,rfl,rfl,rfl,rfl,rfl,rfl,rfl,rfl,trivial⟩ ⟨rfl,(Qj (rfl)),trivial⟩ rfl rfl
   have hcl3:=Vy (n:=c.2.1.length) (S:=(c.2.2.take i).foldl (qT c sig) (QJ (qR c sig) j (c.2.2.foldl (qZ c sig region) [])))
   iterate 4 refine w_ ?_
   cases hb15:(decide ((i:Int) < (c.2.2.length:Int)))
   ·have hb15':=ae hb15
    refine w_ ?_
    refine Qh ?_
    refine (?_:AC _ _ _ _ _)
    iterate 3 refine w_ ?_
    refine Qc ?_
    refine l0_ ?_
    exact Wk.of [(3,8)] rfl ⟨rfl,rfl,rfl,rfl,rfl,rfl,trivial⟩ ⟨rfl,(Qj ((by rw[QO (by omega)]; rfl))),trivial⟩ rfl rfl
   ·have hb15':=ab hb15
    iterate 5 refine w_ ?_
    obtain ⟨ar,hx17⟩:∃z,c.2.2[i]? =some z:=⟨_,aa (by omega)⟩
    have har:=hx17
    have hain:=hr _ (aj hx17)
    obtain ⟨⟨ha1,ha2⟩,ha3,ha4⟩:=hain
    iterate 2 refine w_ ?_
    refine lc (xal 9 (.pr .int (.pr .int (.pr .bool .int))) ZJ) ?_
    iterate 6 refine w_ ?_
    refine alI 62 fun hi18=> ?_
    refine w_ ?_
    obtain ⟨b1,hx20⟩:∃z,(chi c.2.1.length ((c.2.2.take i).foldl (qT c sig) (QJ (qR c sig) j (c.2.2.foldl (qZ c sig region) []))))[(ar.1).toNat]? =some z:=⟨_,aa (by omega)⟩
    have hb1:=K1 hx20
    iterate 2 refine w_ ?_
    cases hb21:(b1)
    ·iterate 9 refine w_ ?_
     refine AC.skip ?_
     refine (?_:AC _ _ _ _ _)
     iterate 3 refine w_ ?_
     refine Qc ?_
     refine l0_ ?_
     exact Wk.of [] rfl ⟨rfl,rfl,rfl,rfl,rfl,rfl,rfl,rfl,rfl,rfl,rfl,trivial⟩ ⟨rfl,(Qj (by first | exact QgW hr har ((by assumption:b1=true).symm.trans (hb1 _ rfl (by omega))) (by assumption) | exact Qdj har (fun g=>fls ((by assumption:b1=false).symm.trans (hb1 _ rfl (by omega))) g.1) | exact Qdj har (fun g=>Qau (by assumption) g.2))),trivial⟩ rfl rfl
    ·iterate 4 refine w_ ?_
     refine lgy rfl rfl (dK (Zd c ar.2.2.2 sig) Yy) ?_
     iterate 3 refine w_ ?_
     cases hb22:(QH c ar.2.2.2 sig)
     ·iterate 5 refine w_ ?_
      refine alI 75 fun hi23=> ?_
      refine w_ ?_
      obtain ⟨x24,hx25⟩:∃z,(chi c.2.1.length ((c.2.2.take i).foldl (qT c sig) (QJ (qR c sig) j (c.2.2.foldl (qZ c sig region) []))))[(ar.2.2.2).toNat]? =some z:=⟨_,aa (by omega)⟩
      have hx24:=K1 hx25
      refine lc (Qp (e:= .bool) (z':=true) (Qa rfl) rfl hx25 rfl (Evl.ev Q3) rfl XO rfl rfl)<|Qc ?_
      refine (?_:AC _ _ _ _ _)
      iterate 3 refine w_ ?_
      refine Qc ?_
      refine l0_ ?_
      exact Wk.of [] rfl ⟨rfl,rfl,rfl,rfl,rfl,rfl,rfl,rfl,rfl,rfl,rfl,trivial⟩ ⟨rfl,(Qj (by first | exact QgW hr har ((by assumption:b1=true).symm.trans (hb1 _ rfl (by omega))) (by assumption) | exact Qdj har (fun g=>fls ((by assumption:b1=false).symm.trans (hb1 _ rfl (by omega))) g.1) | exact Qdj har (fun g=>Qau (by assumption) g.2))),trivial⟩ rfl rfl
     ·refine w_ ?_
      refine AC.skip ?_
      refine (?_:AC _ _ _ _ _)
      iterate 3 refine w_ ?_
      refine Qc ?_
      refine l0_ ?_
      exact Wk.of [] rfl ⟨rfl,rfl,rfl,rfl,rfl,rfl,rfl,rfl,rfl,rfl,rfl,trivial⟩ ⟨rfl,(Qj (by first | exact QgW hr har ((by assumption:b1=true).symm.trans (hb1 _ rfl (by omega))) (by assumption) | exact Qdj har (fun g=>fls ((by assumption:b1=false).symm.trans (hb1 _ rfl (by omega))) g.1) | exact Qdj har (fun g=>Qau (by assumption) g.2))),trivial⟩ rfl rfl
 ·have hb5':=ab hb5
  iterate 5 refine w_ ?_
  obtain ⟨x26,hx27⟩:∃z,c.2.2[k]? =some z:=⟨_,aa (by omega)⟩
  have har:=hx27
  have hain:=hr _ (aj hx27)
  obtain ⟨⟨ha1,ha2⟩,ha3,ha4⟩:=hain
  iterate 2 refine w_ ?_
  refine lc (xal 10 (.pr .int (.pr .int (.pr .bool .int))) ZJ) ?_
  iterate 6 refine w_ ?_
  refine alI 28 fun hi28=> ?_
  refine lc (dK (Qcb region x26.1) Qgt) ?_
  refine w_ ?_
  cases hb29:(decide (x26.1∈region))
  ·have hb29':=ae hb29
   iterate 15 refine w_ ?_
   refine AC.skip ?_
   refine (?_:AC _ _ _ _ _)
   iterate 3 refine w_ ?_
   refine Qc ?_
   refine l0_ ?_
   exact Wk.of [] rfl ⟨rfl,rfl,rfl,rfl,rfl,rfl,rfl,rfl,trivial⟩ ⟨rfl,(Qj (by first | exact Qd5 hr hx27 (by assumption) (by assumption) (by assumption) | exact VG hx27 (fun g=>absurd g.1 (by assumption)) | exact VG hx27 (fun g=>absurd g.2.1 (by assumption)) | exact VG hx27 (fun g=>Qau (by assumption) g.2.2))),trivial⟩ rfl rfl
  ·have hb29':=ab hb29
   iterate 6 refine w_ ?_
   cases hb30:(decide (x26.2.1=sig))
   ·have hb30':=ae hb30
    iterate 9 refine w_ ?_
    refine AC.skip ?_
    refine (?_:AC _ _ _ _ _)
    iterate 3 refine w_ ?_
    refine Qc ?_
    refine l0_ ?_
    exact Wk.of [] rfl ⟨rfl,rfl,rfl,rfl,rfl,rfl,rfl,rfl,trivial⟩ ⟨rfl,(Qj (by first | exact Qd5 hr hx27 (by assumption) (by assumption) (by assumption) | exact VG hx27 (fun g=>absurd g.1 (by assumption)) | exact VG hx27 (fun g=>absurd g.2.1 (by assumption)) | exact VG hx27 (fun g=>Qau (by assumption) g.2.2))),trivial⟩ rfl rfl
   ·have hb30':=ab hb30
    iterate 4 refine w_ ?_
    refine lgy rfl rfl (dK (Zd c x26.2.2.2 sig) Yy) ?_
    iterate 3 refine w_ ?_
    cases hb31:(QH c x26.2.2.2 sig)
    ·iterate 5 refine w_ ?_
     refine alI 46 fun hi32=> ?_
     refine w_ ?_
     obtain ⟨x33,hx34⟩:∃z,(chi c.2.1.length ((c.2.2.take k).foldl (qZ c sig region) []))[(x26.2.2.2).toNat]? =some z:=⟨_,aa (by omega)⟩
     refine lc (Qp (e:= .bool) (z':=true) (Qa rfl) rfl hx34 rfl (Evl.ev Q3) rfl XO rfl rfl)<|Qc ?_
     refine (?_:AC _ _ _ _ _)
     iterate 3 refine w_ ?_
     refine Qc ?_
     refine l0_ ?_
     exact Wk.of [] rfl ⟨rfl,rfl,rfl,rfl,rfl,rfl,rfl,rfl,trivial⟩ ⟨rfl,(Qj (by first | exact Qd5 hr hx27 (by assumption) (by assumption) (by assumption) | exact VG hx27 (fun g=>absurd g.1 (by assumption)) | exact VG hx27 (fun g=>absurd g.2.1 (by assumption)) | exact VG hx27 (fun g=>Qau (by assumption) g.2.2))),trivial⟩ rfl rfl
    ·refine w_ ?_
     refine AC.skip ?_
     refine (?_:AC _ _ _ _ _)
     iterate 3 refine w_ ?_
     refine Qc ?_
     refine l0_ ?_
     exact Wk.of [] rfl ⟨rfl,rfl,rfl,rfl,rfl,rfl,rfl,rfl,trivial⟩ ⟨rfl,(Qj (by first | exact Qd5 hr hx27 (by assumption) (by assumption) (by assumption) | exact VG hx27 (fun g=>absurd g.1 (by assumption)) | exact VG hx27 (fun g=>absurd g.2.1 (by assumption)) | exact VG hx27 (fun g=>Qau (by assumption) g.2.2))),trivial⟩ rfl rfl
end Go.Proofs.YtgpdhgadmjfokaaGreat
namespace Go.Proofs.YtgpdhgadmjfokaaGreat
open Go.RowKit
set_option maxRecDepth 100000
set_option maxHeartbeats 4000000
section
variable {P:Prop}[Decidable P]{r:List (List Int)}{x:List Int}{i:Int}{f:List Int→List Int}{as_:List DAr}{S:List Int}
theorem QsH (h:P)(hi:0≤i∧i≤((if P then r else []).length:Int) - 1)(hz:(if P then r else [])[i.toNat]? =some x):f x=if P∧(0≤i∧i≤(r.length:Int) - 1) then f ((r[i.toNat]?).getD []) else []:=by
  rw[if_pos h] at hi hz; rw[if_pos ⟨h,hi⟩,hz]; rfl
theorem QsO (h:P)(hi:0≤i∧i≤(r.length:Int) - 1)(hz:r[i.toNat]? =some x):f x=if P∧(0≤i∧i≤(r.length:Int) - 1) then f ((r[i.toNat]?).getD []) else []:=by
  rw[if_pos ⟨h,hi⟩,hz]; rfl
theorem QoE (h:¬P):[]=if P∧(0≤i∧i≤(r.length:Int) - 1) then f ((r[i.toNat]?).getD []) else []:=(if_neg fun g=>h g.1).symm
theorem Qri (h:P)(hi:¬(0≤i∧i≤((if P then r else []).length:Int) - 1)):[]=if P∧(0≤i∧i≤(r.length:Int) - 1) then f ((r[i.toNat]?).getD []) else []:=by
  rw[if_pos h] at hi; exact (if_neg fun g=>hi g.2).symm
theorem QqC (hi:¬(0≤i∧i≤(r.length:Int) - 1)):[]=if P∧(0≤i∧i≤(r.length:Int) - 1) then f ((r[i.toNat]?).getD []) else []:=(if_neg fun g=>hi g.2).symm
theorem QsR (h:P)(hi:0≤i∧i≤((if P then r else []).length:Int) - 1):true=decide (P∧(0≤i∧i≤(r.length:Int) - 1)):=by rw[if_pos h] at hi; exact (aI ⟨h,hi⟩).symm
theorem QrZ (h:P)(hi:¬(0≤i∧i≤((if P then r else []).length:Int) - 1)):false=decide (P∧(0≤i∧i≤(r.length:Int) - 1)):=by rw[if_pos h] at hi; exact (aF fun g=>hi g.2).symm
theorem Qqh (h:P)(hz:(if P then regV as_ S else [])[i.toNat]? =some x):∀q∈x,q∈S:=by
  rw[if_pos h] at hz
  intro q hq
  obtain ⟨y,_,rfl⟩:=bB.1 (aj hz)
  exact (be.1 hq).1
end
theorem Z0 (c:(List (ByteArray×Int))×List ByteArray×(List (Int×Int×Bool×Int)))(sig:Int)(up:Bool)(i:Int)[∀c,Decidable (SgOk c)]:FC Tryz.prog 54 [(true,[.dat (.sl 44 (.pr .str .int)) c.1, .dat (.sl 9 .str) c.2.1, .dat (.sl 46 (.pr .int (.pr .int (.pr .bool .int)))) c.2.2]),(false,[dI sig]),(false,[dB up]),(false,[dI i])] [] 0 (QY (PV.tup [(false,[.dat (.sl 3 .int) (if ((0≤sig∧sig≤(c.1.length:Int) - 1)∧QE c sig=false∧SgOk c∧QG c=Qu)∧(0≤i∧i≤((regV c.2.2 (xS c.2.2 (sig,up))).length:Int) - 1) then qV c sig (((regV c.2.2 (xS c.2.2 (sig,up)))[i.toNat]?).getD []) else [])]),(false,[dB (decide (((0≤sig∧sig≤(c.1.length:Int) - 1)∧QE c sig=false∧SgOk c∧QG c=Qu)∧(0≤i∧i≤((regV c.2.2 (xS c.2.2 (sig,up))).length:Int) - 1)))])])):=by
 refine Qn Tryz.func54 rfl rfl Tryz.ntmps54 fun O_ hO w0_ N0_ X_ h0_ f0_=> ?_
 refine acI 1 fun hi1=> ?_
 refine acI 3 fun hi2=> ?_
 refine w_ ?_
 refine xbx 0 ?_
 iterate 7 refine w_ ?_
 refine lc (dK (YG c sig up) Qc4) ?_
 iterate 11 refine w_ ?_
 cases hb3:(decide ((0≤sig∧sig≤(c.1.length:Int) - 1)∧QE c sig=false∧SgOk c∧QG c=Qu))
 ·have hb3':=ae hb3
  iterate 13 refine w_ ?_
  refine AC.wk (UE (i:=8) 3 .int rfl)<|Qb ?_
  have e4:([]:((.sl 3 .int):Ty).Den)=(if ((0≤sig∧sig≤(c.1.length:Int) - 1)∧QE c sig=false∧SgOk c∧QG c=Qu)∧(0≤i∧i≤((regV c.2.2 (xS c.2.2 (sig,up))).length:Int) - 1) then qV c sig (((regV c.2.2 (xS c.2.2 (sig,up)))[i.toNat]?).getD []) else []):=by
   exact QoE (f:=qV c sig) (by assumption)
  have e5:(false:Bool)=(decide (((0≤sig∧sig≤(c.1.length:Int) - 1)∧QE c sig=false∧SgOk c∧QG c=Qu)∧(0≤i∧i≤((regV c.2.2 (xS c.2.2 (sig,up))).length:Int) - 1))):=by
   exact (aF fun g=>absurd g.1 (by assumption)).symm
  exact fr_ hO (e:=((congrArg (fun z_=>PV.tup [(false,[.dat (.sl 3 .int) z_]),(false,[dB false])]) e4)).trans (congrArg (fun z_=>PV.tup [(false,[.dat (.sl 3 .int) (if ((0≤sig∧sig≤(c.1.length:Int) - 1)∧QE c sig=false∧SgOk c∧QG c=Qu)∧(0≤i∧i≤((regV c.2.2 (xS c.2.2 (sig,up))).length:Int) - 1) then qV c sig (((regV c.2.2 (xS c.2.2 (sig,up)))[i.toNat]?).getD []) else [])]),(false,[dB z_])]) e5))
 ·have hb3':=ab hb3
  iterate 2 refine w_ ?_
  refine alL 23 fun hl6=> ?_
  iterate 2 refine w_ ?_
  refine lgy rfl rfl (dK (QU i 0 (((if ((0≤sig∧sig≤(c.1.length:Int) - 1)∧QE c sig=false∧SgOk c∧QG c=Qu) then regV c.2.2 (xS c.2.2 (sig,up)) else []).length:Int) - 1)) Zr) ?_
  iterate 3 refine w_ ?_
  cases hb7:(decide (0≤i∧i≤(((if ((0≤sig∧sig≤(c.1.length:Int) - 1)∧QE c sig=false∧SgOk c∧QG c=Qu) then regV c.2.2 (xS c.2.2 (sig,up)) else []).length:Int) - 1)))
  ·have hb7':=ae hb7
   iterate 5 refine w_ ?_
   refine AC.wk (UE (i:=8) 3 .int rfl)<|Qb ?_
   have e8:([]:((.sl 3 .int):Ty).Den)=(if ((0≤sig∧sig≤(c.1.length:Int) - 1)∧QE c sig=false∧SgOk c∧QG c=Qu)∧(0≤i∧i≤((regV c.2.2 (xS c.2.2 (sig,up))).length:Int) - 1) then qV c sig (((regV c.2.2 (xS c.2.2 (sig,up)))[i.toNat]?).getD []) else []):=by
    exact Qri (f:=qV c sig) (by assumption) (by assumption)
   have e9:(false:Bool)=(decide (((0≤sig∧sig≤(c.1.length:Int) - 1)∧QE c sig=false∧SgOk c∧QG c=Qu)∧(0≤i∧i≤((regV c.2.2 (xS c.2.2 (sig,up))).length:Int) - 1))):=by
    exact QrZ (by assumption) (by assumption)
   exact fr_ hO (e:=((congrArg (fun z_=>PV.tup [(false,[.dat (.sl 3 .int) z_]),(false,[dB false])]) e8)).trans (congrArg (fun z_=>PV.tup [(false,[.dat (.sl 3 .int) (if ((0≤sig∧sig≤(c.1.length:Int) - 1)∧QE c sig=false∧SgOk c∧QG c=Qu)∧(0≤i∧i≤((regV c.2.2 (xS c.2.2 (sig,up))).length:Int) - 1) then qV c sig (((regV c.2.2 (xS c.2.2 (sig,up)))[i.toNat]?).getD []) else [])]),(false,[dB z_])]) e9))
  ·have hb7':=ab hb7
   iterate 2 refine w_ ?_
   obtain ⟨reg,hx11⟩:∃z,(if ((0≤sig∧sig≤(c.1.length:Int) - 1)∧QE c sig=false∧SgOk c∧QG c=Qu) then regV c.2.2 (xS c.2.2 (sig,up)) else [])[(i).toNat]? =some z:=⟨_,aa (by omega)⟩
   have hreg:=hx11
   apply dW (i3 29 _ _ _ (io 32 (ag [dI sig,dB up]) :: i4 33 _ _ _ _ (io 37 (lf (.dat (.sl 3 .int) (qV c (sig,up).1 reg))) :: i2 8 _ _ []))) [0,1,3,1,15,31,15,15,0,0,0]
   iterate 3 refine z_ ?_
   refine zz (fun _ h_=>ac (Qm WR ⟨_,_,rfl,(h_.w rfl),⟨_,_,rfl,(h_.w rfl),rfl⟩⟩ (aA.1 rfl) rfl rfl) rfl) ?_
   iterate 4 refine z_ ?_
   refine zz (fun _ h_=>ac (dK (Js c (sig,up) reg (by assumption:((0≤sig∧sig≤(c.1.length:Int) - 1)∧QE c sig=false∧SgOk c∧QG c=Qu)).2.2.1 (by assumption:((0≤sig∧sig≤(c.1.length:Int) - 1)∧QE c sig=false∧SgOk c∧QG c=Qu)).1 (Qqh (by assumption:((0≤sig∧sig≤(c.1.length:Int) - 1)∧QE c sig=false∧SgOk c∧QG c=Qu)) hreg)).frozen Qgj) rfl) ?_
   iterate 2 refine z_ ?_
   exact zN
   refine Qb ?_
   have e12:(qV c (sig,up).1 reg:((.sl 3 .int):Ty).Den)=(if ((0≤sig∧sig≤(c.1.length:Int) - 1)∧QE c sig=false∧SgOk c∧QG c=Qu)∧(0≤i∧i≤((regV c.2.2 (xS c.2.2 (sig,up))).length:Int) - 1) then qV c sig (((regV c.2.2 (xS c.2.2 (sig,up)))[i.toNat]?).getD []) else []):=by
    exact QsH (f:=qV c sig) (by assumption) (by assumption) hreg
   have e13:(true:Bool)=(decide (((0≤sig∧sig≤(c.1.length:Int) - 1)∧QE c sig=false∧SgOk c∧QG c=Qu)∧(0≤i∧i≤((regV c.2.2 (xS c.2.2 (sig,up))).length:Int) - 1))):=by
    exact QsR (by assumption) (by assumption)
   exact fr_ hO (e:=((congrArg (fun z_=>PV.tup [(false,[.dat (.sl 3 .int) z_]),(false,[dB true])]) e12)).trans (congrArg (fun z_=>PV.tup [(false,[.dat (.sl 3 .int) (if ((0≤sig∧sig≤(c.1.length:Int) - 1)∧QE c sig=false∧SgOk c∧QG c=Qu)∧(0≤i∧i≤((regV c.2.2 (xS c.2.2 (sig,up))).length:Int) - 1) then qV c sig (((regV c.2.2 (xS c.2.2 (sig,up)))[i.toNat]?).getD []) else [])]),(false,[dB z_])]) e13))
theorem Y3 (c:(List (ByteArray×Int))×List ByteArray×(List (Int×Int×Bool×Int)))(sig:Int)(up:Bool)(i:Int)[∀c,Decidable (SgOk c)]:FC Tryz.prog 58 [(true,[.dat (.sl 44 (.pr .str .int)) c.1, .dat (.sl 9 .str) c.2.1, .dat (.sl 46 (.pr .int (.pr .int (.pr .bool .int)))) c.2.2]),(false,[dI sig]),(false,[dB up]),(false,[dI i])] [] 0 (QY (PV.tup [(false,[.dat (.sl 3 .int) (if ((0≤sig∧sig≤(c.1.length:Int) - 1)∧QE c sig=false∧SgOk c∧QG c=Qu)∧(0≤i∧i≤((regV c.2.2 (xS c.2.2 (sig,up))).length:Int) - 1) then qV c sig (((regV c.2.2 (xS c.2.2 (sig,up)))[i.toNat]?).getD []) else [])]),(false,[dB (decide (((0≤sig∧sig≤(c.1.length:Int) - 1)∧QE c sig=false∧SgOk c∧QG c=Qu)∧(0≤i∧i≤((regV c.2.2 (xS c.2.2 (sig,up))).length:Int) - 1)))])])):=by
 refine Qn Tryz.func58 rfl rfl Tryz.ntmps58 fun O_ hO w0_ N0_ X_ h0_ f0_=> ?_
 refine acI 1 fun hi1=> ?_
 refine acI 3 fun hi2=> ?_
 refine w_ ?_
 refine xbx 0 ?_
 iterate 7 refine w_ ?_
 refine lc (dK (Ve c sig) Qav) ?_
 iterate 2 refine w_ ?_
 cases hb3:(decide ((0≤sig∧sig≤(c.1.length:Int) - 1)∧QE c sig=false∧SgOk c∧QG c=Qu))
 ·have hb3':=ae hb3
  iterate 16 refine w_ ?_
  refine AC.wk (UE (i:=8) 3 .int rfl)<|Qb ?_
  have e4:([]:((.sl 3 .int):Ty).Den)=(if ((0≤sig∧sig≤(c.1.length:Int) - 1)∧QE c sig=false∧SgOk c∧QG c=Qu)∧(0≤i∧i≤((regV c.2.2 (xS c.2.2 (sig,up))).length:Int) - 1) then qV c sig (((regV c.2.2 (xS c.2.2 (sig,up)))[i.toNat]?).getD []) else []):=by
   exact QoE (f:=qV c sig) (by assumption)
  have e5:(false:Bool)=(decide (((0≤sig∧sig≤(c.1.length:Int) - 1)∧QE c sig=false∧SgOk c∧QG c=Qu)∧(0≤i∧i≤((regV c.2.2 (xS c.2.2 (sig,up))).length:Int) - 1))):=by
   exact (aF fun g=>absurd g.1 (by assumption)).symm
  exact fr_ hO (e:=((congrArg (fun z_=>PV.tup [(false,[.dat (.sl 3 .int) z_]),(false,[dB false])]) e4)).trans (congrArg (fun z_=>PV.tup [(false,[.dat (.sl 3 .int) (if ((0≤sig∧sig≤(c.1.length:Int) - 1)∧QE c sig=false∧SgOk c∧QG c=Qu)∧(0≤i∧i≤((regV c.2.2 (xS c.2.2 (sig,up))).length:Int) - 1) then qV c sig (((regV c.2.2 (xS c.2.2 (sig,up)))[i.toNat]?).getD []) else [])]),(false,[dB z_])]) e5))
 ·have hb3':=ab hb3
  iterate 4 refine w_ ?_
  refine lgy rfl rfl (dK (YX c sig up (by assumption:((0≤sig∧sig≤(c.1.length:Int) - 1)∧QE c sig=false∧SgOk c∧QG c=Qu)).2.2.1 (by assumption:((0≤sig∧sig≤(c.1.length:Int) - 1)∧QE c sig=false∧SgOk c∧QG c=Qu)).1).frozen KA) ?_
  refine alL 19 fun hl6=> ?_
  iterate 2 refine w_ ?_
  refine lgy rfl rfl (dK (YC i 0 (((regV c.2.2 (xS c.2.2 (sig,up))).length:Int) - 1)) Xk) ?_
  iterate 3 refine w_ ?_
  cases hb7:(decide (0≤i∧i≤(((regV c.2.2 (xS c.2.2 (sig,up))).length:Int) - 1)))
  ·have hb7':=ae hb7
   iterate 5 refine w_ ?_
   refine AC.wk (UE (i:=8) 3 .int rfl)<|Qb ?_
   have e8:([]:((.sl 3 .int):Ty).Den)=(if ((0≤sig∧sig≤(c.1.length:Int) - 1)∧QE c sig=false∧SgOk c∧QG c=Qu)∧(0≤i∧i≤((regV c.2.2 (xS c.2.2 (sig,up))).length:Int) - 1) then qV c sig (((regV c.2.2 (xS c.2.2 (sig,up)))[i.toNat]?).getD []) else []):=by
    exact QqC (f:=qV c sig) (by assumption)
   have e9:(false:Bool)=(decide (((0≤sig∧sig≤(c.1.length:Int) - 1)∧QE c sig=false∧SgOk c∧QG c=Qu)∧(0≤i∧i≤((regV c.2.2 (xS c.2.2 (sig,up))).length:Int) - 1))):=by
    exact (aF fun g=>absurd g.2 (by assumption)).symm
   exact fr_ hO (e:=((congrArg (fun z_=>PV.tup [(false,[.dat (.sl 3 .int) z_]),(false,[dB false])]) e8)).trans (congrArg (fun z_=>PV.tup [(false,[.dat (.sl 3 .int) (if ((0≤sig∧sig≤(c.1.length:Int) - 1)∧QE c sig=false∧SgOk c∧QG c=Qu)∧(0≤i∧i≤((regV c.2.2 (xS c.2.2 (sig,up))).length:Int) - 1) then qV c sig (((regV c.2.2 (xS c.2.2 (sig,up)))[i.toNat]?).getD []) else [])]),(false,[dB z_])]) e9))
  ·have hb7':=ab hb7
   iterate 2 refine w_ ?_
   obtain ⟨reg,hx11⟩:∃z,(regV c.2.2 (xS c.2.2 (sig,up)))[(i).toNat]? =some z:=⟨_,aa (by omega)⟩
   have hreg:=hx11
   apply dW (i5 25 _ _ _ _ _ (io 30 (lf (.dat (.sl 32 (.sl 3 .int)) (regV c.2.2 (xS c.2.2 (sig,up))))) :: i3 31 _ _ _ (io 34 (lf (.dat (.sl 3 .int) (qV c sig reg))) :: i2 8 _ _ []))) [0,1,3,7,15,3,63,3,3,0,0,0]
   iterate 5 refine z_ ?_
   refine zz (fun _ h_=>ac (dK (YX c sig up (by assumption:((0≤sig∧sig≤(c.1.length:Int) - 1)∧QE c sig=false∧SgOk c∧QG c=Qu)).2.2.1 (by assumption:((0≤sig∧sig≤(c.1.length:Int) - 1)∧QE c sig=false∧SgOk c∧QG c=Qu)).1).frozen KA) rfl) ?_
   iterate 3 refine z_ ?_
   refine zz (fun _ h_=>ac (dK (J1 c sig reg (by assumption:((0≤sig∧sig≤(c.1.length:Int) - 1)∧QE c sig=false∧SgOk c∧QG c=Qu)).2.2.1).frozen Qh0) rfl) ?_
   iterate 2 refine z_ ?_
   exact zN
   refine Qb ?_
   have e12:(qV c sig reg:((.sl 3 .int):Ty).Den)=(if ((0≤sig∧sig≤(c.1.length:Int) - 1)∧QE c sig=false∧SgOk c∧QG c=Qu)∧(0≤i∧i≤((regV c.2.2 (xS c.2.2 (sig,up))).length:Int) - 1) then qV c sig (((regV c.2.2 (xS c.2.2 (sig,up)))[i.toNat]?).getD []) else []):=by
    exact QsO (f:=qV c sig) (by assumption) (by assumption) hreg
   have e13:(true:Bool)=(decide (((0≤sig∧sig≤(c.1.length:Int) - 1)∧QE c sig=false∧SgOk c∧QG c=Qu)∧(0≤i∧i≤((regV c.2.2 (xS c.2.2 (sig,up))).length:Int) - 1))):=by
    exact (aI ⟨by assumption,by assumption⟩).symm
   exact fr_ hO (e:=((congrArg (fun z_=>PV.tup [(false,[.dat (.sl 3 .int) z_]),(false,[dB true])]) e12)).trans (congrArg (fun z_=>PV.tup [(false,[.dat (.sl 3 .int) (if ((0≤sig∧sig≤(c.1.length:Int) - 1)∧QE c sig=false∧SgOk c∧QG c=Qu)∧(0≤i∧i≤((regV c.2.2 (xS c.2.2 (sig,up))).length:Int) - 1) then qV c sig (((regV c.2.2 (xS c.2.2 (sig,up)))[i.toNat]?).getD []) else [])]),(false,[dB z_])]) e13))
end Go.Proofs.YtgpdhgadmjfokaaGreat
namespace Go.Proofs.YtgpdhgadmjfokaaGreat
open Go.RowKit
set_option maxRecDepth 100000
set_option maxHeartbeats 4000000
section
variable [∀s,Decidable (StgOk s)]{s:QP}
theorem Xs:(sgV s).1.1.length≤8∧(sgV s).1.2.1.length≤301:=by
  cases h:(sgV s).2 with
  | true=>have h1:=(Qa9 h).sig8; have h2:=(Qa9 h).some_; exact ⟨h1,by omega⟩
  | false=>
    have h1:(sgV s).1=Vq:=by
      unfold sgV at h ⊢
      split at h
      · rename_i g
        rw[if_pos g]
        split at h
        · cases h
        · rfl
      · rename_i g; rw[if_neg g]
    rw[h1]
    exact ⟨by decide,by decide⟩
end
theorem VP (code:List UInt8)(at_:Int)(sd:Int)[∀s,Decidable (StgOk s)][∀s,Decidable (YA s)](ha:0≤at_∧at_≤600000000):FC Tryz.prog 272 [(false,[.ptr 0 0])] [bx 0 119 [.dat (.sl 5 .u8) code,dI at_, .val (.int .u64 sd)]] 1 (Ex (fun x:DSg×Int×Int=>x.1.1.length≤8∧x.1.2.1.length≤301∧(at_≤x.2.1∧x.2.1≤at_+130)) (fun x:DSg×Int×Int=>ag [.dat (.sl 44 (.pr .str .int)) x.1.1, .dat (.sl 9 .str) x.1.2.1, .dat (.sl 46 (.pr .int (.pr .int (.pr .bool .int)))) x.1.2.2]) (fun x:DSg×Int×Int=>[bx 0 119 [.dat (.sl 5 .u8) code,dI x.2.1, .val (.int .u64 x.2.2)]])):=by
 refine Qn Tryz.func272 rfl rfl Tryz.ntmps272 fun O_ hO w0_ N0_ X_ h0_ f0_=> ?_
 refine w_ ?_
 refine lc (xal 1 (.pr (.sl 44 (.pr .str .int)) (.pr (.sl 9 .str) (.sl 46 (.pr .int (.pr .int (.pr .bool .int)))))) Z2) ?_
 iterate 4 refine w_ ?_
 have hp1:=ZA code at_ sd 5
 refine lc (dP 2 [] (Qv code at_ sd 5 (by omega)) Zg) ?_
 iterate 6 refine w_ ?_
 refine cd_ (fun hb2 hb2'=> ?_) fun hb2 hb2'=> ?_
 ·iterate 4 refine w_ ?_
  refine cd_ (fun hb3 hb3'=> ?_) fun hb3 hb3'=> ?_
  ·refine AC.skip ?_
   refine (?_:AC _ _ _ _ _)
   iterate 2 refine w_ ?_
   refine ZQ 3 [(0,0)] (Vm code (pkA 5 at_) (pkS code at_ sd 5) (by omega)) QjP e1_ ⟨rfl,trivial⟩ rfl (fun _=>rfl) (fun _=>⟨trivial,trivial⟩) (nlr rfl) fun x4 hx5=> ?_
   iterate 2 refine w_ ?_
   refine Qb ?_
   subst hO
   refine QR (x:=((x4.1.1,(x4.1.2.1,x4.1.2.2)),(x4.2.1,x4.2.2))) [(0,0)] ?_ (Res.one rfl (QD rfl rfl ZT rfl)) rfl ⟨rfl,trivial⟩ rfl rfl
   (dsimp only; have h_:=‹_≤8∧_∧_›; omega)
  ·refine w_ ?_
   refine lc (dK (Qz tx4 VZ tx2 Qa2 (by decide+kernel) (by decide+kernel)).frozenG QX) ?_
   refine lc (dK (QT (Qo tx4 VZ tx2 Qa2)).frozenG YY) ?_
   iterate 3 refine w_ ?_
   refine lc (xal 4 (.pr (.sl 44 (.pr .str .int)) (.pr (.sl 9 .str) (.sl 46 (.pr .int (.pr .int (.pr .bool .int)))))) Z2) ?_
   iterate 7 refine w_ ?_
   refine Qb ?_
   subst hO
   refine QR (x:=((((sgV (Qo tx4 VZ tx2 Qa2)).1).1,(((sgV (Qo tx4 VZ tx2 Qa2)).1).2.1,((sgV (Qo tx4 VZ tx2 Qa2)).1).2.2)),((pkA 5 at_),(pkS code at_ sd 5)))) [(0,0)] ?_ (Res.one rfl (QD rfl rfl ZT rfl)) rfl ⟨rfl,trivial⟩ rfl rfl
   (dsimp only; exact ⟨Xs.1,Xs.2,by omega⟩)
 ·refine w_ ?_
  refine lc (dK (Qz tx7 tx8 tx2 QbT (by decide+kernel) (by decide+kernel)).frozenG QX) ?_
  refine lc (dK (QT (Qo tx7 tx8 tx2 QbT)).frozenG YY) ?_
  iterate 3 refine w_ ?_
  refine lc (xal 5 (.pr (.sl 44 (.pr .str .int)) (.pr (.sl 9 .str) (.sl 46 (.pr .int (.pr .int (.pr .bool .int)))))) Z2) ?_
  iterate 7 refine w_ ?_
  refine Qb ?_
  subst hO
  refine QR (x:=((((sgV (Qo tx7 tx8 tx2 QbT)).1).1,(((sgV (Qo tx7 tx8 tx2 QbT)).1).2.1,((sgV (Qo tx7 tx8 tx2 QbT)).1).2.2)),((pkA 5 at_),(pkS code at_ sd 5)))) [(0,0)] ?_ (Res.one rfl (QD rfl rfl ZT rfl)) rfl ⟨rfl,trivial⟩ rfl rfl
  (dsimp only; exact ⟨Xs.1,Xs.2,by omega⟩)
theorem Ky (code:List UInt8)(at_:Int)(sd:Int)[∀s,Decidable (StgOk s)][∀s,Decidable (YA s)][∀c,Decidable (SgOk c)](ha:0≤at_∧at_≤500000000):FC Tryz.prog 154 [(false,[.ptr 0 0])] [bx 0 119 [.dat (.sl 5 .u8) code,dI at_, .val (.int .u64 sd)]] 1 (Ex (fun x:DSg×Int×Int=>x.1.1.length≤8∧x.1.2.1.length≤301∧(at_≤x.2.1∧x.2.1≤at_+150)) (fun x:DSg×Int×Int=>ag [.dat (.sl 44 (.pr .str .int)) x.1.1, .dat (.sl 9 .str) x.1.2.1, .dat (.sl 46 (.pr .int (.pr .int (.pr .bool .int)))) x.1.2.2]) (fun x:DSg×Int×Int=>[bx 0 119 [.dat (.sl 5 .u8) code,dI x.2.1, .val (.int .u64 x.2.2)]])):=by
 refine Qn Tryz.func154 rfl rfl Tryz.ntmps154 fun O_ hO w0_ N0_ X_ h0_ f0_=> ?_
 refine w_ ?_
 refine lc (xal 1 (.pr (.sl 44 (.pr .str .int)) (.pr (.sl 9 .str) (.sl 46 (.pr .int (.pr .int (.pr .bool .int)))))) Z2) ?_
 iterate 4 refine w_ ?_
 have hp1:=ZA code at_ sd 8
 refine lc (dP 2 [] (ZP code at_ sd 8 (by omega)) X6) ?_
 refine w_ ?_
 refine cd_ (fun hb2 hb2'=> ?_) fun hb2 hb2'=> ?_
 ·iterate 3 refine w_ ?_
  refine ZQ 3 [(0,0)] (Yj code (pkA 8 at_) (pkS code at_ sd 8) (by omega)) KD e1_ ⟨rfl,trivial⟩ rfl (fun _=>rfl) (fun _=>⟨trivial,(Fresh.of rfl),(Fresh.of rfl),(Fresh.of rfl),trivial⟩) (nlr rfl) fun x3 hx4=>lc (XF 7 (QT x3.1) YY ⟨_,_,rfl,(U0 (Ql rfl) ⟨_,_,rfl, .inl rfl,⟨_,_,rfl, .inr ⟨_,_,_,_,rfl,rfl,rfl⟩,⟨_,_,rfl, .inr ⟨_,_,_,_,rfl,rfl,rfl⟩,⟨_,_,rfl, .inr ⟨_,_,_,_,rfl,rfl,rfl⟩,⟨_,_,rfl, .inl rfl,rfl⟩⟩⟩⟩⟩),rfl⟩ rfl rfl rfl ⟨Fresh.of rfl,Fresh.of rfl,Fresh.of rfl,trivial⟩ (nlr rfl)) ?_
  iterate 3 refine w_ ?_
  refine lc (xal 10 (.pr (.sl 44 (.pr .str .int)) (.pr (.sl 9 .str) (.sl 46 (.pr .int (.pr .int (.pr .bool .int)))))) Z2) ?_
  iterate 8 refine w_ ?_
  cases hb5:((sgV x3.1).2)
  ·iterate 7 refine w_ ?_
   refine lc (dG 11 (Qz tx0 tx1 tx2 tx3 (by decide+kernel) (by decide+kernel)) QX) ?_
   refine lc (XF 14 (QT (Qo tx0 tx1 tx2 tx3)) YY ⟨_,_,rfl,(U0 (Ql rfl) ⟨_,_,rfl, .inl rfl,⟨_,_,rfl, .inr ⟨_,_,_,_,rfl,rfl,rfl⟩,⟨_,_,rfl, .inr ⟨_,_,_,_,rfl,rfl,rfl⟩,⟨_,_,rfl, .inr ⟨_,_,_,_,rfl,rfl,rfl⟩,⟨_,_,rfl, .inl rfl,rfl⟩⟩⟩⟩⟩),rfl⟩ rfl rfl rfl ⟨Fresh.of rfl,Fresh.of rfl,Fresh.of rfl,trivial⟩ (nlr rfl)) ?_
   iterate 5 refine w_ ?_
   refine Zv<|AC.wk (Qy (p:=10) (off:=0) (q:=14) rfl rfl rfl)<|AC.wk (Qy (p:=10) (off:=1) (q:=15) rfl rfl rfl)<|AC.wk (Qy (p:=10) (off:=2) (q:=16) rfl rfl rfl) ?_
   iterate 4 refine w_ ?_
   refine Qb ?_
   subst hO
   refine QR (x:=((((sgV (Qo tx0 tx1 tx2 tx3)).1).1,(((sgV (Qo tx0 tx1 tx2 tx3)).1).2.1,((sgV (Qo tx0 tx1 tx2 tx3)).1).2.2)),(x3.2.1,x3.2.2))) [(0,0)] ?_ (Res.one rfl (QD rfl rfl ZT rfl)) rfl ⟨rfl,trivial⟩ rfl rfl
   (dsimp only; exact ⟨Xs.1,Xs.2,by omega⟩)
  ·refine w_ ?_
   refine lgy rfl rfl (Wp (U1 ((sgV x3.1).1) (Qa9 (by assumption))) Qaw ⟨_,_,rfl,(U0 (Ql rfl) ⟨_,_,rfl, .inr ⟨_,_,_,_,rfl,rfl,rfl⟩,⟨_,_,rfl, .inr ⟨_,_,_,_,rfl,rfl,rfl⟩,⟨_,_,rfl, .inr ⟨_,_,_,_,rfl,rfl,rfl⟩,rfl⟩⟩⟩),rfl⟩ rfl rfl rfl) ?_
   iterate 3 refine w_ ?_
   refine cn_ (fun hb6 hb6'=> ?_) fun hb6 hb6'=> ?_
   ·refine w_ ?_
    refine Zv<|AC.wk (Qy (p:=10) (off:=0) (q:=7) rfl rfl rfl)<|AC.wk (Qy (p:=10) (off:=1) (q:=8) rfl rfl rfl)<|AC.wk (Qy (p:=10) (off:=2) (q:=9) rfl rfl rfl) ?_
    iterate 4 refine w_ ?_
    refine Qb ?_
    subst hO
    refine QR (x:=((((sgV x3.1).1).1,(((sgV x3.1).1).2.1,((sgV x3.1).1).2.2)),(x3.2.1,x3.2.2))) [(0,0)] ?_ (Res.one rfl (QD rfl rfl ZT rfl)) rfl ⟨rfl,trivial⟩ rfl rfl
    (dsimp only; exact ⟨Xs.1,Xs.2,by omega⟩)
   ·refine w_ ?_
    refine lc (dG 17 (Qz tx0 tx1 tx2 tx3 (by decide+kernel) (by decide+kernel)) QX) ?_
    refine lc (XF 20 (QT (Qo tx0 tx1 tx2 tx3)) YY ⟨_,_,rfl,(U0 (Ql rfl) ⟨_,_,rfl, .inl rfl,⟨_,_,rfl, .inr ⟨_,_,_,_,rfl,rfl,rfl⟩,⟨_,_,rfl, .inr ⟨_,_,_,_,rfl,rfl,rfl⟩,⟨_,_,rfl, .inr ⟨_,_,_,_,rfl,rfl,rfl⟩,⟨_,_,rfl, .inl rfl,rfl⟩⟩⟩⟩⟩),rfl⟩ rfl rfl rfl ⟨Fresh.of rfl,Fresh.of rfl,Fresh.of rfl,trivial⟩ (nlr rfl)) ?_
    iterate 5 refine w_ ?_
    refine Zv<|AC.wk (Qy (p:=10) (off:=0) (q:=20) rfl rfl rfl)<|AC.wk (Qy (p:=10) (off:=1) (q:=21) rfl rfl rfl)<|AC.wk (Qy (p:=10) (off:=2) (q:=22) rfl rfl rfl) ?_
    iterate 4 refine w_ ?_
    refine Qb ?_
    subst hO
    refine QR (x:=((((sgV (Qo tx0 tx1 tx2 tx3)).1).1,(((sgV (Qo tx0 tx1 tx2 tx3)).1).2.1,((sgV (Qo tx0 tx1 tx2 tx3)).1).2.2)),(x3.2.1,x3.2.2))) [(0,0)] ?_ (Res.one rfl (QD rfl rfl ZT rfl)) rfl ⟨rfl,trivial⟩ rfl rfl
    (dsimp only; exact ⟨Xs.1,Xs.2,by omega⟩)
 ·iterate 2 refine w_ ?_
  refine ZQ 23 [(0,0)] (VP code (pkA 8 at_) (pkS code at_ sd 8) (by omega)) QhB e1_ ⟨rfl,trivial⟩ rfl (fun _=>rfl) (fun _=>⟨trivial,trivial⟩) (nlr rfl) fun x7 hx8=> ?_
  iterate 2 refine w_ ?_
  refine Qb ?_
  subst hO
  refine QR (x:=((x7.1.1,(x7.1.2.1,x7.1.2.2)),(x7.2.1,x7.2.2))) [(0,0)] ?_ (Res.one rfl (QD rfl rfl ZT rfl)) rfl ⟨rfl,trivial⟩ rfl rfl
  (dsimp only; have h_:=‹_≤8∧_∧_›; omega)
end Go.Proofs.YtgpdhgadmjfokaaGreat
