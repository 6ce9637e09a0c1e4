/- Walks over abstract states: orderings added, the two functions. -/
import Derived.Test.YtjaadeknhofhpaaGreatWb
import Derived.Test.YtjaadeknhofhpaaGreatAk
import Derived.Test.YtjaadeknhofhpaaGreatIdx
import Derived.Test.YtjaadeknhofhpaaGreatProg
import Derived.KernelRfl
import Derived.Test.YtjaadeknhofhpaaGreatAg
set_option linter.unusedSimpArgs false
set_option linter.unusedVariables false
set_option linter.unusedSectionVars false
namespace Go.Proofs.YtjaadeknhofhpaaGreat
open Go.RowKit
set_option maxRecDepth 100000
set_option maxHeartbeats 4000000
def Qbu (s:QX)(o:Qq):Prop:=StgOk s∧(0≤o.1∧o.1 < s.1.2.length)∧(0≤o.2.1∧o.2.1 < s.1.2.length)∧o.1≠o.2.1
instance (s:QX) (o:Qq) [Decidable (StgOk s)]:Decidable (Qbu s o):=inferInstanceAs (Decidable (_∧_))
def Q7 (s:QX)(o:Qq)[Decidable (StgOk s)][Decidable (StgOk (Zb s o))]:QX×Bool:=if Qbu s o then Z4 (Zb s o) else (Y7,false)
def ZA (s:QX)(o:Qq)[Decidable (StgOk s)][Decidable (StgOk (Zb s o))]:QX×Bool:=if Qbu s o then (Zb s o,decide (StgOk (Zb s o))) else (Y7,false)
theorem QE {s:QX}(h:StgOk s):s.1.2.length=s.2.2.1.length:=h.len.symm
theorem Qay {s:QX}(h:StgOk s):1≤s.1.1∧s.1.1≤30:=h.net.1
section
variable {s:QX}{o:Qq}[Decidable (StgOk s)][Decidable (StgOk (Zb s o))]
theorem Ye (h:¬Qbu s o):Q7 s o=(Y7,false):=if_neg h
theorem KN (h:Qbu s o):Q7 s o=Z4 (Zb s o):=if_pos h
theorem Yb (h:¬Qbu s o):ZA s o=(Y7,false):=if_neg h
theorem Xt (h:Qbu s o):ZA s o=(Zb s o,decide (StgOk (Zb s o))):=if_pos h
end
theorem KH {s:QX}{o:Qq}(h:o.2.2=true):(((s.1.1+1,WT s.1.2 o.1.toNat o.2.1.toNat s.1.1),s.2.1,s.2.2.1,s.2.2.2++(⟨#[49]⟩:ByteArray)):QX)=Zb s o:=by simp[Zb,KX,h]
theorem KO {s:QX}{o:Qq}(h:o.2.2=false):(((s.1.1+1,WT s.1.2 o.1.toNat o.2.1.toNat s.1.1),s.2.1,s.2.2.1,s.2.2.2++(⟨#[48]⟩:ByteArray)):QX)=Zb s o:=by simp[Zb,KX,h]
theorem Jn {s:QX}{o:Qq}(h:o.2.2=true)[Decidable (StgOk (((s.1.1+1,WT s.1.2 o.1.toNat o.2.1.toNat s.1.1),s.2.1,s.2.2.1,s.2.2.2++(⟨#[49]⟩:ByteArray)):QX))][Decidable (StgOk (Zb s o))]:decide (StgOk (((s.1.1+1,WT s.1.2 o.1.toNat o.2.1.toNat s.1.1),s.2.1,s.2.2.1,s.2.2.2++(⟨#[49]⟩:ByteArray)):QX))=decide (StgOk (Zb s o)):=d7.2 (by rw[KH h])
theorem Ji {s:QX}{o:Qq}(h:o.2.2=false)[Decidable (StgOk (((s.1.1+1,WT s.1.2 o.1.toNat o.2.1.toNat s.1.1),s.2.1,s.2.2.1,s.2.2.2++(⟨#[48]⟩:ByteArray)):QX))][Decidable (StgOk (Zb s o))]:decide (StgOk (((s.1.1+1,WT s.1.2 o.1.toNat o.2.1.toNat s.1.1),s.2.1,s.2.2.1,s.2.2.2++(⟨#[48]⟩:ByteArray)):QX))=decide (StgOk (Zb s o)):=d7.2 (by rw[KO h])
theorem X8 (s:(Int×(List (List Int×List Int)))×(List (ByteArray×Int))×(List (Int×Bool))×ByteArray)(o:Int×Int×Bool)[Decidable (StgOk s)][Decidable (StgOk (Zb s o))](hz:Ty.tot ZC s≤2000000):FC Tryz.prog 19 [(true,[dI s.1.1, .dat QZ s.1.2, .dat QJ s.2.1, .dat QR s.2.2.1,dS s.2.2.2]),(true,[dI o.1,dI o.2.1,dB o.2.2])] [] 0 (Is (PV.tup [(true,[dI ((((Q7 s o).1).1).1), .ref 0, .ref 1, .ref 2,dS (((Q7 s o).1).2.2.2)]),(false,[dB ((Q7 s o).2)])]) [(0,some (.arr 198 QS ((((Q7 s o).1).1).2))),(1,some (.arr 90 QY (((Q7 s o).1).2.1))),(2,some (.arr 55 Q5 (((Q7 s o).1).2.2.1)))]):=by
 refine QO Tryz.func19 rfl rfl Tryz.ntmps19 fun O_ hO w0_ N0_ X_ h0_ f0_=> ?_
 refine AC.fact (QI (x:= .tmp 0) (i:=0) (Qb rfl) rfl) fun hi1=>AC.fact (QI (x:= .tmp 1) (i:=0) (Qb rfl) rfl) fun hi2=>AC.fact (QI (x:= .tmp 1) (i:=1) (Qb rfl) rfl) fun hi3=> ?_
 refine w_ ?_
 refine lc (Qy 0 (Qb rfl) rfl rfl (Fresh.of rfl) (nlr rfl))<|lc (Qy 1 (Qb rfl) rfl rfl (Fresh.of rfl) (nlr rfl))<|lc (Qj 2 Xr ZE rfl rfl (Fresh.of rfl) (nlr rfl)) ?_
 iterate 5 refine w_ ?_
 refine AL.fact (Qo (x:= .tmp 8) (Qa rfl)) fun hl4=> ?_
 iterate 7 refine w_ ?_
 refine lc (Ql (YQ s) KE ⟨_,_,rfl,(Qb rfl),rfl⟩ rfl rfl) ?_
 iterate 2 refine w_ ?_
 cases hb5:(decide (StgOk s))
 have hb5':=a7 hb5
 iterate 23 refine w_ ?_
 refine lc (QA YS rfl (ae.1 rfl) rfl rfl)<|lc (Qc (Qa rfl) rfl (Qb rfl) rfl Qz rfl) ?_
 iterate 2 refine w_ ?_
 refine AC.wk (QF 3 (p:=2) (off:=1) 198 QS rfl rfl (Fresh.of rfl) (nlr rfl))<|AC.wk (QF 4 (p:=2) (off:=2) 90 QY rfl rfl (Fresh.of rfl) (nlr rfl))<|AC.wk (QF 5 (p:=2) (off:=3) 55 Q5 rfl rfl (Fresh.of rfl) (nlr rfl))<|Q4 ?_
 subst hO
 have e6:(0:Int)=((((Q7 s o).1).1).1):=by
  (rw[Ye (fun ⟨a1,⟨a2,a3⟩,⟨a4,a5⟩,a6⟩=>by have:=QE a1; first | exact absurd a1 ‹_› | exact absurd ‹_› a6 | omega)]; rfl)
 have e7:(ByteArray.empty:ByteArray)=(((Q7 s o).1).2.2.2):=by
  (rw[Ye (fun ⟨a1,⟨a2,a3⟩,⟨a4,a5⟩,a6⟩=>by have:=QE a1; first | exact absurd a1 ‹_› | exact absurd ‹_› a6 | omega)]; rfl)
 have e8:(false:Bool)=((Q7 s o).2):=by
  (rw[Ye (fun ⟨a1,⟨a2,a3⟩,⟨a4,a5⟩,a6⟩=>by have:=QE a1; first | exact absurd a1 ‹_› | exact absurd ‹_› a6 | omega)]; done)
 exact QD _ _ [(0,3),(1,4),(2,5)] (QB rfl (QG rfl rfl Qz rfl) (Qd rfl)) ((((congrArg (fun z_=>PV.tup [(true,[dI z_, .ref 3, .ref 4, .ref 5,dS ByteArray.empty]),(false,[dB false])]) e6)).trans (congrArg (fun z_=>PV.tup [(true,[dI ((((Q7 s o).1).1).1), .ref 3, .ref 4, .ref 5,dS z_]),(false,[dB false])]) e7)).trans (congrArg (fun z_=>PV.tup [(true,[dI ((((Q7 s o).1).1).1), .ref 3, .ref 4, .ref 5,dS (((Q7 s o).1).2.2.2)]),(false,[dB z_])]) e8)) ⟨(Qp (by (rw[Ye (fun ⟨a1,⟨a2,a3⟩,⟨a4,a5⟩,a6⟩=>by have:=QE a1; first | exact absurd a1 ‹_› | exact absurd ‹_› a6 | omega)]; rfl))),(Qp (by (rw[Ye (fun ⟨a1,⟨a2,a3⟩,⟨a4,a5⟩,a6⟩=>by have:=QE a1; first | exact absurd a1 ‹_› | exact absurd ‹_› a6 | omega)]; rfl))),(Qp (by (rw[Ye (fun ⟨a1,⟨a2,a3⟩,⟨a4,a5⟩,a6⟩=>by have:=QE a1; first | exact absurd a1 ‹_› | exact absurd ‹_› a6 | omega)]; rfl))),trivial⟩ rfl rfl
 have hb5':=a8 hb5
 iterate 3 refine w_ ?_
 refine lgy rfl rfl (Ql (YP o.1 0 ((s.2.2.1.length:Int) - 1)) W9 ⟨_,_,rfl,(Qb rfl),⟨_,_,rfl,(Evl.ev (Qv rfl)),⟨_,_,rfl,(Qb rfl),rfl⟩⟩⟩ rfl rfl) ?_
 iterate 3 refine w_ ?_
 cases hb9:(decide (0≤o.1∧o.1≤((s.2.2.1.length:Int) - 1)))
 have hb9':=a7 hb9
 iterate 16 refine w_ ?_
 refine lc (QA YS rfl (ae.1 rfl) rfl rfl)<|lc (Qc (Qa rfl) rfl (Qb rfl) rfl Qz rfl) ?_
 iterate 2 refine w_ ?_
 refine AC.wk (QF 6 (p:=2) (off:=1) 198 QS rfl rfl (Fresh.of rfl) (nlr rfl))<|AC.wk (QF 7 (p:=2) (off:=2) 90 QY rfl rfl (Fresh.of rfl) (nlr rfl))<|AC.wk (QF 8 (p:=2) (off:=3) 55 Q5 rfl rfl (Fresh.of rfl) (nlr rfl))<|Q4 ?_
 subst hO
 have e10:(0:Int)=((((Q7 s o).1).1).1):=by
  (rw[Ye (fun ⟨a1,⟨a2,a3⟩,⟨a4,a5⟩,a6⟩=>by have:=QE a1; first | exact absurd a1 ‹_› | exact absurd ‹_› a6 | omega)]; rfl)
 have e11:(ByteArray.empty:ByteArray)=(((Q7 s o).1).2.2.2):=by
  (rw[Ye (fun ⟨a1,⟨a2,a3⟩,⟨a4,a5⟩,a6⟩=>by have:=QE a1; first | exact absurd a1 ‹_› | exact absurd ‹_› a6 | omega)]; rfl)
 have e12:(false:Bool)=((Q7 s o).2):=by
  (rw[Ye (fun ⟨a1,⟨a2,a3⟩,⟨a4,a5⟩,a6⟩=>by have:=QE a1; first | exact absurd a1 ‹_› | exact absurd ‹_› a6 | omega)]; done)
 exact QD _ _ [(0,6),(1,7),(2,8)] (QB rfl (QG rfl rfl Qz rfl) (Qd rfl)) ((((congrArg (fun z_=>PV.tup [(true,[dI z_, .ref 6, .ref 7, .ref 8,dS ByteArray.empty]),(false,[dB false])]) e10)).trans (congrArg (fun z_=>PV.tup [(true,[dI ((((Q7 s o).1).1).1), .ref 6, .ref 7, .ref 8,dS z_]),(false,[dB false])]) e11)).trans (congrArg (fun z_=>PV.tup [(true,[dI ((((Q7 s o).1).1).1), .ref 6, .ref 7, .ref 8,dS (((Q7 s o).1).2.2.2)]),(false,[dB z_])]) e12)) ⟨(Qp (by (rw[Ye (fun ⟨a1,⟨a2,a3⟩,⟨a4,a5⟩,a6⟩=>by have:=QE a1; first | exact absurd a1 ‹_› | exact absurd ‹_› a6 | omega)]; rfl))),(Qp (by (rw[Ye (fun ⟨a1,⟨a2,a3⟩,⟨a4,a5⟩,a6⟩=>by have:=QE a1; first | exact absurd a1 ‹_› | exact absurd ‹_› a6 | omega)]; rfl))),(Qp (by (rw[Ye (fun ⟨a1,⟨a2,a3⟩,⟨a4,a5⟩,a6⟩=>by have:=QE a1; first | exact absurd a1 ‹_› | exact absurd ‹_› a6 | omega)]; rfl))),trivial⟩ rfl rfl
 have hb9':=a8 hb9
 iterate 3 refine w_ ?_
 refine lgy rfl rfl (Ql (YP o.2.1 0 ((s.2.2.1.length:Int) - 1)) W9 ⟨_,_,rfl,(Qb rfl),⟨_,_,rfl,(Evl.ev (Qv rfl)),⟨_,_,rfl,(Qb rfl),rfl⟩⟩⟩ rfl rfl) ?_
 iterate 3 refine w_ ?_
 cases hb13:(decide (0≤o.2.1∧o.2.1≤((s.2.2.1.length:Int) - 1)))
 have hb13':=a7 hb13
 iterate 9 refine w_ ?_
 refine lc (QA YS rfl (ae.1 rfl) rfl rfl)<|lc (Qc (Qa rfl) rfl (Qb rfl) rfl Qz rfl) ?_
 iterate 2 refine w_ ?_
 refine AC.wk (QF 9 (p:=2) (off:=1) 198 QS rfl rfl (Fresh.of rfl) (nlr rfl))<|AC.wk (QF 10 (p:=2) (off:=2) 90 QY rfl rfl (Fresh.of rfl) (nlr rfl))<|AC.wk (QF 11 (p:=2) (off:=3) 55 Q5 rfl rfl (Fresh.of rfl) (nlr rfl))<|Q4 ?_
 subst hO
 have e14:(0:Int)=((((Q7 s o).1).1).1):=by
  (rw[Ye (fun ⟨a1,⟨a2,a3⟩,⟨a4,a5⟩,a6⟩=>by have:=QE a1; first | exact absurd a1 ‹_› | exact absurd ‹_› a6 | omega)]; rfl)
 have e15:(ByteArray.empty:ByteArray)=(((Q7 s o).1).2.2.2):=by
  (rw[Ye (fun ⟨a1,⟨a2,a3⟩,⟨a4,a5⟩,a6⟩=>by have:=QE a1; first | exact absurd a1 ‹_› | exact absurd ‹_› a6 | omega)]; rfl)
 have e16:(false:Bool)=((Q7 s o).2):=by
  (rw[Ye (fun ⟨a1,⟨a2,a3⟩,⟨a4,a5⟩,a6⟩=>by have:=QE a1; first | exact absurd a1 ‹_› | exact absurd ‹_› a6 | omega)]; done)
 exact QD _ _ [(0,9),(1,10),(2,11)] (QB rfl (QG rfl rfl Qz rfl) (Qd rfl)) ((((congrArg (fun z_=>PV.tup [(true,[dI z_, .ref 9, .ref 10, .ref 11,dS ByteArray.empty]),(false,[dB false])]) e14)).trans (congrArg (fun z_=>PV.tup [(true,[dI ((((Q7 s o).1).1).1), .ref 9, .ref 10, .ref 11,dS z_]),(false,[dB false])]) e15)).trans (congrArg (fun z_=>PV.tup [(true,[dI ((((Q7 s o).1).1).1), .ref 9, .ref 10, .ref 11,dS (((Q7 s o).1).2.2.2)]),(false,[dB z_])]) e16)) ⟨(Qp (by (rw[Ye (fun ⟨a1,⟨a2,a3⟩,⟨a4,a5⟩,a6⟩=>by have:=QE a1; first | exact absurd a1 ‹_› | exact absurd ‹_› a6 | omega)]; rfl))),(Qp (by (rw[Ye (fun ⟨a1,⟨a2,a3⟩,⟨a4,a5⟩,a6⟩=>by have:=QE a1; first | exact absurd a1 ‹_› | exact absurd ‹_› a6 | omega)]; rfl))),(Qp (by (rw[Ye (fun ⟨a1,⟨a2,a3⟩,⟨a4,a5⟩,a6⟩=>by have:=QE a1; first | exact absurd a1 ‹_› | exact absurd ‹_› a6 | omega)]; rfl))),trivial⟩ rfl rfl
 have hb13':=a8 hb13
 iterate 7 refine w_ ?_
 cases hb17:(decide (o.1=o.2.1))
 have hb17':=a7 hb17
 iterate 5 refine w_ ?_
 refine lc (Q8 12 (Jq s o hz (by have:=QE ‹StgOk s›; omega) (by have:=QE ‹StgOk s›; omega) (by omega) (Qay ‹StgOk s›)) Qf8 ⟨_,_,rfl,(Qb rfl),⟨_,_,rfl,(Qb rfl),rfl⟩⟩ rfl rfl ⟨Fresh.of rfl,Fresh.of rfl,Fresh.of rfl,trivial⟩ (nlr rfl))<|lc (QK 15 [(0,12),(1,13),(2,14)] (Qfm (Zb s o)) Qmf ⟨_,_,rfl,(Qb rfl),rfl⟩ ⟨rfl,rfl,rfl,trivial⟩ rfl ⟨(Fresh.of rfl),(Fresh.of rfl),(Fresh.of rfl),trivial⟩ (nlr rfl)) ?_
 iterate 2 refine w_ ?_
 refine lc (Qc (Qa rfl) rfl (Qb rfl) rfl Qz rfl) ?_
 iterate 3 refine w_ ?_
 subst hO
 have e18:((((Z4 (Zb s o)).1).1).1:Int)=((((Q7 s o).1).1).1):=by
  (rw[KN ⟨‹StgOk s›,by have:=QE ‹StgOk s›; omega,by have:=QE ‹StgOk s›; omega,by omega⟩])
 have e19:(((Z4 (Zb s o)).1).2.2.2:ByteArray)=(((Q7 s o).1).2.2.2):=by
  (rw[KN ⟨‹StgOk s›,by have:=QE ‹StgOk s›; omega,by have:=QE ‹StgOk s›; omega,by omega⟩])
 have e20:((Z4 (Zb s o)).2:Bool)=((Q7 s o).2):=by
  (rw[KN ⟨‹StgOk s›,by have:=QE ‹StgOk s›; omega,by have:=QE ‹StgOk s›; omega,by omega⟩])
 exact QD _ _ [(0,15),(1,16),(2,17)] (QB rfl (QG rfl rfl Qz rfl) (Qd rfl)) ((((congrArg (fun z_=>PV.tup [(true,[dI z_, .ref 15, .ref 16, .ref 17,dS (((Z4 (Zb s o)).1).2.2.2)]),(false,[dB ((Z4 (Zb s o)).2)])]) e18)).trans (congrArg (fun z_=>PV.tup [(true,[dI ((((Q7 s o).1).1).1), .ref 15, .ref 16, .ref 17,dS z_]),(false,[dB ((Z4 (Zb s o)).2)])]) e19)).trans (congrArg (fun z_=>PV.tup [(true,[dI ((((Q7 s o).1).1).1), .ref 15, .ref 16, .ref 17,dS (((Q7 s o).1).2.2.2)]),(false,[dB z_])]) e20)) ⟨(Qp (by (rw[KN ⟨‹StgOk s›,by have:=QE ‹StgOk s›; omega,by have:=QE ‹StgOk s›; omega,by omega⟩]))),(Qp (by (rw[KN ⟨‹StgOk s›,by have:=QE ‹StgOk s›; omega,by have:=QE ‹StgOk s›; omega,by omega⟩]))),(Qp (by (rw[KN ⟨‹StgOk s›,by have:=QE ‹StgOk s›; omega,by have:=QE ‹StgOk s›; omega,by omega⟩]))),trivial⟩ rfl rfl
 have hb17':=a8 hb17
 iterate 2 refine w_ ?_
 refine lc (QA YS rfl (ae.1 rfl) rfl rfl)<|lc (Qc (Qa rfl) rfl (Qb rfl) rfl Qz rfl) ?_
 iterate 2 refine w_ ?_
 refine AC.wk (QF 18 (p:=2) (off:=1) 198 QS rfl rfl (Fresh.of rfl) (nlr rfl))<|AC.wk (QF 19 (p:=2) (off:=2) 90 QY rfl rfl (Fresh.of rfl) (nlr rfl))<|AC.wk (QF 20 (p:=2) (off:=3) 55 Q5 rfl rfl (Fresh.of rfl) (nlr rfl))<|Q4 ?_
 subst hO
 have e21:(0:Int)=((((Q7 s o).1).1).1):=by
  (rw[Ye (fun ⟨a1,⟨a2,a3⟩,⟨a4,a5⟩,a6⟩=>by have:=QE a1; first | exact absurd a1 ‹_› | exact absurd ‹_› a6 | omega)]; rfl)
 have e22:(ByteArray.empty:ByteArray)=(((Q7 s o).1).2.2.2):=by
  (rw[Ye (fun ⟨a1,⟨a2,a3⟩,⟨a4,a5⟩,a6⟩=>by have:=QE a1; first | exact absurd a1 ‹_› | exact absurd ‹_› a6 | omega)]; rfl)
 have e23:(false:Bool)=((Q7 s o).2):=by
  (rw[Ye (fun ⟨a1,⟨a2,a3⟩,⟨a4,a5⟩,a6⟩=>by have:=QE a1; first | exact absurd a1 ‹_› | exact absurd ‹_› a6 | omega)]; done)
 exact QD _ _ [(0,18),(1,19),(2,20)] (QB rfl (QG rfl rfl Qz rfl) (Qd rfl)) ((((congrArg (fun z_=>PV.tup [(true,[dI z_, .ref 18, .ref 19, .ref 20,dS ByteArray.empty]),(false,[dB false])]) e21)).trans (congrArg (fun z_=>PV.tup [(true,[dI ((((Q7 s o).1).1).1), .ref 18, .ref 19, .ref 20,dS z_]),(false,[dB false])]) e22)).trans (congrArg (fun z_=>PV.tup [(true,[dI ((((Q7 s o).1).1).1), .ref 18, .ref 19, .ref 20,dS (((Q7 s o).1).2.2.2)]),(false,[dB z_])]) e23)) ⟨(Qp (by (rw[Ye (fun ⟨a1,⟨a2,a3⟩,⟨a4,a5⟩,a6⟩=>by have:=QE a1; first | exact absurd a1 ‹_› | exact absurd ‹_› a6 | omega)]; rfl))),(Qp (by (rw[Ye (fun ⟨a1,⟨a2,a3⟩,⟨a4,a5⟩,a6⟩=>by have:=QE a1; first | exact absurd a1 ‹_› | exact absurd ‹_› a6 | omega)]; rfl))),(Qp (by (rw[Ye (fun ⟨a1,⟨a2,a3⟩,⟨a4,a5⟩,a6⟩=>by have:=QE a1; first | exact absurd a1 ‹_› | exact absurd ‹_› a6 | omega)]; rfl))),trivial⟩ rfl rfl
theorem QsY {α:Type _}{c:List α}{p q:Nat}(h:p≠q)(a a' x b b' y:α):((((((c.set p a).set p a').set p x).set q b).set q b').set q y)=(c.set p x).set q y:=by
  apply bp
  intro i
  simp only[aY,aq]
  split <;> split <;> simp_all
theorem Ul (s:(Int×(List (List Int×List Int)))×(List (ByteArray×Int))×(List (Int×Bool))×ByteArray)(o:Int×Int×Bool)[Decidable (StgOk s)][Decidable (StgOk (Zb s o))](hz:Ty.tot ZC s≤2000000):FC Tryz.prog 81 [(true,[dI s.1.1, .dat QZ s.1.2, .dat QJ s.2.1, .dat QR s.2.2.1,dS s.2.2.2]),(true,[dI o.1,dI o.2.1,dB o.2.2])] [] 0 (Is (PV.tup [(true,[dI ((((ZA s o).1).1).1), .ref 0, .ref 1, .ref 2,dS (((ZA s o).1).2.2.2)]),(false,[dB ((ZA s o).2)])]) [(0,some (.arr 198 QS ((((ZA s o).1).1).2))),(1,some (.arr 90 QY (((ZA s o).1).2.1))),(2,some (.arr 55 Q5 (((ZA s o).1).2.2.1)))]):=by
 classical
 refine QO Tryz.func81 rfl rfl Tryz.ntmps81 fun O_ hO w0_ N0_ X_ h0_ f0_=> ?_
 refine AC.fact (QI (x:= .tmp 0) (i:=0) (Qb rfl) rfl) fun hi1=>AC.fact (QI (x:= .tmp 1) (i:=0) (Qb rfl) rfl) fun hi2=>AC.fact (QI (x:= .tmp 1) (i:=1) (Qb rfl) rfl) fun hi3=> ?_
 refine w_ ?_
 refine lc (Qy 0 (Qb rfl) rfl rfl (Fresh.of rfl) (nlr rfl))<|lc (Qy 1 (Qb rfl) rfl rfl (Fresh.of rfl) (nlr rfl))<|lc (Qj 2 Xr ZE rfl rfl (Fresh.of rfl) (nlr rfl)) ?_
 iterate 6 refine w_ ?_
 refine AL.fact (Qo (x:= .tmp 11) (Qa rfl)) fun hl4=> ?_
 iterate 6 refine w_ ?_
 refine lc (Ql (Yi s) X3 ⟨_,_,rfl,(Qb rfl),rfl⟩ rfl rfl) ?_
 iterate 2 refine w_ ?_
 cases hb5:(decide (StgOk s))
 have hb5':=a7 hb5
 iterate 25 refine w_ ?_
 refine lc (QA YS rfl (ae.1 rfl) rfl rfl)<|lc (Qc (Qa rfl) rfl (Qb rfl) rfl Qz rfl) ?_
 iterate 2 refine w_ ?_
 refine AC.wk (QF 3 (p:=2) (off:=1) 198 QS rfl rfl (Fresh.of rfl) (nlr rfl))<|AC.wk (QF 4 (p:=2) (off:=2) 90 QY rfl rfl (Fresh.of rfl) (nlr rfl))<|AC.wk (QF 5 (p:=2) (off:=3) 55 Q5 rfl rfl (Fresh.of rfl) (nlr rfl))<|Q4 ?_
 subst hO
 have e6:(0:Int)=((((ZA s o).1).1).1):=by
  (rw[Yb (fun ⟨a1,⟨a2,a3⟩,⟨a4,a5⟩,a6⟩=>by have:=QE a1; first | exact absurd a1 ‹_› | exact absurd ‹_› a6 | omega)]; rfl)
 have e7:(ByteArray.empty:ByteArray)=(((ZA s o).1).2.2.2):=by
  (rw[Yb (fun ⟨a1,⟨a2,a3⟩,⟨a4,a5⟩,a6⟩=>by have:=QE a1; first | exact absurd a1 ‹_› | exact absurd ‹_› a6 | omega)]; rfl)
 have e8:(false:Bool)=((ZA s o).2):=by
  (rw[Yb (fun ⟨a1,⟨a2,a3⟩,⟨a4,a5⟩,a6⟩=>by have:=QE a1; first | exact absurd a1 ‹_› | exact absurd ‹_› a6 | omega)]; done)
 exact QD _ _ [(0,3),(1,4),(2,5)] (QB rfl (QG rfl rfl Qz rfl) (Qd rfl)) ((((congrArg (fun z_=>PV.tup [(true,[dI z_, .ref 3, .ref 4, .ref 5,dS ByteArray.empty]),(false,[dB false])]) e6)).trans (congrArg (fun z_=>PV.tup [(true,[dI ((((ZA s o).1).1).1), .ref 3, .ref 4, .ref 5,dS z_]),(false,[dB false])]) e7)).trans (congrArg (fun z_=>PV.tup [(true,[dI ((((ZA s o).1).1).1), .ref 3, .ref 4, .ref 5,dS (((ZA s o).1).2.2.2)]),(false,[dB z_])]) e8)) ⟨(Qp (by (rw[Yb (fun ⟨a1,⟨a2,a3⟩,⟨a4,a5⟩,a6⟩=>by have:=QE a1; first | exact absurd a1 ‹_› | exact absurd ‹_› a6 | omega)]; rfl))),(Qp (by (rw[Yb (fun ⟨a1,⟨a2,a3⟩,⟨a4,a5⟩,a6⟩=>by have:=QE a1; first | exact absurd a1 ‹_› | exact absurd ‹_› a6 | omega)]; rfl))),(Qp (by (rw[Yb (fun ⟨a1,⟨a2,a3⟩,⟨a4,a5⟩,a6⟩=>by have:=QE a1; first | exact absurd a1 ‹_› | exact absurd ‹_› a6 | omega)]; rfl))),trivial⟩ rfl rfl
 have hb5':=a8 hb5
 iterate 4 refine w_ ?_
 refine lgy rfl rfl (Ql (Xo o.1 0 ((s.1.2.length:Int) - 1)) Wi ⟨_,_,rfl,(Qb rfl),⟨_,_,rfl,(Evl.ev (Qv rfl)),⟨_,_,rfl,(Qb rfl),rfl⟩⟩⟩ rfl rfl) ?_
 iterate 3 refine w_ ?_
 cases hb9:(decide (0≤o.1∧o.1≤((s.1.2.length:Int) - 1)))
 have hb9':=a7 hb9
 iterate 17 refine w_ ?_
 refine lc (QA YS rfl (ae.1 rfl) rfl rfl)<|lc (Qc (Qa rfl) rfl (Qb rfl) rfl Qz rfl) ?_
 iterate 2 refine w_ ?_
 refine AC.wk (QF 6 (p:=2) (off:=1) 198 QS rfl rfl (Fresh.of rfl) (nlr rfl))<|AC.wk (QF 7 (p:=2) (off:=2) 90 QY rfl rfl (Fresh.of rfl) (nlr rfl))<|AC.wk (QF 8 (p:=2) (off:=3) 55 Q5 rfl rfl (Fresh.of rfl) (nlr rfl))<|Q4 ?_
 subst hO
 have e10:(0:Int)=((((ZA s o).1).1).1):=by
  (rw[Yb (fun ⟨a1,⟨a2,a3⟩,⟨a4,a5⟩,a6⟩=>by have:=QE a1; first | exact absurd a1 ‹_› | exact absurd ‹_› a6 | omega)]; rfl)
 have e11:(ByteArray.empty:ByteArray)=(((ZA s o).1).2.2.2):=by
  (rw[Yb (fun ⟨a1,⟨a2,a3⟩,⟨a4,a5⟩,a6⟩=>by have:=QE a1; first | exact absurd a1 ‹_› | exact absurd ‹_› a6 | omega)]; rfl)
 have e12:(false:Bool)=((ZA s o).2):=by
  (rw[Yb (fun ⟨a1,⟨a2,a3⟩,⟨a4,a5⟩,a6⟩=>by have:=QE a1; first | exact absurd a1 ‹_› | exact absurd ‹_› a6 | omega)]; done)
 exact QD _ _ [(0,6),(1,7),(2,8)] (QB rfl (QG rfl rfl Qz rfl) (Qd rfl)) ((((congrArg (fun z_=>PV.tup [(true,[dI z_, .ref 6, .ref 7, .ref 8,dS ByteArray.empty]),(false,[dB false])]) e10)).trans (congrArg (fun z_=>PV.tup [(true,[dI ((((ZA s o).1).1).1), .ref 6, .ref 7, .ref 8,dS z_]),(false,[dB false])]) e11)).trans (congrArg (fun z_=>PV.tup [(true,[dI ((((ZA s o).1).1).1), .ref 6, .ref 7, .ref 8,dS (((ZA s o).1).2.2.2)]),(false,[dB z_])]) e12)) ⟨(Qp (by (rw[Yb (fun ⟨a1,⟨a2,a3⟩,⟨a4,a5⟩,a6⟩=>by have:=QE a1; first | exact absurd a1 ‹_› | exact absurd ‹_› a6 | omega)]; rfl))),(Qp (by (rw[Yb (fun ⟨a1,⟨a2,a3⟩,⟨a4,a5⟩,a6⟩=>by have:=QE a1; first | exact absurd a1 ‹_› | exact absurd ‹_› a6 | omega)]; rfl))),(Qp (by (rw[Yb (fun ⟨a1,⟨a2,a3⟩,⟨a4,a5⟩,a6⟩=>by have:=QE a1; first | exact absurd a1 ‹_› | exact absurd ‹_› a6 | omega)]; rfl))),trivial⟩ rfl rfl
 have hb9':=a8 hb9
 iterate 4 refine w_ ?_
 refine lgy rfl rfl (Ql (Xo o.2.1 0 ((s.1.2.length:Int) - 1)) Wi ⟨_,_,rfl,(Qb rfl),⟨_,_,rfl,(Evl.ev (Qv rfl)),⟨_,_,rfl,(Qb rfl),rfl⟩⟩⟩ rfl rfl) ?_
 iterate 3 refine w_ ?_
 cases hb13:(decide (0≤o.2.1∧o.2.1≤((s.1.2.length:Int) - 1)))
 have hb13':=a7 hb13
 iterate 9 refine w_ ?_
 refine lc (QA YS rfl (ae.1 rfl) rfl rfl)<|lc (Qc (Qa rfl) rfl (Qb rfl) rfl Qz rfl) ?_
 iterate 2 refine w_ ?_
 refine AC.wk (QF 9 (p:=2) (off:=1) 198 QS rfl rfl (Fresh.of rfl) (nlr rfl))<|AC.wk (QF 10 (p:=2) (off:=2) 90 QY rfl rfl (Fresh.of rfl) (nlr rfl))<|AC.wk (QF 11 (p:=2) (off:=3) 55 Q5 rfl rfl (Fresh.of rfl) (nlr rfl))<|Q4 ?_
 subst hO
 have e14:(0:Int)=((((ZA s o).1).1).1):=by
  (rw[Yb (fun ⟨a1,⟨a2,a3⟩,⟨a4,a5⟩,a6⟩=>by have:=QE a1; first | exact absurd a1 ‹_› | exact absurd ‹_› a6 | omega)]; rfl)
 have e15:(ByteArray.empty:ByteArray)=(((ZA s o).1).2.2.2):=by
  (rw[Yb (fun ⟨a1,⟨a2,a3⟩,⟨a4,a5⟩,a6⟩=>by have:=QE a1; first | exact absurd a1 ‹_› | exact absurd ‹_› a6 | omega)]; rfl)
 have e16:(false:Bool)=((ZA s o).2):=by
  (rw[Yb (fun ⟨a1,⟨a2,a3⟩,⟨a4,a5⟩,a6⟩=>by have:=QE a1; first | exact absurd a1 ‹_› | exact absurd ‹_› a6 | omega)]; done)
 exact QD _ _ [(0,9),(1,10),(2,11)] (QB rfl (QG rfl rfl Qz rfl) (Qd rfl)) ((((congrArg (fun z_=>PV.tup [(true,[dI z_, .ref 9, .ref 10, .ref 11,dS ByteArray.empty]),(false,[dB false])]) e14)).trans (congrArg (fun z_=>PV.tup [(true,[dI ((((ZA s o).1).1).1), .ref 9, .ref 10, .ref 11,dS z_]),(false,[dB false])]) e15)).trans (congrArg (fun z_=>PV.tup [(true,[dI ((((ZA s o).1).1).1), .ref 9, .ref 10, .ref 11,dS (((ZA s o).1).2.2.2)]),(false,[dB z_])]) e16)) ⟨(Qp (by (rw[Yb (fun ⟨a1,⟨a2,a3⟩,⟨a4,a5⟩,a6⟩=>by have:=QE a1; first | exact absurd a1 ‹_› | exact absurd ‹_› a6 | omega)]; rfl))),(Qp (by (rw[Yb (fun ⟨a1,⟨a2,a3⟩,⟨a4,a5⟩,a6⟩=>by have:=QE a1; first | exact absurd a1 ‹_› | exact absurd ‹_› a6 | omega)]; rfl))),(Qp (by (rw[Yb (fun ⟨a1,⟨a2,a3⟩,⟨a4,a5⟩,a6⟩=>by have:=QE a1; first | exact absurd a1 ‹_› | exact absurd ‹_› a6 | omega)]; rfl))),trivial⟩ rfl rfl
 have hb13':=a8 hb13
 iterate 7 refine w_ ?_
 cases hb17:(decide (o.1=o.2.1))
 have hb17':=a7 hb17
 iterate 2 refine w_ ?_
 refine YY ?_
 obtain ⟨x,hx⟩:=gx s.1.2 o.1.toNat
 obtain ⟨y,hy⟩:=gx s.1.2 o.2.1.toNat
 have hab:o.1.toNat≠o.2.1.toNat:=by omega
 have hcA:=(KC hx).1
 have hcB:=(KC hy).2
 have hpA:o.1.toNat*2+1 < (ZG QS s.1.2).length:=by rw[Wm]; exact Qry (by omega)
 have hpB:o.2.1.toNat*2+0 < (ZG QS s.1.2).length:=by rw[Wm]; exact Qrs (by omega)
 have hpAB:o.1.toNat*2+1≠o.2.1.toNat*2+0:=by omega
 have hxl:=(QbN hz hx).2
 have hyl:=(QbN hz hy).1
 have hsz:=HQ hz
 have hpl:=Qay ‹StgOk s›
 iterate 2 refine w_ ?_
 refine lc (Q8 12 (Qad s hz) QfW ⟨_,_,rfl,(Qb rfl),rfl⟩ rfl rfl ⟨Fresh.of rfl,Fresh.of rfl,Fresh.of rfl,trivial⟩ (nlr rfl))<|lc (Qj 15 Xr ZE rfl rfl (Fresh.of rfl) (nlr rfl))<|lc (Qc (Qa rfl) rfl (Qb rfl) rfl Qz rfl) ?_
 iterate 14 refine w_ ?_
 refine lc (Qc (Qa rfl) rfl (Qb rfl) rfl QL rfl) ?_
 refine w_ ?_
 refine AC.wk (Qc0 (q:=12) rfl (by omega))<|AC.wk (V7 16 (q:=12) (p:=(o.1).toNat*2+1) (E':=3) (e':= .int) (ys:=x.2) rfl (hcA) (Fresh.of rfl) (aC rfl)) ?_
 refine dw [io 51 (lP 15 0),io 52 (lP 15 1),io 53 (lR 12),io 54 (lP 1 0),io 55 (lI o.1),io 56 (lP 15 0),io 57 (lP 15 1),io 58 (lR 12),io 59 (lP 1 0),io 60 (lI o.1),io 61 (lf (.ept 12 2 ((o.1).toNat) 0)),io 62 (lf (.ept 12 2 ((o.1).toNat) 1)),io 63 (lR 16),io 64 (lI s.1.1),⟨some 65,lR 17,[(17,some (.arr 3 .int ([s.1.1])))]⟩,⟨some 66,lR 18,[(18,some (.arr 3 .int (x.2++([s.1.1])))),(16,none),(17,none)]⟩,io 67 (lf (.ept 12 2 ((o.1).toNat) 0)),io 68 (lf (.ept 12 2 ((o.1).toNat) 1)),⟨none,lf (.val undef),[(12,some (.obx 198 2 ((s.1.2).length) (ZG QS (s.1.2)) [((o.1).toNat*2+1, .ref 18),((o.1).toNat*2+1, .ref 16)]))]⟩] [0,1,3,0,8,0,32,96,0,256,992,2016,4064,0,8192,32736,65535,131071,262143] mixed rfl (by kernel_rfl) ⟨dxf Z1 rfl rfl rfl,dxf Zz rfl rfl rfl,dxl Yf rfl rfl rfl rfl rfl,dxf Qe4 rfl rfl rfl,dxl QL rfl rfl rfl rfl rfl,dxf Z1 rfl rfl rfl,dxf Zz rfl rfl rfl,dxl Yf rfl rfl rfl rfl rfl,dxf Qe4 rfl rfl rfl,dxl QL rfl rfl rfl rfl rfl,fun _ h_=>ac (YN (h_.v rfl) (h_.en 12 rfl) (h_.v rfl) Zw Zn rfl (by omega) (by omega)) rfl,fun _ h_=>ac (ZI (h_.v rfl) YV (by rw[(h_.en 12 rfl)]; rfl) rfl) rfl,fun _ h_=>ac (W5 (h_.v rfl) (h_.en 12 rfl) (by simp only[ovr,aY,aq,hpA,hpB,hpAB,hpAB.symm,hcA,hcB,cB,if_true,if_false,↓reduceIte]) (h_.en 16 rfl) QU rfl) rfl,dxm rfl rfl,fun _ h_=>ac (Qf 17 (e:= .int) QN QL Yu rfl ⟨_,_,rfl,(h_.w rfl),rfl⟩ (ae.1 rfl) ⟨_,_,_,_,rfl,⟨rfl,rfl⟩,⟨rfl,rfl⟩,rfl⟩ (by decide) rfl rfl (h_.fr 17 rfl) (nlr rfl)) rfl,fun _ h_=>ac (QH 18 (h_.v rfl) (h_.en 16 rfl) (h_.v rfl) (h_.en 17 rfl) rfl QN Wd (by first | omega | (simp only[aa,av,ab,ah,aj]; omega) | (simp only[aa,ay,ab,ah,aj]; omega)) rfl (h_.fr 18 rfl) (nlr rfl)) rfl,fun _ h_=>ac (YN (h_.v rfl) (h_.en 12 rfl) (h_.v rfl) Zw Zn rfl (by omega) (by omega)) rfl,fun _ h_=>ac (ZI (h_.v rfl) YV (by rw[(h_.en 12 rfl)]; rfl) rfl) rfl,fun _ h_=>ac (Wp (t:=16) (h_.v rfl) (h_.en 12 rfl) (by simp only[ovr,aY,aq,hpA,hpB,hpAB,hpAB.symm,hcA,hcB,cB,if_true,if_false,↓reduceIte]) (h_.v rfl) (h_.en 18 rfl) QU) rfl,⟨⟩⟩ ?_
 refine AC.wk (Ki (q:=12) (t:=18) (p:=(o.1).toNat*2+1) rfl (by simp only[ovr,aY,aq,hpA,hpB,hpAB,hpAB.symm,hcA,hcB,cB,if_true,if_false,↓reduceIte]) rfl) ?_
 refine AC.wk (V7 19 (q:=12) (p:=(o.2.1).toNat*2+0) (E':=3) (e':= .int) (ys:=y.1) rfl (by simp only[ovr,aY,aq,hpA,hpB,hpAB,hpAB.symm,hcA,hcB,cB,if_true,if_false,↓reduceIte]) (Fresh.of rfl) (aC rfl)) ?_
 refine dw [io 69 (lP 15 0),io 70 (lP 15 1),io 71 (lR 12),io 72 (lP 1 1),io 73 (lI o.2.1),io 74 (lP 15 0),io 75 (lP 15 1),io 76 (lR 12),io 77 (lP 1 1),io 78 (lI o.2.1),io 79 (lf (.ept 12 2 ((o.2.1).toNat) 0)),io 80 (lf (.ept 12 2 ((o.2.1).toNat) 0)),io 81 (lR 19),io 82 (lI s.1.1),⟨some 83,lR 20,[(20,some (.arr 3 .int ([s.1.1])))]⟩,⟨some 84,lR 21,[(21,some (.arr 3 .int (y.1++([s.1.1])))),(19,none),(20,none)]⟩,io 85 (lf (.ept 12 2 ((o.2.1).toNat) 0)),io 86 (lf (.ept 12 2 ((o.2.1).toNat) 0)),⟨none,lf (.val undef),[(12,some (.obx 198 2 ((s.1.2).length) (ZG QS (s.1.2)) [((o.2.1).toNat*2+0, .ref 21),((o.2.1).toNat*2+0, .ref 19),((o.1).toNat*2+1, .dat Qs (x.2++([s.1.1]))),((o.1).toNat*2+1, .ref 18),((o.1).toNat*2+1, .ref 16)]))]⟩] [0,1,3,0,8,0,32,96,0,256,992,2016,4064,0,8192,32736,65535,131071,262143] mixed rfl (by kernel_rfl) ⟨dxf Z1 rfl rfl rfl,dxf Zz rfl rfl rfl,dxl Yf rfl rfl rfl rfl rfl,dxf Qe3 rfl rfl rfl,dxl QL rfl rfl rfl rfl rfl,dxf Z1 rfl rfl rfl,dxf Zz rfl rfl rfl,dxl Yf rfl rfl rfl rfl rfl,dxf Qe3 rfl rfl rfl,dxl QL rfl rfl rfl rfl rfl,fun _ h_=>ac (YN (h_.v rfl) (h_.en 12 rfl) (h_.v rfl) Zw Zn rfl (by omega) (by omega)) rfl,fun _ h_=>ac (ZI (h_.v rfl) Z0 (by rw[(h_.en 12 rfl)]; rfl) rfl) rfl,fun _ h_=>ac (W5 (h_.v rfl) (h_.en 12 rfl) (by simp only[ovr,aY,aq,hpA,hpB,hpAB,hpAB.symm,hcA,hcB,cB,if_true,if_false,↓reduceIte]) (h_.en 19 rfl) QU rfl) rfl,dxm rfl rfl,fun _ h_=>ac (Qf 20 (e:= .int) QN QL Yu rfl ⟨_,_,rfl,(h_.w rfl),rfl⟩ (ae.1 rfl) ⟨_,_,_,_,rfl,⟨rfl,rfl⟩,⟨rfl,rfl⟩,rfl⟩ (by decide) rfl rfl (h_.fr 20 rfl) (nlr rfl)) rfl,fun _ h_=>ac (QH 21 (h_.v rfl) (h_.en 19 rfl) (h_.v rfl) (h_.en 20 rfl) rfl QN Wd (by first | omega | (simp only[aa,av,ab,ah,aj]; omega) | (simp only[aa,ay,ab,ah,aj]; omega)) rfl (h_.fr 21 rfl) (nlr rfl)) rfl,fun _ h_=>ac (YN (h_.v rfl) (h_.en 12 rfl) (h_.v rfl) Zw Zn rfl (by omega) (by omega)) rfl,fun _ h_=>ac (ZI (h_.v rfl) Z0 (by rw[(h_.en 12 rfl)]; rfl) rfl) rfl,fun _ h_=>ac (Wp (t:=19) (h_.v rfl) (h_.en 12 rfl) (by simp only[ovr,aY,aq,hpA,hpB,hpAB,hpAB.symm,hcA,hcB,cB,if_true,if_false,↓reduceIte]) (h_.v rfl) (h_.en 21 rfl) QU) rfl,⟨⟩⟩ ?_
 refine w_ ?_
 refine YY ?_
 refine AC.wk (Ki (q:=12) (t:=21) (p:=(o.2.1).toNat*2+0) rfl (by simp only[ovr,aY,aq,hpA,hpB,hpAB,hpAB.symm,hcA,hcB,cB,if_true,if_false,↓reduceIte]) rfl) ?_
 refine AC.wk (Qbg (q:=12) (e:=QS) (WT s.1.2 (o.1).toNat (o.2.1).toNat s.1.1) rfl (by simp[WT]) (by simp only[ovr]; rw[QsY hpAB,QaV hx,Qao (by rw[aX hab]; exact hy),Qin hx hy hab])) ?_
 iterate 4 refine w_ ?_
 cases hb18:(o.2.2)
 iterate 4 refine w_ ?_
 refine lc (Z9 (Qa rfl) (Evl.str rfl) rfl (by simp only[XZ]; omega)) ?_
 refine w_ ?_
 refine lc (Qc (Qa rfl) rfl (Qb rfl) rfl Zg rfl) ?_
 refine w_ ?_
 refine dw [io 97 (ag [dI (s.1.1+1), .ref 12, .ref 13, .ref 14,dS (s.2.2.2++(⟨#[48]⟩:ByteArray))]),io 98 (ag [dI (s.1.1+1), .ref 12, .ref 13, .ref 14,dS (s.2.2.2++(⟨#[48]⟩:ByteArray))]),io 99 (lB (decide (StgOk ((s.1.1+1,WT s.1.2 (o.1).toNat (o.2.1).toNat s.1.1),s.2.1,s.2.2.1,s.2.2.2++(⟨#[48]⟩:ByteArray))))),⟨none,lf (.val undef),[(2,some (.box 29 [dI (s.1.1+1), .ref 12, .ref 13, .ref 14,dS (s.2.2.2++(⟨#[48]⟩:ByteArray))]))]⟩,io 5 (lB (decide (StgOk ((s.1.1+1,WT s.1.2 (o.1).toNat (o.2.1).toNat s.1.1),s.2.1,s.2.2.1,s.2.2.2++(⟨#[48]⟩:ByteArray)))))] [0,0,2,7,15] mixed rfl (by kernel_rfl) ⟨dxa Qz rfl rfl rfl rfl,dxa Qz rfl rfl rfl rfl,fun _ h_=>ac (Yv (Yi ((s.1.1+1,WT s.1.2 (o.1).toNat (o.2.1).toNat s.1.1),s.2.1,s.2.2.1,s.2.2.2++(⟨#[48]⟩:ByteArray))) X3 ⟨_,_,rfl,(UM (h_.w rfl) ⟨_,_,rfl, .inl rfl,⟨_,_,rfl, .inr ⟨_,_,_,_,rfl,(h_.n 12 rfl),rfl⟩,⟨_,_,rfl, .inr ⟨_,_,_,_,rfl,(h_.n 13 rfl),rfl⟩,⟨_,_,rfl, .inr ⟨_,_,_,_,rfl,(h_.n 14 rfl),rfl⟩,⟨_,_,rfl, .inl rfl,rfl⟩⟩⟩⟩⟩),rfl⟩ rfl rfl rfl) rfl,fun _ h_=>ac (Qc (h_.v rfl) (h_.en 2 rfl) (h_.w rfl) (by simp only[ZB,X7,aQ,b8]; rw[(h_.en 12 rfl),(h_.en 13 rfl),(h_.en 14 rfl)]; rfl) Qz rfl) rfl,dxt rfl rfl,⟨⟩⟩<|Q4 ?_
 subst hO
 have e19:(s.1.1+1:Int)=((((ZA s o).1).1).1):=by
  (rw[Xt ⟨‹StgOk s›,by omega,by omega,by omega⟩]; first | done | rfl | exact congrArg (fun z=>z.2.2.2) (KH (s:=s) (o:=o) ‹_›) | exact congrArg (fun z=>z.2.2.2) (KO (s:=s) (o:=o) ‹_›) | exact Jn ‹_› | exact Ji ‹_›)
 have e20:(s.2.2.2++(⟨#[48]⟩:ByteArray):ByteArray)=(((ZA s o).1).2.2.2):=by
  (rw[Xt ⟨‹StgOk s›,by omega,by omega,by omega⟩]; first | done | rfl | exact congrArg (fun z=>z.2.2.2) (KH (s:=s) (o:=o) ‹_›) | exact congrArg (fun z=>z.2.2.2) (KO (s:=s) (o:=o) ‹_›) | exact Jn ‹_› | exact Ji ‹_›)
 have e21:(decide (StgOk ((s.1.1+1,WT s.1.2 (o.1).toNat (o.2.1).toNat s.1.1),s.2.1,s.2.2.1,s.2.2.2++(⟨#[48]⟩:ByteArray))):Bool)=((ZA s o).2):=by
  (rw[Xt ⟨‹StgOk s›,by omega,by omega,by omega⟩]; first | done | rfl | exact congrArg (fun z=>z.2.2.2) (KH (s:=s) (o:=o) ‹_›) | exact congrArg (fun z=>z.2.2.2) (KO (s:=s) (o:=o) ‹_›) | exact Jn ‹_› | exact Ji ‹_›)
 exact QD _ _ [(0,12),(1,13),(2,14)] (QB rfl (QG rfl rfl Qz rfl) (Qd rfl)) ((((congrArg (fun z_=>PV.tup [(true,[dI z_, .ref 12, .ref 13, .ref 14,dS (s.2.2.2++(⟨#[48]⟩:ByteArray))]),(false,[dB (decide (StgOk ((s.1.1+1,WT s.1.2 (o.1).toNat (o.2.1).toNat s.1.1),s.2.1,s.2.2.1,s.2.2.2++(⟨#[48]⟩:ByteArray))))])]) e19)).trans (congrArg (fun z_=>PV.tup [(true,[dI ((((ZA s o).1).1).1), .ref 12, .ref 13, .ref 14,dS z_]),(false,[dB (decide (StgOk ((s.1.1+1,WT s.1.2 (o.1).toNat (o.2.1).toNat s.1.1),s.2.1,s.2.2.1,s.2.2.2++(⟨#[48]⟩:ByteArray))))])]) e20)).trans (congrArg (fun z_=>PV.tup [(true,[dI ((((ZA s o).1).1).1), .ref 12, .ref 13, .ref 14,dS (((ZA s o).1).2.2.2)]),(false,[dB z_])]) e21)) ⟨(Qp (by (rw[Xt ⟨‹StgOk s›,by omega,by omega,by omega⟩]; first | done | rfl | exact congrArg (fun z=>z.2.2.2) (KH (s:=s) (o:=o) ‹_›) | exact congrArg (fun z=>z.2.2.2) (KO (s:=s) (o:=o) ‹_›) | exact Jn ‹_› | exact Ji ‹_›))),(Qp (by (rw[Xt ⟨‹StgOk s›,by omega,by omega,by omega⟩]; first | done | rfl | exact congrArg (fun z=>z.2.2.2) (KH (s:=s) (o:=o) ‹_›) | exact congrArg (fun z=>z.2.2.2) (KO (s:=s) (o:=o) ‹_›) | exact Jn ‹_› | exact Ji ‹_›))),(Qp (by (rw[Xt ⟨‹StgOk s›,by omega,by omega,by omega⟩]; first | done | rfl | exact congrArg (fun z=>z.2.2.2) (KH (s:=s) (o:=o) ‹_›) | exact congrArg (fun z=>z.2.2.2) (KO (s:=s) (o:=o) ‹_›) | exact Jn ‹_› | exact Ji ‹_›))),trivial⟩ rfl rfl
 iterate 4 refine w_ ?_
 refine lc (Z9 (Qa rfl) (Evl.str rfl) rfl (by simp only[XZ]; omega)) ?_
 refine w_ ?_
 refine lc (Qc (Qa rfl) rfl (Qb rfl) rfl Zg rfl) ?_
 refine w_ ?_
 refine dw [io 97 (ag [dI (s.1.1+1), .ref 12, .ref 13, .ref 14,dS (s.2.2.2++(⟨#[49]⟩:ByteArray))]),io 98 (ag [dI (s.1.1+1), .ref 12, .ref 13, .ref 14,dS (s.2.2.2++(⟨#[49]⟩:ByteArray))]),io 99 (lB (decide (StgOk ((s.1.1+1,WT s.1.2 (o.1).toNat (o.2.1).toNat s.1.1),s.2.1,s.2.2.1,s.2.2.2++(⟨#[49]⟩:ByteArray))))),⟨none,lf (.val undef),[(2,some (.box 29 [dI (s.1.1+1), .ref 12, .ref 13, .ref 14,dS (s.2.2.2++(⟨#[49]⟩:ByteArray))]))]⟩,io 5 (lB (decide (StgOk ((s.1.1+1,WT s.1.2 (o.1).toNat (o.2.1).toNat s.1.1),s.2.1,s.2.2.1,s.2.2.2++(⟨#[49]⟩:ByteArray)))))] [0,0,2,7,15] mixed rfl (by kernel_rfl) ⟨dxa Qz rfl rfl rfl rfl,dxa Qz rfl rfl rfl rfl,fun _ h_=>ac (Yv (Yi ((s.1.1+1,WT s.1.2 (o.1).toNat (o.2.1).toNat s.1.1),s.2.1,s.2.2.1,s.2.2.2++(⟨#[49]⟩:ByteArray))) X3 ⟨_,_,rfl,(UM (h_.w rfl) ⟨_,_,rfl, .inl rfl,⟨_,_,rfl, .inr ⟨_,_,_,_,rfl,(h_.n 12 rfl),rfl⟩,⟨_,_,rfl, .inr ⟨_,_,_,_,rfl,(h_.n 13 rfl),rfl⟩,⟨_,_,rfl, .inr ⟨_,_,_,_,rfl,(h_.n 14 rfl),rfl⟩,⟨_,_,rfl, .inl rfl,rfl⟩⟩⟩⟩⟩),rfl⟩ rfl rfl rfl) rfl,fun _ h_=>ac (Qc (h_.v rfl) (h_.en 2 rfl) (h_.w rfl) (by simp only[ZB,X7,aQ,b8]; rw[(h_.en 12 rfl),(h_.en 13 rfl),(h_.en 14 rfl)]; rfl) Qz rfl) rfl,dxt rfl rfl,⟨⟩⟩<|Q4 ?_
 subst hO
 have e22:(s.1.1+1:Int)=((((ZA s o).1).1).1):=by
  (rw[Xt ⟨‹StgOk s›,by omega,by omega,by omega⟩]; first | done | rfl | exact congrArg (fun z=>z.2.2.2) (KH (s:=s) (o:=o) ‹_›) | exact congrArg (fun z=>z.2.2.2) (KO (s:=s) (o:=o) ‹_›) | exact Jn ‹_› | exact Ji ‹_›)
 have e23:(s.2.2.2++(⟨#[49]⟩:ByteArray):ByteArray)=(((ZA s o).1).2.2.2):=by
  (rw[Xt ⟨‹StgOk s›,by omega,by omega,by omega⟩]; first | done | rfl | exact congrArg (fun z=>z.2.2.2) (KH (s:=s) (o:=o) ‹_›) | exact congrArg (fun z=>z.2.2.2) (KO (s:=s) (o:=o) ‹_›) | exact Jn ‹_› | exact Ji ‹_›)
 have e24:(decide (StgOk ((s.1.1+1,WT s.1.2 (o.1).toNat (o.2.1).toNat s.1.1),s.2.1,s.2.2.1,s.2.2.2++(⟨#[49]⟩:ByteArray))):Bool)=((ZA s o).2):=by
  (rw[Xt ⟨‹StgOk s›,by omega,by omega,by omega⟩]; first | done | rfl | exact congrArg (fun z=>z.2.2.2) (KH (s:=s) (o:=o) ‹_›) | exact congrArg (fun z=>z.2.2.2) (KO (s:=s) (o:=o) ‹_›) | exact Jn ‹_› | exact Ji ‹_›)
 exact QD _ _ [(0,12),(1,13),(2,14)] (QB rfl (QG rfl rfl Qz rfl) (Qd rfl)) ((((congrArg (fun z_=>PV.tup [(true,[dI z_, .ref 12, .ref 13, .ref 14,dS (s.2.2.2++(⟨#[49]⟩:ByteArray))]),(false,[dB (decide (StgOk ((s.1.1+1,WT s.1.2 (o.1).toNat (o.2.1).toNat s.1.1),s.2.1,s.2.2.1,s.2.2.2++(⟨#[49]⟩:ByteArray))))])]) e22)).trans (congrArg (fun z_=>PV.tup [(true,[dI ((((ZA s o).1).1).1), .ref 12, .ref 13, .ref 14,dS z_]),(false,[dB (decide (StgOk ((s.1.1+1,WT s.1.2 (o.1).toNat (o.2.1).toNat s.1.1),s.2.1,s.2.2.1,s.2.2.2++(⟨#[49]⟩:ByteArray))))])]) e23)).trans (congrArg (fun z_=>PV.tup [(true,[dI ((((ZA s o).1).1).1), .ref 12, .ref 13, .ref 14,dS (((ZA s o).1).2.2.2)]),(false,[dB z_])]) e24)) ⟨(Qp (by (rw[Xt ⟨‹StgOk s›,by omega,by omega,by omega⟩]; first | done | rfl | exact congrArg (fun z=>z.2.2.2) (KH (s:=s) (o:=o) ‹_›) | exact congrArg (fun z=>z.2.2.2) (KO (s:=s) (o:=o) ‹_›) | exact Jn ‹_› | exact Ji ‹_›))),(Qp (by (rw[Xt ⟨‹StgOk s›,by omega,by omega,by omega⟩]; first | done | rfl | exact congrArg (fun z=>z.2.2.2) (KH (s:=s) (o:=o) ‹_›) | exact congrArg (fun z=>z.2.2.2) (KO (s:=s) (o:=o) ‹_›) | exact Jn ‹_› | exact Ji ‹_›))),(Qp (by (rw[Xt ⟨‹StgOk s›,by omega,by omega,by omega⟩]; first | done | rfl | exact congrArg (fun z=>z.2.2.2) (KH (s:=s) (o:=o) ‹_›) | exact congrArg (fun z=>z.2.2.2) (KO (s:=s) (o:=o) ‹_›) | exact Jn ‹_› | exact Ji ‹_›))),trivial⟩ rfl rfl
 have hb17':=a8 hb17
 iterate 2 refine w_ ?_
 refine lc (QA YS rfl (ae.1 rfl) rfl rfl)<|lc (Qc (Qa rfl) rfl (Qb rfl) rfl Qz rfl) ?_
 iterate 2 refine w_ ?_
 refine AC.wk (QF 22 (p:=2) (off:=1) 198 QS rfl rfl (Fresh.of rfl) (nlr rfl))<|AC.wk (QF 23 (p:=2) (off:=2) 90 QY rfl rfl (Fresh.of rfl) (nlr rfl))<|AC.wk (QF 24 (p:=2) (off:=3) 55 Q5 rfl rfl (Fresh.of rfl) (nlr rfl))<|Q4 ?_
 subst hO
 have e25:(0:Int)=((((ZA s o).1).1).1):=by
  (rw[Yb (fun ⟨a1,⟨a2,a3⟩,⟨a4,a5⟩,a6⟩=>by have:=QE a1; first | exact absurd a1 ‹_› | exact absurd ‹_› a6 | omega)]; rfl)
 have e26:(ByteArray.empty:ByteArray)=(((ZA s o).1).2.2.2):=by
  (rw[Yb (fun ⟨a1,⟨a2,a3⟩,⟨a4,a5⟩,a6⟩=>by have:=QE a1; first | exact absurd a1 ‹_› | exact absurd ‹_› a6 | omega)]; rfl)
 have e27:(false:Bool)=((ZA s o).2):=by
  (rw[Yb (fun ⟨a1,⟨a2,a3⟩,⟨a4,a5⟩,a6⟩=>by have:=QE a1; first | exact absurd a1 ‹_› | exact absurd ‹_› a6 | omega)]; done)
 exact QD _ _ [(0,22),(1,23),(2,24)] (QB rfl (QG rfl rfl Qz rfl) (Qd rfl)) ((((congrArg (fun z_=>PV.tup [(true,[dI z_, .ref 22, .ref 23, .ref 24,dS ByteArray.empty]),(false,[dB false])]) e25)).trans (congrArg (fun z_=>PV.tup [(true,[dI ((((ZA s o).1).1).1), .ref 22, .ref 23, .ref 24,dS z_]),(false,[dB false])]) e26)).trans (congrArg (fun z_=>PV.tup [(true,[dI ((((ZA s o).1).1).1), .ref 22, .ref 23, .ref 24,dS (((ZA s o).1).2.2.2)]),(false,[dB z_])]) e27)) ⟨(Qp (by (rw[Yb (fun ⟨a1,⟨a2,a3⟩,⟨a4,a5⟩,a6⟩=>by have:=QE a1; first | exact absurd a1 ‹_› | exact absurd ‹_› a6 | omega)]; rfl))),(Qp (by (rw[Yb (fun ⟨a1,⟨a2,a3⟩,⟨a4,a5⟩,a6⟩=>by have:=QE a1; first | exact absurd a1 ‹_› | exact absurd ‹_› a6 | omega)]; rfl))),(Qp (by (rw[Yb (fun ⟨a1,⟨a2,a3⟩,⟨a4,a5⟩,a6⟩=>by have:=QE a1; first | exact absurd a1 ‹_› | exact absurd ‹_› a6 | omega)]; rfl))),trivial⟩ rfl rfl
theorem QgH {s:QX}{o:Qq}[Decidable (StgOk s)][Decidable (StgOk (Zb s o))](h:(ZA s o).2=true):(ZA s o).1=(Q7 s o).1∧true=(Q7 s o).2:=by
  unfold ZA Q7 at*
  split at h
  · rename_i h1
    rw[if_pos h1,if_pos h1]
    unfold Z4
    rw[if_pos (a8 h)]
    exact ⟨rfl,rfl⟩
  · cases h
theorem Qj4 {s:QX}{o:Qq}[Decidable (StgOk s)][Decidable (StgOk (Zb s o))](h:(ZA s o).2=false):Q7 s o=(Y7,false):=by
  unfold ZA Q7 at*
  split at h
  · rename_i h1
    rw[if_pos h1]
    unfold Z4
    rw[if_neg (a7 h)]
  · rename_i h1
    rw[if_neg h1]
end Go.Proofs.YtjaadeknhofhpaaGreat
namespace Go.Proofs.YtjaadeknhofhpaaGreat
open Go.RowKit
set_option maxRecDepth 100000
set_option maxHeartbeats 4000000
section
variable {α:Type _}(f:α→Int→α×Int)
def QT:List α→Int→List α×Int
  | [],k=>([],k)
  | x :: xs,k=>((f x k).1 :: (QT xs (f x k).2).1,(QT xs (f x k).2).2)
def mkA (a:List α)(k:Int)(i:Nat):List α:=(QT f (a.take i) k).1++a.drop i
def mkC (a:List α)(k:Int)(i:Nat):Int:=(QT f (a.take i) k).2
variable {f}
end
@[reducible] def fI:Int→Int→Int×Int:=fun _ k=>(k,k+1)
@[reducible] def fL:Int×Bool→Int→(Int×Bool)×Int:=fun _ k=>((k,decide ((k+1) % 3=0)),k+2)
end Go.Proofs.YtjaadeknhofhpaaGreat
namespace Go.Proofs.YtjaadeknhofhpaaGreat
open Go.RowKit
set_option maxRecDepth 100000
set_option maxHeartbeats 4000000
@[reducible] def fT:List Int×List Int→Int→(List Int×List Int)×Int:=fun t k=>(((QT fI t.1 k).1,(QT fI t.2 (QT fI t.1 k).2).1),(QT fI t.2 (QT fI t.1 k).2).2)
def cT (t:List Int×List Int):Nat:=t.1.length+t.2.length
def Qo9 (a:List (List Int×List Int)):Nat:=(a.map cT).sum
end Go.Proofs.YtjaadeknhofhpaaGreat
namespace Go.Proofs.YtjaadeknhofhpaaGreat
open Go.RowKit
set_option maxRecDepth 100000
set_option maxHeartbeats 4000000
def dg (k:Int):Nat→ByteArray
  | 0=>(⟨#[]⟩:ByteArray)
  | j+1=>(⟨#[UInt8.ofNat ((48+(k / 10 ^ j) % 10):Int).toNat]⟩:ByteArray)++dg k j
def mt (k:Int):Nat→Nat→ByteArray
  | 0,j=>dg k j
  | n+1,j=>if k / 10 ^ j≤0 then dg k j else mt k n (j+1)
def QqY (k:Int):ByteArray:=if k≤0 then (⟨#[109,48]⟩:ByteArray) else (⟨#[109]⟩:ByteArray)++mt k 20 0
end Go.Proofs.YtjaadeknhofhpaaGreat
namespace Go.Proofs.YtjaadeknhofhpaaGreat
open Go.RowKit
set_option maxRecDepth 100000
set_option maxHeartbeats 4000000
@[reducible] def fS:ByteArray×Int→Int→(ByteArray×Int)×Int:=fun _ k=>((QqY k,k+1),k+2)
def Qui (s:QX)(k:Int):QX×Int:=(((s.1.1,(QT fT s.1.2 k).1),(QT fS s.2.1 (QT fT s.1.2 k).2).1,(QT fL s.2.2.1 (QT fS s.2.1 (QT fT s.1.2 k).2).2).1,s.2.2.2),(QT fL s.2.2.1 (QT fS s.2.1 (QT fT s.1.2 k).2).2).2)
end Go.Proofs.YtjaadeknhofhpaaGreat
namespace Go.Proofs.YtjaadeknhofhpaaGreat
open Go.RowKit
set_option maxRecDepth 100000
set_option maxHeartbeats 4000000
theorem QeL {α:Type _}(g:α→Nat)(f:α→α)(c:Nat)(h:∀x,g (f x)≤g x+c)(xs:List α)(i:Nat):((xs.modify i f).map g).sum≤(xs.map g).sum+c:=by
  induction xs generalizing i with
  | nil=>simp
  | cons x xs ih=>
    cases i with
    | zero=>simp only[List.modify_zero_cons,aW,List.sum_cons]; have:=h x; omega
    | succ i=>simp only[List.modify_succ_cons,aW,List.sum_cons]; have:=ih i; omega
theorem Qrh (t:QW):Ty.tot Zk t=cT t:=by
  have:Ty.tot Zk t=(t.1.length+(t.1.map (Ty.tot .int)).sum)+(t.2.length+(t.2.map (Ty.tot .int)).sum):=rfl
  rw[this,QbF t.1 (Ty.tot .int) (fun _=>rfl),QbF t.2 (Ty.tot .int) (fun _=>rfl)]
  simp[cT]
theorem QkZ (n:Xj):Ty.tot UD n=n.2.length+Qo9 n.2:=by
  have:Ty.tot UD n=0+(n.2.length+(n.2.map (Ty.tot Zk)).sum):=rfl
  rw[this,ck (g:=cT) fun t _=>Qrh t,Qo9]
  omega
theorem Qlj (s:QX):Ty.tot ZC s=Ty.tot UD s.1+((s.2.1.length+(s.2.1.map (Ty.tot Y6)).sum)+((s.2.2.1.length+(s.2.2.1.map (Ty.tot Wj)).sum)+s.2.2.2.size)):=rfl
theorem QeB (s:QX)(o:Qq):Ty.tot ZC (Zb s o)≤Ty.tot ZC s+3:=by
  rw[Qlj,Qlj,QkZ,QkZ]
  have h1:Qo9 (Zb s o).1.2≤Qo9 s.1.2+2:=by
    show ((WT s.1.2 o.1.toNat o.2.1.toNat s.1.1).map cT).sum≤_
    unfold WT
    refine b5 (QeL cT _ 1 (fun t=> ?_) _ _) ?_
    · simp[cT]; omega
    · have := QeL cT (fun t : QW => (t.1, t.2 ++ [s.1.1])) 1 (fun t => by simp [cT]; omega) s.1.2 o.1.toNat
      unfold Qo9; omega
  have h2:(Zb s o).1.2.length=s.1.2.length:=by simp[Zb,WT]
  have h3:(Zb s o).2.2.2.size=s.2.2.2.size+1:=by
    show (s.2.2.2++KX o.2.2).size=_
    rw[aV]
    rfl
  have h4:(Zb s o).2.1=s.2.1:=rfl
  have h5:(Zb s o).2.2.1=s.2.2.1:=rfl
  rw[h2,h3,h4,h5]
  omega
theorem Qij (s:QX)(o:Qq)[Decidable (StgOk s)][Decidable (StgOk (Zb s o))]:Ty.tot ZC (Q7 s o).1≤Ty.tot ZC s+3:=by
  have hz:Ty.tot ZC Y7=0:=rfl
  unfold Q7
  split
  · unfold Z4
    split
    · exact QeB s o
    · show Ty.tot ZC Y7≤_; omega
  · show Ty.tot ZC Y7≤_; omega
end Go.Proofs.YtjaadeknhofhpaaGreat
