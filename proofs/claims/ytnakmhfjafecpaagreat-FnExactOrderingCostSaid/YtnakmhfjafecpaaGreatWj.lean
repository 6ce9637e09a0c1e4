/- Walks over abstract states: orderings added, the two functions. -/
import Derived.Test.YtnakmhfjafecpaaGreatWb
import Derived.Test.YtnakmhfjafecpaaGreatAk
import Derived.Test.YtnakmhfjafecpaaGreatTrd
import Derived.Test.YtnakmhfjafecpaaGreatAg
set_option linter.unusedSimpArgs false
set_option linter.unusedVariables false
set_option linter.unusedSectionVars false
namespace Go.Proofs.YtnakmhfjafecpaaGreat
open Go.RowKit
set_option maxRecDepth 100000
set_option maxHeartbeats 4000000
def J3 (s:Q5)(o:QD):Prop:=StgOk s∧(0≤o.1∧o.1 < s.1.2.length)∧(0≤o.2.1∧o.2.1 < s.1.2.length)∧o.1≠o.2.1
instance (s:Q5) (o:QD) [Decidable (StgOk s)]:Decidable (J3 s o):=inferInstanceAs (Decidable (_∧_))
def ZB (s:Q5)(o:QD)[Decidable (StgOk s)][Decidable (StgOk (Q2 s o))]:Q5×Bool:=if J3 s o then Zu (Q2 s o) else (Vz,false)
def Zf (s:Q5)(o:QD)[Decidable (StgOk s)][Decidable (StgOk (Q2 s o))]:Q5×Bool:=if J3 s o then (Q2 s o,decide (StgOk (Q2 s o))) else (Vz,false)
theorem Qv {s:Q5}(h:StgOk s):s.1.2.length=s.2.2.1.length:=h.len.symm
theorem Jy {s:Q5}(h:StgOk s):1≤s.1.1∧s.1.1≤30:=h.net.1
section
variable {s:Q5}{o:QD}[Decidable (StgOk s)][Decidable (StgOk (Q2 s o))]
theorem Zs (h:¬J3 s o):ZB s o=(Vz,false):=if_neg h
theorem Um (h:J3 s o):ZB s o=Zu (Q2 s o):=if_pos h
theorem Zt (h:¬J3 s o):Zf s o=(Vz,false):=if_neg h
theorem Yx (h:J3 s o):Zf s o=(Q2 s o,decide (StgOk (Q2 s o))):=if_pos h
end
theorem Ul {s:Q5}{o:QD}(h:o.2.2=true):(((s.1.1+1,Wu s.1.2 o.1.toNat o.2.1.toNat s.1.1),s.2.1,s.2.2.1,s.2.2.2++(⟨#[49]⟩:ByteArray)):Q5)=Q2 s o:=by simp[Q2,U5,h]
theorem V8 {s:Q5}{o:QD}(h:o.2.2=false):(((s.1.1+1,Wu s.1.2 o.1.toNat o.2.1.toNat s.1.1),s.2.1,s.2.2.1,s.2.2.2++(⟨#[48]⟩:ByteArray)):Q5)=Q2 s o:=by simp[Q2,U5,h]
theorem US {s:Q5}{o:QD}(h:o.2.2=true)[Decidable (StgOk (((s.1.1+1,Wu s.1.2 o.1.toNat o.2.1.toNat s.1.1),s.2.1,s.2.2.1,s.2.2.2++(⟨#[49]⟩:ByteArray)):Q5))][Decidable (StgOk (Q2 s o))]:decide (StgOk (((s.1.1+1,Wu s.1.2 o.1.toNat o.2.1.toNat s.1.1),s.2.1,s.2.2.1,s.2.2.2++(⟨#[49]⟩:ByteArray)):Q5))=decide (StgOk (Q2 s o)):=decide_eq_decide.2 (by rw[Ul h])
theorem UZ {s:Q5}{o:QD}(h:o.2.2=false)[Decidable (StgOk (((s.1.1+1,Wu s.1.2 o.1.toNat o.2.1.toNat s.1.1),s.2.1,s.2.2.1,s.2.2.2++(⟨#[48]⟩:ByteArray)):Q5))][Decidable (StgOk (Q2 s o))]:decide (StgOk (((s.1.1+1,Wu s.1.2 o.1.toNat o.2.1.toNat s.1.1),s.2.1,s.2.2.1,s.2.2.2++(⟨#[48]⟩:ByteArray)):Q5))=decide (StgOk (Q2 s o)):=decide_eq_decide.2 (by rw[V8 h])
theorem Jd (s:(Int×(List (List Int×List Int)))×(List (ByteArray×Int))×(List (Int×Bool))×ByteArray)(o:Int×Int×Bool)[Decidable (StgOk s)][Decidable (StgOk (Q2 s o))](hz:Ty.tot Y8 s≤2000000):FC Tryz.prog 174 [(true,[dI s.1.1, .dat (.sl 159 (.pr (.sl 3 .int) (.sl 3 .int))) s.1.2, .dat (.sl 145 (.pr .str .int)) s.2.1, .dat (.sl 61 (.pr .int .bool)) s.2.2.1,dS s.2.2.2]),(true,[dI o.1,dI o.2.1,dB o.2.2])] [] 0 (Is (PV.tup [(true,[dI ((((ZB s o).1).1).1), .ref 0, .ref 1, .ref 2,dS (((ZB s o).1).2.2.2)]),(false,[dB ((ZB s o).2)])]) [(0,some (.arr 159 (.pr (.sl 3 .int) (.sl 3 .int)) ((((ZB s o).1).1).2))),(1,some (.arr 145 (.pr .str .int) (((ZB s o).1).2.1))),(2,some (.arr 61 (.pr .int .bool) (((ZB s o).1).2.2.1)))]):=by
 refine QN Tryz.func174 rfl rfl Tryz.ntmps174 fun O_ hO w0_ N0_ X_ h0_ f0_=> ?_
 refine AC.fact (QG (x:= .tmp 0) (i:=0) (Qb rfl) rfl) fun hi1=>AC.fact (QG (x:= .tmp 1) (i:=0) (Qb rfl) rfl) fun hi2=>AC.fact (QG (x:= .tmp 1) (i:=1) (Qb rfl) rfl) fun hi3=> ?_
 refine w_ ?_
 refine lc (Qw 0 (Qb rfl) rfl rfl (Fresh.of rfl) (nlr rfl))<|lc (Qw 1 (Qb rfl) rfl rfl (Fresh.of rfl) (nlr rfl))<|lc (Qp 2 (.pr (.pr .int (.sl 159 (.pr (.sl 3 .int) (.sl 3 .int)))) (.pr (.sl 145 (.pr .str .int)) (.pr (.sl 61 (.pr .int .bool)) .str))) XH rfl rfl (Fresh.of rfl) (nlr rfl)) ?_
 iterate 5 refine w_ ?_
 refine AL.fact (Qq (x:= .tmp 8) (Qa rfl)) fun hl4=> ?_
 iterate 7 refine w_ ?_
 refine lc (Qn (Yt s) UO ⟨_,_,rfl,(Qb rfl),rfl⟩ rfl rfl) ?_
 iterate 2 refine w_ ?_
 cases hb5:(decide (StgOk s))
 ·have hb5':=of_decide_eq_false hb5
  iterate 23 refine w_ ?_
  refine lc (QH WY rfl (List.all_eq_true.1 rfl) rfl rfl)<|lc (Qe (Qa rfl) rfl (Qb rfl) rfl Q9 rfl) ?_
  iterate 2 refine w_ ?_
  refine AC.wk (QR 3 (p:=2) (off:=1) 159 (.pr (.sl 3 .int) (.sl 3 .int)) rfl rfl (Fresh.of rfl) (nlr rfl))<|AC.wk (QR 4 (p:=2) (off:=2) 145 (.pr .str .int) rfl rfl (Fresh.of rfl) (nlr rfl))<|AC.wk (QR 5 (p:=2) (off:=3) 61 (.pr .int .bool) rfl rfl (Fresh.of rfl) (nlr rfl))<|Qf ?_
  subst hO
  have e6:(0:Int)=((((ZB s o).1).1).1):=by
   (rw[Zs (fun ⟨a1,⟨a2,a3⟩,⟨a4,a5⟩,a6⟩=>by have:=Qv a1; first | exact absurd a1 (by assumption) | exact absurd (by assumption) a6 | omega)]; rfl)
  have e7:(ByteArray.empty:ByteArray)=(((ZB s o).1).2.2.2):=by
   (rw[Zs (fun ⟨a1,⟨a2,a3⟩,⟨a4,a5⟩,a6⟩=>by have:=Qv a1; first | exact absurd a1 (by assumption) | exact absurd (by assumption) a6 | omega)]; rfl)
  have e8:(false:Bool)=((ZB s o).2):=by
   (rw[Zs (fun ⟨a1,⟨a2,a3⟩,⟨a4,a5⟩,a6⟩=>by have:=Qv a1; first | exact absurd a1 (by assumption) | exact absurd (by assumption) a6 | omega)]; done)
  exact QF _ _ [(0,3),(1,4),(2,5)] (QC rfl (Q3 rfl rfl Q9 rfl) (Qd rfl)) ((((congrArg (fun z_=>PV.tup [(true,[dI z_, .ref 3, .ref 4, .ref 5,dS ByteArray.empty]),(false,[dB false])]) e6)).trans (congrArg (fun z_=>PV.tup [(true,[dI ((((ZB s o).1).1).1), .ref 3, .ref 4, .ref 5,dS z_]),(false,[dB false])]) e7)).trans (congrArg (fun z_=>PV.tup [(true,[dI ((((ZB s o).1).1).1), .ref 3, .ref 4, .ref 5,dS (((ZB s o).1).2.2.2)]),(false,[dB z_])]) e8)) ⟨(Qy (by (rw[Zs (fun ⟨a1,⟨a2,a3⟩,⟨a4,a5⟩,a6⟩=>by have:=Qv a1; first | exact absurd a1 (by assumption) | exact absurd (by assumption) a6 | omega)]; rfl))),(Qy (by (rw[Zs (fun ⟨a1,⟨a2,a3⟩,⟨a4,a5⟩,a6⟩=>by have:=Qv a1; first | exact absurd a1 (by assumption) | exact absurd (by assumption) a6 | omega)]; rfl))),(Qy (by (rw[Zs (fun ⟨a1,⟨a2,a3⟩,⟨a4,a5⟩,a6⟩=>by have:=Qv a1; first | exact absurd a1 (by assumption) | exact absurd (by assumption) a6 | omega)]; rfl))),trivial⟩ rfl rfl
 ·have hb5':=of_decide_eq_true hb5
  iterate 3 refine w_ ?_
  refine lgy rfl rfl (Qn (Z3 o.1 0 ((s.2.2.1.length:Int) - 1)) Xf ⟨_,_,rfl,(Qb rfl),⟨_,_,rfl,(Evl.ev (QM rfl)),⟨_,_,rfl,(Qb rfl),rfl⟩⟩⟩ rfl rfl) ?_
  iterate 3 refine w_ ?_
  cases hb9:(decide (0≤o.1∧o.1≤((s.2.2.1.length:Int) - 1)))
  ·have hb9':=of_decide_eq_false hb9
   iterate 16 refine w_ ?_
   refine lc (QH WY rfl (List.all_eq_true.1 rfl) rfl rfl)<|lc (Qe (Qa rfl) rfl (Qb rfl) rfl Q9 rfl) ?_
   iterate 2 refine w_ ?_
   refine AC.wk (QR 6 (p:=2) (off:=1) 159 (.pr (.sl 3 .int) (.sl 3 .int)) rfl rfl (Fresh.of rfl) (nlr rfl))<|AC.wk (QR 7 (p:=2) (off:=2) 145 (.pr .str .int) rfl rfl (Fresh.of rfl) (nlr rfl))<|AC.wk (QR 8 (p:=2) (off:=3) 61 (.pr .int .bool) rfl rfl (Fresh.of rfl) (nlr rfl))<|Qf ?_
   subst hO
   have e10:(0:Int)=((((ZB s o).1).1).1):=by
    (rw[Zs (fun ⟨a1,⟨a2,a3⟩,⟨a4,a5⟩,a6⟩=>by have:=Qv a1; first | exact absurd a1 (by assumption) | exact absurd (by assumption) a6 | omega)]; rfl)
   have e11:(ByteArray.empty:ByteArray)=(((ZB s o).1).2.2.2):=by
    (rw[Zs (fun ⟨a1,⟨a2,a3⟩,⟨a4,a5⟩,a6⟩=>by have:=Qv a1; first | exact absurd a1 (by assumption) | exact absurd (by assumption) a6 | omega)]; rfl)
   have e12:(false:Bool)=((ZB s o).2):=by
    (rw[Zs (fun ⟨a1,⟨a2,a3⟩,⟨a4,a5⟩,a6⟩=>by have:=Qv a1; first | exact absurd a1 (by assumption) | exact absurd (by assumption) a6 | omega)]; done)
   exact QF _ _ [(0,6),(1,7),(2,8)] (QC rfl (Q3 rfl rfl Q9 rfl) (Qd rfl)) ((((congrArg (fun z_=>PV.tup [(true,[dI z_, .ref 6, .ref 7, .ref 8,dS ByteArray.empty]),(false,[dB false])]) e10)).trans (congrArg (fun z_=>PV.tup [(true,[dI ((((ZB s o).1).1).1), .ref 6, .ref 7, .ref 8,dS z_]),(false,[dB false])]) e11)).trans (congrArg (fun z_=>PV.tup [(true,[dI ((((ZB s o).1).1).1), .ref 6, .ref 7, .ref 8,dS (((ZB s o).1).2.2.2)]),(false,[dB z_])]) e12)) ⟨(Qy (by (rw[Zs (fun ⟨a1,⟨a2,a3⟩,⟨a4,a5⟩,a6⟩=>by have:=Qv a1; first | exact absurd a1 (by assumption) | exact absurd (by assumption) a6 | omega)]; rfl))),(Qy (by (rw[Zs (fun ⟨a1,⟨a2,a3⟩,⟨a4,a5⟩,a6⟩=>by have:=Qv a1; first | exact absurd a1 (by assumption) | exact absurd (by assumption) a6 | omega)]; rfl))),(Qy (by (rw[Zs (fun ⟨a1,⟨a2,a3⟩,⟨a4,a5⟩,a6⟩=>by have:=Qv a1; first | exact absurd a1 (by assumption) | exact absurd (by assumption) a6 | omega)]; rfl))),trivial⟩ rfl rfl
  ·have hb9':=of_decide_eq_true hb9
   iterate 3 refine w_ ?_
   refine lgy rfl rfl (Qn (Z3 o.2.1 0 ((s.2.2.1.length:Int) - 1)) Xf ⟨_,_,rfl,(Qb rfl),⟨_,_,rfl,(Evl.ev (QM rfl)),⟨_,_,rfl,(Qb rfl),rfl⟩⟩⟩ rfl rfl) ?_
   iterate 3 refine w_ ?_
   cases hb13:(decide (0≤o.2.1∧o.2.1≤((s.2.2.1.length:Int) - 1)))
   ·have hb13':=of_decide_eq_false hb13
    iterate 9 refine w_ ?_
    refine lc (QH WY rfl (List.all_eq_true.1 rfl) rfl rfl)<|lc (Qe (Qa rfl) rfl (Qb rfl) rfl Q9 rfl) ?_
    iterate 2 refine w_ ?_
    refine AC.wk (QR 9 (p:=2) (off:=1) 159 (.pr (.sl 3 .int) (.sl 3 .int)) rfl rfl (Fresh.of rfl) (nlr rfl))<|AC.wk (QR 10 (p:=2) (off:=2) 145 (.pr .str .int) rfl rfl (Fresh.of rfl) (nlr rfl))<|AC.wk (QR 11 (p:=2) (off:=3) 61 (.pr .int .bool) rfl rfl (Fresh.of rfl) (nlr rfl))<|Qf ?_
    subst hO
    have e14:(0:Int)=((((ZB s o).1).1).1):=by
     (rw[Zs (fun ⟨a1,⟨a2,a3⟩,⟨a4,a5⟩,a6⟩=>by have:=Qv a1; first | exact absurd a1 (by assumption) | exact absurd (by assumption) a6 | omega)]; rfl)
    have e15:(ByteArray.empty:ByteArray)=(((ZB s o).1).2.2.2):=by
     (rw[Zs (fun ⟨a1,⟨a2,a3⟩,⟨a4,a5⟩,a6⟩=>by have:=Qv a1; first | exact absurd a1 (by assumption) | exact absurd (by assumption) a6 | omega)]; rfl)
    have e16:(false:Bool)=((ZB s o).2):=by
     (rw[Zs (fun ⟨a1,⟨a2,a3⟩,⟨a4,a5⟩,a6⟩=>by have:=Qv a1; first | exact absurd a1 (by assumption) | exact absurd (by assumption) a6 | omega)]; done)
    exact QF _ _ [(0,9),(1,10),(2,11)] (QC rfl (Q3 rfl rfl Q9 rfl) (Qd rfl)) ((((congrArg (fun z_=>PV.tup [(true,[dI z_, .ref 9, .ref 10, .ref 11,dS ByteArray.empty]),(false,[dB false])]) e14)).trans (congrArg (fun z_=>PV.tup [(true,[dI ((((ZB s o).1).1).1), .ref 9, .ref 10, .ref 11,dS z_]),(false,[dB false])]) e15)).trans (congrArg (fun z_=>PV.tup [(true,[dI ((((ZB s o).1).1).1), .ref 9, .ref 10, .ref 11,dS (((ZB s o).1).2.2.2)]),(false,[dB z_])]) e16)) ⟨(Qy (by (rw[Zs (fun ⟨a1,⟨a2,a3⟩,⟨a4,a5⟩,a6⟩=>by have:=Qv a1; first | exact absurd a1 (by assumption) | exact absurd (by assumption) a6 | omega)]; rfl))),(Qy (by (rw[Zs (fun ⟨a1,⟨a2,a3⟩,⟨a4,a5⟩,a6⟩=>by have:=Qv a1; first | exact absurd a1 (by assumption) | exact absurd (by assumption) a6 | omega)]; rfl))),(Qy (by (rw[Zs (fun ⟨a1,⟨a2,a3⟩,⟨a4,a5⟩,a6⟩=>by have:=Qv a1; first | exact absurd a1 (by assumption) | exact absurd (by assumption) a6 | omega)]; rfl))),trivial⟩ rfl rfl
   ·have hb13':=of_decide_eq_true hb13
    iterate 7 refine w_ ?_
    cases hb17:(decide (o.1=o.2.1))
    ·have hb17':=of_decide_eq_false hb17
     iterate 5 refine w_ ?_
     refine lc (Q6 12 (UW s o hz (by have:=Qv ‹StgOk s›; omega) (by have:=Qv ‹StgOk s›; omega) (by omega) (Jy ‹StgOk s›)) QbS ⟨_,_,rfl,(Qb rfl),⟨_,_,rfl,(Qb rfl),rfl⟩⟩ rfl rfl ⟨Fresh.of rfl,Fresh.of rfl,Fresh.of rfl,trivial⟩ (nlr rfl))<|lc (Za 15 [(0,12),(1,13),(2,14)] (QdC (Q2 s o)) QhL ⟨_,_,rfl,(Qb rfl),rfl⟩ ⟨rfl,rfl,rfl,trivial⟩ rfl ⟨(Fresh.of rfl),(Fresh.of rfl),(Fresh.of rfl),trivial⟩ (nlr rfl)) ?_
     iterate 2 refine w_ ?_
     refine lc (Qe (Qa rfl) rfl (Qb rfl) rfl Q9 rfl) ?_
     iterate 2 refine w_ ?_
     refine Qf ?_
     subst hO
     have e18:((((Zu (Q2 s o)).1).1).1:Int)=((((ZB s o).1).1).1):=by
      (rw[Um ⟨‹StgOk s›,by have:=Qv ‹StgOk s›; omega,by have:=Qv ‹StgOk s›; omega,by omega⟩])
     have e19:(((Zu (Q2 s o)).1).2.2.2:ByteArray)=(((ZB s o).1).2.2.2):=by
      (rw[Um ⟨‹StgOk s›,by have:=Qv ‹StgOk s›; omega,by have:=Qv ‹StgOk s›; omega,by omega⟩])
     have e20:((Zu (Q2 s o)).2:Bool)=((ZB s o).2):=by
      (rw[Um ⟨‹StgOk s›,by have:=Qv ‹StgOk s›; omega,by have:=Qv ‹StgOk s›; omega,by omega⟩])
     exact QF _ _ [(0,15),(1,16),(2,17)] (QC rfl (Q3 rfl rfl Q9 rfl) (Qd rfl)) ((((congrArg (fun z_=>PV.tup [(true,[dI z_, .ref 15, .ref 16, .ref 17,dS (((Zu (Q2 s o)).1).2.2.2)]),(false,[dB ((Zu (Q2 s o)).2)])]) e18)).trans (congrArg (fun z_=>PV.tup [(true,[dI ((((ZB s o).1).1).1), .ref 15, .ref 16, .ref 17,dS z_]),(false,[dB ((Zu (Q2 s o)).2)])]) e19)).trans (congrArg (fun z_=>PV.tup [(true,[dI ((((ZB s o).1).1).1), .ref 15, .ref 16, .ref 17,dS (((ZB s o).1).2.2.2)]),(false,[dB z_])]) e20)) ⟨(Qy (by (rw[Um ⟨‹StgOk s›,by have:=Qv ‹StgOk s›; omega,by have:=Qv ‹StgOk s›; omega,by omega⟩]))),(Qy (by (rw[Um ⟨‹StgOk s›,by have:=Qv ‹StgOk s›; omega,by have:=Qv ‹StgOk s›; omega,by omega⟩]))),(Qy (by (rw[Um ⟨‹StgOk s›,by have:=Qv ‹StgOk s›; omega,by have:=Qv ‹StgOk s›; omega,by omega⟩]))),trivial⟩ rfl rfl
    ·have hb17':=of_decide_eq_true hb17
     iterate 2 refine w_ ?_
     refine lc (QH WY rfl (List.all_eq_true.1 rfl) rfl rfl)<|lc (Qe (Qa rfl) rfl (Qb rfl) rfl Q9 rfl) ?_
     iterate 2 refine w_ ?_
     refine AC.wk (QR 18 (p:=2) (off:=1) 159 (.pr (.sl 3 .int) (.sl 3 .int)) rfl rfl (Fresh.of rfl) (nlr rfl))<|AC.wk (QR 19 (p:=2) (off:=2) 145 (.pr .str .int) rfl rfl (Fresh.of rfl) (nlr rfl))<|AC.wk (QR 20 (p:=2) (off:=3) 61 (.pr .int .bool) rfl rfl (Fresh.of rfl) (nlr rfl))<|Qf ?_
     subst hO
     have e21:(0:Int)=((((ZB s o).1).1).1):=by
      (rw[Zs (fun ⟨a1,⟨a2,a3⟩,⟨a4,a5⟩,a6⟩=>by have:=Qv a1; first | exact absurd a1 (by assumption) | exact absurd (by assumption) a6 | omega)]; rfl)
     have e22:(ByteArray.empty:ByteArray)=(((ZB s o).1).2.2.2):=by
      (rw[Zs (fun ⟨a1,⟨a2,a3⟩,⟨a4,a5⟩,a6⟩=>by have:=Qv a1; first | exact absurd a1 (by assumption) | exact absurd (by assumption) a6 | omega)]; rfl)
     have e23:(false:Bool)=((ZB s o).2):=by
      (rw[Zs (fun ⟨a1,⟨a2,a3⟩,⟨a4,a5⟩,a6⟩=>by have:=Qv a1; first | exact absurd a1 (by assumption) | exact absurd (by assumption) a6 | omega)]; done)
     exact QF _ _ [(0,18),(1,19),(2,20)] (QC rfl (Q3 rfl rfl Q9 rfl) (Qd rfl)) ((((congrArg (fun z_=>PV.tup [(true,[dI z_, .ref 18, .ref 19, .ref 20,dS ByteArray.empty]),(false,[dB false])]) e21)).trans (congrArg (fun z_=>PV.tup [(true,[dI ((((ZB s o).1).1).1), .ref 18, .ref 19, .ref 20,dS z_]),(false,[dB false])]) e22)).trans (congrArg (fun z_=>PV.tup [(true,[dI ((((ZB s o).1).1).1), .ref 18, .ref 19, .ref 20,dS (((ZB s o).1).2.2.2)]),(false,[dB z_])]) e23)) ⟨(Qy (by (rw[Zs (fun ⟨a1,⟨a2,a3⟩,⟨a4,a5⟩,a6⟩=>by have:=Qv a1; first | exact absurd a1 (by assumption) | exact absurd (by assumption) a6 | omega)]; rfl))),(Qy (by (rw[Zs (fun ⟨a1,⟨a2,a3⟩,⟨a4,a5⟩,a6⟩=>by have:=Qv a1; first | exact absurd a1 (by assumption) | exact absurd (by assumption) a6 | omega)]; rfl))),(Qy (by (rw[Zs (fun ⟨a1,⟨a2,a3⟩,⟨a4,a5⟩,a6⟩=>by have:=Qv a1; first | exact absurd a1 (by assumption) | exact absurd (by assumption) a6 | omega)]; rfl))),trivial⟩ rfl rfl
theorem Qpd {α:Type _}{c:List α}{p q:Nat}(h:p≠q)(a a' x b b' y:α):((((((c.set p a).set p a').set p x).set q b).set q b').set q y)=(c.set p x).set q y:=by
  apply List.ext_getElem?
  intro i
  simp only[List.getElem?_set,List.length_set]
  split <;> split <;> simp_all
theorem Kz (s:(Int×(List (List Int×List Int)))×(List (ByteArray×Int))×(List (Int×Bool))×ByteArray)(o:Int×Int×Bool)[Decidable (StgOk s)][Decidable (StgOk (Q2 s o))](hz:Ty.tot Y8 s≤2000000):FC Tryz.prog 176 [(true,[dI s.1.1, .dat (.sl 159 (.pr (.sl 3 .int) (.sl 3 .int))) s.1.2, .dat (.sl 145 (.pr .str .int)) s.2.1, .dat (.sl 61 (.pr .int .bool)) s.2.2.1,dS s.2.2.2]),(true,[dI o.1,dI o.2.1,dB o.2.2])] [] 0 (Is (PV.tup [(true,[dI ((((Zf s o).1).1).1), .ref 0, .ref 1, .ref 2,dS (((Zf s o).1).2.2.2)]),(false,[dB ((Zf s o).2)])]) [(0,some (.arr 159 (.pr (.sl 3 .int) (.sl 3 .int)) ((((Zf s o).1).1).2))),(1,some (.arr 145 (.pr .str .int) (((Zf s o).1).2.1))),(2,some (.arr 61 (.pr .int .bool) (((Zf s o).1).2.2.1)))]):=by
 classical
 refine QN Tryz.func176 rfl rfl Tryz.ntmps176 fun O_ hO w0_ N0_ X_ h0_ f0_=> ?_
 refine AC.fact (QG (x:= .tmp 0) (i:=0) (Qb rfl) rfl) fun hi1=>AC.fact (QG (x:= .tmp 1) (i:=0) (Qb rfl) rfl) fun hi2=>AC.fact (QG (x:= .tmp 1) (i:=1) (Qb rfl) rfl) fun hi3=> ?_
 refine w_ ?_
 refine lc (Qw 0 (Qb rfl) rfl rfl (Fresh.of rfl) (nlr rfl))<|lc (Qw 1 (Qb rfl) rfl rfl (Fresh.of rfl) (nlr rfl))<|lc (Qp 2 (.pr (.pr .int (.sl 159 (.pr (.sl 3 .int) (.sl 3 .int)))) (.pr (.sl 145 (.pr .str .int)) (.pr (.sl 61 (.pr .int .bool)) .str))) XH rfl rfl (Fresh.of rfl) (nlr rfl)) ?_
 iterate 6 refine w_ ?_
 refine AL.fact (Qq (x:= .tmp 11) (Qa rfl)) fun hl4=> ?_
 iterate 6 refine w_ ?_
 refine lc (Qn (YJ s) W2 ⟨_,_,rfl,(Qb rfl),rfl⟩ rfl rfl) ?_
 iterate 2 refine w_ ?_
 cases hb5:(decide (StgOk s))
 ·have hb5':=of_decide_eq_false hb5
  iterate 25 refine w_ ?_
  refine lc (QH WY rfl (List.all_eq_true.1 rfl) rfl rfl)<|lc (Qe (Qa rfl) rfl (Qb rfl) rfl Q9 rfl) ?_
  iterate 2 refine w_ ?_
  refine AC.wk (QR 3 (p:=2) (off:=1) 159 (.pr (.sl 3 .int) (.sl 3 .int)) rfl rfl (Fresh.of rfl) (nlr rfl))<|AC.wk (QR 4 (p:=2) (off:=2) 145 (.pr .str .int) rfl rfl (Fresh.of rfl) (nlr rfl))<|AC.wk (QR 5 (p:=2) (off:=3) 61 (.pr .int .bool) rfl rfl (Fresh.of rfl) (nlr rfl))<|Qf ?_
  subst hO
  have e6:(0:Int)=((((Zf s o).1).1).1):=by
   (rw[Zt (fun ⟨a1,⟨a2,a3⟩,⟨a4,a5⟩,a6⟩=>by have:=Qv a1; first | exact absurd a1 (by assumption) | exact absurd (by assumption) a6 | omega)]; rfl)
  have e7:(ByteArray.empty:ByteArray)=(((Zf s o).1).2.2.2):=by
   (rw[Zt (fun ⟨a1,⟨a2,a3⟩,⟨a4,a5⟩,a6⟩=>by have:=Qv a1; first | exact absurd a1 (by assumption) | exact absurd (by assumption) a6 | omega)]; rfl)
  have e8:(false:Bool)=((Zf s o).2):=by
   (rw[Zt (fun ⟨a1,⟨a2,a3⟩,⟨a4,a5⟩,a6⟩=>by have:=Qv a1; first | exact absurd a1 (by assumption) | exact absurd (by assumption) a6 | omega)]; done)
  exact QF _ _ [(0,3),(1,4),(2,5)] (QC rfl (Q3 rfl rfl Q9 rfl) (Qd rfl)) ((((congrArg (fun z_=>PV.tup [(true,[dI z_, .ref 3, .ref 4, .ref 5,dS ByteArray.empty]),(false,[dB false])]) e6)).trans (congrArg (fun z_=>PV.tup [(true,[dI ((((Zf s o).1).1).1), .ref 3, .ref 4, .ref 5,dS z_]),(false,[dB false])]) e7)).trans (congrArg (fun z_=>PV.tup [(true,[dI ((((Zf s o).1).1).1), .ref 3, .ref 4, .ref 5,dS (((Zf s o).1).2.2.2)]),(false,[dB z_])]) e8)) ⟨(Qy (by (rw[Zt (fun ⟨a1,⟨a2,a3⟩,⟨a4,a5⟩,a6⟩=>by have:=Qv a1; first | exact absurd a1 (by assumption) | exact absurd (by assumption) a6 | omega)]; rfl))),(Qy (by (rw[Zt (fun ⟨a1,⟨a2,a3⟩,⟨a4,a5⟩,a6⟩=>by have:=Qv a1; first | exact absurd a1 (by assumption) | exact absurd (by assumption) a6 | omega)]; rfl))),(Qy (by (rw[Zt (fun ⟨a1,⟨a2,a3⟩,⟨a4,a5⟩,a6⟩=>by have:=Qv a1; first | exact absurd a1 (by assumption) | exact absurd (by assumption) a6 | omega)]; rfl))),trivial⟩ rfl rfl
 ·have hb5':=of_decide_eq_true hb5
  iterate 4 refine w_ ?_
  refine lgy rfl rfl (Qn (Ys o.1 0 ((s.1.2.length:Int) - 1)) Xl ⟨_,_,rfl,(Qb rfl),⟨_,_,rfl,(Evl.ev (QM rfl)),⟨_,_,rfl,(Qb rfl),rfl⟩⟩⟩ rfl rfl) ?_
  iterate 3 refine w_ ?_
  cases hb9:(decide (0≤o.1∧o.1≤((s.1.2.length:Int) - 1)))
  ·have hb9':=of_decide_eq_false hb9
   iterate 17 refine w_ ?_
   refine lc (QH WY rfl (List.all_eq_true.1 rfl) rfl rfl)<|lc (Qe (Qa rfl) rfl (Qb rfl) rfl Q9 rfl) ?_
   iterate 2 refine w_ ?_
   refine AC.wk (QR 6 (p:=2) (off:=1) 159 (.pr (.sl 3 .int) (.sl 3 .int)) rfl rfl (Fresh.of rfl) (nlr rfl))<|AC.wk (QR 7 (p:=2) (off:=2) 145 (.pr .str .int) rfl rfl (Fresh.of rfl) (nlr rfl))<|AC.wk (QR 8 (p:=2) (off:=3) 61 (.pr .int .bool) rfl rfl (Fresh.of rfl) (nlr rfl))<|Qf ?_
   subst hO
   have e10:(0:Int)=((((Zf s o).1).1).1):=by
    (rw[Zt (fun ⟨a1,⟨a2,a3⟩,⟨a4,a5⟩,a6⟩=>by have:=Qv a1; first | exact absurd a1 (by assumption) | exact absurd (by assumption) a6 | omega)]; rfl)
   have e11:(ByteArray.empty:ByteArray)=(((Zf s o).1).2.2.2):=by
    (rw[Zt (fun ⟨a1,⟨a2,a3⟩,⟨a4,a5⟩,a6⟩=>by have:=Qv a1; first | exact absurd a1 (by assumption) | exact absurd (by assumption) a6 | omega)]; rfl)
   have e12:(false:Bool)=((Zf s o).2):=by
    (rw[Zt (fun ⟨a1,⟨a2,a3⟩,⟨a4,a5⟩,a6⟩=>by have:=Qv a1; first | exact absurd a1 (by assumption) | exact absurd (by assumption) a6 | omega)]; done)
   exact QF _ _ [(0,6),(1,7),(2,8)] (QC rfl (Q3 rfl rfl Q9 rfl) (Qd rfl)) ((((congrArg (fun z_=>PV.tup [(true,[dI z_, .ref 6, .ref 7, .ref 8,dS ByteArray.empty]),(false,[dB false])]) e10)).trans (congrArg (fun z_=>PV.tup [(true,[dI ((((Zf s o).1).1).1), .ref 6, .ref 7, .ref 8,dS z_]),(false,[dB false])]) e11)).trans (congrArg (fun z_=>PV.tup [(true,[dI ((((Zf s o).1).1).1), .ref 6, .ref 7, .ref 8,dS (((Zf s o).1).2.2.2)]),(false,[dB z_])]) e12)) ⟨(Qy (by (rw[Zt (fun ⟨a1,⟨a2,a3⟩,⟨a4,a5⟩,a6⟩=>by have:=Qv a1; first | exact absurd a1 (by assumption) | exact absurd (by assumption) a6 | omega)]; rfl))),(Qy (by (rw[Zt (fun ⟨a1,⟨a2,a3⟩,⟨a4,a5⟩,a6⟩=>by have:=Qv a1; first | exact absurd a1 (by assumption) | exact absurd (by assumption) a6 | omega)]; rfl))),(Qy (by (rw[Zt (fun ⟨a1,⟨a2,a3⟩,⟨a4,a5⟩,a6⟩=>by have:=Qv a1; first | exact absurd a1 (by assumption) | exact absurd (by assumption) a6 | omega)]; rfl))),trivial⟩ rfl rfl
  ·have hb9':=of_decide_eq_true hb9
   iterate 4 refine w_ ?_
   refine lgy rfl rfl (Qn (Ys o.2.1 0 ((s.1.2.length:Int) - 1)) Xl ⟨_,_,rfl,(Qb rfl),⟨_,_,rfl,(Evl.ev (QM rfl)),⟨_,_,rfl,(Qb rfl),rfl⟩⟩⟩ rfl rfl) ?_
   iterate 3 refine w_ ?_
   cases hb13:(decide (0≤o.2.1∧o.2.1≤((s.1.2.length:Int) - 1)))
   ·have hb13':=of_decide_eq_false hb13
    iterate 9 refine w_ ?_
    refine lc (QH WY rfl (List.all_eq_true.1 rfl) rfl rfl)<|lc (Qe (Qa rfl) rfl (Qb rfl) rfl Q9 rfl) ?_
    iterate 2 refine w_ ?_
    refine AC.wk (QR 9 (p:=2) (off:=1) 159 (.pr (.sl 3 .int) (.sl 3 .int)) rfl rfl (Fresh.of rfl) (nlr rfl))<|AC.wk (QR 10 (p:=2) (off:=2) 145 (.pr .str .int) rfl rfl (Fresh.of rfl) (nlr rfl))<|AC.wk (QR 11 (p:=2) (off:=3) 61 (.pr .int .bool) rfl rfl (Fresh.of rfl) (nlr rfl))<|Qf ?_
    subst hO
    have e14:(0:Int)=((((Zf s o).1).1).1):=by
     (rw[Zt (fun ⟨a1,⟨a2,a3⟩,⟨a4,a5⟩,a6⟩=>by have:=Qv a1; first | exact absurd a1 (by assumption) | exact absurd (by assumption) a6 | omega)]; rfl)
    have e15:(ByteArray.empty:ByteArray)=(((Zf s o).1).2.2.2):=by
     (rw[Zt (fun ⟨a1,⟨a2,a3⟩,⟨a4,a5⟩,a6⟩=>by have:=Qv a1; first | exact absurd a1 (by assumption) | exact absurd (by assumption) a6 | omega)]; rfl)
    have e16:(false:Bool)=((Zf s o).2):=by
     (rw[Zt (fun ⟨a1,⟨a2,a3⟩,⟨a4,a5⟩,a6⟩=>by have:=Qv a1; first | exact absurd a1 (by assumption) | exact absurd (by assumption) a6 | omega)]; done)
    exact QF _ _ [(0,9),(1,10),(2,11)] (QC rfl (Q3 rfl rfl Q9 rfl) (Qd rfl)) ((((congrArg (fun z_=>PV.tup [(true,[dI z_, .ref 9, .ref 10, .ref 11,dS ByteArray.empty]),(false,[dB false])]) e14)).trans (congrArg (fun z_=>PV.tup [(true,[dI ((((Zf s o).1).1).1), .ref 9, .ref 10, .ref 11,dS z_]),(false,[dB false])]) e15)).trans (congrArg (fun z_=>PV.tup [(true,[dI ((((Zf s o).1).1).1), .ref 9, .ref 10, .ref 11,dS (((Zf s o).1).2.2.2)]),(false,[dB z_])]) e16)) ⟨(Qy (by (rw[Zt (fun ⟨a1,⟨a2,a3⟩,⟨a4,a5⟩,a6⟩=>by have:=Qv a1; first | exact absurd a1 (by assumption) | exact absurd (by assumption) a6 | omega)]; rfl))),(Qy (by (rw[Zt (fun ⟨a1,⟨a2,a3⟩,⟨a4,a5⟩,a6⟩=>by have:=Qv a1; first | exact absurd a1 (by assumption) | exact absurd (by assumption) a6 | omega)]; rfl))),(Qy (by (rw[Zt (fun ⟨a1,⟨a2,a3⟩,⟨a4,a5⟩,a6⟩=>by have:=Qv a1; first | exact absurd a1 (by assumption) | exact absurd (by assumption) a6 | omega)]; rfl))),trivial⟩ rfl rfl
   ·have hb13':=of_decide_eq_true hb13
    iterate 7 refine w_ ?_
    cases hb17:(decide (o.1=o.2.1))
    ·have hb17':=of_decide_eq_false hb17
     iterate 2 refine w_ ?_
     refine Wp ?_
     obtain ⟨x,hx⟩:∃z,s.1.2[o.1.toNat]? =some z:=⟨_,List.getElem?_eq_getElem (by omega)⟩
     obtain ⟨y,hy⟩:∃z,s.1.2[o.2.1.toNat]? =some z:=⟨_,List.getElem?_eq_getElem (by omega)⟩
     have hab:o.1.toNat≠o.2.1.toNat:=by omega
     have hcA:=(H3 hx).1
     have hcB:=(H3 hy).2
     have hpA:o.1.toNat*2+1 < (Zg (.pr (.sl 3 .int) (.sl 3 .int)) s.1.2).length:=by rw[Vf]; exact Qpe (by omega)
     have hpB:o.2.1.toNat*2+0 < (Zg (.pr (.sl 3 .int) (.sl 3 .int)) s.1.2).length:=by rw[Vf]; exact QpA (by omega)
     have hpAB:o.1.toNat*2+1≠o.2.1.toNat*2+0:=by omega
     have hxl:=(J8 hz hx).2
     have hyl:=(J8 hz hy).1
     have hsz:=Qem hz
     have hpl:=Jy ‹StgOk s›
     iterate 2 refine w_ ?_
     refine lc (Q6 12 (Qdx s hz) Qhg ⟨_,_,rfl,(Qb rfl),rfl⟩ rfl rfl ⟨Fresh.of rfl,Fresh.of rfl,Fresh.of rfl,trivial⟩ (nlr rfl))<|lc (Qp 15 (.pr (.pr .int (.sl 159 (.pr (.sl 3 .int) (.sl 3 .int)))) (.pr (.sl 145 (.pr .str .int)) (.pr (.sl 61 (.pr .int .bool)) .str))) XH rfl rfl (Fresh.of rfl) (nlr rfl))<|lc (Qe (Qa rfl) rfl (Qb rfl) rfl Q9 rfl) ?_
     iterate 14 refine w_ ?_
     refine lc (Qe (Qa rfl) rfl (Qb rfl) rfl QO rfl) ?_
     refine w_ ?_
     refine AC.wk (QjP (q:=12) rfl (by omega))<|AC.wk (KR 16 (q:=12) (p:=(o.1).toNat*2+1) (E':=3) (e':= .int) (ys:=x.2) rfl (hcA) (Fresh.of rfl) (Nat.le_of_ble_eq_true rfl)) ?_
     refine dw [io 51 (lP 15 0),io 52 (lP 15 1),io 53 (lR 12),io 54 (lP 1 0),io 55 (lI o.1),io 56 (lP 15 0),io 57 (lP 15 1),io 58 (lR 12),io 59 (lP 1 0),io 60 (lI o.1),io 61 (lf (.ept 12 2 ((o.1).toNat) 0)),io 62 (lf (.ept 12 2 ((o.1).toNat) 1)),io 63 (lR 16),io 64 (lI s.1.1),⟨some 65,lR 17,[(17,some (.arr 3 .int ([s.1.1])))]⟩,⟨some 66,lR 18,[(18,some (.arr 3 .int (x.2++([s.1.1])))),(16,none),(17,none)]⟩,io 67 (lf (.ept 12 2 ((o.1).toNat) 0)),io 68 (lf (.ept 12 2 ((o.1).toNat) 1)),⟨none,lf (.val undef),[(12,some (.obx 159 2 ((s.1.2).length) (Zg (.pr (.sl 3 .int) (.sl 3 .int)) (s.1.2)) [((o.1).toNat*2+1, .ref 18),((o.1).toNat*2+1, .ref 16)]))]⟩] [0,1,3,0,8,0,32,96,0,256,992,2016,4064,0,8192,32736,65535,131071,262143] mixed rfl (by kernel_rfl) ⟨dxf ZP rfl rfl rfl,dxf ZW rfl rfl rfl,dxl Y7 rfl rfl rfl rfl rfl,dxf Qcn rfl rfl rfl,dxl QO rfl rfl rfl rfl rfl,dxf ZP rfl rfl rfl,dxf ZW rfl rfl rfl,dxl Y7 rfl rfl rfl rfl rfl,dxf Qcn rfl rfl rfl,dxl QO rfl rfl rfl rfl rfl,fun _ h_=>ac (Xx (h_.v rfl) (h_.en 12 rfl) (h_.v rfl) ZO Zh rfl (by omega) (by omega)) rfl,fun _ h_=>ac (Z8 (h_.v rfl) XY (by rw[(h_.en 12 rfl)]; rfl) rfl) rfl,fun _ h_=>ac (UK (h_.v rfl) (h_.en 12 rfl) (by simp only[ovr,List.getElem?_set,List.length_set,hpA,hpB,hpAB,hpAB.symm,hcA,hcB,eq_self,if_true,if_false,↓reduceIte]) (h_.en 16 rfl) QI rfl) rfl,dxm rfl rfl,fun _ h_=>ac (Qg 17 (e:= .int) QE QO Yf rfl ⟨_,_,rfl,(h_.w rfl),rfl⟩ (List.all_eq_true.1 rfl) ⟨_,_,_,_,rfl,⟨rfl,rfl⟩,⟨rfl,rfl⟩,rfl⟩ (by decide) rfl rfl (h_.fr 17 rfl) (nlr rfl)) rfl,fun _ h_=>ac (QQ 18 (h_.v rfl) (h_.en 16 rfl) (h_.v rfl) (h_.en 17 rfl) rfl QE VB (by first | omega | (simp only[List.length_append,List.length_map,List.length_take,List.length_cons,List.length_nil]; omega) | (simp only[List.length_append,List.length_drop,List.length_take,List.length_cons,List.length_nil]; omega)) rfl (h_.fr 18 rfl) (nlr rfl)) rfl,fun _ h_=>ac (Xx (h_.v rfl) (h_.en 12 rfl) (h_.v rfl) ZO Zh rfl (by omega) (by omega)) rfl,fun _ h_=>ac (Z8 (h_.v rfl) XY (by rw[(h_.en 12 rfl)]; rfl) rfl) rfl,fun _ h_=>ac (VA (t:=16) (h_.v rfl) (h_.en 12 rfl) (by simp only[ovr,List.getElem?_set,List.length_set,hpA,hpB,hpAB,hpAB.symm,hcA,hcB,eq_self,if_true,if_false,↓reduceIte]) (h_.v rfl) (h_.en 18 rfl) QI) rfl,⟨⟩⟩ ?_
     refine AC.wk (J4 (q:=12) (t:=18) (p:=(o.1).toNat*2+1) rfl (by simp only[ovr,List.getElem?_set,List.length_set,hpA,hpB,hpAB,hpAB.symm,hcA,hcB,eq_self,if_true,if_false,↓reduceIte]) rfl) ?_
     refine AC.wk (KR 19 (q:=12) (p:=(o.2.1).toNat*2+0) (E':=3) (e':= .int) (ys:=y.1) rfl (by simp only[ovr,List.getElem?_set,List.length_set,hpA,hpB,hpAB,hpAB.symm,hcA,hcB,eq_self,if_true,if_false,↓reduceIte]) (Fresh.of rfl) (Nat.le_of_ble_eq_true rfl)) ?_
     refine dw [io 69 (lP 15 0),io 70 (lP 15 1),io 71 (lR 12),io 72 (lP 1 1),io 73 (lI o.2.1),io 74 (lP 15 0),io 75 (lP 15 1),io 76 (lR 12),io 77 (lP 1 1),io 78 (lI o.2.1),io 79 (lf (.ept 12 2 ((o.2.1).toNat) 0)),io 80 (lf (.ept 12 2 ((o.2.1).toNat) 0)),io 81 (lR 19),io 82 (lI s.1.1),⟨some 83,lR 20,[(20,some (.arr 3 .int ([s.1.1])))]⟩,⟨some 84,lR 21,[(21,some (.arr 3 .int (y.1++([s.1.1])))),(19,none),(20,none)]⟩,io 85 (lf (.ept 12 2 ((o.2.1).toNat) 0)),io 86 (lf (.ept 12 2 ((o.2.1).toNat) 0)),⟨none,lf (.val undef),[(12,some (.obx 159 2 ((s.1.2).length) (Zg (.pr (.sl 3 .int) (.sl 3 .int)) (s.1.2)) [((o.2.1).toNat*2+0, .ref 21),((o.2.1).toNat*2+0, .ref 19),((o.1).toNat*2+1, .dat (.sl 3 .int) (x.2++([s.1.1]))),((o.1).toNat*2+1, .ref 18),((o.1).toNat*2+1, .ref 16)]))]⟩] [0,1,3,0,8,0,32,96,0,256,992,2016,4064,0,8192,32736,65535,131071,262143] mixed rfl (by kernel_rfl) ⟨dxf ZP rfl rfl rfl,dxf ZW rfl rfl rfl,dxl Y7 rfl rfl rfl rfl rfl,dxf QcY rfl rfl rfl,dxl QO rfl rfl rfl rfl rfl,dxf ZP rfl rfl rfl,dxf ZW rfl rfl rfl,dxl Y7 rfl rfl rfl rfl rfl,dxf QcY rfl rfl rfl,dxl QO rfl rfl rfl rfl rfl,fun _ h_=>ac (Xx (h_.v rfl) (h_.en 12 rfl) (h_.v rfl) ZO Zh rfl (by omega) (by omega)) rfl,fun _ h_=>ac (Z8 (h_.v rfl) Yo (by rw[(h_.en 12 rfl)]; rfl) rfl) rfl,fun _ h_=>ac (UK (h_.v rfl) (h_.en 12 rfl) (by simp only[ovr,List.getElem?_set,List.length_set,hpA,hpB,hpAB,hpAB.symm,hcA,hcB,eq_self,if_true,if_false,↓reduceIte]) (h_.en 19 rfl) QI rfl) rfl,dxm rfl rfl,fun _ h_=>ac (Qg 20 (e:= .int) QE QO Yf rfl ⟨_,_,rfl,(h_.w rfl),rfl⟩ (List.all_eq_true.1 rfl) ⟨_,_,_,_,rfl,⟨rfl,rfl⟩,⟨rfl,rfl⟩,rfl⟩ (by decide) rfl rfl (h_.fr 20 rfl) (nlr rfl)) rfl,fun _ h_=>ac (QQ 21 (h_.v rfl) (h_.en 19 rfl) (h_.v rfl) (h_.en 20 rfl) rfl QE VB (by first | omega | (simp only[List.length_append,List.length_map,List.length_take,List.length_cons,List.length_nil]; omega) | (simp only[List.length_append,List.length_drop,List.length_take,List.length_cons,List.length_nil]; omega)) rfl (h_.fr 21 rfl) (nlr rfl)) rfl,fun _ h_=>ac (Xx (h_.v rfl) (h_.en 12 rfl) (h_.v rfl) ZO Zh rfl (by omega) (by omega)) rfl,fun _ h_=>ac (Z8 (h_.v rfl) Yo (by rw[(h_.en 12 rfl)]; rfl) rfl) rfl,fun _ h_=>ac (VA (t:=19) (h_.v rfl) (h_.en 12 rfl) (by simp only[ovr,List.getElem?_set,List.length_set,hpA,hpB,hpAB,hpAB.symm,hcA,hcB,eq_self,if_true,if_false,↓reduceIte]) (h_.v rfl) (h_.en 21 rfl) QI) rfl,⟨⟩⟩ ?_
     refine w_ ?_
     refine Wp ?_
     refine AC.wk (J4 (q:=12) (t:=21) (p:=(o.2.1).toNat*2+0) rfl (by simp only[ovr,List.getElem?_set,List.length_set,hpA,hpB,hpAB,hpAB.symm,hcA,hcB,eq_self,if_true,if_false,↓reduceIte]) rfl) ?_
     refine AC.wk (QfW (q:=12) (e:=(.pr (.sl 3 .int) (.sl 3 .int))) (Wu s.1.2 (o.1).toNat (o.2.1).toNat s.1.1) rfl (by simp[Wu]) (by simp only[ovr]; rw[Qpd hpAB,QcH hx,QcS (by rw[List.getElem?_set_ne hab]; exact hy),Qga hx hy hab])) ?_
     iterate 4 refine w_ ?_
     cases hb18:(o.2.2)
     ·iterate 4 refine w_ ?_
      refine lc (Xs (Qa rfl) (Evl.str rfl) rfl (by simp only[Qad]; omega)) ?_
      refine w_ ?_
      refine lc (Qe (Qa rfl) rfl (Qb rfl) rfl Ze rfl) ?_
      refine w_ ?_
      refine dw [io 97 (ag [dI (s.1.1+1), .ref 12, .ref 13, .ref 14,dS (s.2.2.2++(⟨#[48]⟩:ByteArray))]),io 98 (ag [dI (s.1.1+1), .ref 12, .ref 13, .ref 14,dS (s.2.2.2++(⟨#[48]⟩:ByteArray))]),io 99 (lB (decide (StgOk ((s.1.1+1,Wu s.1.2 (o.1).toNat (o.2.1).toNat s.1.1),s.2.1,s.2.2.1,s.2.2.2++(⟨#[48]⟩:ByteArray))))),⟨none,lf (.val undef),[(2,some (.box 39 [dI (s.1.1+1), .ref 12, .ref 13, .ref 14,dS (s.2.2.2++(⟨#[48]⟩:ByteArray))]))]⟩,io 5 (lB (decide (StgOk ((s.1.1+1,Wu s.1.2 (o.1).toNat (o.2.1).toNat s.1.1),s.2.1,s.2.2.1,s.2.2.2++(⟨#[48]⟩:ByteArray)))))] [0,0,2,7,15] mixed rfl (by kernel_rfl) ⟨dxa Q9 rfl rfl rfl rfl,dxa Q9 rfl rfl rfl rfl,fun _ h_=>ac (Zm (YJ ((s.1.1+1,Wu s.1.2 (o.1).toNat (o.2.1).toNat s.1.1),s.2.1,s.2.2.1,s.2.2.2++(⟨#[48]⟩:ByteArray))) W2 ⟨_,_,rfl,(XR (h_.w rfl) ⟨_,_,rfl, .inl rfl,⟨_,_,rfl, .inr ⟨_,_,_,_,rfl,(h_.n 12 rfl),rfl⟩,⟨_,_,rfl, .inr ⟨_,_,_,_,rfl,(h_.n 13 rfl),rfl⟩,⟨_,_,rfl, .inr ⟨_,_,_,_,rfl,(h_.n 14 rfl),rfl⟩,⟨_,_,rfl, .inl rfl,rfl⟩⟩⟩⟩⟩),rfl⟩ rfl rfl rfl) rfl,fun _ h_=>ac (Qe (h_.v rfl) (h_.en 2 rfl) (h_.w rfl) (by simp only[Zx,Wv,List.all_cons,List.all_nil]; rw[(h_.en 12 rfl),(h_.en 13 rfl),(h_.en 14 rfl)]; rfl) Q9 rfl) rfl,dxt rfl rfl,⟨⟩⟩<|Qf ?_
      subst hO
      have e19:(s.1.1+1:Int)=((((Zf s o).1).1).1):=by
       (rw[Yx ⟨‹StgOk s›,by omega,by omega,by omega⟩]; first | done | rfl | exact congrArg (fun z=>z.2.2.2) (Ul (s:=s) (o:=o) (by assumption)) | exact congrArg (fun z=>z.2.2.2) (V8 (s:=s) (o:=o) (by assumption)) | exact US (by assumption) | exact UZ (by assumption))
      have e20:(s.2.2.2++(⟨#[48]⟩:ByteArray):ByteArray)=(((Zf s o).1).2.2.2):=by
       (rw[Yx ⟨‹StgOk s›,by omega,by omega,by omega⟩]; first | done | rfl | exact congrArg (fun z=>z.2.2.2) (Ul (s:=s) (o:=o) (by assumption)) | exact congrArg (fun z=>z.2.2.2) (V8 (s:=s) (o:=o) (by assumption)) | exact US (by assumption) | exact UZ (by assumption))
      have e21:(decide (StgOk ((s.1.1+1,Wu s.1.2 (o.1).toNat (o.2.1).toNat s.1.1),s.2.1,s.2.2.1,s.2.2.2++(⟨#[48]⟩:ByteArray))):Bool)=((Zf s o).2):=by
       (rw[Yx ⟨‹StgOk s›,by omega,by omega,by omega⟩]; first | done | rfl | exact congrArg (fun z=>z.2.2.2) (Ul (s:=s) (o:=o) (by assumption)) | exact congrArg (fun z=>z.2.2.2) (V8 (s:=s) (o:=o) (by assumption)) | exact US (by assumption) | exact UZ (by assumption))
      exact QF _ _ [(0,12),(1,13),(2,14)] (QC rfl (Q3 rfl rfl Q9 rfl) (Qd rfl)) ((((congrArg (fun z_=>PV.tup [(true,[dI z_, .ref 12, .ref 13, .ref 14,dS (s.2.2.2++(⟨#[48]⟩:ByteArray))]),(false,[dB (decide (StgOk ((s.1.1+1,Wu s.1.2 (o.1).toNat (o.2.1).toNat s.1.1),s.2.1,s.2.2.1,s.2.2.2++(⟨#[48]⟩:ByteArray))))])]) e19)).trans (congrArg (fun z_=>PV.tup [(true,[dI ((((Zf s o).1).1).1), .ref 12, .ref 13, .ref 14,dS z_]),(false,[dB (decide (StgOk ((s.1.1+1,Wu s.1.2 (o.1).toNat (o.2.1).toNat s.1.1),s.2.1,s.2.2.1,s.2.2.2++(⟨#[48]⟩:ByteArray))))])]) e20)).trans (congrArg (fun z_=>PV.tup [(true,[dI ((((Zf s o).1).1).1), .ref 12, .ref 13, .ref 14,dS (((Zf s o).1).2.2.2)]),(false,[dB z_])]) e21)) ⟨(Qy (by (rw[Yx ⟨‹StgOk s›,by omega,by omega,by omega⟩]; first | done | rfl | exact congrArg (fun z=>z.2.2.2) (Ul (s:=s) (o:=o) (by assumption)) | exact congrArg (fun z=>z.2.2.2) (V8 (s:=s) (o:=o) (by assumption)) | exact US (by assumption) | exact UZ (by assumption)))),(Qy (by (rw[Yx ⟨‹StgOk s›,by omega,by omega,by omega⟩]; first | done | rfl | exact congrArg (fun z=>z.2.2.2) (Ul (s:=s) (o:=o) (by assumption)) | exact congrArg (fun z=>z.2.2.2) (V8 (s:=s) (o:=o) (by assumption)) | exact US (by assumption) | exact UZ (by assumption)))),(Qy (by (rw[Yx ⟨‹StgOk s›,by omega,by omega,by omega⟩]; first | done | rfl | exact congrArg (fun z=>z.2.2.2) (Ul (s:=s) (o:=o) (by assumption)) | exact congrArg (fun z=>z.2.2.2) (V8 (s:=s) (o:=o) (by assumption)) | exact US (by assumption) | exact UZ (by assumption)))),trivial⟩ rfl rfl
     ·iterate 4 refine w_ ?_
      refine lc (Xs (Qa rfl) (Evl.str rfl) rfl (by simp only[Qad]; omega)) ?_
      refine w_ ?_
      refine lc (Qe (Qa rfl) rfl (Qb rfl) rfl Ze rfl) ?_
      refine w_ ?_
      refine dw [io 97 (ag [dI (s.1.1+1), .ref 12, .ref 13, .ref 14,dS (s.2.2.2++(⟨#[49]⟩:ByteArray))]),io 98 (ag [dI (s.1.1+1), .ref 12, .ref 13, .ref 14,dS (s.2.2.2++(⟨#[49]⟩:ByteArray))]),io 99 (lB (decide (StgOk ((s.1.1+1,Wu s.1.2 (o.1).toNat (o.2.1).toNat s.1.1),s.2.1,s.2.2.1,s.2.2.2++(⟨#[49]⟩:ByteArray))))),⟨none,lf (.val undef),[(2,some (.box 39 [dI (s.1.1+1), .ref 12, .ref 13, .ref 14,dS (s.2.2.2++(⟨#[49]⟩:ByteArray))]))]⟩,io 5 (lB (decide (StgOk ((s.1.1+1,Wu s.1.2 (o.1).toNat (o.2.1).toNat s.1.1),s.2.1,s.2.2.1,s.2.2.2++(⟨#[49]⟩:ByteArray)))))] [0,0,2,7,15] mixed rfl (by kernel_rfl) ⟨dxa Q9 rfl rfl rfl rfl,dxa Q9 rfl rfl rfl rfl,fun _ h_=>ac (Zm (YJ ((s.1.1+1,Wu s.1.2 (o.1).toNat (o.2.1).toNat s.1.1),s.2.1,s.2.2.1,s.2.2.2++(⟨#[49]⟩:ByteArray))) W2 ⟨_,_,rfl,(XR (h_.w rfl) ⟨_,_,rfl, .inl rfl,⟨_,_,rfl, .inr ⟨_,_,_,_,rfl,(h_.n 12 rfl),rfl⟩,⟨_,_,rfl, .inr ⟨_,_,_,_,rfl,(h_.n 13 rfl),rfl⟩,⟨_,_,rfl, .inr ⟨_,_,_,_,rfl,(h_.n 14 rfl),rfl⟩,⟨_,_,rfl, .inl rfl,rfl⟩⟩⟩⟩⟩),rfl⟩ rfl rfl rfl) rfl,fun _ h_=>ac (Qe (h_.v rfl) (h_.en 2 rfl) (h_.w rfl) (by simp only[Zx,Wv,List.all_cons,List.all_nil]; rw[(h_.en 12 rfl),(h_.en 13 rfl),(h_.en 14 rfl)]; rfl) Q9 rfl) rfl,dxt rfl rfl,⟨⟩⟩<|Qf ?_
      subst hO
      have e22:(s.1.1+1:Int)=((((Zf s o).1).1).1):=by
       (rw[Yx ⟨‹StgOk s›,by omega,by omega,by omega⟩]; first | done | rfl | exact congrArg (fun z=>z.2.2.2) (Ul (s:=s) (o:=o) (by assumption)) | exact congrArg (fun z=>z.2.2.2) (V8 (s:=s) (o:=o) (by assumption)) | exact US (by assumption) | exact UZ (by assumption))
      have e23:(s.2.2.2++(⟨#[49]⟩:ByteArray):ByteArray)=(((Zf s o).1).2.2.2):=by
       (rw[Yx ⟨‹StgOk s›,by omega,by omega,by omega⟩]; first | done | rfl | exact congrArg (fun z=>z.2.2.2) (Ul (s:=s) (o:=o) (by assumption)) | exact congrArg (fun z=>z.2.2.2) (V8 (s:=s) (o:=o) (by assumption)) | exact US (by assumption) | exact UZ (by assumption))
      have e24:(decide (StgOk ((s.1.1+1,Wu s.1.2 (o.1).toNat (o.2.1).toNat s.1.1),s.2.1,s.2.2.1,s.2.2.2++(⟨#[49]⟩:ByteArray))):Bool)=((Zf s o).2):=by
       (rw[Yx ⟨‹StgOk s›,by omega,by omega,by omega⟩]; first | done | rfl | exact congrArg (fun z=>z.2.2.2) (Ul (s:=s) (o:=o) (by assumption)) | exact congrArg (fun z=>z.2.2.2) (V8 (s:=s) (o:=o) (by assumption)) | exact US (by assumption) | exact UZ (by assumption))
      exact QF _ _ [(0,12),(1,13),(2,14)] (QC rfl (Q3 rfl rfl Q9 rfl) (Qd rfl)) ((((congrArg (fun z_=>PV.tup [(true,[dI z_, .ref 12, .ref 13, .ref 14,dS (s.2.2.2++(⟨#[49]⟩:ByteArray))]),(false,[dB (decide (StgOk ((s.1.1+1,Wu s.1.2 (o.1).toNat (o.2.1).toNat s.1.1),s.2.1,s.2.2.1,s.2.2.2++(⟨#[49]⟩:ByteArray))))])]) e22)).trans (congrArg (fun z_=>PV.tup [(true,[dI ((((Zf s o).1).1).1), .ref 12, .ref 13, .ref 14,dS z_]),(false,[dB (decide (StgOk ((s.1.1+1,Wu s.1.2 (o.1).toNat (o.2.1).toNat s.1.1),s.2.1,s.2.2.1,s.2.2.2++(⟨#[49]⟩:ByteArray))))])]) e23)).trans (congrArg (fun z_=>PV.tup [(true,[dI ((((Zf s o).1).1).1), .ref 12, .ref 13, .ref 14,dS (((Zf s o).1).2.2.2)]),(false,[dB z_])]) e24)) ⟨(Qy (by (rw[Yx ⟨‹StgOk s›,by omega,by omega,by omega⟩]; first | done | rfl | exact congrArg (fun z=>z.2.2.2) (Ul (s:=s) (o:=o) (by assumption)) | exact congrArg (fun z=>z.2.2.2) (V8 (s:=s) (o:=o) (by assumption)) | exact US (by assumption) | exact UZ (by assumption)))),(Qy (by (rw[Yx ⟨‹StgOk s›,by omega,by omega,by omega⟩]; first | done | rfl | exact congrArg (fun z=>z.2.2.2) (Ul (s:=s) (o:=o) (by assumption)) | exact congrArg (fun z=>z.2.2.2) (V8 (s:=s) (o:=o) (by assumption)) | exact US (by assumption) | exact UZ (by assumption)))),(Qy (by (rw[Yx ⟨‹StgOk s›,by omega,by omega,by omega⟩]; first | done | rfl | exact congrArg (fun z=>z.2.2.2) (Ul (s:=s) (o:=o) (by assumption)) | exact congrArg (fun z=>z.2.2.2) (V8 (s:=s) (o:=o) (by assumption)) | exact US (by assumption) | exact UZ (by assumption)))),trivial⟩ rfl rfl
    ·have hb17':=of_decide_eq_true hb17
     iterate 2 refine w_ ?_
     refine lc (QH WY rfl (List.all_eq_true.1 rfl) rfl rfl)<|lc (Qe (Qa rfl) rfl (Qb rfl) rfl Q9 rfl) ?_
     iterate 2 refine w_ ?_
     refine AC.wk (QR 22 (p:=2) (off:=1) 159 (.pr (.sl 3 .int) (.sl 3 .int)) rfl rfl (Fresh.of rfl) (nlr rfl))<|AC.wk (QR 23 (p:=2) (off:=2) 145 (.pr .str .int) rfl rfl (Fresh.of rfl) (nlr rfl))<|AC.wk (QR 24 (p:=2) (off:=3) 61 (.pr .int .bool) rfl rfl (Fresh.of rfl) (nlr rfl))<|Qf ?_
     subst hO
     have e25:(0:Int)=((((Zf s o).1).1).1):=by
      (rw[Zt (fun ⟨a1,⟨a2,a3⟩,⟨a4,a5⟩,a6⟩=>by have:=Qv a1; first | exact absurd a1 (by assumption) | exact absurd (by assumption) a6 | omega)]; rfl)
     have e26:(ByteArray.empty:ByteArray)=(((Zf s o).1).2.2.2):=by
      (rw[Zt (fun ⟨a1,⟨a2,a3⟩,⟨a4,a5⟩,a6⟩=>by have:=Qv a1; first | exact absurd a1 (by assumption) | exact absurd (by assumption) a6 | omega)]; rfl)
     have e27:(false:Bool)=((Zf s o).2):=by
      (rw[Zt (fun ⟨a1,⟨a2,a3⟩,⟨a4,a5⟩,a6⟩=>by have:=Qv a1; first | exact absurd a1 (by assumption) | exact absurd (by assumption) a6 | omega)]; done)
     exact QF _ _ [(0,22),(1,23),(2,24)] (QC rfl (Q3 rfl rfl Q9 rfl) (Qd rfl)) ((((congrArg (fun z_=>PV.tup [(true,[dI z_, .ref 22, .ref 23, .ref 24,dS ByteArray.empty]),(false,[dB false])]) e25)).trans (congrArg (fun z_=>PV.tup [(true,[dI ((((Zf s o).1).1).1), .ref 22, .ref 23, .ref 24,dS z_]),(false,[dB false])]) e26)).trans (congrArg (fun z_=>PV.tup [(true,[dI ((((Zf s o).1).1).1), .ref 22, .ref 23, .ref 24,dS (((Zf s o).1).2.2.2)]),(false,[dB z_])]) e27)) ⟨(Qy (by (rw[Zt (fun ⟨a1,⟨a2,a3⟩,⟨a4,a5⟩,a6⟩=>by have:=Qv a1; first | exact absurd a1 (by assumption) | exact absurd (by assumption) a6 | omega)]; rfl))),(Qy (by (rw[Zt (fun ⟨a1,⟨a2,a3⟩,⟨a4,a5⟩,a6⟩=>by have:=Qv a1; first | exact absurd a1 (by assumption) | exact absurd (by assumption) a6 | omega)]; rfl))),(Qy (by (rw[Zt (fun ⟨a1,⟨a2,a3⟩,⟨a4,a5⟩,a6⟩=>by have:=Qv a1; first | exact absurd a1 (by assumption) | exact absurd (by assumption) a6 | omega)]; rfl))),trivial⟩ rfl rfl
end Go.Proofs.YtnakmhfjafecpaaGreat
namespace Go.Proofs.YtnakmhfjafecpaaGreat
open Go.RowKit
set_option maxRecDepth 100000
set_option maxHeartbeats 4000000
section
variable {α:Type _}(f:α→Int→α×Int)
def QK:List α→Int→List α×Int
  | [],k=>([],k)
  | x :: xs,k=>((f x k).1 :: (QK xs (f x k).2).1,(QK xs (f x k).2).2)
def mkA (a:List α)(k:Int)(i:Nat):List α:=(QK f (a.take i) k).1++a.drop i
def mkC (a:List α)(k:Int)(i:Nat):Int:=(QK f (a.take i) k).2
variable {f}
theorem Qbg (c:α→Nat)(hc:∀x k,(f x k).2=k+c x)(a:List α)(k:Int):(QK f a k).2=k+((a.map c).sum:Nat):=by
  induction a generalizing k with
  | nil=>simp[QK]
  | cons x xs ih=>simp only[QK,ih,hc,List.map_cons,List.sum_cons]; omega
end
@[reducible] def fI:Int→Int→Int×Int:=fun _ k=>(k,k+1)
theorem Qp2:∀(x k:Int),(fI x k).2=k+((fun _=>1:Int→Nat) x:Nat):=fun _ _=>rfl
theorem QnB {α:Type _}(a:List α):(a.map fun _=>1).sum=a.length:=by
  induction a with
  | nil=>rfl
  | cons x xs ih=>simp[ih]; omega
@[reducible] def fL:Int×Bool→Int→(Int×Bool)×Int:=fun _ k=>((k,decide ((k+1) % 3=0)),k+2)
theorem Qqg:∀(x:Int×Bool) (k:Int),(fL x k).2=k+((fun _=>2:Int×Bool→Nat) x:Nat):=fun _ _=>rfl
theorem QiU {α:Type _}(a:List α):(a.map fun _=>2).sum=2*a.length:=by
  induction a with
  | nil=>rfl
  | cons x xs ih=>simp[ih]; omega
end Go.Proofs.YtnakmhfjafecpaaGreat
namespace Go.Proofs.YtnakmhfjafecpaaGreat
open Go.RowKit
set_option maxRecDepth 100000
set_option maxHeartbeats 4000000
@[reducible] def fT:List Int×List Int→Int→(List Int×List Int)×Int:=fun t k=>(((QK fI t.1 k).1,(QK fI t.2 (QK fI t.1 k).2).1),(QK fI t.2 (QK fI t.1 k).2).2)
def cT (t:List Int×List Int):Nat:=t.1.length+t.2.length
theorem QoC (l:List Int)(k:Int):(QK fI l k).2=k+l.length:=by rw[Qbg _ Qp2,QnB]
theorem Qp6:∀(x:List Int×List Int) (k:Int),(fT x k).2=k+(cT x:Nat):=fun x k=>by simp only[fT,QoC,cT]; omega
def Qo8 (a:List (List Int×List Int)):Nat:=(a.map cT).sum
end Go.Proofs.YtnakmhfjafecpaaGreat
namespace Go.Proofs.YtnakmhfjafecpaaGreat
open Go.RowKit
set_option maxRecDepth 100000
set_option maxHeartbeats 4000000
def dg (k:Int):Nat→ByteArray
  | 0=>(⟨#[]⟩:ByteArray)
  | j+1=>(⟨#[UInt8.ofNat ((48+(k / 10 ^ j) % 10):Int).toNat]⟩:ByteArray)++dg k j
def mt (k:Int):Nat→Nat→ByteArray
  | 0,j=>dg k j
  | n+1,j=>if k / 10 ^ j≤0 then dg k j else mt k n (j+1)
def Qpn (k:Int):ByteArray:=if k≤0 then (⟨#[109,48]⟩:ByteArray) else (⟨#[109]⟩:ByteArray)++mt k 20 0
end Go.Proofs.YtnakmhfjafecpaaGreat
namespace Go.Proofs.YtnakmhfjafecpaaGreat
open Go.RowKit
set_option maxRecDepth 100000
set_option maxHeartbeats 4000000
@[reducible] def fS:ByteArray×Int→Int→(ByteArray×Int)×Int:=fun _ k=>((Qpn k,k+1),k+2)
theorem Qqh:∀(x:ByteArray×Int) (k:Int),(fS x k).2=k+((fun _=>2:ByteArray×Int→Nat) x:Nat):=fun _ _=>rfl
theorem Qon (l:List (List Int×List Int))(k:Int):(QK fT l k).2=k+Qo8 l:=Qbg _ Qp6 l k
theorem Qoh (l:List (ByteArray×Int))(k:Int):(QK fS l k).2=k+2*l.length:=by rw[Qbg _ Qqh,QiU]; omega
theorem Qom (l:List (Int×Bool))(k:Int):(QK fL l k).2=k+2*l.length:=by rw[Qbg _ Qqg,QiU]; omega
def QpE (s:Q5)(k:Int):Q5×Int:=(((s.1.1,(QK fT s.1.2 k).1),(QK fS s.2.1 (QK fT s.1.2 k).2).1,(QK fL s.2.2.1 (QK fS s.2.1 (QK fT s.1.2 k).2).2).1,s.2.2.2),(QK fL s.2.2.1 (QK fS s.2.1 (QK fT s.1.2 k).2).2).2)
end Go.Proofs.YtnakmhfjafecpaaGreat
namespace Go.Proofs.YtnakmhfjafecpaaGreat
open Go.RowKit
set_option maxRecDepth 100000
set_option maxHeartbeats 4000000
theorem Qg5 (x:Q5)(left:Int)(h0:0≤left)(h1:left≤1048576):FC Tryz.prog 11 [(true,leaves UM x),(false,[dI left])] [] 0 (Zq (lf (dI (szv left (Ty.tot UM x))))):=
  QlO (fun us w hr=>by
    obtain ⟨a0,a1,a2,a3,a4,rfl⟩:=WR hr.len
    exact QkQ a0 a1 a2 a3 a4 x left w hr h0 h1) h0 h1
theorem VZ (x:Q5)(hz:Ty.tot UM x≤1048576):FC Tryz.prog 13 [(true,leaves UM x)] [] 0 (Is (ag (oL Y8 x 0)) (oT Y8 x 0)):=
  QdI fun gh w vs ha=>by
    obtain ⟨us,vs,rfl,hr,ha⟩:=ha.agg_cons
    obtain rfl:=ha.nil_
    obtain ⟨a0,a1,a2,a3,a4,rfl⟩:=WR hr.len
    refine Calls.mono (Qki a0 a1 a2 a3 a4 x w hr hz) fun e w' he=> ?_
    obtain ⟨u0,u1,u2,u3,u4,rfl,h1,h2⟩:=he
    exact ⟨_,rfl,h1,h2⟩
theorem Qgc (x y:Q5)(h:x=y):FC Tryz.prog 16 [(true,leaves Y8 x),(true,leaves Y8 y)] [] 0 (Zq (lf (dB true))):=
  Qgx h fun us vs w h1 h2=>by
    obtain ⟨a0,a1,a2,a3,a4,rfl⟩:=WR h1.len
    obtain ⟨b0,b1,b2,b3,b4,rfl⟩:=WR h2.len
    exact Qin a0 a1 a2 a3 a4 b0 b1 b2 b3 b4 x w h1 h2
theorem Jl (x:QD)(hz:Ty.tot YZ x≤1048576):FC Tryz.prog 41 [(true,leaves YZ x)] [] 0 (Is (ag (oL XZ x 0)) (oT XZ x 0)):=
  QdI fun gh w vs ha=>by
    obtain ⟨us,vs,rfl,hr,ha⟩:=ha.agg_cons
    obtain rfl:=ha.nil_
    obtain ⟨a0,a1,a2,rfl⟩:=KP hr.len
    refine Calls.mono (QbG a0 a1 a2 x w hr hz) fun e w' he=> ?_
    obtain ⟨u0,u1,u2,rfl,h1,h2⟩:=he
    exact ⟨_,rfl,h1,h2⟩
theorem Qdy (x y:QD)(h:x=y):FC Tryz.prog 45 [(true,leaves XZ x),(true,leaves XZ y)] [] 0 (Zq (lf (dB true))):=
  Qgx h fun us vs w h1 h2=>by
    obtain ⟨a0,a1,a2,rfl⟩:=KP h1.len
    obtain ⟨b0,b1,b2,rfl⟩:=KP h2.len
    exact QaQ a0 a1 a2 b0 b1 b2 x w h1 h2
end Go.Proofs.YtnakmhfjafecpaaGreat
namespace Go.Proofs.YtnakmhfjafecpaaGreat
open Go.RowKit
set_option maxRecDepth 100000
set_option maxHeartbeats 4000000
theorem Qgs (s:Q5)(k:Int):(QpE s k).2=k+Qo8 s.1.2+2*s.2.1.length+2*s.2.2.1.length:=by
  simp only[QpE,Qom,Qoh,Qon]
end Go.Proofs.YtnakmhfjafecpaaGreat
namespace Go.Proofs.YtnakmhfjafecpaaGreat
open Go.RowKit
set_option maxRecDepth 100000
set_option maxHeartbeats 4000000
section
variable [∀s,Decidable (StgOk s)]
def Qpp:Q5→List QD→Q5×Bool
  | s,[]=>(s,true)
  | s,o :: os=>if (ZB s o).2=true then Qpp (ZB s o).1 os else (Vz,false)
def QpW (s:Q5)(l:List QD):Q5×Bool:=if StgOk s∧l.length≤6 then Qpp s l else (Vz,false)
end
@[reducible] def QoH:(QD)→Int→(QD)×Int:=fun _ k=>((k,k+1,decide ((k+1+1) % 3=0)),k+1+1+1)
end Go.Proofs.YtnakmhfjafecpaaGreat
