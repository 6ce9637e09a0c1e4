/- Walks over abstract states: orderings added, the two functions. -/
import Derived.Test.YtndabgcpnmeeoaaGreatOWb
import Derived.Test.YtndabgcpnmeeoaaGreatOAk
import Derived.Test.YtndabgcpnmeeoaaGreatOIdx
import Derived.Test.YtndabgcpnmeeoaaGreatProg
import Derived.KernelRfl
import Derived.Test.YtndabgcpnmeeoaaGreatOAl
set_option linter.unusedSimpArgs false
set_option linter.unusedVariables false
set_option linter.unusedSectionVars false
namespace Go.Proofs.YtndabgcpnmeeoaaGreat
open Go.RowKit
set_option maxRecDepth 100000
set_option maxHeartbeats 4000000
def Vf (s:Qy)(o:Qp):Prop:=StgOk s∧(0≤o.1∧o.1 < s.1.2.length)∧(0≤o.2.1∧o.2.1 < s.1.2.length)∧o.1≠o.2.1
instance (s:Qy) (o:Qp) [Decidable (StgOk s)]:Decidable (Vf s o):=inferInstanceAs (Decidable (_∧_))
def QK (s:Qy)(o:Qp)[Decidable (StgOk s)][Decidable (StgOk (QC s o))]:Qy×Bool:=if Vf s o then ZG (QC s o) else (X2,false)
def Zu (s:Qy)(o:Qp)[Decidable (StgOk s)][Decidable (StgOk (QC s o))]:Qy×Bool:=if Vf s o then (QC s o,decide (StgOk (QC s o))) else (X2,false)
theorem Qk {s:Qy}(h:StgOk s):s.1.2.length=s.2.2.1.length:=h.len.symm
theorem QfX {s:Qy}(h:StgOk s):1≤s.1.1∧s.1.1≤30:=h.net.1
section
variable {s:Qy}{o:Qp}[Decidable (StgOk s)][Decidable (StgOk (QC s o))]
theorem ZB (h:¬Vf s o):QK s o=(X2,false):=if_neg h
theorem U4 (h:Vf s o):QK s o=ZG (QC s o):=if_pos h
theorem ZC (h:¬Vf s o):Zu s o=(X2,false):=if_neg h
theorem Y1 (h:Vf s o):Zu s o=(QC s o,decide (StgOk (QC s o))):=if_pos h
end
theorem Kv {s:Qy}{o:Qp}(h:o.2.2=true):(((s.1.1+1,WF s.1.2 o.1.toNat o.2.1.toNat s.1.1),s.2.1,s.2.2.1,s.2.2.2++(⟨#[49]⟩:ByteArray)):Qy)=QC s o:=by simp[QC,YF,h]
theorem Ku {s:Qy}{o:Qp}(h:o.2.2=false):(((s.1.1+1,WF s.1.2 o.1.toNat o.2.1.toNat s.1.1),s.2.1,s.2.2.1,s.2.2.2++(⟨#[48]⟩:ByteArray)):Qy)=QC s o:=by simp[QC,YF,h]
theorem Jt {s:Qy}{o:Qp}(h:o.2.2=true)[Decidable (StgOk (((s.1.1+1,WF s.1.2 o.1.toNat o.2.1.toNat s.1.1),s.2.1,s.2.2.1,s.2.2.2++(⟨#[49]⟩:ByteArray)):Qy))][Decidable (StgOk (QC s o))]:decide (StgOk (((s.1.1+1,WF s.1.2 o.1.toNat o.2.1.toNat s.1.1),s.2.1,s.2.2.1,s.2.2.2++(⟨#[49]⟩:ByteArray)):Qy))=decide (StgOk (QC s o)):=db.2 (by rw[Kv h])
theorem Js {s:Qy}{o:Qp}(h:o.2.2=false)[Decidable (StgOk (((s.1.1+1,WF s.1.2 o.1.toNat o.2.1.toNat s.1.1),s.2.1,s.2.2.1,s.2.2.2++(⟨#[48]⟩:ByteArray)):Qy))][Decidable (StgOk (QC s o))]:decide (StgOk (((s.1.1+1,WF s.1.2 o.1.toNat o.2.1.toNat s.1.1),s.2.1,s.2.2.1,s.2.2.2++(⟨#[48]⟩:ByteArray)):Qy))=decide (StgOk (QC s o)):=db.2 (by rw[Ku h])
theorem XN (s:YA)(o:Qo6)[Decidable (StgOk s)][Decidable (StgOk (QC s o))](I:Ty.tot Zl s≤2000000):FC Tryz.prog 30 [(true,[dI s.1.1, .dat QF s.1.2, .dat Qo s.2.1, .dat Qw s.2.2.1,dS s.2.2.2]),(true,[dI o.1,dI o.2.1,dB o.2.2])] [] 0 (Is (PV.tup [(true,[dI ((((QK s o).1).1).1), .ref 0, .ref 1, .ref 2,dS (((QK s o).1).2.2.2)]),(false,[dB ((QK s o).2)])]) [ar 0 275 QD ((((QK s o).1).1).2),ar 1 77 QE (((QK s o).1).2.1),ar 2 75 QL (((QK s o).1).2.2.1)]):=by
 refine Qn Tryz.func30 rfl rfl Tryz.ntmps30 fun K i J C L H G=> ?_
 refine acG 0 0 fun _=> ?_
 refine acG 1 0 fun _=> ?_
 refine acG 1 1 fun _=> ?_
 refine w_ ?_
 refine xbx 0 ?_
 refine xbx 1 ?_
 refine lc (xal 2 YM Q5) ?_
 refine w5 ?_
 refine alL 8 fun _=> ?_
 refine w7 ?_
 refine lc (dK (YU s) KW) ?_
 refine w2 ?_
 cases j:(decide (StgOk s))
 have k:=aa j
 refine w16 ?_
 refine w7 ?_
 refine lc (Qj Xj rfl (av.1 rfl) rfl rfl) ?_
 refine w3 ?_
 refine AC.wk (Qq 3 (p:=2) (off:=1) 275 QD rfl rfl (Fresh.of rfl) (nlr rfl))<|AC.wk (Qq 4 (p:=2) (off:=2) 77 QE rfl rfl (Fresh.of rfl) (nlr rfl))<|AC.wk (Qq 5 (p:=2) (off:=3) 75 QL rfl rfl (Fresh.of rfl) (nlr rfl))<|Qe ?_
 have D:(0:Int)=((((QK s o).1).1).1):=by
  (rw[ZB (fun ⟨a,⟨c,d⟩,⟨e,f⟩,b⟩=>by have:=Qk a; first | exact absurd a ‹_› | exact absurd ‹_› b | omega)]; rfl)
 have E:(ByteArray.empty:ByteArray)=(((QK s o).1).2.2.2):=by
  (rw[ZB (fun ⟨a,⟨c,d⟩,⟨e,f⟩,b⟩=>by have:=Qk a; first | exact absurd a ‹_› | exact absurd ‹_› b | omega)]; rfl)
 have F:(false:Bool)=((QK s o).2):=by
  (rw[ZB (fun ⟨a,⟨c,d⟩,⟨e,f⟩,b⟩=>by have:=Qk a; first | exact absurd a ‹_› | exact absurd ‹_› b | omega)]; done)
 exact fi_ [(0,3),(1,4),(2,5)] i ⟨(Qh (by (rw[ZB (fun ⟨a,⟨c,d⟩,⟨e,f⟩,b⟩=>by have:=Qk a; first | exact absurd a ‹_› | exact absurd ‹_› b | omega)]; rfl))),(Qh (by (rw[ZB (fun ⟨a,⟨c,d⟩,⟨e,f⟩,b⟩=>by have:=Qk a; first | exact absurd a ‹_› | exact absurd ‹_› b | omega)]; rfl))),(Qh (by (rw[ZB (fun ⟨a,⟨c,d⟩,⟨e,f⟩,b⟩=>by have:=Qk a; first | exact absurd a ‹_› | exact absurd ‹_› b | omega)]; rfl))),trivial⟩ (h0:=(((congrArg (fun z_=>PV.tup [(true,[dI z_, .ref 3, .ref 4, .ref 5,dS ByteArray.empty]),(false,[dB false])]) D)).trans (congrArg (fun z_=>PV.tup [(true,[dI ((((QK s o).1).1).1), .ref 3, .ref 4, .ref 5,dS z_]),(false,[dB false])]) E)).trans (congrArg (fun z_=>PV.tup [(true,[dI ((((QK s o).1).1).1), .ref 3, .ref 4, .ref 5,dS (((QK s o).1).2.2.2)]),(false,[dB z_])]) F))
 have k:=ab j
 refine w3 ?_
 refine lgy rfl rfl (dK (QP o.1 0 ((s.2.2.1.length:Int) - 1)) Zf) ?_
 refine w3 ?_
 cases l:(decide (0≤o.1∧o.1≤((s.2.2.1.length:Int) - 1)))
 have m:=aa l
 refine w16 ?_
 refine lc (Qj Xj rfl (av.1 rfl) rfl rfl) ?_
 refine w3 ?_
 refine AC.wk (Qq 6 (p:=2) (off:=1) 275 QD rfl rfl (Fresh.of rfl) (nlr rfl))<|AC.wk (Qq 7 (p:=2) (off:=2) 77 QE rfl rfl (Fresh.of rfl) (nlr rfl))<|AC.wk (Qq 8 (p:=2) (off:=3) 75 QL rfl rfl (Fresh.of rfl) (nlr rfl))<|Qe ?_
 have n:(0:Int)=((((QK s o).1).1).1):=by
  (rw[ZB (fun ⟨a,⟨c,d⟩,⟨e,f⟩,b⟩=>by have:=Qk a; first | exact absurd a ‹_› | exact absurd ‹_› b | omega)]; rfl)
 have q:(ByteArray.empty:ByteArray)=(((QK s o).1).2.2.2):=by
  (rw[ZB (fun ⟨a,⟨c,d⟩,⟨e,f⟩,b⟩=>by have:=Qk a; first | exact absurd a ‹_› | exact absurd ‹_› b | omega)]; rfl)
 have r:(false:Bool)=((QK s o).2):=by
  (rw[ZB (fun ⟨a,⟨c,d⟩,⟨e,f⟩,b⟩=>by have:=Qk a; first | exact absurd a ‹_› | exact absurd ‹_› b | omega)]; done)
 exact fi_ [(0,6),(1,7),(2,8)] i ⟨(Qh (by (rw[ZB (fun ⟨a,⟨c,d⟩,⟨e,f⟩,b⟩=>by have:=Qk a; first | exact absurd a ‹_› | exact absurd ‹_› b | omega)]; rfl))),(Qh (by (rw[ZB (fun ⟨a,⟨c,d⟩,⟨e,f⟩,b⟩=>by have:=Qk a; first | exact absurd a ‹_› | exact absurd ‹_› b | omega)]; rfl))),(Qh (by (rw[ZB (fun ⟨a,⟨c,d⟩,⟨e,f⟩,b⟩=>by have:=Qk a; first | exact absurd a ‹_› | exact absurd ‹_› b | omega)]; rfl))),trivial⟩ (h0:=(((congrArg (fun z_=>PV.tup [(true,[dI z_, .ref 6, .ref 7, .ref 8,dS ByteArray.empty]),(false,[dB false])]) n)).trans (congrArg (fun z_=>PV.tup [(true,[dI ((((QK s o).1).1).1), .ref 6, .ref 7, .ref 8,dS z_]),(false,[dB false])]) q)).trans (congrArg (fun z_=>PV.tup [(true,[dI ((((QK s o).1).1).1), .ref 6, .ref 7, .ref 8,dS (((QK s o).1).2.2.2)]),(false,[dB z_])]) r))
 have m:=ab l
 refine w3 ?_
 refine lgy rfl rfl (dK (QP o.2.1 0 ((s.2.2.1.length:Int) - 1)) Zf) ?_
 refine w3 ?_
 cases g:(decide (0≤o.2.1∧o.2.1≤((s.2.2.1.length:Int) - 1)))
 have h:=aa g
 refine w9 ?_
 refine lc (Qj Xj rfl (av.1 rfl) rfl rfl) ?_
 refine w3 ?_
 refine AC.wk (Qq 9 (p:=2) (off:=1) 275 QD rfl rfl (Fresh.of rfl) (nlr rfl))<|AC.wk (Qq 10 (p:=2) (off:=2) 77 QE rfl rfl (Fresh.of rfl) (nlr rfl))<|AC.wk (Qq 11 (p:=2) (off:=3) 75 QL rfl rfl (Fresh.of rfl) (nlr rfl))<|Qe ?_
 have t:(0:Int)=((((QK s o).1).1).1):=by
  (rw[ZB (fun ⟨a,⟨c,d⟩,⟨e,f⟩,b⟩=>by have:=Qk a; first | exact absurd a ‹_› | exact absurd ‹_› b | omega)]; rfl)
 have u:(ByteArray.empty:ByteArray)=(((QK s o).1).2.2.2):=by
  (rw[ZB (fun ⟨a,⟨c,d⟩,⟨e,f⟩,b⟩=>by have:=Qk a; first | exact absurd a ‹_› | exact absurd ‹_› b | omega)]; rfl)
 have v:(false:Bool)=((QK s o).2):=by
  (rw[ZB (fun ⟨a,⟨c,d⟩,⟨e,f⟩,b⟩=>by have:=Qk a; first | exact absurd a ‹_› | exact absurd ‹_› b | omega)]; done)
 exact fi_ [(0,9),(1,10),(2,11)] i ⟨(Qh (by (rw[ZB (fun ⟨a,⟨c,d⟩,⟨e,f⟩,b⟩=>by have:=Qk a; first | exact absurd a ‹_› | exact absurd ‹_› b | omega)]; rfl))),(Qh (by (rw[ZB (fun ⟨a,⟨c,d⟩,⟨e,f⟩,b⟩=>by have:=Qk a; first | exact absurd a ‹_› | exact absurd ‹_› b | omega)]; rfl))),(Qh (by (rw[ZB (fun ⟨a,⟨c,d⟩,⟨e,f⟩,b⟩=>by have:=Qk a; first | exact absurd a ‹_› | exact absurd ‹_› b | omega)]; rfl))),trivial⟩ (h0:=(((congrArg (fun z_=>PV.tup [(true,[dI z_, .ref 9, .ref 10, .ref 11,dS ByteArray.empty]),(false,[dB false])]) t)).trans (congrArg (fun z_=>PV.tup [(true,[dI ((((QK s o).1).1).1), .ref 9, .ref 10, .ref 11,dS z_]),(false,[dB false])]) u)).trans (congrArg (fun z_=>PV.tup [(true,[dI ((((QK s o).1).1).1), .ref 9, .ref 10, .ref 11,dS (((QK s o).1).2.2.2)]),(false,[dB z_])]) v))
 have h:=ab g
 refine w7 ?_
 refine cd_ (fun _ _=> ?_) fun _ _=> ?_
 refine w4 ?_
 refine lc (dG 12 (Qde s o I (by have:=Qk ‹StgOk s›; omega) (by have:=Qk ‹StgOk s›; omega) (by omega) (QfX ‹StgOk s›)) Qla) ?_
 refine lc (dP 15 [(0,12),(1,13),(2,14)] (Qge (QC s o)) Qk9) ?_
 refine w6 ?_
 have w:((((ZG (QC s o)).1).1).1:Int)=((((QK s o).1).1).1):=by
  (rw[U4 ⟨‹StgOk s›,by have:=Qk ‹StgOk s›; omega,by have:=Qk ‹StgOk s›; omega,by omega⟩])
 have x:(((ZG (QC s o)).1).2.2.2:ByteArray)=(((QK s o).1).2.2.2):=by
  (rw[U4 ⟨‹StgOk s›,by have:=Qk ‹StgOk s›; omega,by have:=Qk ‹StgOk s›; omega,by omega⟩])
 have y:((ZG (QC s o)).2:Bool)=((QK s o).2):=by
  (rw[U4 ⟨‹StgOk s›,by have:=Qk ‹StgOk s›; omega,by have:=Qk ‹StgOk s›; omega,by omega⟩])
 exact fi_ [(0,15),(1,16),(2,17)] i ⟨(Qh (by (rw[U4 ⟨‹StgOk s›,by have:=Qk ‹StgOk s›; omega,by have:=Qk ‹StgOk s›; omega,by omega⟩]))),(Qh (by (rw[U4 ⟨‹StgOk s›,by have:=Qk ‹StgOk s›; omega,by have:=Qk ‹StgOk s›; omega,by omega⟩]))),(Qh (by (rw[U4 ⟨‹StgOk s›,by have:=Qk ‹StgOk s›; omega,by have:=Qk ‹StgOk s›; omega,by omega⟩]))),trivial⟩ (h0:=(((congrArg (fun z_=>PV.tup [(true,[dI z_, .ref 15, .ref 16, .ref 17,dS (((ZG (QC s o)).1).2.2.2)]),(false,[dB ((ZG (QC s o)).2)])]) w)).trans (congrArg (fun z_=>PV.tup [(true,[dI ((((QK s o).1).1).1), .ref 15, .ref 16, .ref 17,dS z_]),(false,[dB ((ZG (QC s o)).2)])]) x)).trans (congrArg (fun z_=>PV.tup [(true,[dI ((((QK s o).1).1).1), .ref 15, .ref 16, .ref 17,dS (((QK s o).1).2.2.2)]),(false,[dB z_])]) y))
 refine w_ ?_
 refine lc (Qj Xj rfl (av.1 rfl) rfl rfl) ?_
 refine w3 ?_
 refine AC.wk (Qq 18 (p:=2) (off:=1) 275 QD rfl rfl (Fresh.of rfl) (nlr rfl))<|AC.wk (Qq 19 (p:=2) (off:=2) 77 QE rfl rfl (Fresh.of rfl) (nlr rfl))<|AC.wk (Qq 20 (p:=2) (off:=3) 75 QL rfl rfl (Fresh.of rfl) (nlr rfl))<|Qe ?_
 have z:(0:Int)=((((QK s o).1).1).1):=by
  (rw[ZB (fun ⟨a,⟨c,d⟩,⟨e,f⟩,b⟩=>by have:=Qk a; first | exact absurd a ‹_› | exact absurd ‹_› b | omega)]; rfl)
 have A:(ByteArray.empty:ByteArray)=(((QK s o).1).2.2.2):=by
  (rw[ZB (fun ⟨a,⟨c,d⟩,⟨e,f⟩,b⟩=>by have:=Qk a; first | exact absurd a ‹_› | exact absurd ‹_› b | omega)]; rfl)
 have B:(false:Bool)=((QK s o).2):=by
  (rw[ZB (fun ⟨a,⟨c,d⟩,⟨e,f⟩,b⟩=>by have:=Qk a; first | exact absurd a ‹_› | exact absurd ‹_› b | omega)]; done)
 exact fi_ [(0,18),(1,19),(2,20)] i ⟨(Qh (by (rw[ZB (fun ⟨a,⟨c,d⟩,⟨e,f⟩,b⟩=>by have:=Qk a; first | exact absurd a ‹_› | exact absurd ‹_› b | omega)]; rfl))),(Qh (by (rw[ZB (fun ⟨a,⟨c,d⟩,⟨e,f⟩,b⟩=>by have:=Qk a; first | exact absurd a ‹_› | exact absurd ‹_› b | omega)]; rfl))),(Qh (by (rw[ZB (fun ⟨a,⟨c,d⟩,⟨e,f⟩,b⟩=>by have:=Qk a; first | exact absurd a ‹_› | exact absurd ‹_› b | omega)]; rfl))),trivial⟩ (h0:=(((congrArg (fun z_=>PV.tup [(true,[dI z_, .ref 18, .ref 19, .ref 20,dS ByteArray.empty]),(false,[dB false])]) z)).trans (congrArg (fun z_=>PV.tup [(true,[dI ((((QK s o).1).1).1), .ref 18, .ref 19, .ref 20,dS z_]),(false,[dB false])]) A)).trans (congrArg (fun z_=>PV.tup [(true,[dI ((((QK s o).1).1).1), .ref 18, .ref 19, .ref 20,dS (((QK s o).1).2.2.2)]),(false,[dB z_])]) B))
theorem Qyd {α:Type _}{c:List α}{p q:Nat}(h:p≠q)(a d x b e y:α):((((((c.set p a).set p d).set p x).set q b).set q e).set q y)=(c.set p x).set q y:=by
 apply bF
 intro i
 simp only[aV,au]
 split <;> split <;> simp_all
theorem J1 (s:YA)(o:Qo6)[Decidable (StgOk s)][Decidable (StgOk (QC s o))](I:Ty.tot Zl s≤2000000):FC Tryz.prog 126 [(true,[dI s.1.1, .dat QF s.1.2, .dat Qo s.2.1, .dat Qw s.2.2.1,dS s.2.2.2]),(true,[dI o.1,dI o.2.1,dB o.2.2])] [] 0 (Is (PV.tup [(true,[dI ((((Zu s o).1).1).1), .ref 0, .ref 1, .ref 2,dS (((Zu s o).1).2.2.2)]),(false,[dB ((Zu s o).2)])]) [ar 0 275 QD ((((Zu s o).1).1).2),ar 1 77 QE (((Zu s o).1).2.1),ar 2 75 QL (((Zu s o).1).2.2.1)]):=by
 classical
 refine Qn Tryz.func126 rfl rfl Tryz.ntmps126 fun O_ A b2 Z X_ a7 a0=> ?_
 refine acG 0 0 fun _=> ?_
 refine acG 1 0 fun _=> ?_
 refine acG 1 1 fun _=> ?_
 refine w_ ?_
 refine xbx 0 ?_
 refine xbx 1 ?_
 refine lc (xal 2 YM Q5) ?_
 refine w6 ?_
 refine alL 11 fun _=> ?_
 refine w6 ?_
 refine lc (dK (Z0 s) Xl) ?_
 refine w2 ?_
 cases C:(decide (StgOk s))
 have D:=aa C
 refine w16 ?_
 refine w9 ?_
 refine lc (Qj Xj rfl (av.1 rfl) rfl rfl) ?_
 refine w3 ?_
 refine AC.wk (Qq 3 (p:=2) (off:=1) 275 QD rfl rfl (Fresh.of rfl) (nlr rfl))<|AC.wk (Qq 4 (p:=2) (off:=2) 77 QE rfl rfl (Fresh.of rfl) (nlr rfl))<|AC.wk (Qq 5 (p:=2) (off:=3) 75 QL rfl rfl (Fresh.of rfl) (nlr rfl))<|Qe ?_
 have e6:(0:Int)=((((Zu s o).1).1).1):=by
  (rw[ZC (fun ⟨b,⟨f,g⟩,⟨h,i⟩,c⟩=>by have:=Qk b; first | exact absurd b ‹_› | exact absurd ‹_› c | omega)]; rfl)
 have e7:(ByteArray.empty:ByteArray)=(((Zu s o).1).2.2.2):=by
  (rw[ZC (fun ⟨b,⟨f,g⟩,⟨h,i⟩,c⟩=>by have:=Qk b; first | exact absurd b ‹_› | exact absurd ‹_› c | omega)]; rfl)
 have e8:(false:Bool)=((Zu s o).2):=by
  (rw[ZC (fun ⟨b,⟨f,g⟩,⟨h,i⟩,c⟩=>by have:=Qk b; first | exact absurd b ‹_› | exact absurd ‹_› c | omega)]; done)
 exact fi_ [(0,3),(1,4),(2,5)] A ⟨(Qh (by (rw[ZC (fun ⟨b,⟨f,g⟩,⟨h,i⟩,c⟩=>by have:=Qk b; first | exact absurd b ‹_› | exact absurd ‹_› c | omega)]; rfl))),(Qh (by (rw[ZC (fun ⟨b,⟨f,g⟩,⟨h,i⟩,c⟩=>by have:=Qk b; first | exact absurd b ‹_› | exact absurd ‹_› c | omega)]; rfl))),(Qh (by (rw[ZC (fun ⟨b,⟨f,g⟩,⟨h,i⟩,c⟩=>by have:=Qk b; first | exact absurd b ‹_› | exact absurd ‹_› c | omega)]; rfl))),trivial⟩ (h0:=(((congrArg (fun z_=>PV.tup [(true,[dI z_, .ref 3, .ref 4, .ref 5,dS ByteArray.empty]),(false,[dB false])]) e6)).trans (congrArg (fun z_=>PV.tup [(true,[dI ((((Zu s o).1).1).1), .ref 3, .ref 4, .ref 5,dS z_]),(false,[dB false])]) e7)).trans (congrArg (fun z_=>PV.tup [(true,[dI ((((Zu s o).1).1).1), .ref 3, .ref 4, .ref 5,dS (((Zu s o).1).2.2.2)]),(false,[dB z_])]) e8))
 have D:=ab C
 refine w4 ?_
 refine lgy rfl rfl (dK (Zo o.1 0 ((s.1.2.length:Int) - 1)) ZV) ?_
 refine w3 ?_
 cases E:(decide (0≤o.1∧o.1≤((s.1.2.length:Int) - 1)))
 have F:=aa E
 refine w16 ?_
 refine w_ ?_
 refine lc (Qj Xj rfl (av.1 rfl) rfl rfl) ?_
 refine w3 ?_
 refine AC.wk (Qq 6 (p:=2) (off:=1) 275 QD rfl rfl (Fresh.of rfl) (nlr rfl))<|AC.wk (Qq 7 (p:=2) (off:=2) 77 QE rfl rfl (Fresh.of rfl) (nlr rfl))<|AC.wk (Qq 8 (p:=2) (off:=3) 75 QL rfl rfl (Fresh.of rfl) (nlr rfl))<|Qe ?_
 have J:(0:Int)=((((Zu s o).1).1).1):=by
  (rw[ZC (fun ⟨b,⟨f,g⟩,⟨h,i⟩,c⟩=>by have:=Qk b; first | exact absurd b ‹_› | exact absurd ‹_› c | omega)]; rfl)
 have K:(ByteArray.empty:ByteArray)=(((Zu s o).1).2.2.2):=by
  (rw[ZC (fun ⟨b,⟨f,g⟩,⟨h,i⟩,c⟩=>by have:=Qk b; first | exact absurd b ‹_› | exact absurd ‹_› c | omega)]; rfl)
 have L:(false:Bool)=((Zu s o).2):=by
  (rw[ZC (fun ⟨b,⟨f,g⟩,⟨h,i⟩,c⟩=>by have:=Qk b; first | exact absurd b ‹_› | exact absurd ‹_› c | omega)]; done)
 exact fi_ [(0,6),(1,7),(2,8)] A ⟨(Qh (by (rw[ZC (fun ⟨b,⟨f,g⟩,⟨h,i⟩,c⟩=>by have:=Qk b; first | exact absurd b ‹_› | exact absurd ‹_› c | omega)]; rfl))),(Qh (by (rw[ZC (fun ⟨b,⟨f,g⟩,⟨h,i⟩,c⟩=>by have:=Qk b; first | exact absurd b ‹_› | exact absurd ‹_› c | omega)]; rfl))),(Qh (by (rw[ZC (fun ⟨b,⟨f,g⟩,⟨h,i⟩,c⟩=>by have:=Qk b; first | exact absurd b ‹_› | exact absurd ‹_› c | omega)]; rfl))),trivial⟩ (h0:=(((congrArg (fun z_=>PV.tup [(true,[dI z_, .ref 6, .ref 7, .ref 8,dS ByteArray.empty]),(false,[dB false])]) J)).trans (congrArg (fun z_=>PV.tup [(true,[dI ((((Zu s o).1).1).1), .ref 6, .ref 7, .ref 8,dS z_]),(false,[dB false])]) K)).trans (congrArg (fun z_=>PV.tup [(true,[dI ((((Zu s o).1).1).1), .ref 6, .ref 7, .ref 8,dS (((Zu s o).1).2.2.2)]),(false,[dB z_])]) L))
 have F:=ab E
 refine w4 ?_
 refine lgy rfl rfl (dK (Zo o.2.1 0 ((s.1.2.length:Int) - 1)) ZV) ?_
 refine w3 ?_
 cases r:(decide (0≤o.2.1∧o.2.1≤((s.1.2.length:Int) - 1)))
 have u:=aa r
 refine w9 ?_
 refine lc (Qj Xj rfl (av.1 rfl) rfl rfl) ?_
 refine w3 ?_
 refine AC.wk (Qq 9 (p:=2) (off:=1) 275 QD rfl rfl (Fresh.of rfl) (nlr rfl))<|AC.wk (Qq 10 (p:=2) (off:=2) 77 QE rfl rfl (Fresh.of rfl) (nlr rfl))<|AC.wk (Qq 11 (p:=2) (off:=3) 75 QL rfl rfl (Fresh.of rfl) (nlr rfl))<|Qe ?_
 have M:(0:Int)=((((Zu s o).1).1).1):=by
  (rw[ZC (fun ⟨b,⟨f,g⟩,⟨h,i⟩,c⟩=>by have:=Qk b; first | exact absurd b ‹_› | exact absurd ‹_› c | omega)]; rfl)
 have N:(ByteArray.empty:ByteArray)=(((Zu s o).1).2.2.2):=by
  (rw[ZC (fun ⟨b,⟨f,g⟩,⟨h,i⟩,c⟩=>by have:=Qk b; first | exact absurd b ‹_› | exact absurd ‹_› c | omega)]; rfl)
 have O:(false:Bool)=((Zu s o).2):=by
  (rw[ZC (fun ⟨b,⟨f,g⟩,⟨h,i⟩,c⟩=>by have:=Qk b; first | exact absurd b ‹_› | exact absurd ‹_› c | omega)]; done)
 exact fi_ [(0,9),(1,10),(2,11)] A ⟨(Qh (by (rw[ZC (fun ⟨b,⟨f,g⟩,⟨h,i⟩,c⟩=>by have:=Qk b; first | exact absurd b ‹_› | exact absurd ‹_› c | omega)]; rfl))),(Qh (by (rw[ZC (fun ⟨b,⟨f,g⟩,⟨h,i⟩,c⟩=>by have:=Qk b; first | exact absurd b ‹_› | exact absurd ‹_› c | omega)]; rfl))),(Qh (by (rw[ZC (fun ⟨b,⟨f,g⟩,⟨h,i⟩,c⟩=>by have:=Qk b; first | exact absurd b ‹_› | exact absurd ‹_› c | omega)]; rfl))),trivial⟩ (h0:=(((congrArg (fun z_=>PV.tup [(true,[dI z_, .ref 9, .ref 10, .ref 11,dS ByteArray.empty]),(false,[dB false])]) M)).trans (congrArg (fun z_=>PV.tup [(true,[dI ((((Zu s o).1).1).1), .ref 9, .ref 10, .ref 11,dS z_]),(false,[dB false])]) N)).trans (congrArg (fun z_=>PV.tup [(true,[dI ((((Zu s o).1).1).1), .ref 9, .ref 10, .ref 11,dS (((Zu s o).1).2.2.2)]),(false,[dB z_])]) O))
 have u:=ab r
 refine w7 ?_
 refine cd_ (fun _ _=> ?_) fun _ _=> ?_
 refine w_ ?_
 refine Yg ?_
 obtain ⟨x,G⟩:=gx s.1.2 o.1.toNat
 obtain ⟨y,H⟩:=gx s.1.2 o.2.1.toNat
 have B:o.1.toNat≠o.2.1.toNat:=by omega
 have j:=(U9 G).1
 have k:=(U9 H).2
 have l:o.1.toNat*2+1 < (QR QD s.1.2).length:=by rw[Yz]; exact QwF (by omega)
 have m:o.2.1.toNat*2+0 < (QR QD s.1.2).length:=by rw[Yz]; exact QwE (by omega)
 have d:o.1.toNat*2+1≠o.2.1.toNat*2+0:=by omega
 have b0:=(QbS I G).2
 have b1:=(QbS I H).1
 have a9:=HV I
 have a8:=QfX ‹StgOk s›
 refine w2 ?_
 refine lc (dG 12 (Qgf s I) QlD) ?_
 refine lc (xal 15 YM Q5) ?_
 refine w16 ?_
 refine w_ ?_
 refine AC.wk (KK (q:=12) rfl (by omega))<|AC.wk (XC 16 (q:=12) (p:=(o.1).toNat*2+1) (E':=3) (e':= .int) (ys:=x.2) rfl (j) (Fresh.of rfl) (aA rfl)) ?_
 apply dW (i9 51 _ _ _ _ _ _ _ _ _ [io 60 _,io 61 (lf (.ept 12 2 ((o.1).toNat) 0)),io 62 (lf (.ept 12 2 ((o.1).toNat) 1)),io 63 (lR 16),io 64 _,⟨some 65,lR 17,[ar 17 3 .int ([s.1.1])]⟩,⟨some 66,lR 18,[ar 18 3 .int (x.2++([s.1.1])),(16,none),(17,none)]⟩,io 67 (lf (.ept 12 2 ((o.1).toNat) 0)),io 68 (lf (.ept 12 2 ((o.1).toNat) 1)),⟨none,lf (.val undef),[(12,some (.obx 275 2 ((s.1.2).length) (QR QD (s.1.2)) [((o.1).toNat*2+1, .ref 18),((o.1).toNat*2+1, .ref 16)]))]⟩]) [0,0,0,7,7,31,31,31,255,255,31,31,31,8191,8191,31,0,0,0]
 refine z10 ?_
 refine zz (fun _ a=>ac (Zc (a.v rfl) (a.en 12 rfl) (a.v rfl) WD Xd rfl (by omega) (by omega)) rfl)<|zz (fun _ a=>ac (QT (a.v rfl) VZ (by rw[(a.en 12 rfl)]; rfl) rfl) rfl) ?_
 refine zz (fun _ a=>ac (YR (a.v rfl) (a.en 12 rfl) (by simp only[ovr,aV,au,l,m,d,d.symm,j,k,cB,if_true,if_false,↓reduceIte]) (a.en 16 rfl) QX rfl) rfl) ?_
 refine z_ ?_
 refine zz (fun _ a=>ac (dBs 17 (e:= .int) Zq) rfl) ?_
 refine zz (fun _ a=>ac (dA 18 YO) rfl) ?_
 refine zz (fun _ a=>ac (Zc (a.v rfl) (a.en 12 rfl) (a.v rfl) WD Xd rfl (by omega) (by omega)) rfl)<|zz (fun _ a=>ac (QT (a.v rfl) VZ (by rw[(a.en 12 rfl)]; rfl) rfl) rfl) ?_
 refine zz (fun _ a=>ac (Ys (t:=16) (a.v rfl) (a.en 12 rfl) (by simp only[ovr,aV,au,l,m,d,d.symm,j,k,cB,if_true,if_false,↓reduceIte]) (a.v rfl) (a.en 18 rfl) QX) rfl) ?_
 exact zN
 refine AC.wk (Wo (q:=12) (t:=18) (p:=(o.1).toNat*2+1) rfl (by simp only[ovr,aV,au,l,m,d,d.symm,j,k,cB,if_true,if_false,↓reduceIte]) rfl) ?_
 refine AC.wk (XC 19 (q:=12) (p:=(o.2.1).toNat*2+0) (E':=3) (e':= .int) (ys:=y.1) rfl (by simp only[ovr,aV,au,l,m,d,d.symm,j,k,cB,if_true,if_false,↓reduceIte]) (Fresh.of rfl) (aA rfl)) ?_
 apply dW (i9 69 _ _ _ _ _ _ _ _ _ [io 78 _,io 79 (lf (.ept 12 2 ((o.2.1).toNat) 0)),io 80 (lf (.ept 12 2 ((o.2.1).toNat) 0)),io 81 (lR 19),io 82 _,⟨some 83,lR 20,[ar 20 3 .int ([s.1.1])]⟩,⟨some 84,lR 21,[ar 21 3 .int (y.1++([s.1.1])),(19,none),(20,none)]⟩,io 85 (lf (.ept 12 2 ((o.2.1).toNat) 0)),io 86 (lf (.ept 12 2 ((o.2.1).toNat) 0)),⟨none,lf (.val undef),[(12,some (.obx 275 2 ((s.1.2).length) (QR QD (s.1.2)) [((o.2.1).toNat*2+0, .ref 21),((o.2.1).toNat*2+0, .ref 19),((o.1).toNat*2+1, .dat Qm (x.2++([s.1.1]))),((o.1).toNat*2+1, .ref 18),((o.1).toNat*2+1, .ref 16)]))]⟩]) [0,0,0,7,7,31,31,31,255,255,31,31,31,8191,8191,31,0,0,0]
 refine z10 ?_
 refine zz (fun _ a=>ac (Zc (a.v rfl) (a.en 12 rfl) (a.v rfl) WD Xd rfl (by omega) (by omega)) rfl)<|zz (fun _ a=>ac (QT (a.v rfl) VY (by rw[(a.en 12 rfl)]; rfl) rfl) rfl) ?_
 refine zz (fun _ a=>ac (YR (a.v rfl) (a.en 12 rfl) (by simp only[ovr,aV,au,l,m,d,d.symm,j,k,cB,if_true,if_false,↓reduceIte]) (a.en 19 rfl) QX rfl) rfl) ?_
 refine z_ ?_
 refine zz (fun _ a=>ac (dBs 20 (e:= .int) Zq) rfl) ?_
 refine zz (fun _ a=>ac (dA 21 YO) rfl) ?_
 refine zz (fun _ a=>ac (Zc (a.v rfl) (a.en 12 rfl) (a.v rfl) WD Xd rfl (by omega) (by omega)) rfl)<|zz (fun _ a=>ac (QT (a.v rfl) VY (by rw[(a.en 12 rfl)]; rfl) rfl) rfl) ?_
 refine zz (fun _ a=>ac (Ys (t:=19) (a.v rfl) (a.en 12 rfl) (by simp only[ovr,aV,au,l,m,d,d.symm,j,k,cB,if_true,if_false,↓reduceIte]) (a.v rfl) (a.en 21 rfl) QX) rfl) ?_
 exact zN
 refine w_ ?_
 refine Yg ?_
 refine AC.wk (Wo (q:=12) (t:=21) (p:=(o.2.1).toNat*2+0) rfl (by simp only[ovr,aV,au,l,m,d,d.symm,j,k,cB,if_true,if_false,↓reduceIte]) rfl) ?_
 refine AC.wk (V9 (q:=12) (e:=QD) (WF s.1.2 (o.1).toNat (o.2.1).toNat s.1.1) rfl (by simp[WF]) (by simp only[ovr]; rw[Qyd d,Qas G,Qar (by rw[aZ B]; exact H),Qjg G H B])) ?_
 refine w4 ?_
 cases Y:(o.2.2)
 refine w4 ?_
 refine lc (Q7 (Qa rfl) (Evl.str rfl) rfl (by simp only[Yy]; omega)) ?_
 refine w3 ?_
 apply dW (i2 97 _ _ [io 99 (lB (decide (StgOk ((s.1.1+1,WF s.1.2 (o.1).toNat (o.2.1).toNat s.1.1),s.2.1,s.2.2.1,s.2.2.2++(⟨#[48]⟩:ByteArray))))),⟨none,lf (.val undef),[bx 2 51 [dI (s.1.1+1), .ref 12, .ref 13, .ref 14,dS (s.2.2.2++(⟨#[48]⟩:ByteArray))]]⟩,io 5 _]) [0,1,1,0,0]
 refine z2 ?_
 refine zz (fun _ a=>ac (YQ (Z0 ((s.1.1+1,WF s.1.2 (o.1).toNat (o.2.1).toNat s.1.1),s.2.1,s.2.2.1,s.2.2.2++(⟨#[48]⟩:ByteArray))) Xl ⟨_,_,rfl,(Jl (a.w rfl) ⟨_,_,rfl, .inl rfl,⟨_,_,rfl, .inr ⟨_,_,_,_,rfl,(a.n 12 rfl),rfl⟩,⟨_,_,rfl, .inr ⟨_,_,_,_,rfl,(a.n 13 rfl),rfl⟩,⟨_,_,rfl, .inr ⟨_,_,_,_,rfl,(a.n 14 rfl),rfl⟩,⟨_,_,rfl, .inl rfl,rfl⟩⟩⟩⟩⟩),rfl⟩ rfl rfl rfl) rfl)<|zz (fun _ a=>ac (Q6 (a.v rfl) (a.en 2 rfl) (a.w rfl) (by show QW _ [dI (s.1.1+1), .ref 12, .ref 13, .ref 14,dS (s.2.2.2++(⟨#[48]⟩:ByteArray))]=true; simp only[QW,XG,bd,bt]; rw[(a.en 12 rfl),(a.en 13 rfl),(a.en 14 rfl)]; rfl) Q3 rfl) rfl) ?_
 exact y1
 refine w_ ?_
 have P:(s.1.1+1:Int)=((((Zu s o).1).1).1):=by
  (rw[Y1 ⟨‹StgOk s›,by omega,by omega,by omega⟩]; first | done | rfl | exact congrArg (fun z=>z.2.2.2) (Kv (s:=s) (o:=o) ‹_›) | exact congrArg (fun z=>z.2.2.2) (Ku (s:=s) (o:=o) ‹_›) | exact Jt ‹_› | exact Js ‹_›)
 have Q:(s.2.2.2++(⟨#[48]⟩:ByteArray):ByteArray)=(((Zu s o).1).2.2.2):=by
  (rw[Y1 ⟨‹StgOk s›,by omega,by omega,by omega⟩]; first | done | rfl | exact congrArg (fun z=>z.2.2.2) (Kv (s:=s) (o:=o) ‹_›) | exact congrArg (fun z=>z.2.2.2) (Ku (s:=s) (o:=o) ‹_›) | exact Jt ‹_› | exact Js ‹_›)
 have R:(decide (StgOk ((s.1.1+1,WF s.1.2 (o.1).toNat (o.2.1).toNat s.1.1),s.2.1,s.2.2.1,s.2.2.2++(⟨#[48]⟩:ByteArray))):Bool)=((Zu s o).2):=by
  (rw[Y1 ⟨‹StgOk s›,by omega,by omega,by omega⟩]; first | done | rfl | exact congrArg (fun z=>z.2.2.2) (Kv (s:=s) (o:=o) ‹_›) | exact congrArg (fun z=>z.2.2.2) (Ku (s:=s) (o:=o) ‹_›) | exact Jt ‹_› | exact Js ‹_›)
 exact fi_ [(0,12),(1,13),(2,14)] A ⟨(Qh (by (rw[Y1 ⟨‹StgOk s›,by omega,by omega,by omega⟩]; first | done | rfl | exact congrArg (fun z=>z.2.2.2) (Kv (s:=s) (o:=o) ‹_›) | exact congrArg (fun z=>z.2.2.2) (Ku (s:=s) (o:=o) ‹_›) | exact Jt ‹_› | exact Js ‹_›))),(Qh (by (rw[Y1 ⟨‹StgOk s›,by omega,by omega,by omega⟩]; first | done | rfl | exact congrArg (fun z=>z.2.2.2) (Kv (s:=s) (o:=o) ‹_›) | exact congrArg (fun z=>z.2.2.2) (Ku (s:=s) (o:=o) ‹_›) | exact Jt ‹_› | exact Js ‹_›))),(Qh (by (rw[Y1 ⟨‹StgOk s›,by omega,by omega,by omega⟩]; first | done | rfl | exact congrArg (fun z=>z.2.2.2) (Kv (s:=s) (o:=o) ‹_›) | exact congrArg (fun z=>z.2.2.2) (Ku (s:=s) (o:=o) ‹_›) | exact Jt ‹_› | exact Js ‹_›))),trivial⟩ (h0:=(((congrArg (fun z_=>PV.tup [(true,[dI z_, .ref 12, .ref 13, .ref 14,dS (s.2.2.2++(⟨#[48]⟩:ByteArray))]),(false,[dB (decide (StgOk ((s.1.1+1,WF s.1.2 (o.1).toNat (o.2.1).toNat s.1.1),s.2.1,s.2.2.1,s.2.2.2++(⟨#[48]⟩:ByteArray))))])]) P)).trans (congrArg (fun z_=>PV.tup [(true,[dI ((((Zu s o).1).1).1), .ref 12, .ref 13, .ref 14,dS z_]),(false,[dB (decide (StgOk ((s.1.1+1,WF s.1.2 (o.1).toNat (o.2.1).toNat s.1.1),s.2.1,s.2.2.1,s.2.2.2++(⟨#[48]⟩:ByteArray))))])]) Q)).trans (congrArg (fun z_=>PV.tup [(true,[dI ((((Zu s o).1).1).1), .ref 12, .ref 13, .ref 14,dS (((Zu s o).1).2.2.2)]),(false,[dB z_])]) R))
 refine w4 ?_
 refine lc (Q7 (Qa rfl) (Evl.str rfl) rfl (by simp only[Yy]; omega)) ?_
 refine w3 ?_
 apply dW (i2 97 _ _ [io 99 (lB (decide (StgOk ((s.1.1+1,WF s.1.2 (o.1).toNat (o.2.1).toNat s.1.1),s.2.1,s.2.2.1,s.2.2.2++(⟨#[49]⟩:ByteArray))))),⟨none,lf (.val undef),[bx 2 51 [dI (s.1.1+1), .ref 12, .ref 13, .ref 14,dS (s.2.2.2++(⟨#[49]⟩:ByteArray))]]⟩,io 5 _]) [0,1,1,0,0]
 refine z2 ?_
 refine zz (fun _ a=>ac (YQ (Z0 ((s.1.1+1,WF s.1.2 (o.1).toNat (o.2.1).toNat s.1.1),s.2.1,s.2.2.1,s.2.2.2++(⟨#[49]⟩:ByteArray))) Xl ⟨_,_,rfl,(Jl (a.w rfl) ⟨_,_,rfl, .inl rfl,⟨_,_,rfl, .inr ⟨_,_,_,_,rfl,(a.n 12 rfl),rfl⟩,⟨_,_,rfl, .inr ⟨_,_,_,_,rfl,(a.n 13 rfl),rfl⟩,⟨_,_,rfl, .inr ⟨_,_,_,_,rfl,(a.n 14 rfl),rfl⟩,⟨_,_,rfl, .inl rfl,rfl⟩⟩⟩⟩⟩),rfl⟩ rfl rfl rfl) rfl)<|zz (fun _ a=>ac (Q6 (a.v rfl) (a.en 2 rfl) (a.w rfl) (by show QW _ [dI (s.1.1+1), .ref 12, .ref 13, .ref 14,dS (s.2.2.2++(⟨#[49]⟩:ByteArray))]=true; simp only[QW,XG,bd,bt]; rw[(a.en 12 rfl),(a.en 13 rfl),(a.en 14 rfl)]; rfl) Q3 rfl) rfl) ?_
 exact y1
 refine w_ ?_
 have S:(s.1.1+1:Int)=((((Zu s o).1).1).1):=by
  (rw[Y1 ⟨‹StgOk s›,by omega,by omega,by omega⟩]; first | done | rfl | exact congrArg (fun z=>z.2.2.2) (Kv (s:=s) (o:=o) ‹_›) | exact congrArg (fun z=>z.2.2.2) (Ku (s:=s) (o:=o) ‹_›) | exact Jt ‹_› | exact Js ‹_›)
 have T:(s.2.2.2++(⟨#[49]⟩:ByteArray):ByteArray)=(((Zu s o).1).2.2.2):=by
  (rw[Y1 ⟨‹StgOk s›,by omega,by omega,by omega⟩]; first | done | rfl | exact congrArg (fun z=>z.2.2.2) (Kv (s:=s) (o:=o) ‹_›) | exact congrArg (fun z=>z.2.2.2) (Ku (s:=s) (o:=o) ‹_›) | exact Jt ‹_› | exact Js ‹_›)
 have U:(decide (StgOk ((s.1.1+1,WF s.1.2 (o.1).toNat (o.2.1).toNat s.1.1),s.2.1,s.2.2.1,s.2.2.2++(⟨#[49]⟩:ByteArray))):Bool)=((Zu s o).2):=by
  (rw[Y1 ⟨‹StgOk s›,by omega,by omega,by omega⟩]; first | done | rfl | exact congrArg (fun z=>z.2.2.2) (Kv (s:=s) (o:=o) ‹_›) | exact congrArg (fun z=>z.2.2.2) (Ku (s:=s) (o:=o) ‹_›) | exact Jt ‹_› | exact Js ‹_›)
 exact fi_ [(0,12),(1,13),(2,14)] A ⟨(Qh (by (rw[Y1 ⟨‹StgOk s›,by omega,by omega,by omega⟩]; first | done | rfl | exact congrArg (fun z=>z.2.2.2) (Kv (s:=s) (o:=o) ‹_›) | exact congrArg (fun z=>z.2.2.2) (Ku (s:=s) (o:=o) ‹_›) | exact Jt ‹_› | exact Js ‹_›))),(Qh (by (rw[Y1 ⟨‹StgOk s›,by omega,by omega,by omega⟩]; first | done | rfl | exact congrArg (fun z=>z.2.2.2) (Kv (s:=s) (o:=o) ‹_›) | exact congrArg (fun z=>z.2.2.2) (Ku (s:=s) (o:=o) ‹_›) | exact Jt ‹_› | exact Js ‹_›))),(Qh (by (rw[Y1 ⟨‹StgOk s›,by omega,by omega,by omega⟩]; first | done | rfl | exact congrArg (fun z=>z.2.2.2) (Kv (s:=s) (o:=o) ‹_›) | exact congrArg (fun z=>z.2.2.2) (Ku (s:=s) (o:=o) ‹_›) | exact Jt ‹_› | exact Js ‹_›))),trivial⟩ (h0:=(((congrArg (fun z_=>PV.tup [(true,[dI z_, .ref 12, .ref 13, .ref 14,dS (s.2.2.2++(⟨#[49]⟩:ByteArray))]),(false,[dB (decide (StgOk ((s.1.1+1,WF s.1.2 (o.1).toNat (o.2.1).toNat s.1.1),s.2.1,s.2.2.1,s.2.2.2++(⟨#[49]⟩:ByteArray))))])]) S)).trans (congrArg (fun z_=>PV.tup [(true,[dI ((((Zu s o).1).1).1), .ref 12, .ref 13, .ref 14,dS z_]),(false,[dB (decide (StgOk ((s.1.1+1,WF s.1.2 (o.1).toNat (o.2.1).toNat s.1.1),s.2.1,s.2.2.1,s.2.2.2++(⟨#[49]⟩:ByteArray))))])]) T)).trans (congrArg (fun z_=>PV.tup [(true,[dI ((((Zu s o).1).1).1), .ref 12, .ref 13, .ref 14,dS (((Zu s o).1).2.2.2)]),(false,[dB z_])]) U))
 refine w_ ?_
 refine lc (Qj Xj rfl (av.1 rfl) rfl rfl) ?_
 refine w3 ?_
 refine AC.wk (Qq 22 (p:=2) (off:=1) 275 QD rfl rfl (Fresh.of rfl) (nlr rfl))<|AC.wk (Qq 23 (p:=2) (off:=2) 77 QE rfl rfl (Fresh.of rfl) (nlr rfl))<|AC.wk (Qq 24 (p:=2) (off:=3) 75 QL rfl rfl (Fresh.of rfl) (nlr rfl))<|Qe ?_
 have V:(0:Int)=((((Zu s o).1).1).1):=by
  (rw[ZC (fun ⟨b,⟨f,g⟩,⟨h,i⟩,c⟩=>by have:=Qk b; first | exact absurd b ‹_› | exact absurd ‹_› c | omega)]; rfl)
 have W:(ByteArray.empty:ByteArray)=(((Zu s o).1).2.2.2):=by
  (rw[ZC (fun ⟨b,⟨f,g⟩,⟨h,i⟩,c⟩=>by have:=Qk b; first | exact absurd b ‹_› | exact absurd ‹_› c | omega)]; rfl)
 have X:(false:Bool)=((Zu s o).2):=by
  (rw[ZC (fun ⟨b,⟨f,g⟩,⟨h,i⟩,c⟩=>by have:=Qk b; first | exact absurd b ‹_› | exact absurd ‹_› c | omega)]; done)
 exact fi_ [(0,22),(1,23),(2,24)] A ⟨(Qh (by (rw[ZC (fun ⟨b,⟨f,g⟩,⟨h,i⟩,c⟩=>by have:=Qk b; first | exact absurd b ‹_› | exact absurd ‹_› c | omega)]; rfl))),(Qh (by (rw[ZC (fun ⟨b,⟨f,g⟩,⟨h,i⟩,c⟩=>by have:=Qk b; first | exact absurd b ‹_› | exact absurd ‹_› c | omega)]; rfl))),(Qh (by (rw[ZC (fun ⟨b,⟨f,g⟩,⟨h,i⟩,c⟩=>by have:=Qk b; first | exact absurd b ‹_› | exact absurd ‹_› c | omega)]; rfl))),trivial⟩ (h0:=(((congrArg (fun z_=>PV.tup [(true,[dI z_, .ref 22, .ref 23, .ref 24,dS ByteArray.empty]),(false,[dB false])]) V)).trans (congrArg (fun z_=>PV.tup [(true,[dI ((((Zu s o).1).1).1), .ref 22, .ref 23, .ref 24,dS z_]),(false,[dB false])]) W)).trans (congrArg (fun z_=>PV.tup [(true,[dI ((((Zu s o).1).1).1), .ref 22, .ref 23, .ref 24,dS (((Zu s o).1).2.2.2)]),(false,[dB z_])]) X))
theorem V0 {s:Qy}{o:Qp}[Decidable (StgOk s)][Decidable (StgOk (QC s o))](h:(Zu s o).2=true):(Zu s o).1=(QK s o).1∧true=(QK s o).2:=by
 unfold Zu QK at*
 split at h
 ·rename_i a
  rw[if_pos a,if_pos a]
  unfold ZG
  rw[if_pos (ab h)]
  exact ⟨rfl,rfl⟩
 ·cases h
theorem WZ {s:Qy}{o:Qp}[Decidable (StgOk s)][Decidable (StgOk (QC s o))](h:(Zu s o).2=false):QK s o=(X2,false):=by
 unfold Zu QK at*
 split at h
 ·rename_i a
  rw[if_pos a]
  unfold ZG
  rw[if_neg (aa h)]
 ·rename_i a
  rw[if_neg a]
theorem VD (s:YA)(o:Qo6)[Decidable (StgOk s)][Decidable (StgOk (QC s o))](k:Ty.tot Zl s≤2000000):FC Tryz.prog 31 [(true,[dI s.1.1, .dat QF s.1.2, .dat Qo s.2.1, .dat Qw s.2.2.1,dS s.2.2.2]),(true,[dI o.1,dI o.2.1,dB o.2.2])] [] 0 (Is (PV.tup [(true,[dI ((((QK s o).1).1).1), .ref 0, .ref 1, .ref 2,dS (((QK s o).1).2.2.2)]),(false,[dB ((QK s o).2)])]) [ar 0 275 QD ((((QK s o).1).1).2),ar 1 77 QE (((QK s o).1).2.1),ar 2 75 QL (((QK s o).1).2.2.1)]):=by
 refine Qn Tryz.func31 rfl rfl Tryz.ntmps31 fun m b l c n j i=> ?_
 refine acG 0 0 fun _=> ?_
 refine acG 1 0 fun _=> ?_
 refine acG 1 1 fun _=> ?_
 refine w_ ?_
 refine xbx 0 ?_
 refine xbx 1 ?_
 refine lc (xal 2 YM Q5) ?_
 refine w5 ?_
 refine lc (dG 3 (J1 s o k) QeA) ?_
 refine w3 ?_
 refine lc (xal 6 YM Q5) ?_
 refine w8 ?_
 refine cx_ (fun _=> ?_) fun _=> ?_
 refine w_ ?_
 refine lc (Qj Xj rfl (av.1 rfl) rfl rfl) ?_
 refine w3 ?_
 refine AC.wk (Qq 7 (p:=2) (off:=1) 275 QD rfl rfl (Fresh.of rfl) (nlr rfl))<|AC.wk (Qq 8 (p:=2) (off:=2) 77 QE rfl rfl (Fresh.of rfl) (nlr rfl))<|AC.wk (Qq 9 (p:=2) (off:=3) 75 QL rfl rfl (Fresh.of rfl) (nlr rfl))<|Qe ?_
 have d:(0:Int)=((((QK s o).1).1).1):=by
  (rw[WZ ‹_›]; rfl)
 have e:(ByteArray.empty:ByteArray)=(((QK s o).1).2.2.2):=by
  (rw[WZ ‹_›]; rfl)
 have f:(false:Bool)=((QK s o).2):=by
  (rw[WZ ‹_›]; done)
 exact fi_ [(0,7),(1,8),(2,9)] b ⟨(Qh (by (rw[WZ ‹_›]; rfl))),(Qh (by (rw[WZ ‹_›]; rfl))),(Qh (by (rw[WZ ‹_›]; rfl))),trivial⟩ (h0:=(((congrArg (fun z_=>PV.tup [(true,[dI z_, .ref 7, .ref 8, .ref 9,dS ByteArray.empty]),(false,[dB false])]) d)).trans (congrArg (fun z_=>PV.tup [(true,[dI ((((QK s o).1).1).1), .ref 7, .ref 8, .ref 9,dS z_]),(false,[dB false])]) e)).trans (congrArg (fun z_=>PV.tup [(true,[dI ((((QK s o).1).1).1), .ref 7, .ref 8, .ref 9,dS (((QK s o).1).2.2.2)]),(false,[dB z_])]) f))
 refine w7 ?_
 have g:((((Zu s o).1).1).1:Int)=((((QK s o).1).1).1):=by
  (rw[(V0 ‹_›).1]; done)
 have h:(((Zu s o).1).2.2.2:ByteArray)=(((QK s o).1).2.2.2):=by
  (rw[(V0 ‹_›).1]; done)
 have a:(true:Bool)=((QK s o).2):=by
  exact (V0 ‹_›).2
 exact fi_ [(0,3),(1,4),(2,5)] b ⟨(Qh (by (rw[(V0 ‹_›).1]; done))),(Qh (by (rw[(V0 ‹_›).1]; done))),(Qh (by (rw[(V0 ‹_›).1]; done))),trivial⟩ (h0:=(((congrArg (fun z_=>PV.tup [(true,[dI z_, .ref 3, .ref 4, .ref 5,dS (((Zu s o).1).2.2.2)]),(false,[dB true])]) g)).trans (congrArg (fun z_=>PV.tup [(true,[dI ((((QK s o).1).1).1), .ref 3, .ref 4, .ref 5,dS z_]),(false,[dB true])]) h)).trans (congrArg (fun z_=>PV.tup [(true,[dI ((((QK s o).1).1).1), .ref 3, .ref 4, .ref 5,dS (((QK s o).1).2.2.2)]),(false,[dB z_])]) a))
end Go.Proofs.YtndabgcpnmeeoaaGreat
namespace Go.Proofs.YtndabgcpnmeeoaaGreat
open Go.RowKit
set_option maxRecDepth 100000
set_option maxHeartbeats 4000000
section
variable {α:Type _}(f:α→Int→α×Int)
def Qv:List α→Int→List α×Int
 | [],k=>([],k)
 | x :: xs,k=>((f x k).1 :: (Qv xs (f x k).2).1,(Qv xs (f x k).2).2)
def mkA (a:List α)(k:Int)(i:Nat):List α:=(Qv f (a.take i) k).1++a.drop i
def mkC (a:List α)(k:Int)(i:Nat):Int:=(Qv f (a.take i) k).2
variable {f}
end
@[reducible] def fI:Int→Int→Int×Int:=fun _ k=>(k,k+1)
@[reducible] def fL:Int×Bool→Int→(Int×Bool)×Int:=fun _ k=>((k,decide ((k+1) % 3=0)),k+2)
end Go.Proofs.YtndabgcpnmeeoaaGreat
namespace Go.Proofs.YtndabgcpnmeeoaaGreat
open Go.RowKit
set_option maxRecDepth 100000
set_option maxHeartbeats 4000000
@[reducible] def fT:List Int×List Int→Int→(List Int×List Int)×Int:=fun t k=>(((Qv fI t.1 k).1,(Qv fI t.2 (Qv fI t.1 k).2).1),(Qv fI t.2 (Qv fI t.1 k).2).2)
def cT (t:List Int×List Int):Nat:=t.1.length+t.2.length
def Qtg (a:List (List Int×List Int)):Nat:=(a.map cT).sum
end Go.Proofs.YtndabgcpnmeeoaaGreat
namespace Go.Proofs.YtndabgcpnmeeoaaGreat
open Go.RowKit
set_option maxRecDepth 100000
set_option maxHeartbeats 4000000
def dg (k:Int):Nat→ByteArray
 | 0=>(⟨#[]⟩:ByteArray)
 | j+1=>(⟨#[UInt8.ofNat ((48+(k / 10 ^ j) % 10):Int).toNat]⟩:ByteArray)++dg k j
def mt (k:Int):Nat→Nat→ByteArray
 | 0,j=>dg k j
 | n+1,j=>if k / 10 ^ j≤0 then dg k j else mt k n (j+1)
def Qvk (k:Int):ByteArray:=if k≤0 then (⟨#[109,48]⟩:ByteArray) else (⟨#[109]⟩:ByteArray)++mt k 20 0
end Go.Proofs.YtndabgcpnmeeoaaGreat
namespace Go.Proofs.YtndabgcpnmeeoaaGreat
open Go.RowKit
set_option maxRecDepth 100000
set_option maxHeartbeats 4000000
@[reducible] def fS:ByteArray×Int→Int→(ByteArray×Int)×Int:=fun _ k=>((Qvk k,k+1),k+2)
def QzV (s:Qy)(k:Int):Qy×Int:=(((s.1.1,(Qv fT s.1.2 k).1),(Qv fS s.2.1 (Qv fT s.1.2 k).2).1,(Qv fL s.2.2.1 (Qv fS s.2.1 (Qv fT s.1.2 k).2).2).1,s.2.2.2),(Qv fL s.2.2.1 (Qv fS s.2.1 (Qv fT s.1.2 k).2).2).2)
end Go.Proofs.YtndabgcpnmeeoaaGreat
namespace Go.Proofs.YtndabgcpnmeeoaaGreat
open Go.RowKit
set_option maxRecDepth 100000
set_option maxHeartbeats 4000000
theorem QfY {α:Type _}(g:α→Nat)(f:α→α)(c:Nat)(h:∀x,g (f x)≤g x+c)(xs:List α)(i:Nat):((xs.modify i f).map g).sum≤(xs.map g).sum+c:=by
 induction xs generalizing i with
 | nil=>simp
 | cons x xs a=>
  cases i with
  | zero=>simp only[List.modify_zero_cons,aU,List.sum_cons]; have:=h x; omega
  | succ i=>simp only[List.modify_succ_cons,aU,List.sum_cons]; have:=a i; omega
theorem QwU (t:Qt):Ty.tot QS t=cT t:=by
 have:Ty.tot QS t=(t.1.length+(t.1.map (Ty.tot .int)).sum)+(t.2.length+(t.2.map (Ty.tot .int)).sum):=rfl
 rw[this,QbC t.1 (Ty.tot .int) (fun _=>rfl),QbC t.2 (Ty.tot .int) (fun _=>rfl)]
 simp[cT]
theorem Qoz (n:Yh):Ty.tot Uz n=n.2.length+Qtg n.2:=by
 have:Ty.tot Uz n=0+(n.2.length+(n.2.map (Ty.tot QS)).sum):=rfl
 rw[this,cJ (g:=cT) fun t _=>QwU t,Qtg]
 omega
theorem QoB (s:Qy):Ty.tot Zl s=Ty.tot Uz s.1+((s.2.1.length+(s.2.1.map (Ty.tot Ye)).sum)+((s.2.2.1.length+(s.2.2.1.map (Ty.tot XP)).sum)+s.2.2.2.size)):=rfl
theorem QkP (s:Qy)(o:Qp):Ty.tot Zl (QC s o)≤Ty.tot Zl s+3:=by
 rw[QoB,QoB,Qoz,Qoz]
 have e:Qtg (QC s o).1.2≤Qtg s.1.2+2:=by
  show ((WF s.1.2 o.1.toNat o.2.1.toNat s.1.1).map cT).sum≤_
  unfold WF
  refine bn (QfY cT _ 1 (fun t=> ?_) _ _) ?_
  ·simp[cT]; omega
  ·have:=QfY cT (fun t:Qt=>(t.1,t.2++[s.1.1])) 1 (fun t=>by simp[cT]; omega) s.1.2 o.1.toNat
   unfold Qtg; omega
 have a:(QC s o).1.2.length=s.1.2.length:=by simp[QC,WF]
 have b:(QC s o).2.2.2.size=s.2.2.2.size+1:=by
  show (s.2.2.2++YF o.2.2).size=_
  rw[bc]
  rfl
 have c:(QC s o).2.1=s.2.1:=rfl
 have d:(QC s o).2.2.1=s.2.2.1:=rfl
 rw[a,b,c,d]
 omega
theorem QqM (s:Qy)(o:Qp)[Decidable (StgOk s)][Decidable (StgOk (QC s o))]:Ty.tot Zl (QK s o).1≤Ty.tot Zl s+3:=by
 have a:Ty.tot Zl X2=0:=rfl
 unfold QK
 split
 ·unfold ZG
  split
  ·exact QkP s o
  ·show Ty.tot Zl X2≤_; omega
 ·show Ty.tot Zl X2≤_; omega
end Go.Proofs.YtndabgcpnmeeoaaGreat
namespace Go.Proofs.YtndabgcpnmeeoaaGreat
open Go.RowKit
set_option maxRecDepth 100000
set_option maxHeartbeats 4000000
section
variable [∀s,Decidable (StgOk s)]
def Qxp:Qy→List Qp→Qy×Bool
 | s,[]=>(s,true)
 | s,o :: os=>if (QK s o).2=true then Qxp (QK s o).1 os else (X2,false)
def QyU (s:Qy)(l:List Qp):Qy×Bool:=if StgOk s∧l.length≤6 then Qxp s l else (X2,false)
end
@[reducible] def Qv1:(Qp)→Int→(Qp)×Int:=fun _ k=>((k,k+1,decide ((k+1+1) % 3=0)),k+1+1+1)
end Go.Proofs.YtndabgcpnmeeoaaGreat
