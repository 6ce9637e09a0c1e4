/- Walks over abstract states: orderings applied one behind the other. -/
import Derived.Test.YtjaadeknhofhpaaGreatWi
set_option linter.unusedSimpArgs false
set_option linter.unusedVariables false
set_option linter.unusedSectionVars false
namespace Go.Proofs.YtjaadeknhofhpaaGreat
open Go.RowKit
set_option maxRecDepth 100000
set_option maxHeartbeats 4000000
theorem QiK {α:Type _}{l:List α}{k:Nat}{x:α}(hx:l[k]? =some x):l.drop k=x :: l.drop (k+1):=by
  obtain ⟨h1,h2⟩:=au.1 hx
  rw[bL h1,h2]
section
variable [∀s,Decidable (StgOk s)]
def U8:QX→List Qq→QX×Bool
  | s,[]=>(s,true)
  | s,o :: os=>if (Q7 s o).2=true then U8 (Q7 s o).1 os else (Y7,false)
def QM (s:QX)(l:List Qq):QX×Bool:=if StgOk s∧l.length≤6 then U8 s l else (Y7,false)
theorem Zs {s:QX}{l:List Qq}(h:StgOk s∧l.length≤6):QM s l=U8 s l:=if_pos h
theorem Zy {s:QX}{l:List Qq}(h:¬(StgOk s∧l.length≤6)):QM s l=(Y7,false):=if_neg h
theorem Qf4 {r:QX×Bool}{cur:QX}{l:List Qq}{k:Nat}{x:Qq}(hA:r=U8 cur (l.drop k))(hx:l[k]? =some x)(hb:(Q7 cur x).2=true):r=U8 (Q7 cur x).1 (l.drop (k+1)):=by
  rw[hA,QiK hx,U8,if_pos hb]
theorem Vc {r:QX×Bool}{cur:QX}{l:List Qq}{k:Nat}{x:Qq}(hA:r=U8 cur (l.drop k))(hx:l[k]? =some x)(hb:(Q7 cur x).2=false):r=(Y7,false):=by
  rw[hA,QiK hx,U8,if_neg (by rw[hb]; decide)]
theorem Xx {r:QX×Bool}{cur:QX}{l:List Qq}{k:Nat}(hA:r=U8 cur (l.drop k))(h:l.length≤k):r=(cur,true):=by
  rw[hA,bk h,U8]
theorem QoE (s:QX)(o:Qq):Ty.tot ZC (ZA s o).1≤Ty.tot ZC s+3:=by
  unfold ZA
  split
  · exact QeB s o
  · show Ty.tot ZC Y7≤_; exact aw _
theorem Qj7 {r:QX×Bool}{cur:QX}{l:List Qq}{k:Nat}{x:Qq}(hA:r=U8 cur (l.drop k))(hx:l[k]? =some x)(hb:(ZA cur x).2=true):r=U8 (ZA cur x).1 (l.drop (k+1)):=by
  rw[(QgH hb).1]
  exact Qf4 hA hx (QgH hb).2.symm
theorem Ve {r:QX×Bool}{cur:QX}{l:List Qq}{k:Nat}{x:Qq}(hA:r=U8 cur (l.drop k))(hx:l[k]? =some x)(hb:(ZA cur x).2=false):r=(Y7,false):=
  Vc hA hx (by rw[Qj4 hb])
end
theorem WH (s:(Int×(List (List Int×List Int)))×(List (ByteArray×Int))×(List (Int×Bool))×ByteArray)(list:List (Int×Int×Bool))[∀s,Decidable (StgOk s)](hz:Ty.tot ZC s≤1900000):FC Tryz.prog 16 [(true,[dI s.1.1, .dat QZ s.1.2, .dat QJ s.2.1, .dat QR s.2.2.1,dS s.2.2.2]),(false,[.dat KZ list])] [] 0 (Is (PV.tup [(true,[dI ((((QM s list).1).1).1), .ref 0, .ref 1, .ref 2,dS (((QM s list).1).2.2.2)]),(false,[dB ((QM s list).2)])]) [(0,some (.arr 198 QS ((((QM s list).1).1).2))),(1,some (.arr 90 QY (((QM s list).1).2.1))),(2,some (.arr 55 Q5 (((QM s list).1).2.2.1)))]):=by
 refine QO Tryz.func16 rfl rfl Tryz.ntmps16 fun O_ hO w0_ N0_ X_ h0_ f0_=> ?_
 refine AC.fact (QI (x:= .tmp 0) (i:=0) (Qb rfl) rfl) fun hi1=> ?_
 refine w_ ?_
 refine lc (Qy 0 (Qb rfl) rfl rfl (Fresh.of rfl) (nlr rfl))<|lc (Qj 1 Xr ZE rfl rfl (Fresh.of rfl) (nlr rfl)) ?_
 iterate 5 refine w_ ?_
 refine lc (Ql (YQ s) KE ⟨_,_,rfl,(Qb rfl),rfl⟩ rfl rfl) ?_
 iterate 2 refine w_ ?_
 cases hb2:(decide (StgOk s))
 have hb2':=a7 hb2
 iterate 7 refine w_ ?_
 refine lc (QA YS rfl (ae.1 rfl) rfl rfl)<|lc (Qc (Qa rfl) rfl (Qb rfl) rfl Qz rfl) ?_
 iterate 2 refine w_ ?_
 refine AC.wk (QF 2 (p:=1) (off:=1) 198 QS rfl rfl (Fresh.of rfl) (nlr rfl))<|AC.wk (QF 3 (p:=1) (off:=2) 90 QY rfl rfl (Fresh.of rfl) (nlr rfl))<|AC.wk (QF 4 (p:=1) (off:=3) 55 Q5 rfl rfl (Fresh.of rfl) (nlr rfl))<|Q4 ?_
 subst hO
 have e3:(0:Int)=((((QM s list).1).1).1):=by
  (rw[Zy (fun h=>by obtain ⟨h1,h2⟩:=h; first | omega | exact absurd h1 ‹_›)]; rfl)
 have e4:(ByteArray.empty:ByteArray)=(((QM s list).1).2.2.2):=by
  (rw[Zy (fun h=>by obtain ⟨h1,h2⟩:=h; first | omega | exact absurd h1 ‹_›)]; rfl)
 have e5:(false:Bool)=((QM s list).2):=by
  (rw[Zy (fun h=>by obtain ⟨h1,h2⟩:=h; first | omega | exact absurd h1 ‹_›)]; done)
 exact QD _ _ [(0,2),(1,3),(2,4)] (QB rfl (QG rfl rfl Qz rfl) (Qd rfl)) ((((congrArg (fun z_=>PV.tup [(true,[dI z_, .ref 2, .ref 3, .ref 4,dS ByteArray.empty]),(false,[dB false])]) e3)).trans (congrArg (fun z_=>PV.tup [(true,[dI ((((QM s list).1).1).1), .ref 2, .ref 3, .ref 4,dS z_]),(false,[dB false])]) e4)).trans (congrArg (fun z_=>PV.tup [(true,[dI ((((QM s list).1).1).1), .ref 2, .ref 3, .ref 4,dS (((QM s list).1).2.2.2)]),(false,[dB z_])]) e5)) ⟨(Qp (by (rw[Zy (fun h=>by obtain ⟨h1,h2⟩:=h; first | omega | exact absurd h1 ‹_›)]; rfl))),(Qp (by (rw[Zy (fun h=>by obtain ⟨h1,h2⟩:=h; first | omega | exact absurd h1 ‹_›)]; rfl))),(Qp (by (rw[Zy (fun h=>by obtain ⟨h1,h2⟩:=h; first | omega | exact absurd h1 ‹_›)]; rfl))),trivial⟩ rfl rfl
 have hb2':=a8 hb2
 refine w_ ?_
 refine AL.fact (Qo (x:= .tmp 15) (Qa rfl)) fun hl6=> ?_
 iterate 4 refine w_ ?_
 cases hb7:(decide (6 < (list.length:Int)))
 have hb7':=a7 hb7
 iterate 4 refine w_ ?_
 refine lc (Q8 5 (Jg s (by omega)) Qf7 ⟨_,_,rfl,(Qb rfl),rfl⟩ rfl rfl ⟨Fresh.of rfl,Fresh.of rfl,Fresh.of rfl,trivial⟩ (nlr rfl))<|lc (Qj 8 Xr ZE rfl rfl (Fresh.of rfl) (nlr rfl))<|lc (Qc (Qa rfl) rfl (Qb rfl) rfl Qz rfl) ?_
 iterate 4 refine w_ ?_
 refine AL.fact (Qo (x:= .tmp 22) (Qa rfl)) fun hl8=> ?_
 iterate 4 refine w_ ?_
 refine Qu (fun m_ s_=>∃(k:Nat) (cur:(Int×(List (List Int×List Int)))×(List (ByteArray×Int))×(List (Int×Bool))×ByteArray),k≤list.length∧m_=list.length - k∧(U8 s list=U8 cur (list.drop k))∧(Ty.tot ZC cur≤Ty.tot ZC s+3*k)∧s_=⟨[(4,lP 1 0),(6,lP 8 0),(22,lf (.dat KZ list)),(23,lI (list.length:Int)),(24,lI (k:Int))],[(1,some (.box 29 [dI 0, .val (.slice none 0 0), .val (.slice none 0 0), .val (.slice none 0 0),dS ByteArray.empty])),(8,some (.box 29 [dI cur.1.1, .ref 9, .ref 10, .ref 11,dS cur.2.2.2])),(9,some (.arr 198 QS cur.1.2)),(10,some (.arr 90 QY cur.2.1)),(11,some (.arr 55 Q5 cur.2.2.1))]⟩) ⟨0,s,aw _,rfl,rfl,by omega,rfl⟩ ?_ ?_
 exact wo [(1,1),(8,8),(9,5),(10,6),(11,7)]
 rintro m_ s_ ⟨k,cur,hk9,hm10,hA,hT,rfl⟩
 iterate 4 refine w_ ?_
 cases hb11:(decide ((k:Int) < (list.length:Int)))
 have hb11':=a7 hb11
 iterate 5 refine w_ ?_
 refine lc (Qc (Qa rfl) rfl (Qb rfl) rfl Qz rfl) ?_
 iterate 3 refine w_ ?_
 subst hO
 have e12:(cur.1.1:Int)=((((QM s list).1).1).1):=by
  (rw[Zs ⟨by assumption,by omega⟩,Xx hA (by omega)]; done)
 have e13:(cur.2.2.2:ByteArray)=(((QM s list).1).2.2.2):=by
  (rw[Zs ⟨by assumption,by omega⟩,Xx hA (by omega)]; done)
 have e14:(true:Bool)=((QM s list).2):=by
  (rw[Zs ⟨by assumption,by omega⟩,Xx hA (by omega)]; done)
 exact QD _ _ [(0,9),(1,10),(2,11)] (QB rfl (QG rfl rfl Qz rfl) (Qd rfl)) ((((congrArg (fun z_=>PV.tup [(true,[dI z_, .ref 9, .ref 10, .ref 11,dS cur.2.2.2]),(false,[dB true])]) e12)).trans (congrArg (fun z_=>PV.tup [(true,[dI ((((QM s list).1).1).1), .ref 9, .ref 10, .ref 11,dS z_]),(false,[dB true])]) e13)).trans (congrArg (fun z_=>PV.tup [(true,[dI ((((QM s list).1).1).1), .ref 9, .ref 10, .ref 11,dS (((QM s list).1).2.2.2)]),(false,[dB z_])]) e14)) ⟨(Qp (by (rw[Zs ⟨by assumption,by omega⟩,Xx hA (by omega)]; done))),(Qp (by (rw[Zs ⟨by assumption,by omega⟩,Xx hA (by omega)]; done))),(Qp (by (rw[Zs ⟨by assumption,by omega⟩,Xx hA (by omega)]; done))),trivial⟩ rfl rfl
 have hb11':=a8 hb11
 iterate 5 refine w_ ?_
 obtain ⟨x15,hx16⟩:=gx list k
 refine lc (Qh (Qa rfl) (Qa rfl) Xn Zf rfl (by omega) hx16) ?_
 refine w_ ?_
 refine lc (Qj 12 ZH Yz rfl rfl (Fresh.of rfl) (nlr rfl))<|lc (Qc (Qa rfl) rfl (Qb rfl) rfl Zf rfl) ?_
 iterate 4 refine w_ ?_
 refine lc (XK 13 (X8 cur x15 (by omega)) Qcg ⟨_,_,rfl,(UM (Qb rfl) ⟨_,_,rfl, .inl rfl,⟨_,_,rfl, .inr ⟨_,_,_,_,rfl,rfl,rfl⟩,⟨_,_,rfl, .inr ⟨_,_,_,_,rfl,rfl,rfl⟩,⟨_,_,rfl, .inr ⟨_,_,_,_,rfl,rfl,rfl⟩,⟨_,_,rfl, .inl rfl,rfl⟩⟩⟩⟩⟩),⟨_,_,rfl,(Ev.b (Qb rfl)),rfl⟩⟩ rfl rfl rfl ⟨Fresh.of rfl,Fresh.of rfl,Fresh.of rfl,trivial⟩ (nlr rfl)) ?_
 iterate 3 refine w_ ?_
 refine lc (Qj 16 Xr ZE rfl rfl (Fresh.of rfl) (nlr rfl))<|lc (Qc (Qa rfl) rfl (Qb rfl) rfl Qz rfl) ?_
 iterate 7 refine w_ ?_
 cases hb17:((Q7 cur x15).2)
 iterate 2 refine w_ ?_
 refine lc (QA YS rfl (ae.1 rfl) rfl rfl)<|lc (Qc (Qa rfl) rfl (Qb rfl) rfl Qz rfl) ?_
 iterate 2 refine w_ ?_
 refine AC.wk (QF 17 (p:=1) (off:=1) 198 QS rfl rfl (Fresh.of rfl) (nlr rfl))<|AC.wk (QF 18 (p:=1) (off:=2) 90 QY rfl rfl (Fresh.of rfl) (nlr rfl))<|AC.wk (QF 19 (p:=1) (off:=3) 55 Q5 rfl rfl (Fresh.of rfl) (nlr rfl))<|Q4 ?_
 subst hO
 have e18:(0:Int)=((((QM s list).1).1).1):=by
  (rw[Zs ⟨by assumption,by omega⟩,Vc hA ‹_› ‹_›]; rfl)
 have e19:(ByteArray.empty:ByteArray)=(((QM s list).1).2.2.2):=by
  (rw[Zs ⟨by assumption,by omega⟩,Vc hA ‹_› ‹_›]; rfl)
 have e20:(false:Bool)=((QM s list).2):=by
  (rw[Zs ⟨by assumption,by omega⟩,Vc hA ‹_› ‹_›]; done)
 exact QD _ _ [(0,17),(1,18),(2,19)] (QB rfl (QG rfl rfl Qz rfl) (Qd rfl)) ((((congrArg (fun z_=>PV.tup [(true,[dI z_, .ref 17, .ref 18, .ref 19,dS ByteArray.empty]),(false,[dB false])]) e18)).trans (congrArg (fun z_=>PV.tup [(true,[dI ((((QM s list).1).1).1), .ref 17, .ref 18, .ref 19,dS z_]),(false,[dB false])]) e19)).trans (congrArg (fun z_=>PV.tup [(true,[dI ((((QM s list).1).1).1), .ref 17, .ref 18, .ref 19,dS (((QM s list).1).2.2.2)]),(false,[dB z_])]) e20)) ⟨(Qp (by (rw[Zs ⟨by assumption,by omega⟩,Vc hA ‹_› ‹_›]; rfl))),(Qp (by (rw[Zs ⟨by assumption,by omega⟩,Vc hA ‹_› ‹_›]; rfl))),(Qp (by (rw[Zs ⟨by assumption,by omega⟩,Vc hA ‹_› ‹_›]; rfl))),trivial⟩ rfl rfl
 iterate 4 refine w_ ?_
 refine lc (Qc (Qa rfl) rfl (Qb rfl) rfl Qz rfl)<|Qm ?_
 iterate 4 refine w_ ?_
 refine Qm<|QV ⟨k+1,((Q7 cur x15).1),by omega,rfl,Qf4 hA hx16 ‹_›,(by have:=Qij cur x15; omega),rfl⟩ (by omega) ?_
 exact wp [(1,1),(8,8),(9,13),(10,14),(11,15)] ⟨rfl,rfl,(Qp (by first | rfl | simp)),rfl,rfl,trivial⟩
 have hb7':=a8 hb7
 iterate 2 refine w_ ?_
 refine lc (QA YS rfl (ae.1 rfl) rfl rfl)<|lc (Qc (Qa rfl) rfl (Qb rfl) rfl Qz rfl) ?_
 iterate 2 refine w_ ?_
 refine AC.wk (QF 20 (p:=1) (off:=1) 198 QS rfl rfl (Fresh.of rfl) (nlr rfl))<|AC.wk (QF 21 (p:=1) (off:=2) 90 QY rfl rfl (Fresh.of rfl) (nlr rfl))<|AC.wk (QF 22 (p:=1) (off:=3) 55 Q5 rfl rfl (Fresh.of rfl) (nlr rfl))<|Q4 ?_
 subst hO
 have e21:(0:Int)=((((QM s list).1).1).1):=by
  (rw[Zy (fun h=>by obtain ⟨h1,h2⟩:=h; first | omega | exact absurd h1 ‹_›)]; rfl)
 have e22:(ByteArray.empty:ByteArray)=(((QM s list).1).2.2.2):=by
  (rw[Zy (fun h=>by obtain ⟨h1,h2⟩:=h; first | omega | exact absurd h1 ‹_›)]; rfl)
 have e23:(false:Bool)=((QM s list).2):=by
  (rw[Zy (fun h=>by obtain ⟨h1,h2⟩:=h; first | omega | exact absurd h1 ‹_›)]; done)
 exact QD _ _ [(0,20),(1,21),(2,22)] (QB rfl (QG rfl rfl Qz rfl) (Qd rfl)) ((((congrArg (fun z_=>PV.tup [(true,[dI z_, .ref 20, .ref 21, .ref 22,dS ByteArray.empty]),(false,[dB false])]) e21)).trans (congrArg (fun z_=>PV.tup [(true,[dI ((((QM s list).1).1).1), .ref 20, .ref 21, .ref 22,dS z_]),(false,[dB false])]) e22)).trans (congrArg (fun z_=>PV.tup [(true,[dI ((((QM s list).1).1).1), .ref 20, .ref 21, .ref 22,dS (((QM s list).1).2.2.2)]),(false,[dB z_])]) e23)) ⟨(Qp (by (rw[Zy (fun h=>by obtain ⟨h1,h2⟩:=h; first | omega | exact absurd h1 ‹_›)]; rfl))),(Qp (by (rw[Zy (fun h=>by obtain ⟨h1,h2⟩:=h; first | omega | exact absurd h1 ‹_›)]; rfl))),(Qp (by (rw[Zy (fun h=>by obtain ⟨h1,h2⟩:=h; first | omega | exact absurd h1 ‹_›)]; rfl))),trivial⟩ rfl rfl
theorem Jd (s:(Int×(List (List Int×List Int)))×(List (ByteArray×Int))×(List (Int×Bool))×ByteArray)(list:List (Int×Int×Bool))[∀s,Decidable (StgOk s)](hz:Ty.tot ZC s≤1900000):FC Tryz.prog 17 [(true,[dI s.1.1, .dat QZ s.1.2, .dat QJ s.2.1, .dat QR s.2.2.1,dS s.2.2.2]),(false,[.dat KZ list])] [] 0 (Is (PV.tup [(true,[dI ((((QM s list).1).1).1), .ref 0, .ref 1, .ref 2,dS (((QM s list).1).2.2.2)]),(false,[dB ((QM s list).2)])]) [(0,some (.arr 198 QS ((((QM s list).1).1).2))),(1,some (.arr 90 QY (((QM s list).1).2.1))),(2,some (.arr 55 Q5 (((QM s list).1).2.2.1)))]):=by
 refine QO Tryz.func17 rfl rfl Tryz.ntmps17 fun O_ hO w0_ N0_ X_ h0_ f0_=> ?_
 refine AC.fact (QI (x:= .tmp 0) (i:=0) (Qb rfl) rfl) fun hi1=> ?_
 refine w_ ?_
 refine lc (Qy 0 (Qb rfl) rfl rfl (Fresh.of rfl) (nlr rfl))<|lc (Qj 1 Xr ZE rfl rfl (Fresh.of rfl) (nlr rfl)) ?_
 iterate 5 refine w_ ?_
 refine lc (Ql (Yi s) X3 ⟨_,_,rfl,(Qb rfl),rfl⟩ rfl rfl) ?_
 iterate 2 refine w_ ?_
 cases hb2:(decide (StgOk s))
 have hb2':=a7 hb2
 iterate 7 refine w_ ?_
 refine lc (QA YS rfl (ae.1 rfl) rfl rfl)<|lc (Qc (Qa rfl) rfl (Qb rfl) rfl Qz rfl) ?_
 iterate 2 refine w_ ?_
 refine AC.wk (QF 2 (p:=1) (off:=1) 198 QS rfl rfl (Fresh.of rfl) (nlr rfl))<|AC.wk (QF 3 (p:=1) (off:=2) 90 QY rfl rfl (Fresh.of rfl) (nlr rfl))<|AC.wk (QF 4 (p:=1) (off:=3) 55 Q5 rfl rfl (Fresh.of rfl) (nlr rfl))<|Q4 ?_
 subst hO
 have e3:(0:Int)=((((QM s list).1).1).1):=by
  (rw[Zy (fun h=>by obtain ⟨h1,h2⟩:=h; first | omega | exact absurd h1 ‹_›)]; rfl)
 have e4:(ByteArray.empty:ByteArray)=(((QM s list).1).2.2.2):=by
  (rw[Zy (fun h=>by obtain ⟨h1,h2⟩:=h; first | omega | exact absurd h1 ‹_›)]; rfl)
 have e5:(false:Bool)=((QM s list).2):=by
  (rw[Zy (fun h=>by obtain ⟨h1,h2⟩:=h; first | omega | exact absurd h1 ‹_›)]; done)
 exact QD _ _ [(0,2),(1,3),(2,4)] (QB rfl (QG rfl rfl Qz rfl) (Qd rfl)) ((((congrArg (fun z_=>PV.tup [(true,[dI z_, .ref 2, .ref 3, .ref 4,dS ByteArray.empty]),(false,[dB false])]) e3)).trans (congrArg (fun z_=>PV.tup [(true,[dI ((((QM s list).1).1).1), .ref 2, .ref 3, .ref 4,dS z_]),(false,[dB false])]) e4)).trans (congrArg (fun z_=>PV.tup [(true,[dI ((((QM s list).1).1).1), .ref 2, .ref 3, .ref 4,dS (((QM s list).1).2.2.2)]),(false,[dB z_])]) e5)) ⟨(Qp (by (rw[Zy (fun h=>by obtain ⟨h1,h2⟩:=h; first | omega | exact absurd h1 ‹_›)]; rfl))),(Qp (by (rw[Zy (fun h=>by obtain ⟨h1,h2⟩:=h; first | omega | exact absurd h1 ‹_›)]; rfl))),(Qp (by (rw[Zy (fun h=>by obtain ⟨h1,h2⟩:=h; first | omega | exact absurd h1 ‹_›)]; rfl))),trivial⟩ rfl rfl
 have hb2':=a8 hb2
 refine w_ ?_
 refine AL.fact (Qo (x:= .tmp 15) (Qa rfl)) fun hl6=> ?_
 iterate 4 refine w_ ?_
 cases hb7:(decide (6 < (list.length:Int)))
 have hb7':=a7 hb7
 iterate 4 refine w_ ?_
 refine lc (Q8 5 (Qad s (by omega)) QfW ⟨_,_,rfl,(Qb rfl),rfl⟩ rfl rfl ⟨Fresh.of rfl,Fresh.of rfl,Fresh.of rfl,trivial⟩ (nlr rfl))<|lc (Qj 8 Xr ZE rfl rfl (Fresh.of rfl) (nlr rfl))<|lc (Qc (Qa rfl) rfl (Qb rfl) rfl Qz rfl) ?_
 iterate 4 refine w_ ?_
 refine AL.fact (Qo (x:= .tmp 22) (Qa rfl)) fun hl8=> ?_
 iterate 4 refine w_ ?_
 refine Qu (fun m_ s_=>∃(k:Nat) (cur:(Int×(List (List Int×List Int)))×(List (ByteArray×Int))×(List (Int×Bool))×ByteArray),k≤list.length∧m_=list.length - k∧(U8 s list=U8 cur (list.drop k))∧(Ty.tot ZC cur≤Ty.tot ZC s+3*k)∧s_=⟨[(4,lP 1 0),(6,lP 8 0),(22,lf (.dat KZ list)),(23,lI (list.length:Int)),(24,lI (k:Int))],[(1,some (.box 29 [dI 0, .val (.slice none 0 0), .val (.slice none 0 0), .val (.slice none 0 0),dS ByteArray.empty])),(8,some (.box 29 [dI cur.1.1, .ref 9, .ref 10, .ref 11,dS cur.2.2.2])),(9,some (.arr 198 QS cur.1.2)),(10,some (.arr 90 QY cur.2.1)),(11,some (.arr 55 Q5 cur.2.2.1))]⟩) ⟨0,s,aw _,rfl,rfl,by omega,rfl⟩ ?_ ?_
 exact wo [(1,1),(8,8),(9,5),(10,6),(11,7)]
 rintro m_ s_ ⟨k,cur,hk9,hm10,hA,hT,rfl⟩
 iterate 4 refine w_ ?_
 cases hb11:(decide ((k:Int) < (list.length:Int)))
 have hb11':=a7 hb11
 iterate 5 refine w_ ?_
 refine lc (Qc (Qa rfl) rfl (Qb rfl) rfl Qz rfl) ?_
 iterate 3 refine w_ ?_
 subst hO
 have e12:(cur.1.1:Int)=((((QM s list).1).1).1):=by
  (rw[Zs ⟨by assumption,by omega⟩,Xx hA (by omega)]; done)
 have e13:(cur.2.2.2:ByteArray)=(((QM s list).1).2.2.2):=by
  (rw[Zs ⟨by assumption,by omega⟩,Xx hA (by omega)]; done)
 have e14:(true:Bool)=((QM s list).2):=by
  (rw[Zs ⟨by assumption,by omega⟩,Xx hA (by omega)]; done)
 exact QD _ _ [(0,9),(1,10),(2,11)] (QB rfl (QG rfl rfl Qz rfl) (Qd rfl)) ((((congrArg (fun z_=>PV.tup [(true,[dI z_, .ref 9, .ref 10, .ref 11,dS cur.2.2.2]),(false,[dB true])]) e12)).trans (congrArg (fun z_=>PV.tup [(true,[dI ((((QM s list).1).1).1), .ref 9, .ref 10, .ref 11,dS z_]),(false,[dB true])]) e13)).trans (congrArg (fun z_=>PV.tup [(true,[dI ((((QM s list).1).1).1), .ref 9, .ref 10, .ref 11,dS (((QM s list).1).2.2.2)]),(false,[dB z_])]) e14)) ⟨(Qp (by (rw[Zs ⟨by assumption,by omega⟩,Xx hA (by omega)]; done))),(Qp (by (rw[Zs ⟨by assumption,by omega⟩,Xx hA (by omega)]; done))),(Qp (by (rw[Zs ⟨by assumption,by omega⟩,Xx hA (by omega)]; done))),trivial⟩ rfl rfl
 have hb11':=a8 hb11
 iterate 5 refine w_ ?_
 obtain ⟨x15,hx16⟩:=gx list k
 refine lc (Qh (Qa rfl) (Qa rfl) Xn Zf rfl (by omega) hx16) ?_
 refine w_ ?_
 refine lc (Qj 12 ZH Yz rfl rfl (Fresh.of rfl) (nlr rfl))<|lc (Qc (Qa rfl) rfl (Qb rfl) rfl Zf rfl) ?_
 iterate 4 refine w_ ?_
 refine lc (XK 13 (Ul cur x15 (by omega)) QbW ⟨_,_,rfl,(UM (Qb rfl) ⟨_,_,rfl, .inl rfl,⟨_,_,rfl, .inr ⟨_,_,_,_,rfl,rfl,rfl⟩,⟨_,_,rfl, .inr ⟨_,_,_,_,rfl,rfl,rfl⟩,⟨_,_,rfl, .inr ⟨_,_,_,_,rfl,rfl,rfl⟩,⟨_,_,rfl, .inl rfl,rfl⟩⟩⟩⟩⟩),⟨_,_,rfl,(Ev.b (Qb rfl)),rfl⟩⟩ rfl rfl rfl ⟨Fresh.of rfl,Fresh.of rfl,Fresh.of rfl,trivial⟩ (nlr rfl)) ?_
 iterate 3 refine w_ ?_
 refine lc (Qj 16 Xr ZE rfl rfl (Fresh.of rfl) (nlr rfl))<|lc (Qc (Qa rfl) rfl (Qb rfl) rfl Qz rfl) ?_
 iterate 7 refine w_ ?_
 cases hb17:((ZA cur x15).2)
 iterate 2 refine w_ ?_
 refine lc (QA YS rfl (ae.1 rfl) rfl rfl)<|lc (Qc (Qa rfl) rfl (Qb rfl) rfl Qz rfl) ?_
 iterate 2 refine w_ ?_
 refine AC.wk (QF 17 (p:=1) (off:=1) 198 QS rfl rfl (Fresh.of rfl) (nlr rfl))<|AC.wk (QF 18 (p:=1) (off:=2) 90 QY rfl rfl (Fresh.of rfl) (nlr rfl))<|AC.wk (QF 19 (p:=1) (off:=3) 55 Q5 rfl rfl (Fresh.of rfl) (nlr rfl))<|Q4 ?_
 subst hO
 have e18:(0:Int)=((((QM s list).1).1).1):=by
  (rw[Zs ⟨by assumption,by omega⟩,Ve hA ‹_› ‹_›]; rfl)
 have e19:(ByteArray.empty:ByteArray)=(((QM s list).1).2.2.2):=by
  (rw[Zs ⟨by assumption,by omega⟩,Ve hA ‹_› ‹_›]; rfl)
 have e20:(false:Bool)=((QM s list).2):=by
  (rw[Zs ⟨by assumption,by omega⟩,Ve hA ‹_› ‹_›]; done)
 exact QD _ _ [(0,17),(1,18),(2,19)] (QB rfl (QG rfl rfl Qz rfl) (Qd rfl)) ((((congrArg (fun z_=>PV.tup [(true,[dI z_, .ref 17, .ref 18, .ref 19,dS ByteArray.empty]),(false,[dB false])]) e18)).trans (congrArg (fun z_=>PV.tup [(true,[dI ((((QM s list).1).1).1), .ref 17, .ref 18, .ref 19,dS z_]),(false,[dB false])]) e19)).trans (congrArg (fun z_=>PV.tup [(true,[dI ((((QM s list).1).1).1), .ref 17, .ref 18, .ref 19,dS (((QM s list).1).2.2.2)]),(false,[dB z_])]) e20)) ⟨(Qp (by (rw[Zs ⟨by assumption,by omega⟩,Ve hA ‹_› ‹_›]; rfl))),(Qp (by (rw[Zs ⟨by assumption,by omega⟩,Ve hA ‹_› ‹_›]; rfl))),(Qp (by (rw[Zs ⟨by assumption,by omega⟩,Ve hA ‹_› ‹_›]; rfl))),trivial⟩ rfl rfl
 iterate 4 refine w_ ?_
 refine lc (Qc (Qa rfl) rfl (Qb rfl) rfl Qz rfl)<|Qm ?_
 iterate 4 refine w_ ?_
 refine Qm<|QV ⟨k+1,((ZA cur x15).1),by omega,rfl,Qj7 hA hx16 ‹_›,(by have:=QoE cur x15; omega),rfl⟩ (by omega) ?_
 exact wp [(1,1),(8,8),(9,13),(10,14),(11,15)] ⟨rfl,rfl,(Qp (by first | rfl | simp)),rfl,rfl,trivial⟩
 have hb7':=a8 hb7
 iterate 2 refine w_ ?_
 refine lc (QA YS rfl (ae.1 rfl) rfl rfl)<|lc (Qc (Qa rfl) rfl (Qb rfl) rfl Qz rfl) ?_
 iterate 2 refine w_ ?_
 refine AC.wk (QF 20 (p:=1) (off:=1) 198 QS rfl rfl (Fresh.of rfl) (nlr rfl))<|AC.wk (QF 21 (p:=1) (off:=2) 90 QY rfl rfl (Fresh.of rfl) (nlr rfl))<|AC.wk (QF 22 (p:=1) (off:=3) 55 Q5 rfl rfl (Fresh.of rfl) (nlr rfl))<|Q4 ?_
 subst hO
 have e21:(0:Int)=((((QM s list).1).1).1):=by
  (rw[Zy (fun h=>by obtain ⟨h1,h2⟩:=h; first | omega | exact absurd h1 ‹_›)]; rfl)
 have e22:(ByteArray.empty:ByteArray)=(((QM s list).1).2.2.2):=by
  (rw[Zy (fun h=>by obtain ⟨h1,h2⟩:=h; first | omega | exact absurd h1 ‹_›)]; rfl)
 have e23:(false:Bool)=((QM s list).2):=by
  (rw[Zy (fun h=>by obtain ⟨h1,h2⟩:=h; first | omega | exact absurd h1 ‹_›)]; done)
 exact QD _ _ [(0,20),(1,21),(2,22)] (QB rfl (QG rfl rfl Qz rfl) (Qd rfl)) ((((congrArg (fun z_=>PV.tup [(true,[dI z_, .ref 20, .ref 21, .ref 22,dS ByteArray.empty]),(false,[dB false])]) e21)).trans (congrArg (fun z_=>PV.tup [(true,[dI ((((QM s list).1).1).1), .ref 20, .ref 21, .ref 22,dS z_]),(false,[dB false])]) e22)).trans (congrArg (fun z_=>PV.tup [(true,[dI ((((QM s list).1).1).1), .ref 20, .ref 21, .ref 22,dS (((QM s list).1).2.2.2)]),(false,[dB z_])]) e23)) ⟨(Qp (by (rw[Zy (fun h=>by obtain ⟨h1,h2⟩:=h; first | omega | exact absurd h1 ‹_›)]; rfl))),(Qp (by (rw[Zy (fun h=>by obtain ⟨h1,h2⟩:=h; first | omega | exact absurd h1 ‹_›)]; rfl))),(Qp (by (rw[Zy (fun h=>by obtain ⟨h1,h2⟩:=h; first | omega | exact absurd h1 ‹_›)]; rfl))),trivial⟩ rfl rfl
@[reducible] def Qrp:(Qq)→Int→(Qq)×Int:=fun _ k=>((k,k+1,decide ((k+1+1) % 3=0)),k+1+1+1)
end Go.Proofs.YtjaadeknhofhpaaGreat
