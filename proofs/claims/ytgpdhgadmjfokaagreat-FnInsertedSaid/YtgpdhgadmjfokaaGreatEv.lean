/- laws.FnInserted walked. -/
import Derived.Test.YtgpdhgadmjfokaaGreatEu
import Derived.Test.YtgpdhgadmjfokaaGreatEo
import Derived.Test.YtgpdhgadmjfokaaGreatCa
import Derived.Test.YtgpdhgadmjfokaaGreatAx
set_option linter.unusedSimpArgs false
set_option linter.unusedVariables false
set_option linter.unusedSectionVars false
namespace Go.Proofs.YtgpdhgadmjfokaaGreat
open Go.RowKit
set_option maxRecDepth 100000
set_option maxHeartbeats 4000000
theorem QsI {o:List Int}{a cs:List ByteArray}{n i:Nat}{v:Int}(c:o.length=a.length)(d:∀(i:Nat) (z:ByteArray) (v:Int),o[i]? =some v→a[i]? =some z→(0≤v∧v < (cs.length:Int))∧∃y,cs[v.toNat]? =some y∧z.extract 0 n=y∧n≤z.size)(b:o[i]? =some v):0≤v∧v < (cs.length:Int):=
 (d i _ v b (aj (by rw[← c]; exact (ae.1 b).1))).1
theorem Qt6 {α:Type}{l:List α}{x y:α}{n:Nat}(h:l[((l.length:Int) - 1).toNat]? =some x)(b:l.length=n+1)(a:l[n]? =some y):x=y:=by
 rw[show ((l.length:Int) - 1).toNat=n by omega,a] at h
 exact (cG h).symm
theorem JK (code:List UInt8)(B:List UInt8):FC Tryz.prog 3 [(false,[.dat QP code]),(false,[.dat QP B])] [] 0 (Q7 (lB true)):=by
 classical
 refine Qu Tryz.func3 rfl rfl Tryz.ntmps3 fun O_ e d3 b8 X_ c0 b9=> ?_
 refine w6 ?_
 refine alL 38 fun _=> ?_
 refine w2 ?_
 refine alL 40 fun _=> ?_
 refine w_ ?_
 refine lc (Qma (Qa rfl) (Qa rfl) rfl) ?_
 refine w2 ?_
 refine cd_ (fun _ _=> ?_) fun _ _=> ?_
 refine w3 ?_
 refine YQ 0 [] (Vz code) Qnz e1_ trivial rfl (fun _=>rfl) (fun _=>trivial) (nlr rfl) fun a d2=> ?_
 refine w4 ?_
 refine lc (xal 0 Wm ZI) ?_
 refine w8 ?_
 refine lc (dK (Kw a.1 a.2.1 a.2.2 (by omega)).frozenG QlT) ?_
 refine w3 ?_
 refine lc (xal 1 Wm ZI) ?_
 refine w7 ?_
 refine lc (dK (Kd a.1 a.2.1 a.2.2 (by omega)).frozenG Qlx) ?_
 refine w3 ?_
 refine lc (xal 2 Wm ZI) ?_
 refine w7 ?_
 refine lc (dK (UN a.1 a.2.1 a.2.2 (by omega)).frozenG QmP) ?_
 refine w10 ?_
 refine lc (dK (UJ a.1 a.2.1 a.2.2 (by omega)).frozenG Qlz) ?_
 refine w8 ?_
 refine YQ 3 [] (VM B) Ql2 e1_ trivial rfl (fun _=>rfl) (fun _=>trivial) (nlr rfl) fun b d1=> ?_
 refine w3 ?_
 refine lc (xal 3 Wm ZI) ?_
 refine w6 ?_
 refine lc (dK (WF b.1 b.2).frozenG Qeu) ?_
 refine w9 ?_
 refine lc (dK (K7 b.1 b.2).frozenG QlD) ?_
 refine w9 ?_
 refine lc (dK (Uc b.1 b.2) Qmt) ?_
 refine w9 ?_
 refine lc (dK (VL b.1 b.2) QmC) ?_
 refine w9 ?_
 refine lc (dK (Ye b.1 b.2) Qac) ?_
 refine w9 ?_
 refine lc (dK (VC b.1 b.2) Qmr) ?_
 refine w10 ?_
 refine lc (Yp (Qa rfl) (Qa rfl) rfl Wp) ?_
 refine w_ ?_
 cases X:(((QK a.1 a.2.1 a.2.2).2)==((QK a.1 a.2.1 a.2.2).2))
 refine w16 ?_
 refine w16 ?_
 refine w16 ?_
 refine w14 ?_
 refine Qe<|fqB e ?_
 ·(exfalso; simp_all; done)
 refine w2 ?_
 refine lgy rfl rfl (dK (VO ((QK a.1 a.2.1 a.2.2).1.1) ((QK a.1 a.2.1 a.2.2).1.1) rfl) Qlt) ?_
 refine w5 ?_
 refine lgy rfl rfl (Yp (Qa rfl) (Qa rfl) rfl Wp) ?_
 refine w2 ?_
 have a3:(((QK a.1 a.2.1 a.2.2).2)==((QK a.1 a.2.1 a.2.2).2))=true:=X
 try rw[a3]
 refine w2 ?_
 refine lgy rfl rfl (Yp (Qa rfl) (Qa rfl) rfl Wp) ?_
 refine w2 ?_
 have T:(((QK a.1 a.2.1 a.2.2).2)==((QK a.1 a.2.1 a.2.2).2))=true:=X
 try rw[T]
 refine w2 ?_
 refine lgy rfl rfl (dK (U4 ((QK a.1 a.2.1 a.2.2).1.2) ((QK a.1 a.2.1 a.2.2).1.2) rfl) Qd2) ?_
 refine w5 ?_
 refine lgy rfl rfl (Yp (Qa rfl) (Qa rfl) rfl Wp) ?_
 refine w2 ?_
 cases m:((okP b.1 b.2)==(okP b.1 b.2))
 refine w16 ?_
 refine w16 ?_
 refine w3 ?_
 refine Qe<|fqB e ?_
 ·(exfalso; simp_all; done)
 refine w2 ?_
 refine lgy rfl rfl (dK (U4 (QdB b.1 b.2) (QdB b.1 b.2) rfl) Qd2) ?_
 refine w5 ?_
 refine lgy rfl rfl (Yp (Qa rfl) (Qa rfl) rfl Wp) ?_
 refine w2 ?_
 have U:((okP b.1 b.2)==(okP b.1 b.2))=true:=m
 try rw[U]
 refine w2 ?_
 refine lgy rfl rfl (Yp (Qa rfl) (Qa rfl) rfl Wp) ?_
 refine w2 ?_
 cases b1:((Qat b.1 b.2)==(Qat b.1 b.2))
 refine w16 ?_
 refine w3 ?_
 refine Qe<|fqB e ?_
 ·(exfalso; simp_all; done)
 refine w2 ?_
 refine lgy rfl rfl (Yp (Qa rfl) (Qa rfl) rfl Wp) ?_
 refine w2 ?_
 cases b2:((decide (SignsOk b.1 b.2))==(decide (SignsOk b.1 b.2)))
 refine w14 ?_
 refine Qe<|fqB e ?_
 ·(exfalso; simp_all; done)
 refine w2 ?_
 refine lgy rfl rfl (Yp (Qa rfl) (Qa rfl) rfl Wp) ?_
 refine w2 ?_
 have V:((okP b.1 b.2)==(okP b.1 b.2))=true:=m
 try rw[V]
 refine w2 ?_
 refine lgy rfl rfl (Yp (Qa rfl) (Qa rfl) rfl Wp) ?_
 refine w2 ?_
 have W:((okP b.1 b.2)==(okP b.1 b.2))=true:=m
 try rw[W]
 refine w7 ?_
 refine cx_ (fun _=> ?_) fun _=> ?_
 refine w4 ?_
 exact fe_ e
 refine w_ ?_
 refine Z6 ?_
 obtain ⟨Z,O,a6,a7,n,a8,a9⟩:=QoT (c:=a.1) (name:=a.2.1) (s:=a.2.2) ‹_›
 have c8:=aT Z
 have b0:trV (QK a.1 a.2.1 a.2.2).1.1 ((((QK a.1 a.2.1 a.2.2).1.1.1).length:Int) - 1) 4=trV a.1 (-1) 4:=by rw[show ((((QK a.1 a.2.1 a.2.2).1.1.1).length:Int) - 1)=(a.1.1.length:Int) by omega]; exact a9
 refine w3 ?_
 refine alL 183 fun _=> ?_
 refine w7 ?_
 refine lc (dK (Vd ((QK a.1 a.2.1 a.2.2).1.1)) QmF) ?_
 refine w2 ?_
 cases o:(decide (SgOk ((QK a.1 a.2.1 a.2.2).1.1)))
 have C:=aa o
 refine w16 ?_
 refine w13 ?_
 refine Qe<|fqB e ?_
 ·(exfalso; simp_all; done)
 have C:=ab o
 refine w_ ?_
 refine alL 190 fun _=> ?_
 refine w3 ?_
 refine alL 193 fun _=> ?_
 refine w4 ?_
 cases p:(!decide ((((QK a.1 a.2.1 a.2.2).1.2).length:Int)=((((QK a.1 a.2.1 a.2.2).1.1).2.1).length:Int)))
 have D:((((QK a.1 a.2.1 a.2.2).1.2).length:Int)=((((QK a.1 a.2.1 a.2.2).1.1).2.1).length:Int)):=QJ p
 refine w3 ?_
 refine alL 200 fun _=> ?_
 refine w4 ?_
 cases q:(!decide ((((((QK a.1 a.2.1 a.2.2).1.1).1).length:Int) - 1)=(a.1.1.length:Int)))
 have E:((((((QK a.1 a.2.1 a.2.2).1.1).1).length:Int) - 1)=(a.1.1.length:Int)):=QJ q
 refine w3 ?_
 obtain ⟨d4,a0⟩:=gx (((QK a.1 a.2.1 a.2.2).1.1).1) ((((((QK a.1 a.2.1 a.2.2).1.1).1).length:Int) - 1).toNat)
 have b6:=Qt6 a0 a6 a7
 refine w7 ?_
 refine cn_ (fun _ _=> ?_) fun _ _=> ?_
 refine w4 ?_
 refine alL 214 fun _=> ?_
 refine w4 ?_
 refine lp0 (((QK a.1 a.2.1 a.2.2).1.2).length) (fun k=>⟨[(5,lP 0 0),(8,lP 1 0),(12,lf (.dat QO ((QK a.1 a.2.1 a.2.2).1.2))),(30,lI (((((QK a.1 a.2.1 a.2.2).1.1).1).length:Int) - 1)),(215,lI (((QK a.1 a.2.1 a.2.2).1.2).length:Int)),(216,lI (k:Int))],[bx 0 27 [.dat Qj a.1.1, .dat Qm a.1.2.1, .dat Qw a.1.2.2],bx 1 27 [.dat Qj (((QK a.1 a.2.1 a.2.2).1.1).1), .dat Qm (((QK a.1 a.2.1 a.2.2).1.1).2.1), .dat Qw (((QK a.1 a.2.1 a.2.2).1.1).2.2)]]⟩) ?_ fun k _=> ?_
 exact wo []
 refine w4 ?_
 cases r:(decide ((k:Int) < (((QK a.1 a.2.1 a.2.2).1.2).length:Int)))
 have F:=aa r
 refine w7 ?_
 refine alL 254 fun _=> ?_
 refine w4 ?_
 refine lp0 ((((QK a.1 a.2.1 a.2.2).1.1).2.2).length) (fun i=>⟨[(5,lP 0 0),(8,lP 1 0),(12,lf (.dat QO ((QK a.1 a.2.1 a.2.2).1.2))),(30,lI (((((QK a.1 a.2.1 a.2.2).1.1).1).length:Int) - 1)),(254,lf (.dat Qw (((QK a.1 a.2.1 a.2.2).1.1).2.2))),(255,lI ((((QK a.1 a.2.1 a.2.2).1.1).2.2).length:Int)),(256,lI (i:Int))],[bx 0 27 [.dat Qj a.1.1, .dat Qm a.1.2.1, .dat Qw a.1.2.2],bx 1 27 [.dat Qj (((QK a.1 a.2.1 a.2.2).1.1).1), .dat Qm (((QK a.1 a.2.1 a.2.2).1.1).2.1), .dat Qw (((QK a.1 a.2.1 a.2.2).1.1).2.2)]]⟩) ?_ fun i _=> ?_
 exact wo []
 refine w4 ?_
 cases t:(decide ((i:Int) < ((((QK a.1 a.2.1 a.2.2).1.1).2.2).length:Int)))
 have G:=aa t
 refine w6 ?_
 refine lc (dK (Ka ((QK a.1 a.2.1 a.2.2).1.1) (((((QK a.1 a.2.1 a.2.2).1.1).1).length:Int) - 1) 4).frozenG Qd3) ?_
 refine w8 ?_
 refine lc (dK (Ka a.1 (-1) 4).frozenG Qd3) ?_
 refine w9 ?_
 refine lc (Yp (Qa rfl) (Qa rfl) rfl Wp) ?_
 refine w_ ?_
 cases b3:(((trV ((QK a.1 a.2.1 a.2.2).1.1) (((((QK a.1 a.2.1 a.2.2).1.1).1).length:Int) - 1) 4).2)==((trV a.1 (-1) 4).2))
 refine w11 ?_
 exact fe_ e
 refine w4 ?_
 cases b4:((trV ((QK a.1 a.2.1 a.2.2).1.1) (((((QK a.1 a.2.1 a.2.2).1.1).1).length:Int) - 1) 4).2)
 refine w7 ?_
 exact fe_ e
 refine w2 ?_
 refine lgy rfl rfl (dK (QbN ((trV ((QK a.1 a.2.1 a.2.2).1.1) (((((QK a.1 a.2.1 a.2.2).1.1).1).length:Int) - 1) 4).1) ((trV a.1 (-1) 4).1) (congrArg Prod.fst b0)) QlB) ?_
 refine w4 ?_
 exact fe_ e
 have G:=ab t
 refine w5 ?_
 obtain ⟨ar,x⟩:=gx (((QK a.1 a.2.1 a.2.2).1.1).2.2) i
 have a2:=a8 _ (ai x)
 obtain ⟨⟨c1,c2⟩,⟨c3,c4⟩,_⟩:=Z.arcs _ (ai x)
 refine w2 ?_
 refine lc (xal 4 QG Zu) ?_
 refine w2 ?_
 cases g:(decide (ar.2.1=(((((QK a.1 a.2.1 a.2.2).1.1).1).length:Int) - 1)))
 have H:=aa g
 apply dW (i3 260 _ _ _ (io 263 (lB false) :: i9 264 _ _ _ _ _ _ _ _ _ (i4 273 _ _ _ _ []))) [0,0,3,0,0,0,32,32,0,0,992,2016,2016,992,992,0,0]
 refine z3 ?_
 refine zz (fun _ d=>ac (Qy (g) (Yo (d.v rfl) (d.v rfl) rfl)) rfl) ?_
 exact y13
 refine w6 ?_
 refine Qc ?_
 refine l0_ ?_
 exact wo []
 have H:=ab g
 obtain ⟨P,y⟩:=gx ((QK a.1 a.2.1 a.2.2).1.2) ((ar.1).toNat)
 have M:=y
 have a4:=QsI O n y
 obtain ⟨Q,z⟩:=gx ((QK a.1 a.2.1 a.2.2).1.2) ((ar.2.2.2).toNat)
 have N:=z
 have a5:=QsI O n z
 apply dW (i3 260 _ _ _ (io 263 (lB true) :: i9 264 _ _ _ _ _ _ _ _ _ (i4 273 _ _ _ _ []))) [0,0,3,0,0,0,32,32,0,0,992,2016,2016,992,992,0,0]
 refine z3 ?_
 refine zz (fun _ d=>ac (Qy (g) (Yo (d.v rfl) (d.v rfl) rfl)) rfl) ?_
 exact y13
 cases u:(!decide (P=Q))
 have I:(P=Q):=QJ u
 refine w6 ?_
 refine Qc ?_
 refine l0_ ?_
 exact wo []
 have I:¬(P=Q):=QU u
 refine w4 ?_
 refine Qe<|fqB e ?_
 (exfalso; exact absurd (cG (M.symm.trans ((a2 (by omega)).trans N))) ‹_›)
 have F:=ab r
 refine w8 ?_
 obtain ⟨ov,A⟩:=gx ((QK a.1 a.2.1 a.2.2).1.2) k
 have Y:=A
 have b5:=QsI O n A
 cases f:(decide (ov < 0))
 have J:=aa f
 cases j:(decide ((a.1.2.1.length:Int)≤ov))
 have K:=aa j
 obtain ⟨S,a1⟩:=gx (((QK a.1 a.2.1 a.2.2).1.1).2.1) k
 obtain ⟨⟨c9,d0⟩,cy,c7,c5,c6⟩:=n _ _ _ Y a1
 obtain ⟨R,b7⟩:=gx a.1.2.1 ((ov).toNat)
 apply dW (i4 219 _ _ _ _ (io 223 (lB false) :: i8 224 _ _ _ _ _ _ _ _ (io 232 (lB false) :: i8 233 _ _ _ _ _ _ _ _ (io 241 (lf (dS (S.extract 0 (((((QK a.1 a.2.1 a.2.2).1.1).1).length:Int) - 1).toNat))) :: i9 242 _ _ _ _ _ _ _ _ _ [io 251 _])))) [0,1,0,0,0,0,0,64,0,0,960,960,960,0,0,0,0,0,196608,0,0,2031616,0,8323072,8323072,33488896,67043328,33488896,33488896,8323072,8323072,0,0]
 refine z4 ?_
 refine zz (fun _ d=>ac (Qy (f) (Kf (d.v rfl) (Qo rfl) rfl)) rfl) ?_
 refine z8 ?_
 refine zz (fun _ d=>day rfl (d.k rfl) (Qy (j) (HR (d.v rfl) (d.v rfl) rfl)) rfl) ?_
 refine z8 ?_
 refine zz (fun _ d=>day rfl (d.k rfl) (show Does _ _ _ _ (St.put _ 241 (lf (dS (S.extract 0 (((((QK a.1 a.2.1 a.2.2).1.1).1).length:Int) - 1).toNat)))) from Q0 (l:=none) (h:=(some (((((QK a.1 a.2.1 a.2.2).1.1).1).length:Int) - 1))) (d.v rfl) (by exact trivial) (by exact (d.v rfl)) Q9 rfl (by first | omega | (simp only[ao,ak]; omega)) (by first | omega | (simp only[ao,ak]; omega)) (by first | omega | (simp only[ao,ak]; omega))) rfl) ?_
 exact y10
 cases w:(!decide ((S.extract 0 (((((QK a.1 a.2.1 a.2.2).1.1).1).length:Int) - 1).toNat)=R))
 have L:((S.extract 0 (((((QK a.1 a.2.1 a.2.2).1.1).1).length:Int) - 1).toNat)=R):=QJ w
 refine w6 ?_
 refine Qc ?_
 refine l0_ ?_
 exact wo []
 have L:¬((S.extract 0 (((((QK a.1 a.2.1 a.2.2).1.1).1).length:Int) - 1).toNat)=R):=QU w
 refine w4 ?_
 refine Qe<|fqB e ?_
 ·(exfalso; simp_all; done)
 have K:=ab j
 apply dW (i4 219 _ _ _ _ (io 223 (lB false) :: i8 224 _ _ _ _ _ _ _ _ (io 232 (lB true) :: i9 233 _ _ _ _ _ _ _ _ _ (i9 242 _ _ _ _ _ _ _ _ _ [io 251 _])))) [0,1,0,0,0,0,0,64,0,0,960,960,960,0,0,0,0,0,196608,0,0,2031616,0,8323072,8323072,33488896,67043328,33488896,33488896,8323072,8323072,0,0]
 refine z4 ?_
 refine zz (fun _ d=>ac (Qy (f) (Kf (d.v rfl) (Qo rfl) rfl)) rfl) ?_
 refine z8 ?_
 refine zz (fun _ d=>day rfl (d.k rfl) (Qy (j) (HR (d.v rfl) (d.v rfl) rfl)) rfl) ?_
 refine z16 ?_
 exact y3
 refine w4 ?_
 refine Qe<|fqB e ?_
 (exfalso; omega)
 have J:=ab f
 apply dW (i4 219 _ _ _ _ (io 223 (lB true) :: i9 224 _ _ _ _ _ _ _ _ _ (i9 233 _ _ _ _ _ _ _ _ _ (i9 242 _ _ _ _ _ _ _ _ _ [io 251 _])))) [0,1,0,0,0,0,0,64,0,0,960,960,960,0,0,0,0,0,196608,0,0,2031616,0,8323072,8323072,33488896,67043328,33488896,33488896,8323072,8323072,0,0]
 refine z4 ?_
 refine zz (fun _ d=>ac (Qy (f) (Kf (d.v rfl) (Qo rfl) rfl)) rfl) ?_
 refine z16 ?_
 exact y12
 refine w4 ?_
 refine Qe<|fqB e ?_
 (exfalso; omega)
 refine w3 ?_
 refine Qe<|fqB e ?_
 ·(exfalso; simp_all; done)
 have E:¬((((((QK a.1 a.2.1 a.2.2).1.1).1).length:Int) - 1)=(a.1.1.length:Int)):=QU q
 refine w14 ?_
 refine Qe<|fqB e ?_
 (exfalso; omega)
 have D:¬((((QK a.1 a.2.1 a.2.2).1.2).length:Int)=((((QK a.1 a.2.1 a.2.2).1.1).2.1).length:Int)):=QU p
 refine w16 ?_
 refine w5 ?_
 refine Qe<|fqB e ?_
 (exfalso; omega)
 refine w4 ?_
 exact fe_ e
end Go.Proofs.YtgpdhgadmjfokaaGreat
