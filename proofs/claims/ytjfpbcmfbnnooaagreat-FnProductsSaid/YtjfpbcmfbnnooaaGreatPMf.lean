import Derived.Test.YtjfpbcmfbnnooaaGreatPMc
set_option linter.all false
namespace Go.Proofs.YtjfpbcmfbnnooaaGreat
open Go.RowKit Tryz
set_option maxRecDepth 100000
set_option maxHeartbeats 4000000
section
variable {c:DSg}{x:DCk}{l:List DRc}{ws:List DWr}{i:Nat}{y:DWr}{ys:List DPn}{n:DNl}
def QlD (h:ws[i]? =some y):(Zh Zm ws)[i*4+2]? =some (.dat XY y.2.2.1):=K3 (e:=Zm) (j:=2) h rfl
def Qav (h:ws[i]? =some y):(Zh Zm ws).set (i*4+2) (.dat XY ys)=Zh Zm (ws.set i (y.1,y.2.1,ys,y.2.2.2)):=(K4 (e:=Zm) (j:=2) (x':=(y.1,y.2.1,ys,y.2.2.2)) h rfl (by decide)).symm
def Qu6 (h:QV n):n.1.length≤8∧1≤n.2.length∧n.2.length≤24:=by
 obtain ⟨a,b,d⟩:=h.1
 have:=a.2.1
 have:=a.2.2
 omega
def Qto [∀c,Decidable (Xm c)][∀n,Decidable (QV n)](h:bnB x=true):(bnV x).1.length≤8∧1≤(bnV x).2.length∧(bnV x).2.length≤24:=by
 unfold bnB at h
 rw[aH,bI] at h
 have f:=h.1.1.1.2.1
 have g:=h.1.1.1.2.2
 cases e:al1 x 1 with
 | true=>
  obtain ⟨b,d,_⟩:=QwT h.1 e
  rw[← b,← d,Qqo];omega
 | false=>
  have a:=h.2
  rw[e,Bool.false_or,aH,bI] at a
  obtain ⟨b,d,_⟩:=QwU h.1 e a.1 a.2
  have:=Qu6 a.2
  rw[← b,← d];exact this
def Qz6 [∀c,Decidable (SgOk c)][∀n,Decidable (QV n)](h:(AmP c l∧amV c l=true)∧QV (mmM c l (Qt c.1 c.1.length).length)):(bmV c l).1.length≤8∧1≤(bmV c l).2.length∧(bmV c l).2.length≤24:=by
 obtain ⟨a,b,_⟩:=QwS h
 have:=Qu6 h.2
 rw[← a,← b];exact this
def Qzh [∀c,Decidable (SgOk c)][∀c,Decidable (Xm c)][∀n,Decidable (QV n)](h:Yr c false):bnB (YG c false)=true:=by
 unfold bnB
 have a:al1 (YG c false) 1=true:=by
  unfold al1
  rw[Ql6 h]
  refine ao.2 fun g b=> ?_
  obtain ⟨s,_,rfl⟩:=aW.1 b
  rw[QAL];rfl
 rw[ay (QCQ h),a];rfl
def QiT [∀c,Decidable (SgOk c)]:(YG c false).2.length≤100000:=bi Qkx.2 (by decide)
def QoQ [∀c,Decidable (SgOk c)]:(YG c true).2.length≤100000:=bi Qkx.2 (by decide)
def fbG:DSg:=([(⟨#[97]⟩,1),(⟨#[98]⟩,2)],[⟨#[48,48]⟩,⟨#[49,48]⟩,⟨#[49,49]⟩,⟨#[48,49]⟩],[(0,0,true,1),(1,1,true,2),(2,0,false,3),(3,1,false,0)])
def QAs [∀s,Decidable (StgOk s)]:(sgV fbS).1=fbG:=by
 have a:Qp fbS=(((Zr fbS).1.1,(Zr fbS).1.2.1),true):=if_pos ⟨QnB,by decide+kernel⟩
 have e:goS (Zr fbS).1.1.length (QY fbS.2.2.1 (Zr fbS).1.2.1) fbS.2.1.length 0 (List.replicate (Zr fbS).1.1.length ByteArray.empty)=some fbG.2.1:=by decide+kernel
 have b:¬(4000:Int)<((Zr fbS).1.2.1.length:Int):=by decide+kernel
 have d:QY fbS.2.2.1 (Zr fbS).1.2.1=fbG.2.2:=by decide+kernel
 rw[Qar (s:=fbS) (c:=fbG.2.1) (by rw[a]) (by rw[a];exact b) (by rw[a];exact e),a]
 show (fbS.2.1,fbG.2.1,QY fbS.2.2.1 (Zr fbS).1.2.1)=fbG
 rw[d];rfl
def Qt6:SgOk fbG:=by
 classical
 refine ⟨QnB.sigs,⟨by decide,by decide⟩,by decide,fun x d=> ?_,by decide+kernel,?_⟩
 ·simp only[fbG,aK,bO,or_false] at d
  rcases d with rfl|rfl|rfl|rfl <;> exact ⟨by decide+kernel,rfl⟩
 ·have f:ZT fbG.2.2=[(0,1),(1,2),(2,3),(3,0)]:=by decide+kernel
  have b:=QkD (n:=fbG.2.1.length) (es:=ZT fbG.2.2) (by decide) fun e a=>by
   rw[f] at a
   simp only[aK,bO,or_false] at a
   rcases a with rfl|rfl|rfl|rfl <;> exact ⟨⟨by decide,by decide⟩,by decide,by decide⟩
  have g:(!((Q6 fbG.2.1.length (ZT fbG.2.2)).any fun y=>decide (-1=y)))=true:=by decide+kernel
  rw[g] at b
  exact aa b.symm
def Qxv [∀c,Decidable (SgOk c)]:Yr fbG false:=by
 have a:Zn fbG 1 Zp:=⟨⟨Qt6,by decide,by decide⟩,by decide+kernel⟩
 refine ⟨⟨Qt6,by decide+kernel⟩,?_⟩
 have d:Qt fbG.1 fbG.1.length=[1]:=by decide
 rw[d]
 have b:YM fbG false 1=true:=by
  rw[Qzm]
  unfold nfB QD
  rw[if_pos a,ay a]
  decide+kernel
 simp[b]
end
def J0 (code:List UInt8)(at_:Int)(sd:Int)[∀s,Decidable (StgOk s)][∀s,Decidable (Xn s)][∀c,Decidable (SgOk c)][∀c,Decidable (Xm c)][∀n,Decidable (QV n)](G:0≤at_∧at_≤400000000):FC prog 168 [(false,[.ptr 0 0])] [bx 0 86 [.dat QP code,dI at_,.val (.int .u64 sd)]] 1 (Ex (fun x:(DSg×DNl)×Int×Int=>x.1.2.1.length≤8∧(1≤x.1.2.2.length∧x.1.2.2.length≤24)∧(at_≤x.2.1∧x.2.1≤at_+170)) (fun x:(DSg×DNl)×Int×Int=>PV.tup [(true,[.dat Qj x.1.1.1,.dat Qd x.1.1.2.1,.dat Qq x.1.1.2.2]),(true,[.ref 1,.ref 2])]) (fun x:(DSg×DNl)×Int×Int=>[bx 0 86 [.dat QP code,dI x.2.1,.val (.int .u64 x.2.2)],ar 1 103 QG x.1.2.1,ar 2 147 Zm x.1.2.2])):=by
 refine Ql func168 rfl rfl ntmps168 fun E p D r F u t=>w_ ?_
 refine lc (xal 1 UB Yq)<|lc (xal 2 J6 Xb)<|w3 ?_
 refine Z7 3 [(0,0)] (QbA code at_ sd (by omega)) Qm6 e1_ ⟨rfl,trivial⟩ rfl (fun _=>rfl) (fun _=>⟨trivial,trivial⟩) (nlr rfl) fun a B=>lc (xal 4 UB Yq)<|w2 ?_
 refine Xc (fun m=>∃(f:Int) (o:Int),(at_≤f∧f≤at_+170)∧m=⟨[(2,lP 1 0),(3,lP 2 0),(4,lP 4 0)],[bx 0 86 [.dat QP code,dI f,.val (.int .u64 o)],bx 1 28 [.val (.slice none 0 0),.val (.slice none 0 0),.val (.slice none 0 0)],bx 2 48 [.val (.slice none 0 0),.val (.slice none 0 0)],bx 4 28 [.dat Qj a.1.1,.dat Qd a.1.2.1,.dat Qq a.1.2.2]]⟩) ?_ fun g=> ?_
 rintro m ⟨f,o,H,rfl⟩
 refine w2 ?_
 refine lc (dK (Qa5 1 (XF a.1) rfl) QkH)<|w3 ?_
 refine lc (xal 5 Qss QbQ)<|w3 ?_
 refine Xc (fun m=>∃(d:(List (BA×Int))×List BA×(List (Int×Int×Bool×Int))) (e:(List (BA×Int))×(List (Int×Int×List BA×List BA))),(bnB e=true)∧(e.2.length≤100000)∧m=⟨[(2,lP 1 0),(3,lP 2 0),(4,lP 4 0),(13,lP 5 0)],[bx 0 86 [.dat QP code,dI f,.val (.int .u64 o)],bx 1 28 [.val (.slice none 0 0),.val (.slice none 0 0),.val (.slice none 0 0)],bx 2 48 [.val (.slice none 0 0),.val (.slice none 0 0)],bx 4 28 [.dat Qj d.1,.dat Qd d.2.1,.dat Qq d.2.2],bx 5 32 [.dat Qj e.1,.dat QdG e.2]]⟩) ?_ fun q=> ?_
 rintro m ⟨d,e,C,k,rfl⟩
 refine w2 ?_
 refine lc (dG 6 (Vt e (by first|exact QiT|exact QoQ|exact k)) QfO)<|w3 ?_
 refine lc (xal 8 J6 Xb)<|w3 ?_
 apply dW (i2 76 _ _ [⟨none,lf (.val undef),[bx 1 28 [.dat Qj d.1,.dat Qd d.2.1,.dat Qq d.2.2]]⟩,⟨none,lf (.val undef),[bx 2 48 [.ref 6,.ref 7]]⟩]) [0,1,2,0]
 refine z3 ?_
 exact zz (fun _ b=>ac (QR (b.v rfl) (b.en 2 rfl) (b.w rfl) (by show QH _ [.ref 6,.ref 7]=true;simp only[QH,Xh,aV,bo];rw[(b.en 6 rfl),(b.en 7 rfl)];rfl) VJ rfl) rfl)<|zN
 refine w_ ?_
 subst p
 refine QZ (x:=(((d.1,(d.2.1,d.2.2)),((bnV e).1,(bnV e).2)),(f,o))) [(0,0),(1,6),(2,7)] ?_ (YF rfl (Rs.cell rfl rfl Yc rfl) (Rs.cell rfl rfl VJ rfl)) rfl ⟨rfl,rfl,rfl,trivial⟩ rfl rfl
 (dsimp only;have b:=Qto ‹_›;exact ⟨b.1,b.2,by omega⟩)
 refine w5 ?_
 cases h:(decide (Yr a.1 false))
 have j:=ab h
 refine w2 ?_
 refine lc (dK (QK tx4 tx5 tx2 tx6 (by decide+kernel) (by decide+kernel)).frozenG Zi)<|lc (dK (Q2 (Qu tx4 tx5 tx2 tx6)).frozenG XD)<|w5 ?_
 have z:Yr (sgV fbS).1 false:=by rw[QAs];exact Qxv
 refine w2 ?_
 refine lc (dK (Qa5 1 (XF ((sgV (Qu tx4 tx5 tx2 tx6)).1)) rfl) QkH)<|w5 ?_
 exact Yf (q _ ⟨((sgV (Qu tx4 tx5 tx2 tx6)).1),(YG ((sgV (Qu tx4 tx5 tx2 tx6)).1) false),(by exact Qzh ‹_›),QiT,rfl⟩)<|wo []
 have j:=aa h
 refine w2 ?_
 exact Yf (q _ ⟨a.1,(YG a.1 false),(by exact Qzh ‹_›),QiT,rfl⟩)<|wo []
 refine w3 ?_
 have A:=ZQ code a.2.1 a.2.2 3
 refine lc (dP 9 [] (QF code a.2.1 a.2.2 3 (by omega)) Zs)<|w6 ?_
 refine cd_ (fun _ _=> ?_) fun _ _=> ?_
 refine w4 ?_
 refine cd_ (fun _ _=> ?_) fun _ _=> ?_
 refine w2 ?_
 exact Yf (g _ ⟨(pkA 3 a.2.1),(pkS code a.2.1 a.2.2 3),(by omega),rfl⟩)<|wo []
 refine w2 ?_
 refine lc (dK (U9 a.1).frozenG Qm7)<|w9 ?_
 refine cd_ (fun _ _=> ?_) fun _ _=> ?_
 refine w2 ?_
 exact Yf (g _ ⟨(pkA 3 a.2.1),(pkS code a.2.1 a.2.2 3),(by omega),rfl⟩)<|wo []
 refine w3 ?_
 refine lc (dG 10 (W4 a.1 (if QcP a.1 then mcL a.1 else [])) Qm8)<|w3 ?_
 refine lc (xal 12 J6 Xb)<|w6 ?_
 refine cd_ (fun _ _=> ?_) fun _ _=> ?_
 refine w2 ?_
 exact Yf (g _ ⟨(pkA 3 a.2.1),(pkS code a.2.1 a.2.2 3),(by omega),rfl⟩)<|wo []
 apply dW (i2 52 _ _ [⟨none,lf (.val undef),[bx 1 28 [.dat Qj a.1.1,.dat Qd a.1.2.1,.dat Qq a.1.2.2]]⟩,⟨none,lf (.val undef),[bx 2 48 [.ref 10,.ref 11]]⟩]) [0,1,2,0]
 refine z3 ?_
 exact zz (fun _ b=>ac (QR (b.v rfl) (b.en 2 rfl) (b.w rfl) (by show QH _ [.ref 10,.ref 11]=true;simp only[QH,Xh,aV,bo];rw[(b.en 10 rfl),(b.en 11 rfl)];rfl) VJ rfl) rfl)<|zN
 refine w_ ?_
 subst p
 refine QZ (x:=(((a.1.1,(a.1.2.1,a.1.2.2)),((bmV a.1 (if QcP a.1 then mcL a.1 else [])).1,(bmV a.1 (if QcP a.1 then mcL a.1 else [])).2)),((pkA 3 a.2.1),(pkS code a.2.1 a.2.2 3)))) [(0,0),(1,10),(2,11)] ?_ (YF rfl (Rs.cell rfl rfl Yc rfl) (Rs.cell rfl rfl VJ rfl)) rfl ⟨rfl,rfl,rfl,trivial⟩ rfl rfl
 (dsimp only;have b:=Qz6 ‹_›;exact ⟨b.1,b.2,by omega⟩)
 refine w2 ?_
 refine lc (dK (Qa5 1 (VU a.1) rfl) QqT)<|w3 ?_
 refine lc (xal 13 Qss QbQ)<|w6 ?_
 refine cd_ (fun _ _=> ?_) fun _ _=> ?_
 refine w2 ?_
 exact Yf (g _ ⟨(pkA 3 a.2.1),(pkS code a.2.1 a.2.2 3),(by omega),rfl⟩)<|wo []
 refine w2 ?_
 refine lc (dG 14 (Vt (YG a.1 true) (by first|exact QiT|exact QoQ|exact k)) QfO)<|w3 ?_
 refine lc (xal 16 J6 Xb)<|w6 ?_
 refine cb_ (fun _=> ?_) fun _=> ?_
 refine w2 ?_
 exact Yf (g _ ⟨(pkA 3 a.2.1),(pkS code a.2.1 a.2.2 3),(by omega),rfl⟩)<|wo []
 apply dW (i2 35 _ _ [⟨none,lf (.val undef),[bx 1 28 [.dat Qj a.1.1,.dat Qd a.1.2.1,.dat Qq a.1.2.2]]⟩,⟨none,lf (.val undef),[bx 2 48 [.ref 14,.ref 15]]⟩]) [0,1,2,0]
 refine z3 ?_
 exact zz (fun _ b=>ac (QR (b.v rfl) (b.en 2 rfl) (b.w rfl) (by show QH _ [.ref 14,.ref 15]=true;simp only[QH,Xh,aV,bo];rw[(b.en 14 rfl),(b.en 15 rfl)];rfl) VJ rfl) rfl)<|zN
 refine w_ ?_
 subst p
 refine QZ (x:=(((a.1.1,(a.1.2.1,a.1.2.2)),((bnV (YG a.1 true)).1,(bnV (YG a.1 true)).2)),((pkA 3 a.2.1),(pkS code a.2.1 a.2.2 3)))) [(0,0),(1,14),(2,15)] ?_ (YF rfl (Rs.cell rfl rfl Yc rfl) (Rs.cell rfl rfl VJ rfl)) rfl ⟨rfl,rfl,rfl,trivial⟩ rfl rfl
 (dsimp only;have b:=Qto ‹_›;exact ⟨b.1,b.2,by omega⟩)
theorem UJ (code:List UInt8)(at_:Int)(sd:Int)[∀s,Decidable (StgOk s)][∀s,Decidable (Xn s)][∀c,Decidable (SgOk c)][∀c,Decidable (Xm c)][∀n,Decidable (QV n)](Z:0≤at_∧at_≤300000000):FC prog 91 [(false,[.ptr 0 0])] [bx 0 86 [.dat QP code,dI at_,.val (.int .u64 sd)]] 1 (Ex (fun x:(DSg×DNl)×Int×Int=>at_≤x.2.1∧x.2.1≤at_+1200) (fun x:(DSg×DNl)×Int×Int=>PV.tup [(true,[.dat Qj x.1.1.1,.dat Qd x.1.1.2.1,.dat Qq x.1.1.2.2]),(true,[.dat Qj x.1.2.1,.dat Zk x.1.2.2])]) (fun x:(DSg×DNl)×Int×Int=>[bx 0 86 [.dat QP code,dI x.2.1,.val (.int .u64 x.2.2)]])):=by
 refine Ql func91 rfl rfl ntmps91 fun X S W P Y R Q=>w_ ?_
 refine lc (xal 1 UB Yq)<|lc (xal 2 J6 Xb)<|w3 ?_
 refine Z7 3 [(0,0)] (J0 code at_ sd (by omega)) QmH e1_ ⟨rfl,trivial⟩ rfl (fun _=>rfl) (fun _=>⟨trivial,(Fresh.of rfl),(Fresh.of rfl),trivial⟩) (nlr rfl) fun b V=>w3 ?_
 refine lc (xal 6 UB Yq)<|lc (xal 7 J6 Xb)<|w8 ?_
 have T:=ZQ code b.2.1 b.2.2 (b.1.2.2.length:Int)
 refine lc (dP 8 [] (QF code b.2.1 b.2.2 (b.1.2.2.length:Int) (by omega)) Zs)<|w2 ?_
 refine Xc (fun O=>∃(o:List (BA×Int×(List (Int×Bool))×List BA)) (B:Int) (F:Int),(at_≤B∧B≤at_+1000)∧O=⟨[(2,lP 1 0),(3,lP 2 0),(4,lP 6 0),(5,lP 7 0)],[bx 0 86 [.dat QP code,dI B,.val (.int .u64 F)],bx 1 28 [.val (.slice none 0 0),.val (.slice none 0 0),.val (.slice none 0 0)],bx 2 48 [.val (.slice none 0 0),.val (.slice none 0 0)],ar 4 103 QG b.1.2.1,bx 6 28 [.dat Qj b.1.1.1,.dat Qd b.1.1.2.1,.dat Qq b.1.1.2.2],bx 7 48 [.ref 4,.ref 9],ar 9 147 Zm o]⟩) ?_ fun m=> ?_
 rintro O ⟨o,B,F,hb,rfl⟩
 refine AC.wk (QA (p:=7) (off:=0) (q:=4) rfl rfl rfl)<|AC.wk (QA (p:=7) (off:=1) (q:=9) rfl rfl rfl) ?_
 apply dW (i2 109 _ _ [⟨none,lf (.val undef),[bx 1 28 [.dat Qj b.1.1.1,.dat Qd b.1.1.2.1,.dat Qq b.1.1.2.2]]⟩,⟨none,lf (.val undef),[bx 2 48 [.dat Qj b.1.2.1,.dat Zk o]]⟩]) [0,1,2,0]
 exact y4
 refine w_ ?_
 subst S
 refine QZ (x:=(((b.1.1.1,(b.1.1.2.1,b.1.1.2.2)),(b.1.2.1,o)),(B,F))) [(0,0)] ?_ (YF rfl (Rs.cell rfl rfl Yc rfl) (Rs.cell rfl rfl VJ rfl)) rfl ⟨rfl,trivial⟩ rfl rfl
 (dsimp only;omega)
 refine w_ ?_
 refine Q5 ?_
 generalize G:pkA (b.1.2.2.length:Int) b.2.1=a1
 generalize I:pkS code b.2.1 b.2.2 (b.1.2.2.length:Int)=d1
 generalize K:pkV code b.2.1 b.2.2 (b.1.2.2.length:Int)=i1
 refine w2 ?_
 have U:=ZQ code a1 d1 9
 refine lc (dP 10 [] (QF code a1 d1 9 (by omega)) Zs)<|w2 ?_
 refine Q5 ?_
 generalize H:pkA 9 a1=a2
 generalize J:pkS code a1 d1 9=d2
 refine w4 ?_
 refine cd_ (fun _ _=> ?_) fun _ _=> ?_
 refine w4 ?_
 refine cd_ (fun _ _=> ?_) fun _ _=> ?_
 refine w4 ?_
 refine cd_ (fun _ _=> ?_) fun _ _=> ?_
 refine w4 ?_
 refine cd_ (fun _ _=> ?_) fun _ _=> ?_
 refine w4 ?_
 refine cd_ (fun _ _=> ?_) fun _ _=> ?_
 refine w2 ?_
 exact Yf (m _ ⟨b.1.2.2,a2,d2,(by omega),rfl⟩)<|wo [(9,5)]
 refine w4 ?_
 refine lc (Qw (e:=Zm) (Qa rfl) rfl (Qa rfl) X4 YU rfl (by omega) (by first|omega|(simp only[ax];omega)))<|w_ ?_
 obtain ⟨g,u⟩:=gx b.1.2.2 ((i1).toNat)
 refine lc (QlK (e:=Zm) (t:= .int) (Qa rfl) rfl u rfl Zv rfl rfl)<|w2 ?_
 refine cd_ (fun _ _=> ?_) fun _ _=> ?_
 refine w2 ?_
 exact Yf (m _ ⟨b.1.2.2,a2,d2,(by omega),rfl⟩)<|wo [(9,5)]
 apply dV (i7 99 _ _ _ _ _ _ _ [⟨some 106,lR 12,[bx 0 86 [.dat QP code,dI ((cvC code (b.1.2.1.length:Int) a2 d2).2.1),.val (.int .u64 ((cvC code (b.1.2.1.length:Int) a2 d2).2.2))],ar 12 9 .str ((cvC code (b.1.2.1.length:Int) a2 d2).1),(0,none)]⟩,io 107 (lf (.ept 5 4 ((i1).toNat) 0)),io 108 (lf (.ept 5 4 ((i1).toNat) 3)),⟨none,lf (.val undef),[ar 5 147 Zm (b.1.2.2.set ((i1).toNat) (g.1,g.2.1,g.2.2.1,(cvC code (b.1.2.1.length:Int) a2 d2).1)),(12,none)]⟩]) [0,0,3,7,15,15,15,7,0,0,0]
 refine z7 ?_
 exact zz (fun _ a=>ac (dP 11 [] (QnC code a2 d2 (b.1.2.1.length:Int) (by omega) (by omega)) Qmw) rfl)<|zz (fun _ a=>ac (Qw (e:=Zm) (a.v rfl) (a.en 5 rfl) (a.v rfl) X4 YU rfl (by omega) (by first|omega|(simp only[ax];omega))) rfl)<|zz (fun _ a=>ac (Zd (a.v rfl) Qru (by rw[(a.en 5 rfl)];rfl) rfl) rfl)<|zz (fun _ a=>ac (Vl (e:=Zm) (t:=Qd) (z':=(g.1,g.2.1,g.2.2.1,(cvC code (b.1.2.1.length:Int) a2 d2).1)) (x0:=(cvC code (b.1.2.1.length:Int) a2 d2).1) (used:=[12]) (a.v rfl) (a.en 5 rfl) u (a.w rfl) (by show QH _ [.ref 12]=true;simp only[QH,Xh,aV,bo];rw[(a.en 12 rfl)];rfl) (.inl ⟨_,rfl,(a.en 12 rfl),rfl⟩) (by decide) QdE rfl rfl) rfl)<|zN
 refine w_ ?_
 exact Yf (m _ ⟨(b.1.2.2.set ((i1).toNat) (g.1,g.2.1,g.2.2.1,(cvC code (b.1.2.1.length:Int) a2 d2).1)),((cvC code (b.1.2.1.length:Int) a2 d2).2.1),((cvC code (b.1.2.1.length:Int) a2 d2).2.2),(by exact QFG (by omega) (by omega)),rfl⟩)<|wp [(9,5)] ⟨rfl,rfl,rfl,rfl,rfl,rfl,(Qg (by first|rfl|simp)),trivial⟩
 have L:=ZQ code a2 d2 (([(⟨#[122,122]⟩:BA),(⟨#[]⟩:BA),(⟨#[97]⟩:BA)]).length:Int)
 obtain ⟨h,C⟩:=gx b.1.2.2 ((i1).toNat)
 apply dV (i4 82 _ _ _ _ [⟨some 86,lR 13,[ar 13 9 .str ([(⟨#[122,122]⟩:BA),(⟨#[]⟩:BA),(⟨#[97]⟩:BA)])]⟩,⟨some 87,lf (dS ((([(⟨#[122,122]⟩:BA),(⟨#[]⟩:BA),(⟨#[97]⟩:BA)])[(pkV code a2 d2 (([(⟨#[122,122]⟩:BA),(⟨#[]⟩:BA),(⟨#[97]⟩:BA)]).length:Int)).toNat]?).getD ByteArray.empty)),[bx 0 86 [.dat QP code,dI (pkA (([(⟨#[122,122]⟩:BA),(⟨#[]⟩:BA),(⟨#[97]⟩:BA)]).length:Int) a2),.val (.int .u64 (pkS code a2 d2 (([(⟨#[122,122]⟩:BA),(⟨#[]⟩:BA),(⟨#[97]⟩:BA)]).length:Int)))],ar 15 9 .str ([(⟨#[122,122]⟩:BA),(⟨#[]⟩:BA),(⟨#[97]⟩:BA)]),(0,none),(13,none)]⟩,io 88 (lf (.ept 5 4 ((i1).toNat) 0)),io 89 (lf (.ept 5 4 ((i1).toNat) 0)),⟨none,lf (.val undef),[ar 5 147 Zm (b.1.2.2.set ((i1).toNat) ((([(⟨#[122,122]⟩:BA),(⟨#[]⟩:BA),(⟨#[97]⟩:BA)])[(pkV code a2 d2 (([(⟨#[122,122]⟩:BA),(⟨#[]⟩:BA),(⟨#[97]⟩:BA)]).length:Int)).toNat]?).getD ByteArray.empty,h.2.1,h.2.2.1,h.2.2.2))]⟩]) [0,0,3,7,15,7,0,0,0]
 refine z4 ?_
 exact zz (fun _ a=>ac (dBs 13 (e:= .str) Wd) rfl)<|zz (fun _ a=>ac (dP 14 [(1,13)] (W5 code a2 d2 ([(⟨#[122,122]⟩:BA),(⟨#[]⟩:BA),(⟨#[97]⟩:BA)]) (by omega) (by decide)) Qbd) rfl)<|zz (fun _ a=>ac (Qw (e:=Zm) (a.v rfl) (a.en 5 rfl) (a.v rfl) X4 YU rfl (by omega) (by first|omega|(simp only[ax];omega))) rfl)<|zz (fun _ a=>ac (Zd (a.v rfl) Qrs (by rw[(a.en 5 rfl)];rfl) rfl) rfl)<|zz (fun _ a=>ac (Vl (e:=Zm) (t:= .str) (z':=((([(⟨#[122,122]⟩:BA),(⟨#[]⟩:BA),(⟨#[97]⟩:BA)])[(pkV code a2 d2 (([(⟨#[122,122]⟩:BA),(⟨#[]⟩:BA),(⟨#[97]⟩:BA)]).length:Int)).toNat]?).getD ByteArray.empty,h.2.1,h.2.2.1,h.2.2.2)) (x0:=(([(⟨#[122,122]⟩:BA),(⟨#[]⟩:BA),(⟨#[97]⟩:BA)])[(pkV code a2 d2 (([(⟨#[122,122]⟩:BA),(⟨#[]⟩:BA),(⟨#[97]⟩:BA)]).length:Int)).toNat]?).getD ByteArray.empty) (used:=[]) (a.v rfl) (a.en 5 rfl) C (a.w rfl) rfl ⟨rfl,rfl⟩ (by decide) Wv rfl rfl) rfl)<|zN
 refine w_ ?_
 exact Yf (m _ ⟨(b.1.2.2.set ((i1).toNat) ((([(⟨#[122,122]⟩:BA),(⟨#[]⟩:BA),(⟨#[97]⟩:BA)])[(pkV code a2 d2 (([(⟨#[122,122]⟩:BA),(⟨#[]⟩:BA),(⟨#[97]⟩:BA)]).length:Int)).toNat]?).getD ByteArray.empty,h.2.1,h.2.2.1,h.2.2.2)),(pkA (([(⟨#[122,122]⟩:BA),(⟨#[]⟩:BA),(⟨#[97]⟩:BA)]).length:Int) a2),(pkS code a2 d2 (([(⟨#[122,122]⟩:BA),(⟨#[]⟩:BA),(⟨#[97]⟩:BA)]).length:Int)),(by omega),rfl⟩)<|wp [(9,5)] ⟨rfl,rfl,rfl,rfl,rfl,rfl,(Qg (by first|rfl|simp)),trivial⟩
 refine Q5 ?_
 obtain ⟨y,A⟩:=gx (b.1.2.2) ((i1).toNat)
 have d:=QlD A
 have f:(i1).toNat*4+2<(Zh Zm (b.1.2.2)).length:=by rw[Wn];show (i1).toNat*4+2<_*4;omega
 refine AC.wk (Qab (q:=5) rfl (by omega))<|AC.wk (V1 16 (q:=5) (p:=(i1).toNat*4+2) (E':=207) (e':=Q0) (ys:=y.2.2.1) rfl (d) (Fresh.of rfl) (aD rfl))<|w4 ?_
 refine lc (ZW (Qa rfl) rfl (Qa rfl) X4 YU rfl (by omega) (by omega))<|w_ ?_
 refine lc (Y4 (Qa rfl) rfl (show (ovr _ _)[(i1).toNat*4+2]? =some (.ref 16) from by simp only[ovr,bp,ax,f,d,dc,if_true,if_false,↓reduceIte]) rfl U0 rfl)<|w3 ?_
 refine cd_ (fun _ _=> ?_) fun _ _=> ?_
 refine w2 ?_
 exact Yf (m _ ⟨(b.1.2.2.set ((i1).toNat) (y.1,y.2.1,y.2.2.1,y.2.2.2)),a2,d2,(by omega),rfl⟩)<|Wk.trans (Vp (q:=5) (t:=16) (p:=(i1).toNat*4+2) rfl (by simp only[ovr,bp,ax,f,d,dc,if_true,if_false,↓reduceIte]) rfl)<|Wk.trans (Vo (q:=5) (e:=Zm) (b.1.2.2.set ((i1).toNat) (y.1,y.2.1,y.2.2.1,y.2.2.2)) rfl (by simp) (by simp only[ovr];rw[cM,Qav A]))<|wp [(9,5)] ⟨rfl,rfl,rfl,rfl,rfl,rfl,(Qg (by first|rfl|simp)),trivial⟩
 have M:=ZQ code a2 d2 (((b.1.2.2).length:Int)+1)
 obtain ⟨r,D⟩:=gx y.2.2.1 0
 apply dV (i3 66 _ _ _ (io 69 (lf (.ept 5 4 ((i1).toNat) 0))::io 70 (lf (.ept 5 4 ((i1).toNat) 2))::io 71 (lR 16)::i3 72 _ _ _ [io 75 (lI ((b.1.2.2).length:Int)),io 76 _,⟨some 77,lI (pkV code a2 d2 (((b.1.2.2).length:Int)+1)),[bx 0 86 [.dat QP code,dI (pkA (((b.1.2.2).length:Int)+1) a2),.val (.int .u64 (pkS code a2 d2 (((b.1.2.2).length:Int)+1)))],(0,none)]⟩,io 78 (lf (.ept 16 2 0 0)),io 79 (lf (.ept 16 2 0 0)),⟨none,lf (.val undef),[ar 16 207 Q0 (y.2.2.1.set 0 (pkV code a2 d2 (((b.1.2.2).length:Int)+1),r.2))]⟩])) [0,0,3,0,0,0,63,127,127,127,127,63,0,0,0]
 refine z3 ?_
 refine zz (fun _ a=>ac (ZW (a.v rfl) (a.en 5 rfl) (a.v rfl) X4 YU rfl (by omega) (by omega)) rfl)<|zz (fun _ a=>ac (Zd (a.v rfl) Qdn (by rw[(a.en 5 rfl)];rfl) rfl) rfl)<|zz (fun _ a=>ac (Y4 (a.v rfl) (a.n 5 rfl) (show (ovr _ _)[(i1).toNat*4+2]? =some (.ref 16) from by simp only[ovr,bp,ax,f,d,dc,if_true,if_false,↓reduceIte]) (a.n 16 rfl) U0 rfl) rfl)<|z3 ?_
 refine zz (fun _ a=>ac (Qqx (a.v rfl) (a.n 5 rfl) rfl X4) rfl)<|z_ ?_
 exact zz (fun _ a=>ac (dP 17 [] (QF code a2 d2 (((b.1.2.2).length:Int)+1) (by omega)) Zs) rfl)<|zz (fun _ a=>ac (Qw (e:=Q0) (a.v rfl) (a.en 16 rfl) (Qn rfl) QjX QjS rfl (by omega) (by first|omega|(simp only[ax];omega))) rfl)<|zz (fun _ a=>ac (Zd (a.v rfl) Qrv (by rw[(a.en 16 rfl)];rfl) rfl) rfl)<|zz (fun _ a=>ac (QO (e:=Q0) (z':=(pkV code a2 d2 (((b.1.2.2).length:Int)+1),r.2)) (a.v rfl) (a.n 16 rfl) D rfl (a.w rfl) rfl Zv rfl rfl) rfl)<|zN
 refine w_ ?_
 exact Yf (m _ ⟨(b.1.2.2.set ((i1).toNat) (y.1,y.2.1,y.2.2.1.set 0 (pkV code a2 d2 (((b.1.2.2).length:Int)+1),r.2),y.2.2.2)),(pkA (((b.1.2.2).length:Int)+1) a2),(pkS code a2 d2 (((b.1.2.2).length:Int)+1)),(by omega),rfl⟩)<|Wk.trans (Vp (q:=5) (t:=16) (p:=(i1).toNat*4+2) rfl (by simp only[ovr,bp,ax,f,d,dc,if_true,if_false,↓reduceIte]) rfl)<|Wk.trans (Vo (q:=5) (e:=Zm) (b.1.2.2.set ((i1).toNat) (y.1,y.2.1,y.2.2.1.set 0 (pkV code a2 d2 (((b.1.2.2).length:Int)+1),r.2),y.2.2.2)) rfl (by simp) (by simp only[ovr];rw[cM,Qav A]))<|wp [(9,5)] ⟨rfl,rfl,rfl,rfl,rfl,rfl,(Qg (by first|rfl|simp)),trivial⟩
 refine Q5 ?_
 obtain ⟨y,A⟩:=gx (b.1.2.2) ((i1).toNat)
 have d:=QlD A
 have f:(i1).toNat*4+2<(Zh Zm (b.1.2.2)).length:=by rw[Wn];show (i1).toNat*4+2<_*4;omega
 refine AC.wk (Qab (q:=5) rfl (by omega))<|AC.wk (V1 18 (q:=5) (p:=(i1).toNat*4+2) (E':=207) (e':=Q0) (ys:=y.2.2.1) rfl (d) (Fresh.of rfl) (aD rfl))<|w4 ?_
 refine lc (ZW (Qa rfl) rfl (Qa rfl) X4 YU rfl (by omega) (by omega))<|w_ ?_
 refine lc (Y4 (Qa rfl) rfl (show (ovr _ _)[(i1).toNat*4+2]? =some (.ref 18) from by simp only[ovr,bp,ax,f,d,dc,if_true,if_false,↓reduceIte]) rfl U0 rfl)<|w3 ?_
 refine cd_ (fun _ _=> ?_) fun _ _=> ?_
 refine w2 ?_
 exact Yf (m _ ⟨(b.1.2.2.set ((i1).toNat) (y.1,y.2.1,y.2.2.1,y.2.2.2)),a2,d2,(by omega),rfl⟩)<|Wk.trans (Vp (q:=5) (t:=18) (p:=(i1).toNat*4+2) rfl (by simp only[ovr,bp,ax,f,d,dc,if_true,if_false,↓reduceIte]) rfl)<|Wk.trans (Vo (q:=5) (e:=Zm) (b.1.2.2.set ((i1).toNat) (y.1,y.2.1,y.2.2.1,y.2.2.2)) rfl (by simp) (by simp only[ovr];rw[cM,Qav A]))<|wp [(9,5)] ⟨rfl,rfl,rfl,rfl,rfl,rfl,(Qg (by first|rfl|simp)),trivial⟩
 obtain ⟨j,z⟩:=gx y.2.2.1 0
 apply dV (i3 38 _ _ _ (io 41 (lf (.ept 5 4 ((i1).toNat) 0))::io 42 (lf (.ept 5 4 ((i1).toNat) 2))::io 43 (lR 18)::i3 44 _ _ _ [io 47 (lf (.ept 5 4 ((i1).toNat) 0)),io 48 (lf (.ept 5 4 ((i1).toNat) 2)),io 49 (lR 18),io 50 (lf (.ept 18 2 0 0)),io 51 (lf (.ept 18 2 0 1)),io 52 (lB j.2),io 53 _,io 54 (lf (.ept 18 2 0 0)),io 55 (lf (.ept 18 2 0 1)),⟨none,lf (.val undef),[ar 18 207 Q0 (y.2.2.1.set 0 (j.1,!j.2))]⟩])) [0,0,3,0,0,0,63,63,255,63,63,63,63,63,63,63,0,0,0]
 refine z3 ?_
 refine zz (fun _ a=>ac (ZW (a.v rfl) (a.en 5 rfl) (a.v rfl) X4 YU rfl (by omega) (by omega)) rfl)<|zz (fun _ a=>ac (Zd (a.v rfl) Qdn (by rw[(a.en 5 rfl)];rfl) rfl) rfl)<|zz (fun _ a=>ac (Y4 (a.v rfl) (a.n 5 rfl) (show (ovr _ _)[(i1).toNat*4+2]? =some (.ref 18) from by simp only[ovr,bp,ax,f,d,dc,if_true,if_false,↓reduceIte]) (a.n 18 rfl) U0 rfl) rfl)<|z3 ?_
 refine zz (fun _ a=>ac (ZW (a.v rfl) (a.en 5 rfl) (a.v rfl) X4 YU rfl (by omega) (by omega)) rfl)<|zz (fun _ a=>ac (Zd (a.v rfl) Qdn (by rw[(a.en 5 rfl)];rfl) rfl) rfl)<|zz (fun _ a=>ac (Y4 (a.v rfl) (a.n 5 rfl) (show (ovr _ _)[(i1).toNat*4+2]? =some (.ref 18) from by simp only[ovr,bp,ax,f,d,dc,if_true,if_false,↓reduceIte]) (a.n 18 rfl) U0 rfl) rfl)<|zz (fun _ a=>ac (Qw (e:=Q0) (a.v rfl) (a.en 18 rfl) (Qn rfl) QjX QjS rfl (by omega) (by first|omega|(simp only[ax];omega))) rfl)<|zz (fun _ a=>ac (Zd (a.v rfl) Qh2 (by rw[(a.en 18 rfl)];rfl) rfl) rfl)<|zz (fun _ a=>ac (ZE (e:=Q0) (a.v rfl) (a.n 18 rfl) z rfl U1 rfl rfl) rfl)<|z_ ?_
 exact zz (fun _ a=>ac (Qw (e:=Q0) (a.v rfl) (a.en 18 rfl) (Qn rfl) QjX QjS rfl (by omega) (by first|omega|(simp only[ax];omega))) rfl)<|zz (fun _ a=>ac (Zd (a.v rfl) Qh2 (by rw[(a.en 18 rfl)];rfl) rfl) rfl)<|zz (fun _ a=>ac (QO (e:=Q0) (z':=(j.1,!j.2)) (a.v rfl) (a.n 18 rfl) z rfl (a.w rfl) rfl U1 rfl rfl) rfl)<|zN
 refine w_ ?_
 exact Yf (m _ ⟨(b.1.2.2.set ((i1).toNat) (y.1,y.2.1,y.2.2.1.set 0 (j.1,!j.2),y.2.2.2)),a2,d2,(by omega),rfl⟩)<|Wk.trans (Vp (q:=5) (t:=18) (p:=(i1).toNat*4+2) rfl (by simp only[ovr,bp,ax,f,d,dc,if_true,if_false,↓reduceIte]) rfl)<|Wk.trans (Vo (q:=5) (e:=Zm) (b.1.2.2.set ((i1).toNat) (y.1,y.2.1,y.2.2.1.set 0 (j.1,!j.2),y.2.2.2)) rfl (by simp) (by simp only[ovr];rw[cM,Qav A]))<|wp [(9,5)] ⟨rfl,rfl,rfl,rfl,rfl,rfl,(Qg (by first|rfl|simp)),trivial⟩
 have N:=ZQ code a2 d2 7
 obtain ⟨k,E⟩:=gx b.1.2.2 ((i1).toNat)
 apply dV (i4 21 _ _ _ _ [⟨some 25,lI (pkV code a2 d2 7),[bx 0 86 [.dat QP code,dI (pkA 7 a2),.val (.int .u64 (pkS code a2 d2 7))],(0,none)]⟩,io 26 (lf (.ept 5 4 ((i1).toNat) 0)),io 27 (lf (.ept 5 4 ((i1).toNat) 1)),⟨none,lf (.val undef),[ar 5 147 Zm (b.1.2.2.set ((i1).toNat) (k.1,pkV code a2 d2 7,k.2.2.1,k.2.2.2))]⟩]) [0,0,3,7,7,0,0,0]
 refine z4 ?_
 exact zz (fun _ a=>ac (dP 19 [] (QF code a2 d2 7 (by omega)) Zs) rfl)<|zz (fun _ a=>ac (Qw (e:=Zm) (a.v rfl) (a.en 5 rfl) (a.v rfl) X4 YU rfl (by omega) (by first|omega|(simp only[ax];omega))) rfl)<|zz (fun _ a=>ac (Zd (a.v rfl) Qrt (by rw[(a.en 5 rfl)];rfl) rfl) rfl)<|zz (fun _ a=>ac (Vl (e:=Zm) (t:= .int) (z':=(k.1,pkV code a2 d2 7,k.2.2.1,k.2.2.2)) (x0:=pkV code a2 d2 7) (used:=[]) (a.v rfl) (a.en 5 rfl) E (a.w rfl) rfl ⟨rfl,rfl⟩ (by decide) Zv rfl rfl) rfl)<|zN
 refine w_ ?_
 exact Yf (m _ ⟨(b.1.2.2.set ((i1).toNat) (k.1,pkV code a2 d2 7,k.2.2.1,k.2.2.2)),(pkA 7 a2),(pkS code a2 d2 7),(by omega),rfl⟩)<|wp [(9,5)] ⟨rfl,rfl,rfl,rfl,rfl,rfl,(Qg (by first|rfl|simp)),trivial⟩
def YI (code:List UInt8)[∀s,Decidable (StgOk s)][∀s,Decidable (Xn s)][∀c,Decidable (SgOk c)][∀c,Decidable (Xm c)][∀n,Decidable (QV n)]:FC prog 30 [(false,[.dat QP code])] [] 0 (Ex (fun x:DSg×DNl=>x=x) (fun x:DSg×DNl=>PV.tup [(true,[.dat Qj x.1.1,.dat Qd x.1.2.1,.dat Qq x.1.2.2]),(true,[.dat Qj x.2.1,.dat Zk x.2.2])]) (fun x:DSg×DNl=>[])):=by
 refine Ql func30 rfl rfl ntmps30 fun u g t h A m k=>w_ ?_
 refine lc (xal 0 UB Yq)<|lc (xal 1 J6 Xb)<|w3 ?_
 refine lc (Qkb [.val (.slice none 0 0),dI 0,.val (.int .u64 0)] (QwK (offs:=[(0,1),(1,1),(2,1)]) (zs:=[.slice none 0 0,.int .i64 0,.int .u64 0]) underlying86 (by kernel_rfl) (by kernel_rfl)) (fun _ _ _=>⟨_,_,rfl,rfl,⟨_,_,rfl,(Kl _ _ _ .int).one rfl,⟨_,_,rfl,rfl,rfl⟩⟩⟩) ⟨_,_,rfl,(Qm rfl),rfl⟩ (ao.1 rfl) rfl rfl)<|xbx 2 ?_
 refine w4 ?_
 refine Z7 3 [(0,2)] (UJ code 0 0 (by omega)) Qre e1_ ⟨rfl,trivial⟩ rfl (fun _=>rfl) (fun _=>⟨trivial,trivial⟩) (nlr rfl) fun a r=>w3 ?_
 refine lc (xal 4 UB Yq)<|lc (xal 5 J6 Xb)<|w6 ?_
 have o:=ZQ code a.2.1 a.2.2 8
 refine lc (dP 6 [(0,2)] (WE code a.2.1 a.2.2 8 (by omega)) Qc8)<|w_ ?_
 refine cd_ (fun _ _=> ?_) fun _ _=> ?_
 refine w_ ?_
 apply dW (i2 20 _ _ [⟨none,lf (.val undef),[bx 0 28 [.dat Qj a.1.1.1,.dat Qd a.1.1.2.1,.dat Qq a.1.1.2.2]]⟩,⟨none,lf (.val undef),[bx 1 48 [.dat Qj a.1.2.1,.dat Zk a.1.2.2]]⟩]) [0,1,2,0]
 exact y4
 refine w_ ?_
 subst g
 refine QZ (x:=((a.1.1.1,(a.1.1.2.1,a.1.1.2.2)),(a.1.2.1,a.1.2.2))) [] ?_ (YF rfl (Rs.cell rfl rfl Yc rfl) (Rs.cell rfl rfl VJ rfl)) rfl trivial rfl rfl
 rfl
 refine Q5<|Qsy (Px:=fun d:DSg×Int×Int=>((1≤d.1.2.1.length∧d.1.2.1.length≤300)∧d.1.1.length≤8∧∀z∈d.1.2.1,ByteArray.size z≤2400)∧((pkA 8 a.2.1)≤d.2.1∧d.2.1≤(pkA 8 a.2.1)+80)) (fun d=>[io 17 (lP 2 0),⟨some 18,ag [.ref 8,.ref 9,.ref 10],[bx 2 86 [.dat QP code,dI d.2.1,.val (.int .u64 d.2.2)],ar 8 103 QG d.1.1,ar 9 9 .str d.1.2.1,ar 10 139 Yi d.1.2.2,(2,none)]⟩,io 19 (ag [.dat Qj a.1.2.1,.dat Zk a.1.2.2]),⟨none,lf (.val undef),[bx 0 28 [.ref 8,.ref 9,.ref 10]]⟩,⟨none,lf (.val undef),[bx 1 48 [.dat Qj a.1.2.1,.dat Zk a.1.2.2]]⟩]) [0,0,3,4,0] 1 default _ mixed (fun _=>by kernel_rfl) (fun _ _=>⟨.inr rfl,.inl rfl,.inr rfl,.inl rfl,.inl rfl,trivial⟩) rfl rfl (fun _ _ e=>DoesT.mono (DoesT.callX 7 [(0,2)] (VO code (pkA 8 a.2.1) (pkS code a.2.1 a.2.2 8) (by omega)) QhU ⟨_,_,rfl,(e.w rfl),rfl⟩ ⟨(e.en 2 rfl),trivial⟩ rfl (fun _=>rfl) (fun _=>⟨trivial,(e.fr 8 rfl),(e.fr 9 rfl),(e.fr 10 rfl),trivial⟩) (nlr rfl)) fun _ ⟨_,f,j⟩=>⟨_,_,f,rfl,j⟩) (fun d=>⟨.inr fun b=> ?_,.inl rfl,.inr fun b=> ?_,.inr fun b=> ?_,.inr fun b=> ?_,trivial⟩) fun d b=> ?_
 exact ActsH.one (z_ zN)
 exact ActsH.one (z_ zN)
 replace b:=b rfl
 exact fun _ e=>ac (QR (e.v rfl) (e.en 0 rfl) (e.w rfl) (by show QH _ [.ref 8,.ref 9,.ref 10]=true;simp only[QH,Xh,aV,bo];rw[(e.en 8 rfl),(e.en 9 rfl),(e.en 10 rfl)];rfl) Yc rfl) rfl
 replace b:=b rfl
 exact ActsH.one (z_ zN)
 refine w_ ?_
 refine AC.wk (QA (p:=0) (off:=0) (q:=8) rfl rfl rfl)<|AC.wk (QA (p:=0) (off:=1) (q:=9) rfl rfl rfl)<|AC.wk (QA (p:=0) (off:=2) (q:=10) rfl rfl rfl)<|w_ ?_
 subst g
 refine QZ (x:=((d.1.1,(d.1.2.1,d.1.2.2)),(a.1.2.1,a.1.2.2))) [] ?_ (YF rfl (Rs.cell rfl rfl Yc rfl) (Rs.cell rfl rfl VJ rfl)) rfl trivial rfl rfl
 rfl
def QaG (code:List UInt8)[∀s,Decidable (StgOk s)][∀s,Decidable (Xn s)][∀c,Decidable (SgOk c)][∀c,Decidable (Xm c)][∀n,Decidable (QV n)]:FC prog 21 [(false,[.dat QP code])] [] 0 (Ex (fun x:DSg×DNl=>x=x) (fun x:DSg×DNl=>PV.tup [(true,[.dat Qj x.1.1,.dat Qd x.1.2.1,.dat Qq x.1.2.2]),(true,[.dat Qj x.2.1,.dat Zk x.2.2])]) (fun x:DSg×DNl=>[])):=by
 refine Ql func21 rfl rfl ntmps21 fun j f h b k e d=>w_ ?_
 refine lc (xal 0 UB Yq)<|lc (xal 1 J6 Xb)<|w3 ?_
 refine Z7 2 [] (YI code) Qc5 e1_ trivial rfl (fun _=>rfl) (fun _=>trivial) (nlr rfl) fun a g=>w6 ?_
 subst f
 refine QZ (x:=((a.1.1,(a.1.2.1,a.1.2.2)),(a.2.1,a.2.2))) [] ?_ (YF rfl (Rs.cell rfl rfl Yc rfl) (Rs.cell rfl rfl VJ rfl)) rfl trivial rfl rfl
 rfl
def WP (code:List UInt8)[∀s,Decidable (StgOk s)][∀s,Decidable (Xn s)][∀c,Decidable (SgOk c)][∀c,Decidable (Xm c)][∀n,Decidable (QV n)]:FC prog 28 [(false,[.dat QP code])] [] 0 (Ex (fun x:DSg×DNl=>x=x) (fun x:DSg×DNl=>PV.tup [(true,[.dat Qj x.1.1,.dat Qd x.1.2.1,.dat Qq x.1.2.2]),(true,[.dat Qj x.2.1,.dat Zk x.2.2])]) (fun x:DSg×DNl=>[])):=by
 refine Ql func28 rfl rfl ntmps28 fun j f h b k e d=>w_ ?_
 refine lc (xal 0 UB Yq)<|lc (xal 1 J6 Xb)<|w3 ?_
 refine Z7 2 [] (YI code) Qc5 e1_ trivial rfl (fun _=>rfl) (fun _=>trivial) (nlr rfl) fun a g=>w6 ?_
 subst f
 refine QZ (x:=((a.1.1,(a.1.2.1,a.1.2.2)),(a.2.1,a.2.2))) [] ?_ (YF rfl (Rs.cell rfl rfl Yc rfl) (Rs.cell rfl rfl VJ rfl)) rfl trivial rfl rfl
 rfl
abbrev DPs:=Int×BA
instance psB:BEq (Int×BA):=instBEqOfDecidableEq
abbrev DFl:=Int×Int×Int
abbrev DPr:=List DPs×List DFl×List DFl
def arB (s sig:Int)(a:DAr):Bool:=decide (a.1=s)&&decide (a.2.1=sig)
def toF (c:DSg)(s sig:Int):Int:=((c.2.2.find? (arB s sig)).map fun a=>a.2.2.2).getD (-1)
def Qjj (m:List (List Int))(a:DAr):List (List Int):=m.modify a.1.toNat fun r=>r.set a.2.1.toNat a.2.2.2
def QaN (c:DSg)(k:Nat):List (List Int):=(c.2.2.take k).foldl Qjj (List.replicate c.2.1.length (List.replicate c.1.length (-1)))
def toM (c:DSg):List (List Int):=QaN c c.2.2.length
def Qib (as_:List DAr)(s sig d:Int):Int:=as_.foldl (fun d a=>if arB s sig a=true then a.2.2.2 else d) d
def GoP (c:DSg)(n:DNl):Prop:=SgOk c∧QV n∧Qdq c=false∧(VZ c.2.2 c.2.2.length).length=0∧c.1=n.1
instance [∀c,Decidable (SgOk c)] [∀n,Decidable (QV n)] (c:DSg) (n:DNl):Decidable (GoP c n):=inferInstanceAs (Decidable (_∧_))
section
variable {c:DSg}{n:DNl}{s sig d:Int}{a b:DAr}{k i:Nat}{m:List (List Int)}{r:List Int}
def Qac:arB s sig a=true↔a.1=s∧a.2.1=sig:=by unfold arB;rw[aH,bI,bI]
def Qzc (h:a.1=s)(e:a.2.1=sig):arB s sig a=true:=Qac.2 ⟨h,e⟩
def QlV (h:¬a.1=s):arB s sig a=false:=bT.2 fun q=>h (Qac.1 q).1
def QlW (h:¬a.2.1=sig):arB s sig a=false:=bT.2 fun q=>h (Qac.1 q).2
theorem QEz (h:∀j,j<k→∀x,c.2.2[j]? =some x→arB s sig x=false)(l:c.2.2.length≤k): -1=toF c s sig:=by
 unfold toF
 rw[dC.2 fun x e=>by
  obtain ⟨j,f⟩:=aG.1 e
  grind]
 rfl
def QEy (h:∀j,j<k→∀x,c.2.2[j]? =some x→arB s sig x=false)(q:c.2.2[k]? =some a)(o:a.1=s)(p:a.2.1=sig):a.2.2.2=toF c s sig:=by
 have f:=(ae.1 q)
 have e:c.2.2.find? (arB s sig)=some a:=by
  refine List.find?_eq_some_iff_getElem.2 ⟨Qzc o p,k,f.1,f.2,fun j l=> ?_⟩
  rw[h j l _ (ak (Nat.lt_trans l f.1))];rfl
 unfold toF
 rw[e];rfl
def Qg4:(toF c s sig= -1∧∀a∈c.2.2,arB s sig a=false)∨∃a∈c.2.2,arB s sig a=true∧toF c s sig=a.2.2.2:=by
 unfold toF
 cases h:c.2.2.find? (arB s sig) with
 | none=>exact .inl ⟨rfl,fun a e=>by simpa using dC.1 h a e⟩
 | some a=>exact .inr ⟨a,List.mem_of_find?_eq_some h,List.find?_some h,rfl⟩
theorem Qgx:∀(as_:List DAr) (d:Int),(Qib as_ s sig d=d∧∀a∈as_,arB s sig a=false)∨∃a∈as_,arB s sig a=true∧Qib as_ s sig d=a.2.2.2
 | [],d=> .inl ⟨rfl,fun a l=>by cases l⟩
 | x::as_,d=>by
  have e:Qib (x::as_) s sig d=Qib as_ s sig (if arB s sig x=true then x.2.2.2 else d):=rfl
  rw[e]
  rcases Qgx as_ (if arB s sig x=true then x.2.2.2 else d) with ⟨f,h⟩|⟨a,f,h,j⟩
  ·grind
  ·exact .inr ⟨a,az _ f,h,j⟩
def QyU (h:(VZ c.2.2 c.2.2.length).length=0)(B:a∈c.2.2)(hb:b∈c.2.2)(o:arB s sig a=true)(p:arB s sig b=true)(h0:0≤sig):a.2.2.2=b.2.2.2:=by
 have l:∀(a b:DAr) (i j:Nat),i<j→c.2.2[i]? =some a→c.2.2[j]? =some b→arB s sig a=true→arB s sig b=true→b.2.2.2=a.2.2.2:=fun a b i j w f e o p=>by
  obtain ⟨E,F⟩:=Qac.1 o
  obtain ⟨G,H⟩:=Qac.1 p
  refine Decidable.byContradiction fun C=> ?_
  have D:=QlC f e w (by omega) (by omega) (by omega) C
  have y:=(ae.1 f).1
  have z:=(ae.1 e).1
  have A:[(i:Int),(j:Int)]∈VZ c.2.2 c.2.2.length:=QBD.2 ⟨i,y,QgP.2 ⟨j,z,D⟩⟩
  rw[List.length_eq_zero_iff.1 h] at A
  cases A
 obtain ⟨i,f⟩:=aG.1 B
 obtain ⟨j,e⟩:=aG.1 hb
 rcases Nat.lt_trichotomy i j with q|rfl|q
 ·exact (l a b i j q f e o p).symm
 ·rw[f] at e;cases e;rfl
 ·exact l b a j i q e f p o
def QxS (h:GoP c n)(h0:0≤sig):Qib c.2.2 s sig (-1)=toF c s sig:=by
 rcases Qgx (s:=s) (sig:=sig) c.2.2 (-1) with ⟨j,e⟩|⟨a,j,e,o⟩ <;> rcases Qg4 (c:=c) (s:=s) (sig:=sig) with ⟨l,f⟩|⟨b,l,f,p⟩
 ·rw[j,l]
 ·rw[e b l] at f;cases f
 ·rw[f a j] at e;cases e
 ·rw[o,p];exact QyU h.2.2.2.1 j l e f h0
theorem Qk3 (h0:0≤s)(p:0≤sig):∀(as_:List DAr) (m:List (List Int)) (r:List Int) (d:Int),(∀a∈as_,0≤a.1∧0≤a.2.1)→m[s.toNat]? =some r→r[sig.toNat]? =some d→
 ∃f,(as_.foldl Qjj m)[s.toNat]? =some f∧f.length=r.length∧f[sig.toNat]? =some (Qib as_ s sig d)
 | [],m,r,d,_,hm,hr=>⟨r,hm,rfl,hr⟩
 | a::as_,m,r,d,ha,hm,hr=>by
  obtain ⟨A,B⟩:=ha a (aA ..)
  have j:=(ae.1 hr).1
  have l:(Qjj m a)[s.toNat]? =some (if a.1=s then r.set a.2.1.toNat a.2.2.2 else r):=by
   unfold Qjj
   grind
  have o:(if a.1=s then r.set a.2.1.toNat a.2.2.2 else r)[sig.toNat]? =some (if arB s sig a=true then a.2.2.2 else d):=by
   by_cases e:a.1=s
   ·rw[if_pos e]
    by_cases h:a.2.1=sig
    ·rw[if_pos (Qzc e h),h,bj j]
    ·rw[QlW h,if_neg dd,bh (by omega),hr]
   ·rw[if_neg e,QlV e,if_neg dd,hr]
  obtain ⟨f,w,y,z⟩:=Qk3 h0 p as_ (Qjj m a) _ _ (fun x q=>ha x (az _ q)) l o
  refine ⟨f,w,?_,z⟩
  rw[y];split <;> simp
def QxY {as_:List DAr}:∀{m:List (List Int)},(as_.foldl Qjj m).length=m.length:=by
 induction as_ with
 | nil=>intro m;rfl
 | cons a as_ e=>intro m;rw[bn,e];simp[Qjj]
def Qlx:(QaN c k).length=c.2.1.length:=by unfold QaN;rw[QxY];simp
theorem Qly (o:m=QaN c k)(p:m[i]? =some r):r.length=c.1.length:=by
 subst o
 have:∀(e:List DAr) (m:List (List Int)),(∀r∈m,r.length=c.1.length)→∀r∈e.foldl Qjj m,r.length=c.1.length:=fun e=>by
  induction e with
  | nil=>intro m h;exact h
  | cons a e q=>
   intro m h
   rw[bn]
   refine q _ fun r f=> ?_
   obtain ⟨j,l⟩:=aG.1 f
   unfold Qjj at l
   grind
 exact this _ _ (fun r f=>by rw[cV f,aQ]) r (ah p)
def Qsi (e:c.2.2[k]? =some a)(f:(QaN c k)[a.1.toNat]? =some r):(QaN c k).set a.1.toNat (r.set a.2.1.toNat a.2.2.2)=QaN c (k+1):=by
 rw[QgB (g:=fun r=>r.set a.2.1.toNat a.2.2.2) f]
 unfold QaN
 rw[Qr e,bN];rfl
theorem QBY (h:GoP c n)(h0:0≤s)(E:s<(c.2.1.length:Int))(f:0≤sig)(D:sig<(c.1.length:Int)):∃r,(toM c)[s.toNat]? =some r∧r.length=c.1.length∧r[sig.toNat]? =some (toF c s sig):=by
 have e:∀a∈c.2.2,0≤a.1∧0≤a.2.1:=fun a l=>by
  obtain ⟨o,A,p,B⟩:=h.1.arcs a l
  refine ⟨o.1,?_⟩
  have C:=bV.1 h.2.2.1 a l
  rcases p with j|j
  ·exact j.1
  ·grind
 obtain ⟨z,q,w,y⟩:=Qk3 h0 f c.2.2 (List.replicate c.2.1.length (List.replicate c.1.length (-1))) (List.replicate c.1.length (-1)) (-1) e (by rw[ck,if_pos (by omega)]) (by rw[ck,if_pos (by omega)])
 refine ⟨z,?_,by rw[w,aQ],by rw[y,QxS h f]⟩
 unfold toM QaN
 rw[aJ (aP _)];exact q
end
def inW (n:DNl)(k:Nat):Bool:=match n.1[k]? with
 | some g=>decide (g.2=1)
 | none=>false
def tW (c:DSg)(n:DNl)(b:DPs)(k:Nat):Int:=if k<n.1.length then toF c b.1 k else b.1
def flB (c:DSg)(n:DNl)(b:DPs)(k:Nat):Bool:=(inW n k||exW n b.2 k)&&decide (0≤tW c n b k)
def xtB (c:DSg)(n:DNl)(b:DPs)(k:Nat):Bool:=(!inW n k&&exW n b.2 k)&&decide (tW c n b k<0)
def QbG (v:BA)(k:Int):BA:=Wz v k (Z0 (decide (bAt v k=48)))
def flS (c:DSg)(n:DNl)(b:DPs)(k:Nat):DPs:=(tW c n b k,QbG b.2 k)
def YE (c:DSg)(n:DNl)(b:DPs)(m:Nat):List DPs:=((List.range m).filter (flB c n b)).map (flS c n b)
def X3 (c:DSg)(n:DNl)(b:DPs)(m:Nat):List Int:=((List.range m).filter (flB c n b)).map fun k:Nat=>(k:Int)
def Xi (c:DSg)(n:DNl)(b:DPs)(m:Nat):List Int:=((List.range m).filter (xtB c n b)).map fun k:Nat=>(k:Int)
def Wm (c:DSg)(n:DNl)(b:DPs):Prop:=(0≤b.1∧b.1≤(c.2.1.length:Int) - 1)∧Q7 b.2 (n.2.length:Int)∧b.2.extract 0 c.1.length=ZP c b.1
def Qet (m:Nat):BA:=⟨(List.replicate m (48:UInt8)).toArray⟩
def Qg0 (n:DNl):Nat→Nat→BA→BA
 | 0,_,v=>v
 | f+1,k,v=>Qg0 n f (k+1) (Wz v k (Z0 (nxW n v k)))
def QbM (n:DNl)(code:BA):BA:=Qg0 n (n.2.length - code.size) code.size (code++Qet (n.2.length - code.size))
def Xs (c:DSg)(n:DNl):DPs:=(0,QbM n (ZP c 0))
def adB (k:Int)(q:List DPs×List DFl)(p:DPs×Int):List DPs×List DFl:=(if p.1∈q.1 then q.1 else q.1++[p.1],q.2++[(k,p.2,((q.1.idxOf p.1:Nat):Int))])
def stA (S:List DPs)(k:Nat):DPs:=(S[k]?).getD (0,ByteArray.empty)
def Vc (c:DSg)(n:DNl)(b:DPs):List (DPs×Int):=(YE c n b n.2.length).zip (X3 c n b n.2.length)
def QGW (c:DSg)(n:DNl)(k:Int)(b:DPs):List DFl:=(Xi c n b n.2.length).map fun w=>(k,w,-1)
def exP (c:DSg)(n:DNl)(k:Nat)(p:DPr):DPr:=
 (((Vc c n (stA p.1 k)).foldl (adB k) (p.1,p.2.1)).1,((Vc c n (stA p.1 k)).foldl (adB k) (p.1,p.2.1)).2,p.2.2++QGW c n k (stA p.1 k))
def prG (c:DSg)(n:DNl):Nat→Nat→DPr→DPr×Bool
 | 0,_,_=>(([],[],[]),false)
 | f+1,k,p=>if k<p.1.length then (if 600<(exP c n k p).1.length then (([],[],[]),false) else prG c n f (k+1) (exP c n k p)) else (p,true)
def Q3 [∀c,Decidable (SgOk c)][∀n,Decidable (QV n)](c:DSg)(n:DNl):DPr×Bool:=if GoP c n then prG c n 601 0 ([Xs c n],[],[]) else (([],[],[]),false)
section
variable {c:DSg}{n:DNl}{b:DPs}{k m i:Nat}{v code:BA}{g:Qs}{x:DWr}{u:UInt8}{t:Int}
def Quu (e:n.1[k]? =some g):decide (g.2=1)=inW n k:=by unfold inW;rw[e]
def Qur (h:n.1.length≤k):inW n k=false:=by unfold inW;rw[bt h]
def QeO (j:QV n)(l:n.2[k]? =some x)(f:k<n.1.length):decide (x.2.1=1)=inW n k:=by
 obtain ⟨g,e⟩:∃g,n.1[k]? =some g:=⟨_,ak f⟩
 have h:=(j.2 k x l).2.1 f g e
 rw[← Quu e]
 exact bu.2 h.2
def Jz (h:k<n.1.length):tW c n b k=toF c b.1 k:=if_pos h
def QdD (h:n.1.length≤k):tW c n b k=b.1:=if_neg (by omega)
def Qg1 (h:flB c n b m=true):YE c n b m++[flS c n b m]=YE c n b (m+1):=by unfold YE;rw[bk,bg,aT];simp[h]
def QbN (h:flB c n b m=false):YE c n b m=YE c n b (m+1):=by unfold YE;rw[bk,bg,aT];simp[h]
def QdB (h:flB c n b m=true):X3 c n b m++[(m:Int)]=X3 c n b (m+1):=by unfold X3;rw[bk,bg,aT];simp[h]
def QbO (h:flB c n b m=false):X3 c n b m=X3 c n b (m+1):=by unfold X3;rw[bk,bg,aT];simp[h]
def Qhc (h:xtB c n b m=true):Xi c n b m++[(m:Int)]=Xi c n b (m+1):=by unfold Xi;rw[bk,bg,aT];simp[h]
def XL (h:xtB c n b m=false):Xi c n b m=Xi c n b (m+1):=by unfold Xi;rw[bk,bg,aT];simp[h]
theorem WL:(YE c n b m).length=(X3 c n b m).length∧(YE c n b m).length≤m∧(Xi c n b m).length≤m:=by
 unfold YE X3 Xi
 grind
def Qwi (hb:0≤b.1)(h:n.1.length≤m):Xi c n b n.1.length=Xi c n b m:=by
 induction m with
 | zero=>rw[show n.1.length=0 by omega]
 | succ m f=>
  by_cases e:n.1.length≤m
  ·rw[f e]
   refine XL ?_
   unfold xtB
   rw[QdD e,aj (by omega),dJ]
  ·rw[show n.1.length=m+1 by omega]
def Qcv (h0:k<v.size):(QbG v (k:Int)).size=v.size:=Va (by omega) (by omega) (ZV _)
def QnZ {j:Nat}(h0:k<v.size)(e:j<v.size):bAt (QbG v (k:Int)) (j:Int)=if (j:Int)=(k:Int) then (if decide (bAt v k=48)=true then 49 else 48) else bAt v (j:Int):=by
 unfold QbG
 rw[QcE (by omega) (by omega) (ZV _) e,QcU]
theorem QoH (p:(v.size:Int)=t)(h:∀j:Nat,j<v.size→bAt v (j:Int)=48∨bAt v (j:Int)=49):Q7 v t:=by
 refine ⟨fun c l=> ?_,p⟩
 obtain ⟨j,o,rfl⟩:=List.mem_iff_getElem.1 l
 have e:j<v.size:=by rwa [Xp] at o
 have f:=h j e
 rw[X6] at f
 grind
def Qve (hv:Q7 v t)(h0:k<v.size):Q7 (QbG v (k:Int)) t:=by
 refine QoH (by rw[Qcv h0];exact hv.2) fun j e=> ?_
 rw[Qcv h0] at e
 rw[QnZ h0 e]
 split
 ·split <;> simp
 ·exact UR hv e
def Qbt {j p:Nat}(h:p≤v.size)(f:j<p):bAt (v.extract 0 p) (j:Int)=bAt v (j:Int):=by
 have l:(v.extract 0 p).size=p:=by rw[aR];omega
 unfold bAt
 have e:((j:Int)).toNat=j:=rfl
 rw[e,cJ (v.extract 0 p) j (by omega),cJ v j (by omega)]
 simp[ByteArray.getElem_extract]
def Ue {p:Nat}(e:p≤v.size):(v.extract 0 p).size=p:=by rw[aR];omega
def Qk7 {p:Nat}(h0:k<v.size)(h:p≤k):(QbG v (k:Int)).extract 0 p=v.extract 0 p:=by
 have f:=Qcv h0
 refine K2 (by rw[Ue (by omega),Ue (by omega)]) fun j e=> ?_
 rw[Ue (by omega)] at e
 rw[Qbt (by omega) e,Qbt (by omega) e,QnZ h0 (by omega),if_neg (by omega)]
theorem QxA (h:GoP c n)(hb:Wm c n b)(Z:k<n.2.length)(w:flB c n b k=true):Wm c n (flS c n b k):=by
 obtain ⟨⟨J,K⟩,z,E⟩:=hb
 have V:=z.2
 have Q:c.1.length=n.1.length:=by rw[h.2.2.2.2]
 have T:=h.2.1.1.2.1
 unfold flB at w
 rw[aH,bI] at w
 have l:k<b.2.size:=by omega
 refine ⟨?_,Qve z l,?_⟩
 ·by_cases e:k<n.1.length
  ·have C:=w.2
   show 0≤tW c n b k∧tW c n b k≤_
   rw[Jz e] at C ⊢
   rcases Qg4 (c:=c) (s:=b.1) (sig:=(k:Int)) with ⟨o,_⟩|⟨a,o,G,B⟩
   ·omega
   ·rw[B];exact (h.1.arcs a o).2.1
  ·show 0≤tW c n b k∧tW c n b k≤_
   rw[QdD (by omega)];exact ⟨J,K⟩
 ·show (QbG b.2 (k:Int)).extract 0 c.1.length=ZP c (tW c n b k)
  by_cases e:k<n.1.length
  ·have C:=w.2
   rw[Jz e] at C ⊢
   rcases Qg4 (c:=c) (s:=b.1) (sig:=(k:Int)) with ⟨o,_⟩|⟨a,o,G,B⟩
   ·omega
   ·obtain ⟨H,I⟩:=Qac.1 G
    have P:=h.1.arcs a o
    obtain ⟨W,X,Y,A⟩:=P
    rw[H] at A
    rw[← E] at A
    have R:((ZP c a.2.2.2).size:Int)=(c.1.length:Int):=by
     obtain ⟨y,q⟩:∃y,c.2.1[a.2.2.2.toNat]? =some y:=⟨_,ak (by omega)⟩
     rw[ZH q];exact (h.1.codes y (ah q)).2
    have S:(b.2.extract 0 c.1.length).size=c.1.length:=Ue (by omega)
    have U:=Qcv l
    rw[B]
    refine K2 (by rw[Ue (by omega)];omega) fun j D=> ?_
    rw[Ue (by omega)] at D
    have f:=A j (by omega)
    unfold Xd at f
    rw[I,Qbt (by omega) D] at f
    rw[Qbt (by omega) D,QnZ l (by omega)]
    by_cases F:(j:Int)=(k:Int)
    ·rw[if_pos F] at f ⊢
     obtain ⟨L,M⟩:=f
     have N:=UR z (j:=j) (by omega)
     obtain ⟨y,q⟩:∃y,c.2.1[a.2.2.2.toNat]? =some y:=⟨_,ak (by omega)⟩
     have O:bAt (ZP c a.2.2.2) (j:Int)=48∨bAt (ZP c a.2.2.2) (j:Int)=49:=by
      rw[ZH q]
      have p:=h.1.codes y (ah q)
      exact UR p (by have:=p.2;omega)
     grind
    ·rw[if_neg F] at f ⊢
     exact f
  ·rw[QdD (by omega),← E]
   exact Qk7 l (by omega)
def Qhf:(Qet m).size=m:=by simp[Qet,ByteArray.size]
def Qy3:Qet m++(⟨#[48]⟩:BA)=Qet (m+1):=by
 refine dQ (dp.1 ?_)
 rw[cN,cG]
 show (List.replicate m (48:UInt8)).toArray.toList++[48]=(List.replicate (m+1) (48:UInt8)).toArray.toList
 simp[List.replicate_succ']
theorem Qhe {v:BA}(h:Q7 v t):Q7 (v++Qet m) (t+m):=by
 refine ⟨fun c e=> ?_,by rw[aE,Qhf,← h.2];omega⟩
 rw[bc,cN,cG,aO] at e
 rcases e with e|e
 ·exact h.1 c (by rw[bc];exact e)
 ·have e:c∈(List.replicate m (48:UInt8)).toArray.toList:=e
  grind
def QvT (e:k<m):Qg0 n (m - k) k v=Qg0 n (m - (k+1)) (k+1) (Wz v k (Z0 (nxW n v k))):=by
 rw[show m - k=(m - (k+1))+1 by omega,Qg0]
def Qqf (e:m≤k):Qg0 n (m - k) k v=v:=by rw[show m - k=0 by omega,Qg0]
def QgS {e:Bool}(hv:Q7 v t)(h0:k<v.size):Q7 (Wz v (k:Int) (Z0 e)) t:=by
 have h:(Wz v (k:Int) (Z0 e)).size=v.size:=Va (by omega) (by omega) (ZV _)
 refine QoH (by rw[h];exact hv.2) fun j f=> ?_
 rw[h] at f
 rw[QcE (by omega) (by omega) (ZV _) f,QcU]
 split
 ·cases e <;> simp
 ·exact UR hv f
def QyB {f:Bool}{p:Nat}(h0:k<v.size)(h:p≤k):(Wz v (k:Int) (Z0 f)).extract 0 p=v.extract 0 p:=by
 have l:(Wz v (k:Int) (Z0 f)).size=v.size:=Va (by omega) (by omega) (ZV _)
 refine K2 (by rw[Ue (by omega),Ue (by omega)]) fun j e=> ?_
 rw[Ue (by omega)] at e
 rw[Qbt (by omega) e,Qbt (by omega) e,QcE (by omega) (by omega) (ZV _) (by omega),if_neg (by omega)]
def QvY {p:Nat}:∀(f k:Nat) (v:BA),Q7 v t→k+f≤v.size→p≤k→Q7 (Qg0 n f k v) t∧(Qg0 n f k v).extract 0 p=v.extract 0 p
 | 0,_,v,h,_,_=>⟨h,rfl⟩
 | f+1,k,v,h,hk,hp=>by
  have l:(Wz v (k:Int) (Z0 (nxW n v k))).size=v.size:=Va (by omega) (by omega) (ZV _)
  obtain ⟨e,j⟩:=QvY (p:=p) f (k+1) (Wz v k (Z0 (nxW n v k))) (QgS h (by omega)) (by omega) (by omega)
  exact ⟨e,j.trans (QyB (by omega) hp)⟩
def QwC {a z:BA}:(a++z).extract 0 a.size=a:=by
 refine K2 (by rw[Ue (by rw[aE];omega)]) fun j e=> ?_
 rw[Ue (by rw[aE];omega)] at e
 rw[Qbt (by rw[aE];omega) e,X6,X6]
 have f:((j:Int)).toNat=j:=rfl
 have h:(a++z).toList=a.toList++z.toList:=by rw[bc,bc,bc,cN,cG]
 rw[f,h,bm (by rw[Xp];exact e)]
def QAz (h:GoP c n):Wm c n (Xs c n):=by
 obtain ⟨y,l⟩:∃y,c.2.1[(0:Int).toNat]? =some y:=⟨_,ak (by have:=h.1.some_;show 0<_;omega)⟩
 have e:ZP c 0=y:=ZH l
 have j:=h.1.codes y (ah l)
 have A:=j.2
 have q:c.1.length=n.1.length:=by rw[h.2.2.2.2]
 have w:=h.2.1.1.2.1
 have o:=Qhe (m:=n.2.length - y.size) j
 have f:=QvY (n:=n) (p:=y.size) (n.2.length - y.size) y.size (y++Qet (n.2.length - y.size)) o (by rw[aE,Qhf];omega) (aP _)
 rw[QwC,show (c.1.length:Int)+((n.2.length - y.size:Nat):Int)=(n.2.length:Int) by omega] at f
 have z:=h.1.some_
 refine ⟨⟨cR 0,by show (0:Int)≤_;omega⟩,?_,?_⟩
 ·show Q7 (QbM n (ZP c 0)) _
  rw[e];exact f.1
 ·show (QbM n (ZP c 0)).extract 0 c.1.length=ZP c 0
  rw[e,show c.1.length=y.size by omega];exact f.2
end
end Go.Proofs.YtjfpbcmfbnnooaaGreat
