import Derived.Test.YtjfpbcmfbnnooaaGreatPGg
import Derived.Test.YtjfpbcmfbnnooaaGreatPDm
import Derived.Lib.IndexLaws
import Derived.Laws.Strings3
set_option linter.all false
namespace Go.Proofs.YtjfpbcmfbnnooaaGreat
open Go.RowKit Tryz
set_option maxRecDepth 100000
set_option maxHeartbeats 4000000
section
variable {P:Prop}[Decidable P]{r:List (List Int)}{x:List Int}{i:Int}{f:List Int→List Int}{as_:List DAr}{S:List Int}
def QGx (h:P)(hi:0≤i∧i≤(r.length:Int) - 1)(a:r[i.toNat]? =some x):f x=if P∧(0≤i∧i≤(r.length:Int) - 1) then f ((r[i.toNat]?).getD []) else []:=by
 rw[if_pos ⟨h,hi⟩,a];rfl
def QEg (h:¬P):[]=if P∧(0≤i∧i≤(r.length:Int) - 1) then f ((r[i.toNat]?).getD []) else []:=(if_neg fun g=>h g.1).symm
def QEh (hi:¬(0≤i∧i≤(r.length:Int) - 1)):[]=if P∧(0≤i∧i≤(r.length:Int) - 1) then f ((r[i.toNat]?).getD []) else []:=(if_neg fun g=>hi g.2).symm
end
def Kz (c:Yw)(sig:Int)(a:Bool)(i:Int)[∀c,Decidable (SgOk c)]:FC prog 348 [(true,[.dat Qj c.1,.dat Qd c.2.1,.dat Qq c.2.2]),(false,[dI sig]),(false,[dB a]),(false,[dI i])] [] 0 (QJ (PV.tup [(false,[.dat Qv (if ((0≤sig∧sig≤(c.1.length:Int) - 1)∧Ya c sig=false∧SgOk c∧Z6 c=ZB)∧(0≤i∧i≤((regV c.2.2 (xS c.2.2 (sig,a))).length:Int) - 1) then qV c sig (((regV c.2.2 (xS c.2.2 (sig,a)))[i.toNat]?).getD []) else [])]),(false,[dB (decide (((0≤sig∧sig≤(c.1.length:Int) - 1)∧Ya c sig=false∧SgOk c∧Z6 c=ZB)∧(0≤i∧i≤((regV c.2.2 (xS c.2.2 (sig,a))).length:Int) - 1)))])])):=by
 refine Ql func348 rfl rfl ntmps348 fun B p A q C y w=>acI 3 fun _=>w_ ?_
 refine xbx 0 ?_
 refine w7 ?_
 refine lc (dK (Qdi c sig) Qny)<|w2 ?_
 cases d:(decide ((0≤sig∧sig≤(c.1.length:Int) - 1)∧Ya c sig=false∧SgOk c∧Z6 c=ZB))
 have h:=ab d
 refine w16 ?_
 refine AC.wk (Qew (i:=8) 3 .int rfl)<|w_ ?_
 have s:([]:(Qv:Ty).Den)=(if ((0≤sig∧sig≤(c.1.length:Int) - 1)∧Ya c sig=false∧SgOk c∧Z6 c=ZB)∧(0≤i∧i≤((regV c.2.2 (xS c.2.2 (sig,a))).length:Int) - 1) then qV c sig (((regV c.2.2 (xS c.2.2 (sig,a)))[i.toNat]?).getD []) else []):=by
  exact QEg (f:=qV c sig) ‹_›
 have t:(false:Bool)=(decide (((0≤sig∧sig≤(c.1.length:Int) - 1)∧Ya c sig=false∧SgOk c∧Z6 c=ZB)∧(0≤i∧i≤((regV c.2.2 (xS c.2.2 (sig,a))).length:Int) - 1))):=by
  exact (aj fun g=>absurd g.1 ‹_›).symm
 exact fr_ p (e:=((congrArg (fun z_=>PV.tup [(false,[.dat Qv z_]),(false,[dB false])]) s)).trans (congrArg (fun z_=>PV.tup [(false,[.dat Qv (if ((0≤sig∧sig≤(c.1.length:Int) - 1)∧Ya c sig=false∧SgOk c∧Z6 c=ZB)∧(0≤i∧i≤((regV c.2.2 (xS c.2.2 (sig,a))).length:Int) - 1) then qV c sig (((regV c.2.2 (xS c.2.2 (sig,a)))[i.toNat]?).getD []) else [])]),(false,[dB z_])]) t))
 have h:=aa d
 refine w4 ?_
 refine lgy rfl rfl (dK (YB c sig a (by assumption:((0≤sig∧sig≤(c.1.length:Int) - 1)∧Ya c sig=false∧SgOk c∧Z6 c=ZB)).2.2.1 (by assumption:((0≤sig∧sig≤(c.1.length:Int) - 1)∧Ya c sig=false∧SgOk c∧Z6 c=ZB)).1).frozen Ud)<|alL 19 fun _=> ?_
 refine w2 ?_
 refine lgy rfl rfl (dK (ZD i 0 (((regV c.2.2 (xS c.2.2 (sig,a))).length:Int) - 1)) Yj)<|w3 ?_
 cases j:(decide (0≤i∧i≤(((regV c.2.2 (xS c.2.2 (sig,a))).length:Int) - 1)))
 have k:=ab j
 refine w5 ?_
 refine AC.wk (Qew (i:=8) 3 .int rfl)<|w_ ?_
 have u:([]:(Qv:Ty).Den)=(if ((0≤sig∧sig≤(c.1.length:Int) - 1)∧Ya c sig=false∧SgOk c∧Z6 c=ZB)∧(0≤i∧i≤((regV c.2.2 (xS c.2.2 (sig,a))).length:Int) - 1) then qV c sig (((regV c.2.2 (xS c.2.2 (sig,a)))[i.toNat]?).getD []) else []):=by
  exact QEh (f:=qV c sig) ‹_›
 have v:(false:Bool)=(decide (((0≤sig∧sig≤(c.1.length:Int) - 1)∧Ya c sig=false∧SgOk c∧Z6 c=ZB)∧(0≤i∧i≤((regV c.2.2 (xS c.2.2 (sig,a))).length:Int) - 1))):=by
  exact (aj fun g=>absurd g.2 ‹_›).symm
 exact fr_ p (e:=((congrArg (fun z_=>PV.tup [(false,[.dat Qv z_]),(false,[dB false])]) u)).trans (congrArg (fun z_=>PV.tup [(false,[.dat Qv (if ((0≤sig∧sig≤(c.1.length:Int) - 1)∧Ya c sig=false∧SgOk c∧Z6 c=ZB)∧(0≤i∧i≤((regV c.2.2 (xS c.2.2 (sig,a))).length:Int) - 1) then qV c sig (((regV c.2.2 (xS c.2.2 (sig,a)))[i.toNat]?).getD []) else [])]),(false,[dB z_])]) v))
 have k:=aa j
 refine w2 ?_
 obtain ⟨b,m⟩:=gx (regV c.2.2 (xS c.2.2 (sig,a))) ((i).toNat)
 have l:=m
 apply dW (i5 25 _ _ _ _ _ (io 30 (lf (.dat Y2 (regV c.2.2 (xS c.2.2 (sig,a)))))::i3 31 _ _ _ (io 34 (lf (.dat Qv (qV c sig b)))::i2 8 _ _ []))) [0,1,3,7,15,3,63,3,3,0,0,0]
 refine z5 ?_
 refine zz (fun _ z=>ac (dK (YB c sig a (by assumption:((0≤sig∧sig≤(c.1.length:Int) - 1)∧Ya c sig=false∧SgOk c∧Z6 c=ZB)).2.2.1 (by assumption:((0≤sig∧sig≤(c.1.length:Int) - 1)∧Ya c sig=false∧SgOk c∧Z6 c=ZB)).1).frozen Ud) rfl)<|z3 ?_
 exact zz (fun _ z=>ac (dK (KE c sig b (by assumption:((0≤sig∧sig≤(c.1.length:Int) - 1)∧Ya c sig=false∧SgOk c∧Z6 c=ZB)).2.2.1).frozen QfX) rfl)<|y2
 refine w_ ?_
 have n:(qV c sig b:(Qv:Ty).Den)=(if ((0≤sig∧sig≤(c.1.length:Int) - 1)∧Ya c sig=false∧SgOk c∧Z6 c=ZB)∧(0≤i∧i≤((regV c.2.2 (xS c.2.2 (sig,a))).length:Int) - 1) then qV c sig (((regV c.2.2 (xS c.2.2 (sig,a)))[i.toNat]?).getD []) else []):=by
  exact QGx (f:=qV c sig) ‹_› ‹_› l
 have o:(true:Bool)=(decide (((0≤sig∧sig≤(c.1.length:Int) - 1)∧Ya c sig=false∧SgOk c∧Z6 c=ZB)∧(0≤i∧i≤((regV c.2.2 (xS c.2.2 (sig,a))).length:Int) - 1))):=by
  exact (ay ⟨by assumption,by assumption⟩).symm
 exact fr_ p (e:=((congrArg (fun z_=>PV.tup [(false,[.dat Qv z_]),(false,[dB true])]) n)).trans (congrArg (fun z_=>PV.tup [(false,[.dat Qv (if ((0≤sig∧sig≤(c.1.length:Int) - 1)∧Ya c sig=false∧SgOk c∧Z6 c=ZB)∧(0≤i∧i≤((regV c.2.2 (xS c.2.2 (sig,a))).length:Int) - 1) then qV c sig (((regV c.2.2 (xS c.2.2 (sig,a)))[i.toNat]?).getD []) else [])]),(false,[dB z_])]) o))
section
variable [∀s,Decidable (StgOk s)]{s:ZF}
def Vg:(sgV s).1.1.length≤8∧(sgV s).1.2.1.length≤301:=by
 cases h:(sgV s).2 with
 | true=>have a:=(QgT h).sig8;have b:=(QgT h).some_;exact ⟨a,by omega⟩
 | false=>
  have a:(sgV s).1=QdI:=by
   unfold sgV at h ⊢
   split at h
   ·rename_i g
    rw[if_pos g]
    split at h
    ·cases h
    ·rfl
   ·rename_i g;rw[if_neg g]
  rw[a]
  exact ⟨by decide,by decide⟩
end
def HA (code:List UInt8)(at_:Int)(sd:Int)[∀s,Decidable (StgOk s)][∀s,Decidable (Xn s)](l:0≤at_∧at_≤600000000):FC prog 47 [(false,[.ptr 0 0])] [bx 0 86 [.dat QP code,dI at_,.val (.int .u64 sd)]] 1 (Ex (fun x:DSg×Int×Int=>x.1.1.length≤8∧x.1.2.1.length≤301∧(at_≤x.2.1∧x.2.1≤at_+130)) (fun x:DSg×Int×Int=>ag [.dat Qj x.1.1,.dat Qd x.1.2.1,.dat Qq x.1.2.2]) (fun x:DSg×Int×Int=>[bx 0 86 [.dat QP code,dI x.2.1,.val (.int .u64 x.2.2)]])):=by
 refine Ql func47 rfl rfl ntmps47 fun i b h c j e d=>w_ ?_
 refine lc (xal 1 UB Yq)<|w4 ?_
 have f:=ZQ code at_ sd 5
 refine lc (dP 2 [] (QF code at_ sd 5 (by omega)) Zs)<|w6 ?_
 refine cd_ (fun _ _=> ?_) fun _ _=> ?_
 refine w4 ?_
 refine cd_ (fun _ _=> ?_) fun _ _=> ?_
 refine w4 ?_
 refine Z7 3 [(0,0)] (Jq code (pkA 5 at_) (pkS code at_ sd 5) (by omega)) Qmi e1_ ⟨rfl,trivial⟩ rfl (fun _=>rfl) (fun _=>⟨trivial,trivial⟩) (nlr rfl) fun a g=>w3 ?_
 subst b
 refine QZ (x:=((a.1.1,(a.1.2.1,a.1.2.2)),(a.2.1,a.2.2))) [(0,0)] ?_ (Res.one rfl (Rs.cell rfl rfl Yc rfl)) rfl ⟨rfl,trivial⟩ rfl rfl
 (dsimp only;have k:=‹_≤8∧_∧_›;omega)
 refine w_ ?_
 refine lc (dK (QK tx4 H5 tx2 Qg6 (by decide+kernel) (by decide+kernel)).frozenG Zi)<|lc (dK (Q2 (Qu tx4 H5 tx2 Qg6)).frozenG XD)<|w3 ?_
 refine lc (xal 4 UB Yq)<|w8 ?_
 subst b
 refine QZ (x:=((((sgV (Qu tx4 H5 tx2 Qg6)).1).1,(((sgV (Qu tx4 H5 tx2 Qg6)).1).2.1,((sgV (Qu tx4 H5 tx2 Qg6)).1).2.2)),((pkA 5 at_),(pkS code at_ sd 5)))) [(0,0)] ?_ (Res.one rfl (Rs.cell rfl rfl Yc rfl)) rfl ⟨rfl,trivial⟩ rfl rfl
 (dsimp only;exact ⟨Vg.1,Vg.2,by omega⟩)
 refine w_ ?_
 refine lc (dK (QK tx7 tx8 tx2 Qg5 (by decide+kernel) (by decide+kernel)).frozenG Zi)<|lc (dK (Q2 (Qu tx7 tx8 tx2 Qg5)).frozenG XD)<|w3 ?_
 refine lc (xal 5 UB Yq)<|w8 ?_
 subst b
 refine QZ (x:=((((sgV (Qu tx7 tx8 tx2 Qg5)).1).1,(((sgV (Qu tx7 tx8 tx2 Qg5)).1).2.1,((sgV (Qu tx7 tx8 tx2 Qg5)).1).2.2)),((pkA 5 at_),(pkS code at_ sd 5)))) [(0,0)] ?_ (Res.one rfl (Rs.cell rfl rfl Yc rfl)) rfl ⟨rfl,trivial⟩ rfl rfl
 (dsimp only;exact ⟨Vg.1,Vg.2,by omega⟩)
def QbA (code:List UInt8)(at_:Int)(sd:Int)[∀s,Decidable (StgOk s)][∀s,Decidable (Xn s)][∀c,Decidable (SgOk c)](r:0≤at_∧at_≤500000000):FC prog 240 [(false,[.ptr 0 0])] [bx 0 86 [.dat QP code,dI at_,.val (.int .u64 sd)]] 1 (Ex (fun x:DSg×Int×Int=>x.1.1.length≤8∧x.1.2.1.length≤301∧(at_≤x.2.1∧x.2.1≤at_+150)) (fun x:DSg×Int×Int=>ag [.dat Qj x.1.1,.dat Qd x.1.2.1,.dat Qq x.1.2.2]) (fun x:DSg×Int×Int=>[bx 0 86 [.dat QP code,dI x.2.1,.val (.int .u64 x.2.2)]])):=by
 refine Ql func240 rfl rfl ntmps240 fun m d l e n g f=>w_ ?_
 refine lc (xal 1 UB Yq)<|w4 ?_
 have i:=ZQ code at_ sd 8
 refine lc (dP 2 [] (WE code at_ sd 8 (by omega)) Qc8)<|w_ ?_
 refine cd_ (fun _ _=> ?_) fun _ _=> ?_
 refine w3 ?_
 refine Z7 3 [(0,0)] (Xr code (pkA 8 at_) (pkS code at_ sd 8) (by omega)) Qbj e1_ ⟨rfl,trivial⟩ rfl (fun _=>rfl) (fun _=>⟨trivial,(Fresh.of rfl),(Fresh.of rfl),(Fresh.of rfl),trivial⟩) (nlr rfl) fun a j=>lc (Y0 7 (Q2 a.1) XD ⟨_,_,rfl,(Hd (Qm rfl) ⟨_,_,rfl,.inl rfl,⟨_,_,rfl,.inr ⟨_,_,_,_,rfl,rfl,rfl⟩,⟨_,_,rfl,.inr ⟨_,_,_,_,rfl,rfl,rfl⟩,⟨_,_,rfl,.inr ⟨_,_,_,_,rfl,rfl,rfl⟩,⟨_,_,rfl,.inl rfl,rfl⟩⟩⟩⟩⟩),rfl⟩ rfl rfl rfl ⟨Fresh.of rfl,Fresh.of rfl,Fresh.of rfl,trivial⟩ (nlr rfl))<|w3 ?_
 refine lc (xal 10 UB Yq)<|w8 ?_
 cases h:((sgV a.1).2)
 refine w7 ?_
 refine lc (dG 11 (QK tx0 tx1 tx2 tx3 (by decide+kernel) (by decide+kernel)) Zi)<|lc (Y0 14 (Q2 (Qu tx0 tx1 tx2 tx3)) XD ⟨_,_,rfl,(Hd (Qm rfl) ⟨_,_,rfl,.inl rfl,⟨_,_,rfl,.inr ⟨_,_,_,_,rfl,rfl,rfl⟩,⟨_,_,rfl,.inr ⟨_,_,_,_,rfl,rfl,rfl⟩,⟨_,_,rfl,.inr ⟨_,_,_,_,rfl,rfl,rfl⟩,⟨_,_,rfl,.inl rfl,rfl⟩⟩⟩⟩⟩),rfl⟩ rfl rfl rfl ⟨Fresh.of rfl,Fresh.of rfl,Fresh.of rfl,trivial⟩ (nlr rfl))<|w5 ?_
 refine Q5<|AC.wk (QA (p:=10) (off:=0) (q:=14) rfl rfl rfl)<|AC.wk (QA (p:=10) (off:=1) (q:=15) rfl rfl rfl)<|AC.wk (QA (p:=10) (off:=2) (q:=16) rfl rfl rfl)<|w5 ?_
 subst d
 refine QZ (x:=((((sgV (Qu tx0 tx1 tx2 tx3)).1).1,(((sgV (Qu tx0 tx1 tx2 tx3)).1).2.1,((sgV (Qu tx0 tx1 tx2 tx3)).1).2.2)),(a.2.1,a.2.2))) [(0,0)] ?_ (Res.one rfl (Rs.cell rfl rfl Yc rfl)) rfl ⟨rfl,trivial⟩ rfl rfl
 (dsimp only;exact ⟨Vg.1,Vg.2,by omega⟩)
 refine w_ ?_
 refine lgy rfl rfl (WV (Xl ((sgV a.1).1) (QgT ‹_›)) V4 ⟨_,_,rfl,(Hd (Qm rfl) ⟨_,_,rfl,.inr ⟨_,_,_,_,rfl,rfl,rfl⟩,⟨_,_,rfl,.inr ⟨_,_,_,_,rfl,rfl,rfl⟩,⟨_,_,rfl,.inr ⟨_,_,_,_,rfl,rfl,rfl⟩,rfl⟩⟩⟩),rfl⟩ rfl rfl rfl)<|w3 ?_
 refine cn_ (fun _ _=> ?_) fun _ _=> ?_
 refine w_ ?_
 refine Q5<|AC.wk (QA (p:=10) (off:=0) (q:=7) rfl rfl rfl)<|AC.wk (QA (p:=10) (off:=1) (q:=8) rfl rfl rfl)<|AC.wk (QA (p:=10) (off:=2) (q:=9) rfl rfl rfl)<|w5 ?_
 subst d
 refine QZ (x:=((((sgV a.1).1).1,(((sgV a.1).1).2.1,((sgV a.1).1).2.2)),(a.2.1,a.2.2))) [(0,0)] ?_ (Res.one rfl (Rs.cell rfl rfl Yc rfl)) rfl ⟨rfl,trivial⟩ rfl rfl
 (dsimp only;exact ⟨Vg.1,Vg.2,by omega⟩)
 refine w_ ?_
 refine lc (dG 17 (QK tx0 tx1 tx2 tx3 (by decide+kernel) (by decide+kernel)) Zi)<|lc (Y0 20 (Q2 (Qu tx0 tx1 tx2 tx3)) XD ⟨_,_,rfl,(Hd (Qm rfl) ⟨_,_,rfl,.inl rfl,⟨_,_,rfl,.inr ⟨_,_,_,_,rfl,rfl,rfl⟩,⟨_,_,rfl,.inr ⟨_,_,_,_,rfl,rfl,rfl⟩,⟨_,_,rfl,.inr ⟨_,_,_,_,rfl,rfl,rfl⟩,⟨_,_,rfl,.inl rfl,rfl⟩⟩⟩⟩⟩),rfl⟩ rfl rfl rfl ⟨Fresh.of rfl,Fresh.of rfl,Fresh.of rfl,trivial⟩ (nlr rfl))<|w5 ?_
 refine Q5<|AC.wk (QA (p:=10) (off:=0) (q:=20) rfl rfl rfl)<|AC.wk (QA (p:=10) (off:=1) (q:=21) rfl rfl rfl)<|AC.wk (QA (p:=10) (off:=2) (q:=22) rfl rfl rfl)<|w5 ?_
 subst d
 refine QZ (x:=((((sgV (Qu tx0 tx1 tx2 tx3)).1).1,(((sgV (Qu tx0 tx1 tx2 tx3)).1).2.1,((sgV (Qu tx0 tx1 tx2 tx3)).1).2.2)),(a.2.1,a.2.2))) [(0,0)] ?_ (Res.one rfl (Rs.cell rfl rfl Yc rfl)) rfl ⟨rfl,trivial⟩ rfl rfl
 (dsimp only;exact ⟨Vg.1,Vg.2,by omega⟩)
 refine w2 ?_
 refine Z7 23 [(0,0)] (HA code (pkA 8 at_) (pkS code at_ sd 8) (by omega)) Qq3 e1_ ⟨rfl,trivial⟩ rfl (fun _=>rfl) (fun _=>⟨trivial,trivial⟩) (nlr rfl) fun b k=>w3 ?_
 subst d
 refine QZ (x:=((b.1.1,(b.1.2.1,b.1.2.2)),(b.2.1,b.2.2))) [(0,0)] ?_ (Res.one rfl (Rs.cell rfl rfl Yc rfl)) rfl ⟨rfl,trivial⟩ rfl rfl
 (dsimp only;have o:=‹_≤8∧_∧_›;omega)
def QkK (code:List UInt8)(a:List UInt8):FC prog 6 [(false,[.dat QP code]),(false,[.dat QP a])] [] 0 (QJ (lB (decide ((1048576:Int)<(code.length:Int)+(a.length:Int))))):=by
 refine Ql func6 rfl rfl ntmps6 fun i d h e j g f=>w5 ?_
 refine alL 5 fun _=> ?_
 refine w3 ?_
 cases b:(decide (1048576<(code.length:Int)))
 have c:=ab b
 refine w10 ?_
 refine fqB d ?_
 exact bu.2 (by omega)
 have c:=aa b
 refine w10 ?_
 refine fqB d ?_
 exact (ay (by omega)).symm
section
variable {c:DSg}{as_:List DAr}{a b:DAr}{l:Int×Bool}{R S out:List Int}{s u v q x y z sig:Int}{k i j n m:Nat}{up:Bool}{L:List (List Int)}{r:List Int}
def Qyp (h:r∈regV as_ S):∃x∈S,repB as_ S x=true∧r=cls as_ S x:=by
 obtain ⟨x,d,rfl⟩:=aW.1 h
 rw[bA] at d
 exact ⟨x,d.1,d.2,rfl⟩
def Qlj (h:r∈regV as_ S):∀q∈r,q∈S:=fun q d=>by
 obtain ⟨x,_,_,rfl⟩:=Qyp h
 exact (bA.1 d).1
end
set_option maxHeartbeats 2000000
set_option maxRecDepth 100000
def Qqw {A:Amb}{P:Program}{s:St}{x y:Operand}{d:Nat}{T c ty:TypeId}{b:String}{e:Array Edge}{g:Option (Nat×Bool)}{m n:BA}(j:Evl A s x (dS m))(k:Evl A s y (dS n))(i:Nat.blt d A.n=true):Does A P ⟨some d,.binOp .geq T x y c,ty,b,e,g⟩ s (s.put d (lf (dB (!Op.bytesLess m.toList n.toList)))):=
 Qk rfl i fun l a w r=>⟨.bool (!Op.bytesLess m.toList n.toList),by
  have f:=j.st r
  have h:=k.st r
  simp only[execOp,f,h,eqGuard_at_string,binOp,Op.stringOp]
  simp[QcF],_,rfl,ZY⟩
def ibV (s:BA)(c:UInt8):Int:=Lib.indexByte s.data.toList c
set_option maxRecDepth 100000
set_option maxHeartbeats 4000000
def UL (u:UInt8):Prop:=u=48∨u=49∨u=45
instance (u:UInt8):Decidable (UL u):=inferInstanceAs (Decidable (_∨_))
def Zl (s:BA)(n:Int):Prop:=(∀u∈s.toList,UL u)∧(s.size:Int)=n∧(1≤n∧n≤8)
instance (s:BA) (n:Int):Decidable (Zl s n):=inferInstanceAs (Decidable (_∧_))
def QsE (s:BA)(n:Int):Prop:=Q7 s n∧(1≤n∧n≤8)
instance (s:BA) (n:Int):Decidable (QsE s n):=inferInstanceAs (Decidable (_∧_))
def ZZ (n:Int)(l:List BA):Prop:=(1≤n∧n≤8)∧l.length≤60∧∀c∈l,Zl c n
instance (n:Int) (l:List BA):Decidable (ZZ n l):=inferInstanceAs (Decidable (_∧_))
def ZK (cube code:BA):Bool:=(List.range cube.size).all fun i=>decide (bAt cube (i:Int)=45)||decide (bAt cube (i:Int)=bAt code (i:Int))
section
variable {s t cube code c:BA}{n:Int}{k j:Nat}{u v:UInt8}{l:List BA}
def V3 (b:∀j,j<k→∀c,s.toList[j]? =some c→UL c)(f:s[((k:Int)).toNat]? =some u)(h:UL u):∀j,j<k+1→∀c,s.toList[j]? =some c→UL c:=fun j g d a=>by
 by_cases e:j=k
 ·subst e;rw[Qcq f] at a;cases a;exact h
 ·exact b j (by omega) d a
def QoZ (e:s[((k:Int)).toNat]? =some u)(a:¬u=48)(b:¬u=49)(d:¬u=45):false=decide (Zl s n):=(aj fun h=>by
 rcases h.1 u (ah (Qcq e)) with h|h|h
 ·exact a h
 ·exact b h
 ·exact d h).symm
def QtI (b:∀j,j<k→∀c,s.toList[j]? =some c→UL c)(e:s.size≤k):∀u∈s.toList,UL u:=fun c d=>by
 obtain ⟨j,a⟩:=aG.1 d
 have:=(ae.1 a).1
 rw[Xp] at this
 exact b j (by omega) c a
def QkC (a:∀j,j<k→∀c,s.toList[j]? =some c→UL c)(b:s.size≤k)(h:(s.size:Int)=n):decide (1≤n∧n≤8)=decide (Zl s n):=bu.2 ⟨fun g=>⟨QtI a b,h,g⟩,fun g=>g.2.2⟩
def QqO (h:¬(s.size:Int)=n):false=decide (Zl s n):=(aj fun g=>h g.2.1).symm
def QoX (h:¬(1≤n∧n≤8)):false=decide (ZZ n l):=(aj fun g=>h g.1).symm
def Qxd (h:¬(l.length:Int)≤60):false=decide (ZZ n l):=(aj fun g=>h (by have:=g.2.1;omega)).symm
def QoY (a:l[k]? =some c)(h:¬Zl c n):false=decide (ZZ n l):=(aj fun g=>h (g.2.2 c (ah a))).symm
def QqP (g:Zl c n):Zl c (c.size:Int):=⟨g.1,rfl,by have a:=g.2.1;have b:=g.2.2;omega⟩
def Qxh (g:Zl c (c.size:Int))(e:(c.size:Int)=n):Zl c n:=⟨g.1,e,by have a:=g.2.2;omega⟩
def Qxe (a:l[k]? =some c)(h:¬Zl c (c.size:Int)):false=decide (ZZ n l):=QoY a fun g=>h (QqP g)
def Qxf (a:l[k]? =some c)(h:¬(c.size:Int)=n):false=decide (ZZ n l):=QoY a fun g=>h g.2.1
def Qw9 (b:∀j,j<k→∀x,l[j]? =some x→Zl x n)(e:l.length≤k):∀c∈l,Zl c n:=fun c d=>by
 obtain ⟨j,a⟩:=aG.1 d
 exact b j (ba (ae.1 a).1 e) c a
def Qxa (b:1≤n∧n≤8)(d:(l.length:Int)≤60):(!(l.any fun c=> !decide (Zl c n)))=decide (ZZ n l):=by
 rw[cC,cA,bV,bI]
 exact ⟨fun g=>⟨b,by omega,fun c a=>by simpa using g c a⟩,fun g c a=>by simpa using g.2.2 c a⟩
def Qxb (b:∀j,j<k→∀x,l[j]? =some x→Zl x n)(d:l.length≤k)(a:1≤n∧n≤8):decide ((l.length:Int)≤60)=decide (ZZ n l):=bu.2 ⟨fun g=>⟨a,by omega,Qw9 b d⟩,fun g=>by have:=g.2.1;omega⟩
def Qun (f:k<cube.size)(a:cube[((k:Int)).toNat]? =some u)(b:code[((k:Int)).toNat]? =some v)(d:¬u=45)(e:¬u=v):false=ZK cube code:=by
 symm
 unfold ZK
 rw[dE]
 exact ⟨k,bC.2 f,by rw[QU a,QU b];simp[d,e]⟩
def Qpj (a:∀j,j<k→(bAt cube (j:Int)=45∨bAt cube (j:Int)=bAt code (j:Int)))(d:cube.size≤k):true=ZK cube code:=by
 symm
 unfold ZK
 rw[ao]
 intro j b
 have:=a j (ba (bC.1 b) d)
 simpa using this
def Qco (a:∀j,j<k→(bAt cube (j:Int)=45∨bAt cube (j:Int)=bAt code (j:Int)))(h:bAt cube (k:Int)=45∨bAt cube (k:Int)=bAt code (k:Int)):∀j,j<k+1→(bAt cube (j:Int)=45∨bAt cube (j:Int)=bAt code (j:Int)):=fun j b=>by
 by_cases e:j=k
 ·subst e;exact h
 ·exact a j (by omega)
end
def Qf9 (cube:BA)(n:Int):FC prog 144 [(false,[dS cube]),(false,[dI n])] [] 0 (QJ (lB (decide (Zl cube n)))):=by
 refine Ql func144 rfl rfl ntmps144 fun C r B w D y x=>w8 ?_
 refine lpK cube.size (fun k=>∀j,j<k→∀c,cube.toList[j]? =some c→UL c) (fun k=>⟨[(0,lf (dS cube)),(1,lI n),(5,lI (k:Int))],[]⟩) ((fun j A=>absurd A (aS j))) ?_ fun k _ q=> ?_
 exact wo []
 refine w4 ?_
 refine alS 7 fun _=> ?_
 refine w3 ?_
 cases g:(decide ((k:Int)<(cube.size:Int)))
 have h:=ab g
 refine w9 ?_
 cases i:(decide ((cube.size:Int)=n))
 have m:=ab i
 refine w6 ?_
 refine fqB r ?_
 exact QqO ‹_›
 have m:=aa i
 refine w_ ?_
 refine lgy rfl rfl (dK (QE n 1 8) Za)<|w4 ?_
 refine fqB r ?_
 exact QkC q (by omega) ‹_›
 have h:=aa g
 refine w7 ?_
 obtain ⟨a,z⟩:=gs cube (((k:Int)).toNat)
 refine w_ ?_
 refine lc (QW (Qa rfl) (QS 48 rfl) rfl)<|w_ ?_
 cases o:(!decide (a=48))
 have p:(a=48):=QB o
 refine w16 ?_
 refine w3 ?_
 exact Qc<|lK_ ((V3 q ‹_› (by first|exact .inl ‹_› | exact .inr (.inl ‹_›)|exact .inr (.inr ‹_›))))<|wo []
 have p:¬(a=48):=QL o
 refine w3 ?_
 refine lgy rfl rfl (QW (Qa rfl) (QS 49 rfl) rfl)<|w2 ?_
 cases b:(!decide (a=49))
 have e:(a=49):=QB b
 refine w13 ?_
 exact Qc<|lK_ ((V3 q ‹_› (by first|exact .inl ‹_› | exact .inr (.inl ‹_›)|exact .inr (.inr ‹_›))))<|wo []
 have e:¬(a=49):=QL b
 refine w3 ?_
 refine lgy rfl rfl (QW (Qa rfl) (QS 45 rfl) rfl)<|w2 ?_
 cases d:(!decide (a=45))
 have f:(a=45):=QB d
 refine w7 ?_
 exact Qc<|lK_ ((V3 q ‹_› (by first|exact .inl ‹_› | exact .inr (.inl ‹_›)|exact .inr (.inr ‹_›))))<|wo []
 have f:¬(a=45):=QL d
 refine w5 ?_
 refine fqB r ?_
 exact QoZ (k:=k) ‹_› ‹_› ‹_› ‹_›
def JG (s:BA):FC prog 281 [(false,[dS s])] [] 0 (QJ (lB (decide (Zl s (s.size:Int))))):=by
 refine Ql func281 rfl rfl ntmps281 fun A p z q B w r=>w8 ?_
 refine lpK s.size (fun k=>∀j,j<k→∀c,s.toList[j]? =some c→UL c) (fun k=>⟨[(0,lf (dS s)),(3,lI (k:Int))],[]⟩) ((fun j y=>absurd y (aS j))) ?_ fun k _ o=> ?_
 exact wo []
 refine w4 ?_
 refine alS 5 fun _=> ?_
 refine w3 ?_
 cases b:(decide ((k:Int)<(s.size:Int)))
 have d:=ab b
 refine w6 ?_
 refine lc (dK (ZD (s.size:Int) 1 8) Yj)<|w3 ?_
 refine fqB p ?_
 exact QkC o (by omega) rfl
 have d:=aa b
 refine w7 ?_
 obtain ⟨a,x⟩:=gs s (((k:Int)).toNat)
 refine w_ ?_
 refine lc (QW (Qa rfl) (QS 48 rfl) rfl)<|w_ ?_
 cases e:(!decide (a=48))
 have f:(a=48):=QB e
 refine w16 ?_
 refine w3 ?_
 exact Qc<|lK_ ((V3 o ‹_› (by first|exact .inl ‹_› | exact .inr (.inl ‹_›)|exact .inr (.inr ‹_›))))<|wo []
 have f:¬(a=48):=QL e
 refine w3 ?_
 refine lgy rfl rfl (QW (Qa rfl) (QS 49 rfl) rfl)<|w2 ?_
 cases g:(!decide (a=49))
 have h:(a=49):=QB g
 refine w13 ?_
 exact Qc<|lK_ ((V3 o ‹_› (by first|exact .inl ‹_› | exact .inr (.inl ‹_›)|exact .inr (.inr ‹_›))))<|wo []
 have h:¬(a=49):=QL g
 refine w3 ?_
 refine lgy rfl rfl (QW (Qa rfl) (QS 45 rfl) rfl)<|w2 ?_
 cases i:(!decide (a=45))
 have m:(a=45):=QB i
 refine w7 ?_
 exact Qc<|lK_ ((V3 o ‹_› (by first|exact .inl ‹_› | exact .inr (.inl ‹_›)|exact .inr (.inr ‹_›))))<|wo []
 have m:¬(a=45):=QL i
 refine w5 ?_
 refine fqB p ?_
 exact QoZ (k:=k) ‹_› ‹_› ‹_› ‹_›
def Jm (cube:BA)(n:Int):FC prog 143 [(false,[dS cube]),(false,[.ptr 0 0])] [bx 0 3 [dI n]] 1 (Is (lB (!decide (Zl cube n))) [bx 0 3 [dI n]]):=by
 refine Ql func143 rfl rfl ntmps143 fun h f g a i e d=>w6 ?_
 refine lc (dK (Qf9 cube n) Qmr)<|w4 ?_
 have b:(!(decide (Zl cube n)):Bool)=(!decide (Zl cube n)):=by
  rfl
 exact fi_ [] f ⟨rfl,trivial⟩ (h0:=by rw[b] <;> rfl)
def UE (l:List BA)(n:Int):FC prog 223 [(false,[.dat Qd l]),(false,[.clo 143 [0]])] [bx 0 3 [dI n]] 1 (Is (lI (Zj (fun c=> !decide (Zl c n)) l)) [bx 0 3 [dI n]]):=by
 refine Ql func223 rfl rfl ntmps223 fun w g r h x p o=>w6 ?_
 refine alL 6 fun _=> ?_
 refine w4 ?_
 refine lpK l.length (fun k=>NoneTo (fun c=> !decide (Zl c n)) l k) (fun k=>⟨[(0,lf (.dat Qd l)),(1,lf (.clo 143 [0])),(7,lI (l.length:Int)),(8,lI (k:Int))],[bx 0 3 [dI n]]⟩) (NoneTo.zero) ?_ fun k _ a=> ?_
 exact wo []
 refine w4 ?_
 cases b:(decide ((k:Int)<(l.length:Int)))
 have d:=ab b
 refine w7 ?_
 have i:((-1):Int)=(Zj (fun c=> !decide (Zl c n)) l):=by
  first|exact (a.no (by omega)).symm
 exact fi_ [] g ⟨rfl,trivial⟩ (h0:=by rw[← i] <;> rfl)
 have d:=aa b
 refine w12 ?_
 obtain ⟨f,e⟩:=gx l k
 refine w2 ?_
 refine lc (Y3 (args0:=[(false,[dS f])]) (caps:=[0]) 1 [(0,0)] (Jm f n) Qmq rfl (Qa rfl) rfl rfl ⟨_,_,rfl,(Qm rfl),rfl⟩ ⟨rfl,trivial⟩ rfl ⟨trivial,trivial⟩ (nlr rfl))<|w_ ?_
 cases q:(!decide (Zl f n))
 refine w6 ?_
 exact Qc<|lK_ (a.step e ‹_›)<|wo []
 refine w6 ?_
 have m:((k:Int):Int)=(Zj (fun c=> !decide (Zl c n)) l):=by
  exact (a.at e ‹_›).symm
 exact fi_ [] g ⟨rfl,trivial⟩ (h0:=by rw[m] <;> rfl)
def VD (l:List BA)(n:Int):FC prog 142 [(false,[.dat Qd l]),(false,[.clo 143 [0]])] [bx 0 3 [dI n]] 1 (Is (lB (l.any (fun c=> !decide (Zl c n)))) [bx 0 3 [dI n]]):=by
 refine Ql func142 rfl rfl ntmps142 fun h f g a i e d=>w6 ?_
 refine lc (dP 1 [] (UE l n) QfM)<|w4 ?_
 have b:(decide (0≤(Zj (fun c=> !decide (Zl c n)) l)):Bool)=(l.any (fun c=> !decide (Zl c n))):=by
  exact WI _ _
 exact fi_ [] f ⟨rfl,trivial⟩ (h0:=by rw[b] <;> rfl)
def Hv (n:Int)(l:List BA):FC prog 66 [(false,[dI n]),(false,[.dat Qd l])] [] 0 (QJ (lB (decide (ZZ n l)))):=by
 refine Ql func66 rfl rfl ntmps66 fun o f m g p i h=>w_ ?_
 refine xbx 0 ?_
 refine w4 ?_
 refine lc (dK (QE n 1 8) Za)<|w_ ?_
 cases a:(decide (1≤n∧n≤8))
 have b:=ab a
 refine w13 ?_
 refine fqB f ?_
 exact QoX ‹_›
 have b:=aa a
 refine w5 ?_
 cases d:(decide ((l.length:Int)≤60))
 have e:=ab d
 refine w8 ?_
 refine fqB f ?_
 exact Qxd ‹_›
 have e:=aa d
 refine w_ ?_
 refine lgy rfl rfl (Ys ⟨_,_,rfl,(Qa rfl),rfl,rfl⟩ rfl)<|lgy rfl rfl (dP 1 [] (VD l n) QfD)<|w5 ?_
 refine fqB f ?_
 exact Qxa ‹_› ‹_›
def Wg (n:Int)(l:List BA):FC prog 230 [(false,[dI n]),(false,[.dat Qd l])] [] 0 (QJ (lB (decide (ZZ n l)))):=by
 refine Ql func230 rfl rfl ntmps230 fun B p A r C y w=>w6 ?_
 refine alL 7 fun _=> ?_
 refine w4 ?_
 refine lpK l.length (fun k=>∀j,j<k→∀x,l[j]? =some x→Zl x n) (fun k=>⟨[(0,lI n),(1,lf (.dat Qd l)),(7,lf (.dat Qd l)),(8,lI (l.length:Int)),(9,lI (k:Int))],[]⟩) ((fun j z=>absurd z (aS j))) ?_ fun k _ q=> ?_
 exact wo []
 refine w4 ?_
 cases f:(decide ((k:Int)<(l.length:Int)))
 have g:=ab f
 refine w5 ?_
 refine lc (dK (ZD n 1 8) Yj)<|w_ ?_
 cases h:(decide (1≤n∧n≤8))
 have i:=ab h
 refine w7 ?_
 refine fqB p ?_
 exact QoX ‹_›
 have i:=aa h
 refine w7 ?_
 refine fqB p ?_
 exact Qxb q (by omega) ‹_›
 have g:=aa f
 refine w5 ?_
 obtain ⟨e,d⟩:=gx l k
 refine w6 ?_
 refine lc (dK (JG e) QfV)<|w2 ?_
 cases m:(decide (Zl e (e.size:Int)))
 have o:=ab m
 refine w11 ?_
 refine fqB p ?_
 exact Qxe d ‹_›
 have o:=aa m
 refine w6 ?_
 cases a:(!decide ((e.size:Int)=n))
 have b:((e.size:Int)=n):=QB a
 refine w6 ?_
 exact Qc<|lK_ ((Z5 q d (Qxh ‹_› ‹_›)))<|wo []
 have b:¬((e.size:Int)=n):=QL a
 refine w5 ?_
 refine fqB p ?_
 exact Qxf d ‹_›
def Qdc (cube:BA)(code:BA)(C:cube.size≤code.size):FC prog 220 [(false,[dS cube]),(false,[dS code])] [] 0 (QJ (lB (ZK cube code))):=by
 refine Ql func220 rfl rfl ntmps220 fun A o z p B r q=>w6 ?_
 refine alS 6 fun _=> ?_
 refine w4 ?_
 refine lpK cube.size (fun k=>∀j,j<k→(bAt cube (j:Int)=45∨bAt cube (j:Int)=bAt code (j:Int))) (fun k=>⟨[(0,lf (dS cube)),(1,lf (dS code)),(7,lI (cube.size:Int)),(8,lI (k:Int))],[]⟩) ((fun j y=>absurd y (aS j))) ?_ fun k _ i=> ?_
 exact wo []
 refine w4 ?_
 cases b:(decide ((k:Int)<(cube.size:Int)))
 have d:=ab b
 refine w7 ?_
 refine fqB o ?_
 exact Qpj i (by omega)
 have d:=aa b
 refine w8 ?_
 obtain ⟨c4,w⟩:=gs cube (((k:Int)).toNat)
 cases a:(!decide (c4=45))
 have e:(c4=45):=QB a
 apply dW (i3 11 _ _ _ (io 14 (lB false)::i9 15 _ _ _ _ _ _ _ _ _ [])) [0,1,0,0,0,0,32,0,224,480,224,0,0]
 refine z3 ?_
 exact zz (fun _ m=>ac (Qz (XW (XV a)) (QW (m.v rfl) (QS 45 rfl) rfl)) rfl)<|y9
 refine w6 ?_
 exact Qc<|lK_ ((Qco i (by first|exact .inl ((QU ‹_›).trans ‹_›)|exact .inr ((QU ‹_›).trans ((‹(_:UInt8)=_›).trans (QU ‹_›).symm)))))<|wo []
 have e:¬(c4=45):=QL a
 obtain ⟨h,x⟩:=gs code (((k:Int)).toNat)
 apply dW (i3 11 _ _ _ (io 14 (lB true)::i9 15 _ _ _ _ _ _ _ _ _ [])) [0,1,0,0,0,0,32,0,224,480,224,0,0]
 refine z3 ?_
 exact zz (fun _ m=>ac (Qz (XW (XV a)) (QW (m.v rfl) (QS 45 rfl) rfl)) rfl)<|y9
 cases f:(!decide (c4=h))
 have g:(c4=h):=QB f
 refine w6 ?_
 exact Qc<|lK_ ((Qco i (by first|exact .inl ((QU ‹_›).trans ‹_›)|exact .inr ((QU ‹_›).trans ((‹(_:UInt8)=_›).trans (QU ‹_›).symm)))))<|wo []
 have g:¬(c4=h):=QL f
 refine w5 ?_
 refine fqB o ?_
 exact Qun (k:=k) (by omega) ‹_› ‹_› ‹_› ‹_›
def YA (cube:BA)(code:BA)(C:cube.size≤code.size):FC prog 231 [(false,[dS cube]),(false,[dS code])] [] 0 (QJ (lB (ZK cube code))):=by
 refine Ql func231 rfl rfl ntmps231 fun A o z p B r q=>w8 ?_
 refine lpK cube.size (fun k=>∀j,j<k→(bAt cube (j:Int)=45∨bAt cube (j:Int)=bAt code (j:Int))) (fun k=>⟨[(0,lf (dS cube)),(1,lf (dS code)),(5,lI (k:Int))],[]⟩) ((fun j y=>absurd y (aS j))) ?_ fun k _ i=> ?_
 exact wo []
 refine w4 ?_
 refine alS 7 fun _=> ?_
 refine w3 ?_
 cases b:(decide ((k:Int)<(cube.size:Int)))
 have d:=ab b
 refine w7 ?_
 refine fqB o ?_
 exact Qpj i (by omega)
 have d:=aa b
 refine w4 ?_
 obtain ⟨c4,w⟩:=gs cube (((k:Int)).toNat)
 cases a:(!decide (c4=45))
 have e:(c4=45):=QB a
 apply dW (i3 12 _ _ _ (io 15 (lB false)::i9 16 _ _ _ _ _ _ _ _ _ [])) [0,1,0,0,0,0,32,0,224,480,224,0,0]
 refine z3 ?_
 exact zz (fun _ m=>ac (Qz (XW (XV a)) (QW (m.v rfl) (QS 45 rfl) rfl)) rfl)<|y9
 refine w7 ?_
 exact Qc<|lK_ ((Qco i (by first|exact .inl ((QU ‹_›).trans ‹_›)|exact .inr ((QU ‹_›).trans ((‹(_:UInt8)=_›).trans (QU ‹_›).symm)))))<|wo []
 have e:¬(c4=45):=QL a
 obtain ⟨h,x⟩:=gs code (((k:Int)).toNat)
 apply dW (i3 12 _ _ _ (io 15 (lB true)::i9 16 _ _ _ _ _ _ _ _ _ [])) [0,1,0,0,0,0,32,0,224,480,224,0,0]
 refine z3 ?_
 exact zz (fun _ m=>ac (Qz (XW (XV a)) (QW (m.v rfl) (QS 45 rfl) rfl)) rfl)<|y9
 cases f:(!decide (c4=h))
 have g:(c4=h):=QB f
 refine w7 ?_
 exact Qc<|lK_ ((Qco i (by first|exact .inl ((QU ‹_›).trans ‹_›)|exact .inr ((QU ‹_›).trans ((‹(_:UInt8)=_›).trans (QU ‹_›).symm)))))<|wo []
 have g:¬(c4=h):=QL f
 refine w5 ?_
 refine fqB o ?_
 exact Qun (k:=k) (by omega) ‹_› ‹_› ‹_› ‹_›
def Qdd (cube:BA)(code:BA)(f:cube.size≤code.size):FC prog 225 [(false,[dS cube]),(false,[.ptr 0 0])] [bx 0 9 [dS code]] 1 (Is (lB (ZK cube code)) [bx 0 9 [dS code]]):=by
 refine Ql func225 rfl rfl ntmps225 fun h e g a i d b=>w6 ?_
 refine lc (dK (Qdc cube code f) QmV)<|w3 ?_
 exact fi_ [] e ⟨rfl,trivial⟩
def Kt (l:List BA)(code:BA)(r:∀c∈l,c.size≤code.size):FC prog 223 [(false,[.dat Qd l]),(false,[.clo 225 [0]])] [bx 0 9 [dS code]] 1 (Is (lI (Zj (fun c=>ZK c code) l)) [bx 0 9 [dS code]]):=by
 refine Ql func223 rfl rfl ntmps223 fun x g w h y p o=>w6 ?_
 refine alL 6 fun _=> ?_
 refine w4 ?_
 refine lpK l.length (fun k=>NoneTo (fun c=>ZK c code) l k) (fun k=>⟨[(0,lf (.dat Qd l)),(1,lf (.clo 225 [0])),(7,lI (l.length:Int)),(8,lI (k:Int))],[bx 0 9 [dS code]]⟩) (NoneTo.zero) ?_ fun k _ a=> ?_
 exact wo []
 refine w4 ?_
 cases d:(decide ((k:Int)<(l.length:Int)))
 have e:=ab d
 refine w7 ?_
 have i:((-1):Int)=(Zj (fun c=>ZK c code) l):=by
  first|exact (a.no (by omega)).symm
 exact fi_ [] g ⟨rfl,trivial⟩ (h0:=by rw[← i] <;> rfl)
 have e:=aa d
 refine w12 ?_
 obtain ⟨f,b⟩:=gx l k
 refine w2 ?_
 refine lc (Y3 (args0:=[(false,[dS f])]) (caps:=[0]) 1 [(0,0)] (Qdd f code (r _ (ah b))) QmX rfl (Qa rfl) rfl rfl ⟨_,_,rfl,(Qm rfl),rfl⟩ ⟨rfl,trivial⟩ rfl ⟨trivial,trivial⟩ (nlr rfl))<|w_ ?_
 cases q:(ZK f code)
 refine w6 ?_
 exact Qc<|lK_ (a.step b ‹_›)<|wo []
 refine w6 ?_
 have m:((k:Int):Int)=(Zj (fun c=>ZK c code) l):=by
  exact (a.at b ‹_›).symm
 exact fi_ [] g ⟨rfl,trivial⟩ (h0:=by rw[m] <;> rfl)
def Uf (l:List BA)(code:BA)(g:∀c∈l,c.size≤code.size):FC prog 142 [(false,[.dat Qd l]),(false,[.clo 225 [0]])] [bx 0 9 [dS code]] 1 (Is (lB (l.any (fun c=>ZK c code))) [bx 0 9 [dS code]]):=by
 refine Ql func142 rfl rfl ntmps142 fun i f h a m e d=>w6 ?_
 refine lc (dP 1 [] (Kt l code g) QfM)<|w4 ?_
 have b:(decide (0≤(Zj (fun c=>ZK c code) l)):Bool)=(l.any (fun c=>ZK c code)):=by
  exact WI _ _
 exact fi_ [] f ⟨rfl,trivial⟩ (h0:=by rw[b] <;> rfl)
def Qf8 (l:List BA)(code:BA)(f:∀c∈l,c.size≤code.size):FC prog 150 [(false,[.dat Qd l]),(false,[dS code])] [] 0 (QJ (lB (l.any (fun c=>ZK c code)))):=by
 refine Ql func150 rfl rfl ntmps150 fun h e g a i d b=>w_ ?_
 refine xbx 0 ?_
 refine w4 ?_
 refine lc (Ys ⟨_,_,rfl,(Qa rfl),rfl,rfl⟩ rfl)<|lc (dP 1 [] (Uf l code f) QfD)<|w3 ?_
 exact fe_ e
def QaP (l:List BA)(code:BA)(p:∀c∈l,c.size≤code.size):FC prog 155 [(false,[.dat Qd l]),(false,[dS code])] [] 0 (QJ (lB (l.any (fun c=>ZK c code)))):=by
 refine Ql func155 rfl rfl ntmps155 fun r f q h w m i=>w6 ?_
 refine alL 7 fun _=> ?_
 refine w4 ?_
 refine lpK l.length (fun k=>NoneTo (fun c=>ZK c code) l k) (fun k=>⟨[(1,lf (dS code)),(7,lf (.dat Qd l)),(8,lI (l.length:Int)),(9,lI (k:Int))],[]⟩) (NoneTo.zero) ?_ fun k _ e=> ?_
 exact wo []
 refine w4 ?_
 cases b:(decide ((k:Int)<(l.length:Int)))
 have d:=ab b
 refine w7 ?_
 refine fqB f ?_
 first|exact (e.any_no (by omega)).symm
 have d:=aa b
 refine w5 ?_
 obtain ⟨g,a⟩:=gx l k
 refine w7 ?_
 refine lc (dK (YA g code (p _ (ah a))) Wo)<|w_ ?_
 cases o:(ZK g code)
 refine w6 ?_
 exact Qc<|lK_ (e.step a ‹_›)<|wo []
 refine w5 ?_
 refine fqB f ?_
 exact (bG.2 ⟨_,ah a,by assumption⟩).symm
def cdF (c:BA):List BA:=[c++⟨#[48]⟩,c++⟨#[49]⟩]
def Qfu:Nat→List BA
 | 0=>[⟨#[]⟩]
 | n+1=>(Qfu n).flatMap cdF
open Classical in
noncomputable def unrV (c:DSg):List BA:=if SgOk c then (Qfu c.1.length).filter fun x=> !(c.2.1.any fun y=>decide (x=y)) else []
def QGK (l:List BA)(n:Nat):List Int:=((List.range n).map fun i:Nat=>(i:Int)).filter fun i=>l.any fun c=> !decide (bAt c i=45)
section
variable {n k j:Nat}{c x:BA}{l:List BA}
end
def QHy (c:DSg)(k:Nat):List BA:=((Qfu ((c.1.length:Nat):Int).toNat).take k).filter fun x=> !(UK c.2.1 x)
section
variable {α:Type}[DecidableEq α]{l zs:List α}{m i j:Int}{x y:α}
end
def n0 (l:List BA):Nat:=((l[0]?).getD ByteArray.empty).size
def Qy9 (l:List BA):Prop:=0<l.length∧ZZ (n0 l:Int) l
instance (l:List BA):Decidable (Qy9 l):=inferInstanceAs (Decidable (_∧_))
def QHu (l:List BA)(i:Int):Bool:=l.any fun c=> !decide (bAt c i=45)
def QHv (l:List BA):List Int:=if Qy9 l then QGK l (n0 l) else []
section
variable {l:List BA}{c:BA}{k:Nat}{i n:Int}{u:UInt8}
end
def Kf (n:Int)(l:List BA):Prop:=(∀c∈l,Q7 c n)∧l.Pairwise fun x y=>ltB x y=true
instance (n:Int) (l:List BA):Decidable (Kf n l):=inferInstanceAs (Decidable (_∧_))
def OOk (n:Int)(on off:List BA):Prop:=(1≤n∧n≤8)∧(Kf n on∧(on.length:Int)≤64)∧(Kf n off∧(off.length:Int)≤256)∧(on.any fun c=>off.any fun y=>decide (c=y))=false
instance (n:Int) (on off:List BA):Decidable (OOk n on off):=inferInstanceAs (Decidable (_∧_))
def QlG (n:Int)(l:List BA)(j:Nat):Prop:=(∀c,l[j]? =some c→Q7 c n)∧∀b c,0<j→l[j - 1]? =some b→l[j]? =some c→ltB b c=true
section
variable {n:Int}{l a b on off:List BA}{c x y:BA}{k j:Nat}
def QwX (h:∀j,j<k→QlG n l j)(r:l.length≤k):Kf n l:=by
 refine ⟨fun c p=> ?_,?_⟩
 ·obtain ⟨j,f⟩:=aG.1 p
  exact (h j (ba (ae.1 f).1 r)).1 c f
 ·rw[List.pairwise_iff_getElem]
  have m:∀d i (g:i<l.length) (f:i+d+1<l.length),ltB l[i] l[i+d+1]=true:=fun d=>by
   induction d with
   | zero=>intro i g f;exact (h (i+1) (by omega)).2 _ _ (by omega) (by rw[Nat.add_sub_cancel];exact ak g) (ak f)
   | succ d s=>
    intro i g f
    have o:=s i g (by omega)
    exact W9.tr _ _ _ o ((h (i+(d+1)+1) (by omega)).2 _ _ (by omega) (by rw[Nat.add_sub_cancel];exact ak (by omega)) (ak f))
  intro i j g f q
  have:=m (j - i - 1) i g (by omega)
  have e:i+(j - i - 1)+1=j:=by omega
  simpa only[e] using this
def QwY (d:l[k]? =some c)(h:¬Q7 c n):¬Kf n l:=fun g=>h (g.1 c (ah d))
def QwZ (o:(0:Int)<(k:Int))(hb:l[((k:Int) - 1).toNat]? =some x)(m:l[k]? =some y)(h:Op.bytesLess x.toList y.toList=false):¬Kf n l:=fun g=>by
 obtain ⟨f,d⟩:=ae.1 hb
 obtain ⟨i,e⟩:=ae.1 m
 have:=List.pairwise_iff_getElem.1 g.2 _ _ f i (by omega)
 rw[d,e] at this
 unfold ltB at this
 rw[this] at h;cases h
def Qkv (d:∀j,j<k→QlG n l j)(h:QlG n l k):∀j,j<k+1→QlG n l j:=fun j f=>by
 by_cases e:j=k
 ·subst e;exact h
 ·exact d j (by omega)
def QoO (g:l[k]? =some c)(h:Q7 c n)(i:¬(0:Int)<(k:Int)):QlG n l k:=⟨fun d e=>by rw[g] at e;cases e;exact h,fun _ _ f=>absurd f (by omega)⟩
def QoP (i:l[k]? =some y)(h:Q7 y n)(o:(0:Int)<(k:Int))(hb:l[((k:Int) - 1).toNat]? =some x)(m:Op.bytesLess x.toList y.toList=true):QlG n l k:=⟨fun d g=>by rw[i] at g;cases g;exact h,fun b d _ e f=>by
 rw[show ((k:Int) - 1).toNat=k - 1 by omega] at hb
 rw[hb] at e;rw[i] at f;cases e;cases f
 exact m⟩
def QDY (h:¬(1≤n∧n≤8)):false=decide (OOk n on off):=(aj fun g=>h g.1).symm
def Qzw (h:¬(Kf n on∧(on.length:Int)≤64)):false=decide (OOk n on off):=(aj fun g=>h g.2.1).symm
def Qzx (h:¬(Kf n off∧(off.length:Int)≤256)):false=decide (OOk n on off):=(aj fun g=>h g.2.2.1).symm
def QBj (d:on[k]? =some c)(h:UK off c=true):false=decide (OOk n on off):=(aj fun g=>by
 have:=g.2.2.2
 rw[bV] at this
 exact this c (ah d) h).symm
def QBh (d:1≤n∧n≤8)(e:Kf n on)(f:¬(64:Int)<(on.length:Int))(g:Kf n off)(h:¬(256:Int)<(off.length:Int))(m:NoneTo (fun c=>UK off c) on k)(i:on.length≤k):true=decide (OOk n on off):=(ay ⟨d,⟨e,by omega⟩,⟨g,by omega⟩,m.any_no i⟩).symm
end
def KB (n:Int)(l:List BA):FC prog 307 [(false,[dI n]),(false,[.dat Qd l])] [] 0 (QJ (lB (decide (Kf n l)))):=by
 refine Ql func307 rfl rfl ntmps307 fun B o z t C v u=>w6 ?_
 refine alL 7 fun _=> ?_
 refine w4 ?_
 refine lpK l.length (fun k=>∀j,j<k→QlG n l j) (fun k=>⟨[(0,lI n),(1,lf (.dat Qd l)),(7,lf (.dat Qd l)),(8,lI (l.length:Int)),(9,lI (k:Int))],[]⟩) ((fun j w=>absurd w (aS j))) ?_ fun k _ p=> ?_
 exact wo []
 refine w4 ?_
 cases e:(decide ((k:Int)<(l.length:Int)))
 have f:=ab e
 refine w7 ?_
 refine fqB o ?_
 exact (ay (QwX p (by omega))).symm
 have f:=aa e
 refine w6 ?_
 obtain ⟨q,d⟩:=gx l k
 refine w8 ?_
 refine lc (dK (HG q n) Qfz)<|w2 ?_
 cases g:(decide (Q7 q n))
 have h:=ab g
 refine w3 ?_
 iterate 7 refine Qf rfl rfl rfl ?_ rfl
 refine w8 ?_
 refine fqB o ?_
 exact (aj (QwY d ‹_›)).symm
 have h:=aa g
 refine w3 ?_
 cases i:(decide (0<(k:Int)))
 have m:=ab i
 refine w16 ?_
 exact Qc<|lK_ ((Qkv p (by first|exact QoP d ‹_› ‹_› ‹_› ‹_› | exact QoO d ‹_› ‹_›)))<|wo []
 have m:=aa i
 refine w3 ?_
 obtain ⟨A,s⟩:=gx l (((k:Int) - 1).toNat)
 refine w3 ?_
 refine lgy rfl rfl (Qqw (Qa rfl) (Qa rfl) rfl)<|w3 ?_
 cases r:(Op.bytesLess A.toList q.toList)
 refine w5 ?_
 refine fqB o ?_
 exact (aj (QwZ ‹_› ‹_› ‹_› ‹_›)).symm
 refine w6 ?_
 exact Qc<|lK_ ((Qkv p (by first|exact QoP d ‹_› ‹_› ‹_› ‹_› | exact QoO d ‹_› ‹_›)))<|wo []
def JH (n:Int)(on:List BA)(off:List BA):FC prog 265 [(false,[dI n]),(false,[.dat Qd on]),(false,[.dat Qd off])] [] 0 (QJ (lB (decide (OOk n on off)))):=by
 refine Ql func265 rfl rfl ntmps265 fun F f E B G D C=>w6 ?_
 refine lc (dK (ZD n 1 8) Yj)<|w2 ?_
 cases i:(decide (1≤n∧n≤8))
 have m:=ab i
 refine w16 ?_
 refine w11 ?_
 refine fqB f ?_
 exact QDY ‹_›
 have m:=aa i
 refine w_ ?_
 refine alL 13 fun _=> ?_
 refine w4 ?_
 cases o:(decide (64<(on.length:Int)))
 have p:=ab o
 refine w_ ?_
 refine alL 18 fun _=> ?_
 refine w4 ?_
 cases q:(decide (256<(off.length:Int)))
 have r:=ab q
 refine w2 ?_
 refine lgy rfl rfl (dK (KB n on) QfY)<|w3 ?_
 cases s:(decide (Kf n on))
 have t:=ab s
 refine w11 ?_
 refine fqB f ?_
 exact Qzw (fun g=>absurd g.1 ‹_›)
 have t:=aa s
 refine w2 ?_
 refine lgy rfl rfl (dK (KB n off) QfY)<|w3 ?_
 cases u:(decide (Kf n off))
 have v:=ab u
 refine w5 ?_
 refine fqB f ?_
 exact Qzx (fun g=>absurd g.1 ‹_›)
 have v:=aa u
 refine w9 ?_
 refine lpK on.length (fun k=>NoneTo (fun c=>UK off c) on k) (fun k=>⟨[(2,lf (.dat Qd off)),(34,lf (.dat Qd on)),(35,lI (on.length:Int)),(36,lI (k:Int))],[]⟩) (NoneTo.zero) ?_ fun k _ w=> ?_
 exact wo []
 refine w4 ?_
 cases d:(decide ((k:Int)<(on.length:Int)))
 have h:=ab d
 refine w7 ?_
 refine fqB f ?_
 exact QBh ‹_› ‹_› (by omega) ‹_› (by omega) w (by omega)
 have h:=aa d
 refine w5 ?_
 obtain ⟨z,e⟩:=gx on k
 refine w7 ?_
 refine lc (dK (HE off z) QfZ)<|w_ ?_
 cases A:(UK off z)
 refine w6 ?_
 exact Qc<|lK_ (w.step e ‹_›)<|wo []
 refine w5 ?_
 refine fqB f ?_
 exact QBj e ‹_›
 have r:=aa q
 refine w16 ?_
 refine w_ ?_
 refine fqB f ?_
 exact Qzx (fun g=>by have:=g.2;omega)
 have p:=aa o
 refine w16 ?_
 refine w6 ?_
 refine fqB f ?_
 exact Qzw (fun g=>by have:=g.2;omega)
abbrev DOn:=List BA×List BA
def nsB (c:DSg)(sig k:Int):Bool:= !(decide (bAt (ZP c k) sig=49)==Zq c k sig)
def pkF (c:DSg)(f:Int→Bool)(i:Nat):Option BA:=if f (i:Int)=true then some (cdA c i) else none
def pkL (c:DSg)(f:Int→Bool)(k:Nat):List BA:=rg (pkF c f) k
def QyA (c:DSg)(f g:Int→Bool):DOn:=(ofG ltB (pkL c f c.2.1.length),ofG ltB (pkL c g c.2.1.length))
def QsR (c:DSg)(f g:Int→Bool):Prop:=OOk (c.1.length:Int) (QyA c f g).1 (QyA c f g).2
instance (c:DSg) (f g:Int→Bool):Decidable (QsR c f g):=inferInstanceAs (Decidable (OOk _ _ _))
def QHs (c:DSg)(f g:Int→Bool):DOn:=if QsR c f g then QyA c f g else ([],[])
section
variable {c:DSg}{f g:Int→Bool}{k j:Nat}{w x:BA}{u:UInt8}{sig q:Int}{l:List BA}
def Ql3 (h:c.2.1[k]? =some w):cdA c k=w:=by unfold cdA;rw[h];rfl
def QGr (h:c.2.1[k]? =some w)(a:f (k:Int)=true):pkL c f k++[w]=pkL c f (k+1):=rgN (by unfold pkF;rw[if_pos a,Ql3 h])
def QGq (a:f (k:Int)=false):pkL c f k=pkL c f (k+1):=Yg (by unfold pkF;rw[if_neg (by rw[a];decide)])
def QBo:(pkL c f k).length≤k:=Jv
end
end Go.Proofs.YtjfpbcmfbnnooaaGreat
