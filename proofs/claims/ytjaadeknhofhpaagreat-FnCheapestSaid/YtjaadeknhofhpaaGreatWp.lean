/- Walks over abstract states: the values of a signal, the reference. -/
import Derived.Test.YtjaadeknhofhpaaGreatWn
set_option linter.unusedSimpArgs false
set_option linter.unusedVariables false
set_option linter.unusedSectionVars false
namespace Go.Proofs.YtjaadeknhofhpaaGreat
open Go.RowKit
set_option maxRecDepth 100000
set_option maxHeartbeats 4000000
section
variable {sig:Int}{us us':List UInt8}{arcs:List DAr}{f k n:Nat}{cf ct b1 b2:UInt8}{mv:DMv}{lb:Zy}{ls:List Zy}{ms:List DMv}
theorem QqN (ls:List Zy)(ms:List DMv):(QW ls ms).length=ms.length:=by simp[QW]
theorem Yc (hx:ms[k]? =some mv)(hla:QeW ls mv.2.1=lb):(QW ls ms)[k]? =some (mv.1,lb.1,lb.2,mv.2.2):=by
  unfold QW
  rw[b6,hx]
  simp[QlB,hla]
def ar4 (mv:DMv)(lb:Zy):DAr:=(mv.1,lb.1,lb.2,mv.2.2)
theorem Wg (hl:¬lb.1=sig)(hf:us[mv.1.toNat]? =some cf)(hq:decide (cf=63)=true)(ht:us[mv.2.2.toNat]? =some ct):YO sig (mv.1,lb.1,lb.2,mv.2.2) us=some ((us.set mv.1.toNat ct).set mv.2.2.toNat ct):=by
  unfold YO
  simp only
  rw[if_neg hl,Yr hf,Yr ht,if_pos (a7 hq)]
theorem Wh (hl:¬lb.1=sig)(hf:us[mv.1.toNat]? =some cf)(hq:decide (cf=63)=false)(ht:us[mv.2.2.toNat]? =some ct)(h2:ct=63∨ct=cf):YO sig (mv.1,lb.1,lb.2,mv.2.2) us=some ((us.set mv.1.toNat cf).set mv.2.2.toNat cf):=by
  unfold YO
  simp only
  rw[if_neg hl,Yr hf,Yr ht,if_neg (a6 hq),if_neg]
  rintro ⟨h3,h4⟩
  rcases h2 with h | h
  · exact h3 h
  · exact h4 h
theorem X8 (hl:¬lb.1=sig)(hf:us[mv.1.toNat]? =some cf)(hq:decide (cf=63)=false)(ht:us[mv.2.2.toNat]? =some ct)(h1:¬ct=63)(h2:¬ct=cf):YO sig (mv.1,lb.1,lb.2,mv.2.2) us=none:=by
  unfold YO
  simp only
  rw[if_neg hl,Yr hf,Yr ht,if_neg (a6 hq),if_pos ⟨h1,h2⟩]
theorem Qdb {b:Bool}{c:UInt8}(h:(Y8 b)[((0:Int)).toNat]? =some c):(if b=true then 49 else 48)=c:=by
  have:(Y8 b)[((0:Int)).toNat]? =some (if b=true then 49 else 48):=by cases b <;> rfl
  rw[this] at h
  exact cu h
theorem Wj (hl:lb.1=sig)(h1:(Y8 (!lb.2))[((0:Int)).toNat]? =some b1)(h2:(Y8 lb.2)[((0:Int)).toNat]? =some b2)(hf:cf=63∨cf=b1)(ht:ct=63∨ct=b2)(hcf:us[mv.1.toNat]? =some cf)(hct:us[mv.2.2.toNat]? =some ct):
    YO sig (mv.1,lb.1,lb.2,mv.2.2) us=some ((us.set mv.1.toNat b1).set mv.2.2.toNat b2):=by
  unfold YO
  simp only
  rw[if_pos hl,Qdb h1,Qdb h2,Yr hcf,Yr hct,if_neg]
  rintro (⟨h3,h4⟩ | ⟨h3,h4⟩)
  · rcases hf with h | h
    · exact h3 h
    · exact h4 h
  · rcases ht with h | h
    · exact h3 h
    · exact h4 h
theorem Xt (hl:lb.1=sig)(h1:(Y8 (!lb.2))[((0:Int)).toNat]? =some b1)(hcf:us[mv.1.toNat]? =some cf)(h3:¬cf=63)(h4:¬cf=b1):YO sig (mv.1,lb.1,lb.2,mv.2.2) us=none:=by
  unfold YO
  simp only
  rw[if_pos hl,Qdb h1,Yr hcf,if_pos (.inl ⟨h3,h4⟩)]
theorem Xm (hl:lb.1=sig)(h1:(Y8 lb.2)[((0:Int)).toNat]? =some b2)(hct:us[mv.2.2.toNat]? =some ct)(h3:¬ct=63)(h4:¬ct=b2):YO sig (mv.1,lb.1,lb.2,mv.2.2) us=none:=by
  unfold YO
  simp only
  rw[if_pos hl,Qdb h1,Yr hct,if_pos (.inr ⟨h3,h4⟩)]
def Hv (n k:Nat):List UInt8:=List.replicate k 63++List.replicate (n - k) 0
theorem QfI (n k:Nat)(h:k≤n):(Hv n k).length=n:=by simp[Hv]; omega
theorem QnV (h:n≤k)(h2:k≤n):Hv n k=List.replicate n 63:=by
  obtain rfl:k=n:=by omega
  simp[Hv]
theorem QoA (h:k < n):(Hv n k).set k 63=Hv n (k+1):=by
  unfold Hv
  rw[List.set_append_right _ _ (by simp),ay,Nat.sub_self,show n - k=(n - (k+1))+1 by omega,List.replicate_succ,List.set_cons_zero,List.replicate_succ']
  simp
def Wz (n:Nat)(arcs:List DAr):Nat→List Int
  | 0=>[]
  | k+1=>Wz n arcs k++(if (l5V n arcs (k:Int)).2=true then [] else [(k:Int)])
theorem Qoh (n:Nat)(arcs:List DAr)(k:Nat):(Wz n arcs k).length≤k:=by
  induction k with
  | zero=>simp[Wz]
  | succ k ih=>simp only[Wz,aa]; split <;> simp <;> omega
theorem Qgl (h:(l5V n arcs (k:Int)).2=true):Wz n arcs k=Wz n arcs (k+1):=by simp[Wz,h]
theorem QhF (h:(l5V n arcs (k:Int)).2=false):Wz n arcs k++[(k:Int)]=Wz n arcs (k+1):=by simp[Wz,h]
end
def MvOk (n m:Nat)(v:DMv):Prop:=(0≤v.1∧v.1 < (n:Int))∧(0≤v.2.1∧v.2.1 < (m:Int))∧0≤v.2.2∧v.2.2 < (n:Int)
theorem XQ (up:Bool):FC Tryz.prog 272 [(false,[dB up])] [] 0 (Zk (lf (dS (Y8 up)))):=by
 refine Qy Tryz.func272 rfl rfl Tryz.ntmps272 fun O_ hO w0_ N0_ X_ h0_ f0_=> ?_
 iterate 7 refine w_ ?_
 cases hb1:(up)
 iterate 6 refine w_ ?_
 subst hO
 have e2:((⟨#[48]⟩:ByteArray):ByteArray)=(Y8 up):=by
  simp[Y8, *]
 exact Qe (Res.one rfl (Qb rfl)) (by rw[e2] <;> rfl) rfl
 iterate 5 refine w_ ?_
 subst hO
 have e3:((⟨#[49]⟩:ByteArray):ByteArray)=(Y8 up):=by
  simp[Y8, *]
 exact Qe (Res.one rfl (Qb rfl)) (by rw[e3] <;> rfl) rfl
theorem UO (s:(Int×(List (List Int×List Int)))×(List (ByteArray×Int))×(List (Int×Bool))×ByteArray)(r:List ByteArray×(List (Int×Int×Int)))(sig:Int)(hm:∀m∈r.2,MvOk r.1.length s.2.2.1.length m)(hl1:r.1.length≤1000000):FC Tryz.prog 208 [(true,[dI s.1.1, .dat X3 s.1.2, .dat Qo s.2.1, .dat YQ s.2.2.1,dS s.2.2.2]),(true,[.dat Qr r.1, .dat Qcn r.2]),(false,[dI sig])] [] 0 (Zk (PV.tup [(false,[dS ((l5V r.1.length (QW s.2.2.1 r.2) sig).1)]),(false,[dB ((l5V r.1.length (QW s.2.2.1 r.2) sig).2)])])):=by
 have hrl:(List.replicate r.1.length (Ty.zero .u8)).length=r.1.length:=ay ..
 refine Qy Tryz.func208 rfl rfl Tryz.ntmps208 fun O_ hO w0_ N0_ X_ h0_ f0_=> ?_
 refine AC.fact (QH (x:= .tmp 0) (i:=0) (Qf rfl) rfl) fun hi1=>AC.fact (Ql (x:= .tmp 2) (Qa rfl)) fun hi2=> ?_
 refine w_ ?_
 refine xbx 0 ?_
 refine xbx 1 ?_
 iterate 6 refine w_ ?_
 refine AL.fact (Qp (x:= .tmp 18) (Qa rfl)) fun hl3=> ?_
 refine w_ ?_
 refine lc (Wd 2 (e:= .u8) (n:=r.1.length) (Qa rfl) (Qa rfl) ZF QsA rfl (by omega) (by omega) rfl (Fresh.of rfl) (nlr rfl)) ?_
 iterate 9 refine w_ ?_
 refine Qm (fun m_ s_=>∃(k:Nat),k≤r.1.length∧m_=r.1.length - k∧s_=⟨[(2,lI sig),(3,lP 0 0),(4,lP 1 0),(6,lf (dS (⟨#[]⟩:ByteArray))),(7,lB false),(8,lR 3),(22,lI ((List.replicate r.1.length (Ty.zero .u8)).length:Int)),(23,lI (k:Int))],[(0,some (.box 29 [dI s.1.1, .dat X3 s.1.2, .dat Qo s.2.1, .dat YQ s.2.2.1,dS s.2.2.2])),(1,some (.box 164 [.dat Qr r.1, .dat Qcn r.2])),(3,some (.arr 5 .u8 (Hv r.1.length k)))]⟩) ⟨0,ap _,rfl,rfl⟩ ?_ ?_
 exact wp [(3,2)] ⟨rfl,rfl,(Qh (rfl)),trivial⟩
 rintro m_ s_ ⟨k,hk4,hm5,rfl⟩
 have hfq:=QfI r.1.length k (by omega)
 iterate 4 refine w_ ?_
 cases hb6:(decide ((k:Int) < ((List.replicate r.1.length (Ty.zero .u8)).length:Int)))
 have hb6':=a6 hb6
 iterate 8 refine w_ ?_
 refine Qm (fun m_ s_=>∃(p:Nat) (us:List UInt8),p≤(r.1.length+1)∧m_=(r.1.length+1) - p∧(WH sig (QW s.2.2.1 r.2) (r.1.length+1) (List.replicate r.1.length 63)=WH sig (QW s.2.2.1 r.2) (r.1.length+1 - p) us)∧(us.length=r.1.length)∧s_=⟨[(2,lI sig),(3,lP 0 0),(4,lP 1 0),(8,lR 4),(10,lI (p:Int))],[(0,some (.box 29 [dI s.1.1, .dat X3 s.1.2, .dat Qo s.2.1, .dat YQ s.2.2.1,dS s.2.2.2])),(1,some (.box 164 [.dat Qr r.1, .dat Qcn r.2])),(4,some (.arr 5 .u8 us))]⟩) ⟨0,Hv r.1.length k,ap _,rfl,(by rw[QnV (by omega) (by omega)]; rfl),(QfI _ _ (by omega)),rfl⟩ ?_ ?_
 exact wp [(4,3)] ⟨rfl,rfl,(Qh (by first | rfl | simp)),trivial⟩
 rintro m_ s_ ⟨p,us,hk7,hm8,hA,hL,rfl⟩
 iterate 5 refine w_ ?_
 refine AL.fact (Qp (x:= .tmp 32) (Qa rfl)) fun hl9=> ?_
 iterate 3 refine w_ ?_
 cases hb10:(decide ((p:Int)≤(r.1.length:Int)))
 have hb10':=a6 hb10
 iterate 5 refine w_ ?_
 refine lc (Zt (ys:=us) (YS (Qa rfl) rfl) ZF Ve Zo rfl) ?_
 iterate 4 refine w_ ?_
 subst hO
 have e11:((⟨(us).toArray⟩:ByteArray):ByteArray)=((l5V r.1.length (QW s.2.2.1 r.2) sig).1):=by
  first | (rw[QgN (us:=us) (by rw[hA,show r.1.length+1 - p=0 by omega]; rfl)]; done)
 have e12:(true:Bool)=((l5V r.1.length (QW s.2.2.1 r.2) sig).2):=by
  first | (rw[QgN (us:=us) (by rw[hA,show r.1.length+1 - p=0 by omega]; rfl)]; done)
 exact Qe (QM rfl (Qb rfl) (Qb rfl)) (by rw[e11,← e12] <;> rfl) rfl
 have hb10':=a7 hb10
 iterate 7 refine w_ ?_
 refine AL.fact (Qp (x:= .tmp 38) (Qa rfl)) fun hl13=> ?_
 iterate 4 refine w_ ?_
 refine Qm (fun m_ s_=>∃(i:Nat) (us2:List UInt8),i≤r.2.length∧m_=r.2.length - i∧(WH sig (QW s.2.2.1 r.2) (r.1.length+1) (List.replicate r.1.length 63)=Hr sig (QW s.2.2.1 r.2) (r.1.length - p) (Xo sig ((QW s.2.2.1 r.2).drop i) us2))∧(us2.length=r.1.length)∧s_=⟨[(2,lI sig),(3,lP 0 0),(4,lP 1 0),(8,lR 5),(10,lI (p:Int)),(30,lI (p:Int)),(31,lP 1 0),(32,lf (.dat Qr r.1)),(33,lI (r.1.length:Int)),(34,lB true),(37,lP 1 1),(38,lf (.dat Qcn r.2)),(39,lI (r.2.length:Int)),(40,lI (i:Int))],[(0,some (.box 29 [dI s.1.1, .dat X3 s.1.2, .dat Qo s.2.1, .dat YQ s.2.2.1,dS s.2.2.2])),(1,some (.box 164 [.dat Qr r.1, .dat Qcn r.2])),(5,some (.arr 5 .u8 us2))]⟩) ⟨0,us,ap _,rfl,(by rw[hA,show r.1.length+1 - p=(r.1.length - p)+1 by omega]; exact Qo1 _ _),hL,rfl⟩ ?_ ?_
 exact wo [(5,4)]
 rintro m_ s_ ⟨i,us2,hk14,hm15,hA2,hL2,rfl⟩
 iterate 4 refine w_ ?_
 cases hb16:(decide ((i:Int) < (r.2.length:Int)))
 have hb16':=a6 hb16
 iterate 7 refine w_ ?_
 refine Qc<|QE ⟨p+1,us2,by omega,rfl,(by rw[hA2,Qnj (by rw[QqN]; omega),show r.1.length+1 - (p+1)=r.1.length - p by omega]; rfl),hL2,rfl⟩ (by omega) ?_
 exact wo [(4,5)]
 have hb16':=a7 hb16
 iterate 5 refine w_ ?_
 obtain ⟨mv,hx18⟩:=gx r.2 i
 obtain ⟨⟨hm1,hm2⟩,⟨hm3,hm4⟩,hm5,hm6⟩:=hm _ (a8 hx18)
 iterate 2 refine w_ ?_
 refine lc (xal 6 Wi Ki) ?_
 iterate 7 refine w_ ?_
 refine AL.fact (Ql (x:= .tmp 47) (Qa rfl)) fun hi19=> ?_
 obtain ⟨lb,hx21⟩:=gx s.2.2.1 ((mv.2.1).toNat)
 have hla:=QgO hx21
 iterate 2 refine w_ ?_
 refine lc (xal 7 Qw Ys) ?_
 iterate 6 refine w_ ?_
 refine AL.fact (Ql (x:= .tmp 51) (Qa rfl)) fun hi22=> ?_
 iterate 3 refine w_ ?_
 cases hb23:(!decide (lb.1=sig))
 have hb23':(lb.1=sig):=QT hb23
 iterate 2 refine w_ ?_
 obtain ⟨c24,hc25⟩:∃z,(Y8 (!lb.2))[(0:Int).toNat]? =some z:=by first | exact ⟨_,d8 _ _ (by omega)⟩ | exact ⟨_,rfl⟩
 obtain ⟨c26,hc27⟩:∃z,(Y8 lb.2)[(0:Int).toNat]? =some z:=by first | exact ⟨_,d8 _ _ (by omega)⟩ | exact ⟨_,rfl⟩
 apply dW [io 95 _,io 96 _,io 97 _,io 98 (lf (dS (Y8 (!lb.2)))),io 99 _,io 100 _,io 101 _,io 102 (lf (dS (Y8 lb.2))),io 103 _,io 15 _,io 16 _] [0,0,0,0,0,31,31,16,16,256,0]
 iterate 3 refine z_ ?_
 refine zz (fun _ h_=>ac (dK (XQ (!lb.2)) VQ) rfl) ?_
 iterate 3 refine z_ ?_
 refine zz (fun _ h_=>ac (dK (XQ lb.2) VQ) rfl) ?_
 iterate 3 refine z_ ?_
 exact zN
 iterate 5 refine w_ ?_
 refine AL.fact (Ql (x:= .tmp 106) (Qa rfl)) fun hi28=> ?_
 refine w_ ?_
 obtain ⟨cf,hx30⟩:=gx us2 ((mv.1).toNat)
 refine w_ ?_
 refine lc (Q7 (Qa rfl) (QB 63 rfl) rfl) ?_
 refine w_ ?_
 cases hb31:(!decide (cf=63))
 have hb31':(cf=63):=QT hb31
 iterate 13 refine w_ ?_
 obtain ⟨ct,hx33⟩:=gx us2 ((mv.2.2).toNat)
 refine w_ ?_
 refine lgy rfl rfl (Q7 (Qa rfl) (QB 63 rfl) rfl) ?_
 refine w_ ?_
 cases hb34:(!decide (ct=63))
 have hb34':(ct=63):=QT hb34
 iterate 18 refine w_ ?_
 refine lc (QG (e:= .u8) (z':=c24) (Qa rfl) rfl hx30 rfl (Qf rfl) rfl Zi rfl rfl) ?_
 iterate 5 refine w_ ?_
 refine AL.fact (Ql (x:= .tmp 143) (Qa rfl)) fun hi35=> ?_
 iterate 2 refine w_ ?_
 obtain ⟨x36,hx37⟩:∃z,(us2.set ((mv.1).toNat) c24)[(mv.2.2).toNat]? =some z:=⟨_,ai (by first | omega | (simp only[au]; omega))⟩
 refine lc (QG (e:= .u8) (z':=c26) (Qa rfl) rfl hx37 rfl (Qf rfl) rfl Zi rfl rfl)<|Qc ?_
 iterate 4 refine w_ ?_
 refine Qc<|QE ⟨i+1,((us2.set ((mv.1).toNat) c24).set ((mv.2.2).toNat) c26),by omega,rfl,hA2.trans (congrArg (Hr sig (QW s.2.2.1 r.2) (r.1.length - p)) (Vc (Yc hx18 hla) (by first | exact Wg (cf:=cf) (ct:=ct) ‹_› ‹_› ‹_› ‹_› | exact Wh (cf:=cf) (ct:=ct) ‹_› ‹_› ‹_› ‹_› (by first | exact .inl ‹_› | exact .inr ‹_›) | exact Wj (cf:=cf) (ct:=ct) ‹_› ‹_› ‹_› (by first | exact .inl ‹_› | exact .inr ‹_›) (by first | exact .inl ‹_› | exact .inr ‹_›) ‹_› ‹_›))),(by simp only[au]; exact hL2),rfl⟩ (by omega) ?_
 exact wp [] ⟨rfl,rfl,(Qh (by first | rfl | simp)),trivial⟩
 have hb34':¬(ct=63):=Q0 hb34
 iterate 10 refine w_ ?_
 cases hb38:(!decide (ct=c26))
 have hb38':(ct=c26):=QT hb38
 iterate 8 refine w_ ?_
 refine lc (QG (e:= .u8) (z':=c24) (Qa rfl) rfl hx30 rfl (Qf rfl) rfl Zi rfl rfl) ?_
 iterate 5 refine w_ ?_
 refine AL.fact (Ql (x:= .tmp 143) (Qa rfl)) fun hi39=> ?_
 iterate 2 refine w_ ?_
 obtain ⟨x40,hx41⟩:∃z,(us2.set ((mv.1).toNat) c24)[(mv.2.2).toNat]? =some z:=⟨_,ai (by first | omega | (simp only[au]; omega))⟩
 refine lc (QG (e:= .u8) (z':=c26) (Qa rfl) rfl hx41 rfl (Qf rfl) rfl Zi rfl rfl)<|Qc ?_
 iterate 4 refine w_ ?_
 refine Qc<|QE ⟨i+1,((us2.set ((mv.1).toNat) c24).set ((mv.2.2).toNat) c26),by omega,rfl,hA2.trans (congrArg (Hr sig (QW s.2.2.1 r.2) (r.1.length - p)) (Vc (Yc hx18 hla) (by first | exact Wg (cf:=cf) (ct:=ct) ‹_› ‹_› ‹_› ‹_› | exact Wh (cf:=cf) (ct:=ct) ‹_› ‹_› ‹_› ‹_› (by first | exact .inl ‹_› | exact .inr ‹_›) | exact Wj (cf:=cf) (ct:=ct) ‹_› ‹_› ‹_› (by first | exact .inl ‹_› | exact .inr ‹_›) (by first | exact .inl ‹_› | exact .inr ‹_›) ‹_› ‹_›))),(by simp only[au]; exact hL2),rfl⟩ (by omega) ?_
 exact wp [] ⟨rfl,rfl,(Qh (by first | rfl | simp)),trivial⟩
 have hb38':¬(ct=c26):=Q0 hb38
 iterate 6 refine w_ ?_
 subst hO
 have e42:((⟨#[]⟩:ByteArray):ByteArray)=((l5V r.1.length (QW s.2.2.1 r.2) sig).1):=by
  (rw[Vr (by rw[hA2,Wb (Yc hx18 hla) (by first | exact X8 (cf:=cf) (ct:=ct) ‹_› ‹_› ‹_› ‹_› ‹_› ‹_› | exact Xt (cf:=cf) ‹_› ‹_› ‹_› ‹_› ‹_› | exact Xm (ct:=ct) ‹_› ‹_› ‹_› ‹_› ‹_›)]; rfl)]; done)
 have e43:(false:Bool)=((l5V r.1.length (QW s.2.2.1 r.2) sig).2):=by
  (rw[Vr (by rw[hA2,Wb (Yc hx18 hla) (by first | exact X8 (cf:=cf) (ct:=ct) ‹_› ‹_› ‹_› ‹_› ‹_› ‹_› | exact Xt (cf:=cf) ‹_› ‹_› ‹_› ‹_› ‹_› | exact Xm (ct:=ct) ‹_› ‹_› ‹_› ‹_› ‹_›)]; rfl)]; done)
 exact Qe (QM rfl (Qb rfl) (Qb rfl)) (by rw[e42,← e43] <;> rfl) rfl
 have hb31':¬(cf=63):=Q0 hb31
 iterate 9 refine w_ ?_
 cases hb44:(!decide (cf=c24))
 have hb44':(cf=c24):=QT hb44
 iterate 4 refine w_ ?_
 obtain ⟨ct,hx46⟩:=gx us2 ((mv.2.2).toNat)
 refine w_ ?_
 refine lgy rfl rfl (Q7 (Qa rfl) (QB 63 rfl) rfl) ?_
 refine w_ ?_
 cases hb47:(!decide (ct=63))
 have hb47':(ct=63):=QT hb47
 iterate 18 refine w_ ?_
 refine lc (QG (e:= .u8) (z':=c24) (Qa rfl) rfl hx30 rfl (Qf rfl) rfl Zi rfl rfl) ?_
 iterate 5 refine w_ ?_
 refine AL.fact (Ql (x:= .tmp 143) (Qa rfl)) fun hi48=> ?_
 iterate 2 refine w_ ?_
 obtain ⟨x49,hx50⟩:∃z,(us2.set ((mv.1).toNat) c24)[(mv.2.2).toNat]? =some z:=⟨_,ai (by first | omega | (simp only[au]; omega))⟩
 refine lc (QG (e:= .u8) (z':=c26) (Qa rfl) rfl hx50 rfl (Qf rfl) rfl Zi rfl rfl)<|Qc ?_
 iterate 4 refine w_ ?_
 refine Qc<|QE ⟨i+1,((us2.set ((mv.1).toNat) c24).set ((mv.2.2).toNat) c26),by omega,rfl,hA2.trans (congrArg (Hr sig (QW s.2.2.1 r.2) (r.1.length - p)) (Vc (Yc hx18 hla) (by first | exact Wg (cf:=cf) (ct:=ct) ‹_› ‹_› ‹_› ‹_› | exact Wh (cf:=cf) (ct:=ct) ‹_› ‹_› ‹_› ‹_› (by first | exact .inl ‹_› | exact .inr ‹_›) | exact Wj (cf:=cf) (ct:=ct) ‹_› ‹_› ‹_› (by first | exact .inl ‹_› | exact .inr ‹_›) (by first | exact .inl ‹_› | exact .inr ‹_›) ‹_› ‹_›))),(by simp only[au]; exact hL2),rfl⟩ (by omega) ?_
 exact wp [] ⟨rfl,rfl,(Qh (by first | rfl | simp)),trivial⟩
 have hb47':¬(ct=63):=Q0 hb47
 iterate 10 refine w_ ?_
 cases hb51:(!decide (ct=c26))
 have hb51':(ct=c26):=QT hb51
 iterate 8 refine w_ ?_
 refine lc (QG (e:= .u8) (z':=c24) (Qa rfl) rfl hx30 rfl (Qf rfl) rfl Zi rfl rfl) ?_
 iterate 5 refine w_ ?_
 refine AL.fact (Ql (x:= .tmp 143) (Qa rfl)) fun hi52=> ?_
 iterate 2 refine w_ ?_
 obtain ⟨x53,hx54⟩:∃z,(us2.set ((mv.1).toNat) c24)[(mv.2.2).toNat]? =some z:=⟨_,ai (by first | omega | (simp only[au]; omega))⟩
 refine lc (QG (e:= .u8) (z':=c26) (Qa rfl) rfl hx54 rfl (Qf rfl) rfl Zi rfl rfl)<|Qc ?_
 iterate 4 refine w_ ?_
 refine Qc<|QE ⟨i+1,((us2.set ((mv.1).toNat) c24).set ((mv.2.2).toNat) c26),by omega,rfl,hA2.trans (congrArg (Hr sig (QW s.2.2.1 r.2) (r.1.length - p)) (Vc (Yc hx18 hla) (by first | exact Wg (cf:=cf) (ct:=ct) ‹_› ‹_› ‹_› ‹_› | exact Wh (cf:=cf) (ct:=ct) ‹_› ‹_› ‹_› ‹_› (by first | exact .inl ‹_› | exact .inr ‹_›) | exact Wj (cf:=cf) (ct:=ct) ‹_› ‹_› ‹_› (by first | exact .inl ‹_› | exact .inr ‹_›) (by first | exact .inl ‹_› | exact .inr ‹_›) ‹_› ‹_›))),(by simp only[au]; exact hL2),rfl⟩ (by omega) ?_
 exact wp [] ⟨rfl,rfl,(Qh (by first | rfl | simp)),trivial⟩
 have hb51':¬(ct=c26):=Q0 hb51
 iterate 6 refine w_ ?_
 subst hO
 have e55:((⟨#[]⟩:ByteArray):ByteArray)=((l5V r.1.length (QW s.2.2.1 r.2) sig).1):=by
  (rw[Vr (by rw[hA2,Wb (Yc hx18 hla) (by first | exact X8 (cf:=cf) (ct:=ct) ‹_› ‹_› ‹_› ‹_› ‹_› ‹_› | exact Xt (cf:=cf) ‹_› ‹_› ‹_› ‹_› ‹_› | exact Xm (ct:=ct) ‹_› ‹_› ‹_› ‹_› ‹_›)]; rfl)]; done)
 have e56:(false:Bool)=((l5V r.1.length (QW s.2.2.1 r.2) sig).2):=by
  (rw[Vr (by rw[hA2,Wb (Yc hx18 hla) (by first | exact X8 (cf:=cf) (ct:=ct) ‹_› ‹_› ‹_› ‹_› ‹_› ‹_› | exact Xt (cf:=cf) ‹_› ‹_› ‹_› ‹_› ‹_› | exact Xm (ct:=ct) ‹_› ‹_› ‹_› ‹_› ‹_›)]; rfl)]; done)
 exact Qe (QM rfl (Qb rfl) (Qb rfl)) (by rw[e55,← e56] <;> rfl) rfl
 have hb44':¬(cf=c24):=Q0 hb44
 iterate 7 refine w_ ?_
 refine Qg rfl rfl rfl ?_ rfl
 refine Qg rfl rfl rfl ?_ rfl
 refine Qg rfl rfl rfl ?_ rfl
 refine Qg rfl rfl rfl ?_ rfl
 refine Qg rfl rfl rfl ?_ rfl
 refine Qg rfl rfl rfl ?_ rfl
 refine Qg rfl rfl rfl ?_ rfl
 iterate 9 refine w_ ?_
 subst hO
 have e57:((⟨#[]⟩:ByteArray):ByteArray)=((l5V r.1.length (QW s.2.2.1 r.2) sig).1):=by
  (rw[Vr (by rw[hA2,Wb (Yc hx18 hla) (by first | exact X8 (cf:=cf) (ct:=ct) ‹_› ‹_› ‹_› ‹_› ‹_› ‹_› | exact Xt (cf:=cf) ‹_› ‹_› ‹_› ‹_› ‹_› | exact Xm (ct:=ct) ‹_› ‹_› ‹_› ‹_› ‹_›)]; rfl)]; done)
 have e58:(false:Bool)=((l5V r.1.length (QW s.2.2.1 r.2) sig).2):=by
  (rw[Vr (by rw[hA2,Wb (Yc hx18 hla) (by first | exact X8 (cf:=cf) (ct:=ct) ‹_› ‹_› ‹_› ‹_› ‹_› ‹_› | exact Xt (cf:=cf) ‹_› ‹_› ‹_› ‹_› ‹_› | exact Xm (ct:=ct) ‹_› ‹_› ‹_› ‹_› ‹_›)]; rfl)]; done)
 exact Qe (QM rfl (Qb rfl) (Qb rfl)) (by rw[e57,← e58] <;> rfl) rfl
 have hb23':¬(lb.1=sig):=Q0 hb23
 iterate 5 refine w_ ?_
 refine AL.fact (Ql (x:= .tmp 56) (Qa rfl)) fun hi59=> ?_
 refine w_ ?_
 obtain ⟨cf,hx61⟩:=gx us2 ((mv.1).toNat)
 iterate 6 refine w_ ?_
 refine lc (Qt (Qa rfl) (QB 63 rfl) rfl) ?_
 refine w_ ?_
 cases hb62:(decide (cf=63))
 have hb62':=a6 hb62
 iterate 5 refine w_ ?_
 refine lc (Q7 (Qa rfl) (QB 63 rfl) rfl) ?_
 refine w_ ?_
 have hb63:(!decide (cf=63))=true:=QdV (hb62)
 try rw[hb63]
 iterate 4 refine w_ ?_
 obtain ⟨ct,hx65⟩:=gx us2 ((mv.2.2).toNat)
 refine w_ ?_
 refine lgy rfl rfl (Q7 (Qa rfl) (QB 63 rfl) rfl) ?_
 iterate 2 refine w_ ?_
 cases hb66:(!decide (ct=63))
 have hb66':(ct=63):=QT hb66
 iterate 17 refine w_ ?_
 refine lc (QG (e:= .u8) (z':=cf) (Qa rfl) rfl hx61 rfl (Qf rfl) rfl Zi rfl rfl) ?_
 iterate 5 refine w_ ?_
 refine AL.fact (Ql (x:= .tmp 92) (Qa rfl)) fun hi67=> ?_
 iterate 2 refine w_ ?_
 obtain ⟨x68,hx69⟩:∃z,(us2.set ((mv.1).toNat) cf)[(mv.2.2).toNat]? =some z:=⟨_,ai (by first | omega | (simp only[au]; omega))⟩
 refine lc (QG (e:= .u8) (z':=cf) (Qa rfl) rfl hx69 rfl (Qf rfl) rfl Zi rfl rfl) ?_
 iterate 6 refine w_ ?_
 refine Qc<|QE ⟨i+1,((us2.set ((mv.1).toNat) cf).set ((mv.2.2).toNat) cf),by omega,rfl,hA2.trans (congrArg (Hr sig (QW s.2.2.1 r.2) (r.1.length - p)) (Vc (Yc hx18 hla) (by first | exact Wg (cf:=cf) (ct:=ct) ‹_› ‹_› ‹_› ‹_› | exact Wh (cf:=cf) (ct:=ct) ‹_› ‹_› ‹_› ‹_› (by first | exact .inl ‹_› | exact .inr ‹_›) | exact Wj (cf:=cf) (ct:=ct) ‹_› ‹_› ‹_› (by first | exact .inl ‹_› | exact .inr ‹_›) (by first | exact .inl ‹_› | exact .inr ‹_›) ‹_› ‹_›))),(by simp only[au]; exact hL2),rfl⟩ (by omega) ?_
 exact wp [] ⟨rfl,rfl,(Qh (by first | rfl | simp)),trivial⟩
 have hb66':¬(ct=63):=Q0 hb66
 iterate 9 refine w_ ?_
 cases hb70:(!decide (ct=cf))
 have hb70':(ct=cf):=QT hb70
 iterate 8 refine w_ ?_
 refine lc (QG (e:= .u8) (z':=cf) (Qa rfl) rfl hx61 rfl (Qf rfl) rfl Zi rfl rfl) ?_
 iterate 5 refine w_ ?_
 refine AL.fact (Ql (x:= .tmp 92) (Qa rfl)) fun hi71=> ?_
 iterate 2 refine w_ ?_
 obtain ⟨x72,hx73⟩:∃z,(us2.set ((mv.1).toNat) cf)[(mv.2.2).toNat]? =some z:=⟨_,ai (by first | omega | (simp only[au]; omega))⟩
 refine lc (QG (e:= .u8) (z':=cf) (Qa rfl) rfl hx73 rfl (Qf rfl) rfl Zi rfl rfl) ?_
 iterate 6 refine w_ ?_
 refine Qc<|QE ⟨i+1,((us2.set ((mv.1).toNat) cf).set ((mv.2.2).toNat) cf),by omega,rfl,hA2.trans (congrArg (Hr sig (QW s.2.2.1 r.2) (r.1.length - p)) (Vc (Yc hx18 hla) (by first | exact Wg (cf:=cf) (ct:=ct) ‹_› ‹_› ‹_› ‹_› | exact Wh (cf:=cf) (ct:=ct) ‹_› ‹_› ‹_› ‹_› (by first | exact .inl ‹_› | exact .inr ‹_›) | exact Wj (cf:=cf) (ct:=ct) ‹_› ‹_› ‹_› (by first | exact .inl ‹_› | exact .inr ‹_›) (by first | exact .inl ‹_› | exact .inr ‹_›) ‹_› ‹_›))),(by simp only[au]; exact hL2),rfl⟩ (by omega) ?_
 exact wp [] ⟨rfl,rfl,(Qh (by first | rfl | simp)),trivial⟩
 have hb70':¬(ct=cf):=Q0 hb70
 iterate 6 refine w_ ?_
 subst hO
 have e74:((⟨#[]⟩:ByteArray):ByteArray)=((l5V r.1.length (QW s.2.2.1 r.2) sig).1):=by
  (rw[Vr (by rw[hA2,Wb (Yc hx18 hla) (by first | exact X8 (cf:=cf) (ct:=ct) ‹_› ‹_› ‹_› ‹_› ‹_› ‹_› | exact Xt (cf:=cf) ‹_› ‹_› ‹_› ‹_› ‹_› | exact Xm (ct:=ct) ‹_› ‹_› ‹_› ‹_› ‹_›)]; rfl)]; done)
 have e75:(false:Bool)=((l5V r.1.length (QW s.2.2.1 r.2) sig).2):=by
  (rw[Vr (by rw[hA2,Wb (Yc hx18 hla) (by first | exact X8 (cf:=cf) (ct:=ct) ‹_› ‹_› ‹_› ‹_› ‹_› ‹_› | exact Xt (cf:=cf) ‹_› ‹_› ‹_› ‹_› ‹_› | exact Xm (ct:=ct) ‹_› ‹_› ‹_› ‹_› ‹_›)]; rfl)]; done)
 exact Qe (QM rfl (Qb rfl) (Qb rfl)) (by rw[e74,← e75] <;> rfl) rfl
 have hb62':=a7 hb62
 iterate 5 refine w_ ?_
 refine AL.fact (Ql (x:= .tmp 63) (Qa rfl)) fun hi76=> ?_
 refine w_ ?_
 obtain ⟨ct,hx78⟩:=gx us2 ((mv.2.2).toNat)
 iterate 6 refine w_ ?_
 refine lc (Q7 (Qa rfl) (QB 63 rfl) rfl) ?_
 refine w_ ?_
 cases hb79:(!decide (ct=63))
 have hb79':(ct=63):=QT hb79
 iterate 25 refine w_ ?_
 refine lc (QG (e:= .u8) (z':=ct) (Qa rfl) rfl hx61 rfl (Qf rfl) rfl Zi rfl rfl) ?_
 iterate 7 refine w_ ?_
 obtain ⟨x80,hx81⟩:∃z,(us2.set ((mv.1).toNat) ct)[(mv.2.2).toNat]? =some z:=⟨_,ai (by first | omega | (simp only[au]; omega))⟩
 refine lc (QG (e:= .u8) (z':=ct) (Qa rfl) rfl hx81 rfl (Qf rfl) rfl Zi rfl rfl) ?_
 iterate 6 refine w_ ?_
 refine Qc<|QE ⟨i+1,((us2.set ((mv.1).toNat) ct).set ((mv.2.2).toNat) ct),by omega,rfl,hA2.trans (congrArg (Hr sig (QW s.2.2.1 r.2) (r.1.length - p)) (Vc (Yc hx18 hla) (by first | exact Wg (cf:=cf) (ct:=ct) ‹_› ‹_› ‹_› ‹_› | exact Wh (cf:=cf) (ct:=ct) ‹_› ‹_› ‹_› ‹_› (by first | exact .inl ‹_› | exact .inr ‹_›) | exact Wj (cf:=cf) (ct:=ct) ‹_› ‹_› ‹_› (by first | exact .inl ‹_› | exact .inr ‹_›) (by first | exact .inl ‹_› | exact .inr ‹_›) ‹_› ‹_›))),(by simp only[au]; exact hL2),rfl⟩ (by omega) ?_
 exact wp [] ⟨rfl,rfl,(Qh (by first | rfl | simp)),trivial⟩
 have hb79':¬(ct=63):=Q0 hb79
 iterate 5 refine w_ ?_
 refine lgy rfl rfl (Q7 (Qa rfl) (QB 63 rfl) rfl) ?_
 iterate 2 refine w_ ?_
 have hb82:(!decide (ct=63))=true:=QdV (QoV hb79)
 try rw[hb82]
 iterate 9 refine w_ ?_
 have hb83:(!decide (ct=ct))=false:=QdV (aI rfl)
 have hb83':(ct=ct):=QT hb83
 try rw[hb83]
 iterate 8 refine w_ ?_
 refine lc (QG (e:= .u8) (z':=ct) (Qa rfl) rfl hx61 rfl (Qf rfl) rfl Zi rfl rfl) ?_
 iterate 7 refine w_ ?_
 obtain ⟨x84,hx85⟩:∃z,(us2.set ((mv.1).toNat) ct)[(mv.2.2).toNat]? =some z:=⟨_,ai (by first | omega | (simp only[au]; omega))⟩
 refine lc (QG (e:= .u8) (z':=ct) (Qa rfl) rfl hx85 rfl (Qf rfl) rfl Zi rfl rfl) ?_
 iterate 6 refine w_ ?_
 refine Qc<|QE ⟨i+1,((us2.set ((mv.1).toNat) ct).set ((mv.2.2).toNat) ct),by omega,rfl,hA2.trans (congrArg (Hr sig (QW s.2.2.1 r.2) (r.1.length - p)) (Vc (Yc hx18 hla) (by first | exact Wg (cf:=cf) (ct:=ct) ‹_› ‹_› ‹_› ‹_› | exact Wh (cf:=cf) (ct:=ct) ‹_› ‹_› ‹_› ‹_› (by first | exact .inl ‹_› | exact .inr ‹_›) | exact Wj (cf:=cf) (ct:=ct) ‹_› ‹_› ‹_› (by first | exact .inl ‹_› | exact .inr ‹_›) (by first | exact .inl ‹_› | exact .inr ‹_›) ‹_› ‹_›))),(by simp only[au]; exact hL2),rfl⟩ (by omega) ?_
 exact wp [] ⟨rfl,rfl,(Qh (by first | rfl | simp)),trivial⟩
 have hb6':=a7 hb6
 iterate 12 refine w_ ?_
 obtain ⟨x86,hx87⟩:=gx (Hv r.1.length k) k
 refine lc (QG (e:= .u8) (z':=63) (Qa rfl) rfl hx87 rfl (Evl.ev (QB 63 rfl)) rfl Zi rfl rfl)<|Qc ?_
 iterate 4 refine w_ ?_
 refine Qc<|QE ⟨k+1,by omega,rfl,rfl⟩ (by omega) ?_
 exact wp [] ⟨rfl,rfl,(Qh (QoA (by omega))),trivial⟩
theorem Qcw (s:(Int×(List (List Int×List Int)))×(List (ByteArray×Int))×(List (Int×Bool))×ByteArray)(r:List ByteArray×(List (Int×Int×Int)))(hm:∀m∈r.2,MvOk r.1.length s.2.2.1.length m)(hl1:r.1.length≤1000000)(hl2:s.2.1.length≤1000000):FC Tryz.prog 207 [(true,[dI s.1.1, .dat X3 s.1.2, .dat Qo s.2.1, .dat YQ s.2.2.1,dS s.2.2.2]),(true,[.dat Qr r.1, .dat Qcn r.2])] [] 0 (Xe 3 .int (Wz r.1.length (QW s.2.2.1 r.2) s.2.1.length)):=by
 refine Qy Tryz.func207 rfl rfl Tryz.ntmps207 fun O_ hO w0_ N0_ X_ h0_ f0_=> ?_
 refine AC.fact (QH (x:= .tmp 0) (i:=0) (Qf rfl) rfl) fun hi1=> ?_
 refine w_ ?_
 refine xbx 0 ?_
 refine xbx 1 ?_
 iterate 9 refine w_ ?_
 refine AL.fact (Qp (x:= .tmp 10) (Qa rfl)) fun hl2=> ?_
 iterate 4 refine w_ ?_
 refine AC.wk (Wk.nilS 2 5 3 .int rfl (Fresh.of rfl) (nlr rfl)) ?_
 refine Qm (fun m_ s_=>∃(k:Nat),k≤s.2.1.length∧m_=s.2.1.length - k∧s_=⟨[(2,lP 0 0),(3,lP 1 0),(4,lf (.val (.slice none 0 0))),(5,lR 3),(11,lI (s.2.1.length:Int)),(12,lI (k:Int))],[(0,some (.box 29 [dI s.1.1, .dat X3 s.1.2, .dat Qo s.2.1, .dat YQ s.2.2.1,dS s.2.2.2])),(1,some (.box 164 [.dat Qr r.1, .dat Qcn r.2])),(3,some (.arr 3 .int (Wz r.1.length (QW s.2.2.1 r.2) k)))]⟩) ⟨0,ap _,rfl,rfl⟩ ?_ ?_
 exact wp [(3,2)] ⟨rfl,rfl,(Qh (by first | rfl | simp)),trivial⟩
 rintro m_ s_ ⟨k,hk3,hm4,rfl⟩
 have hcl:=Qoh r.1.length (QW s.2.2.1 r.2) k
 iterate 4 refine w_ ?_
 cases hb5:(decide ((k:Int) < (s.2.1.length:Int)))
 have hb5':=a6 hb5
 iterate 8 refine w_ ?_
 subst hO
 refine Zc (e:= .int) (xs:=(Wz r.1.length (QW s.2.2.1 r.2) k)) (Res.one rfl (Qb rfl)) rfl ?_
 rw[show k=s.2.1.length by omega]
 have hb5':=a7 hb5
 iterate 12 refine w_ ?_
 refine lc (dK (UO s r (k:Int) hm hl1) QeT) ?_
 iterate 10 refine w_ ?_
 cases hb6:((l5V r.1.length (QW s.2.2.1 r.2) (k:Int)).2)
 iterate 4 refine w_ ?_
 refine lc (dBs 4 (e:= .int) YD) ?_
 refine lc (dA 5 XR) ?_
 refine w_ ?_
 refine Qc ?_
 iterate 4 refine w_ ?_
 refine Qc<|QE ⟨k+1,by omega,rfl,rfl⟩ (by omega) ?_
 exact wp [(3,5)] ⟨rfl,rfl,(Qh (by first | exact Qgl ‹_› | exact QhF ‹_›)),trivial⟩
 iterate 6 refine w_ ?_
 refine Qc<|QE ⟨k+1,by omega,rfl,rfl⟩ (by omega) ?_
 exact wp [] ⟨rfl,rfl,(Qh (by first | exact Qgl ‹_› | exact QhF ‹_›)),trivial⟩
end Go.Proofs.YtjaadeknhofhpaaGreat
namespace Go.Proofs.YtjaadeknhofhpaaGreat
open Go.RowKit
set_option maxRecDepth 100000
set_option maxHeartbeats 4000000
structure Rok (m:Nat) (st:RS):Prop where
  one:1≤st.1.length
  most:st.1.length≤300
  nd:st.1.Nodup
  mv:∀v∈st.2.1,MvOk st.1.length m v
section
variable {n:Xz}{k f:Nat}{mk:ByteArray}{t:Int}{ts:List Int}{st:RS}{s:Q9}{l:List ByteArray}{x:ByteArray}
theorem Qpq (h:0≤Yx l x):Yx l x < l.length:=by
  unfold Yx Ze at h ⊢
  cases hf:l.findIdx? (fun y=>decide (y=x)) with
  | none=>rw[hf] at h; simp at h
  | some i=>
    obtain ⟨h1,_⟩:=c9.1 hf
    simp; omega
theorem Qon (h:¬0≤Yx l x):x∉l:=fun hm=>by
  unfold Yx Ze at h
  cases hf:l.findIdx? (fun y=>decide (y=x)) with
  | none=>
    have:=List.findIdx?_eq_none_iff.1 hf x hm
    simp at this
  | some i=>rw[hf] at h; simp at h
theorem MvOk.grow {a b m:Nat}{v:DMv}(h:MvOk a m v)(hab:a≤b):MvOk b m v:=by
  obtain ⟨⟨h1,h2⟩,h3,h4,h5⟩:=h
  exact ⟨⟨h1,by omega⟩,h3,h4,by omega⟩
theorem QtI (hk:k < st.1.length)(hts:∀t∈ts,0≤t∧t < n.2.length)(h:Rok n.2.length st):Rok n.2.length (goT n k mk ts st).1∧(goT n k mk ts st).1.2.1.length≤st.2.1.length+ts.length∧st.1.length≤(goT n k mk ts st).1.1.length:=by
  induction ts generalizing st with
  | nil=>rw[goT]; exact ⟨h,by simp,aO _⟩
  | cons t ts ih=>
    have ht:=hts t (aA ..)
    have hts':∀t∈ts,0≤t∧t < n.2.length:=fun t h=>hts t (ax _ h)
    rw[goT]
    split
    · exact ⟨h,by simp,aO _⟩
    · split
      · rename_i h0
        have hlt:=Qpq h0
        obtain ⟨h1,h2,h3⟩:=ih (st:=(st.1,st.2.1++[((k:Int),t,Yx st.1 (Yw n mk t).1)],st.2.2)) hk hts' ⟨h.one,h.most,h.nd,fun v hv=>by
          rcases aL.1 hv with hv | hv
          · exact h.mv v hv
          · rw[aK.1 hv]; exact ⟨⟨bN _,by simpa using hk⟩,ht,h0,hlt⟩⟩
        exact ⟨h1,by simp at h2 ⊢; omega,h3⟩
      · rename_i h0
        split
        · exact ⟨h,by simp,aO _⟩
        · rename_i h4
          have hm:=h.most
          obtain ⟨h1,h2,h3⟩:=ih (st:=(st.1++[(Yw n mk t).1],st.2.1++[((k:Int),t,(st.1.length:Int))],st.2.2++[((k:Int),t,(st.1.length:Int))])) (by simp; omega) hts' ⟨by simp,by simp; omega,
            bl.2 ⟨h.nd,by simp,fun a ha b hb e=>Qon h0 (by rw[aK.1 hb] at e; exact e▸ha)⟩,fun v hv=>by
              rcases aL.1 hv with hv | hv
              · exact (h.mv v hv).grow (by simp)
              · rw[aK.1 hv]; exact ⟨⟨bN _,by simp; omega⟩,ht,bN _,by simp; omega⟩⟩
          exact ⟨h1,by simp at h2 ⊢; omega,by simp at h3; omega⟩
theorem Qtp (hn:n.2.length≤24)(h:Rok n.2.length st)(hl:st.2.1.length≤24*k):Rok n.2.length (goK n f k st).1∧(goK n f k st).1.2.1.length≤24*(k+f):=by
  induction f generalizing k st with
  | zero=>rw[goK]; exact ⟨h,by omega⟩
  | succ f ih=>
    rw[goK]
    cases hx:st.1[k]? with
    | none=>exact ⟨h,by show st.2.1.length≤_; omega⟩
    | some mk=>
      obtain ⟨h1,h2,h3⟩:=QtI (mk:=mk) (ts:=KZ n mk) (ab.1 hx).1 (fun t ht=>by
        obtain ⟨i,hi⟩:=aJ.1 ht
        exact Va hi) h
      have h4:=QhO n mk
      show Rok n.2.length (if _ then _ else _:RS×Qia).1∧(if _ then _ else _:RS×Qia).1.2.1.length≤_
      split
      · obtain ⟨h5, h6⟩ := ih (k := k + 1) h1 (by omega)
        exact ⟨h5,by omega⟩
      · exact ⟨h1,by omega⟩
theorem QoZ (hs:StgOk s):Rok s.2.2.1.length (ZU s).1∧(ZU s).1.2.1.length≤7224:=by
  have h:=Qtp (n:=s.1) (k:=0) (f:=301) (st:=([s.2.2.2],[],[((0:Int),(0:Int),(0:Int))])) hs.net.2.1 ⟨by simp,by simp,by simp,by simp⟩ (by simp)
  rw[← hs.len] at h
  exact h
end
theorem UF {ss:List QJ}(h:XK ss):ss.length≤24:=by
  have:=h.2.2
  omega
section
variable [∀s,Decidable (StgOk s)]{s:Q9}
theorem KI (h:¬StgOk s):Qs s=(Qki,false):=if_neg fun h2=>h h2.1
theorem XC (h:(exV s).2.2.2=false):Qs s=(Qki,false):=if_neg fun h2=>by
  have:(ZU s).2.2.2=false:=h
  rw[this] at h2
  cases h2.2
theorem KG (hs:StgOk s)(h:(exV s).2.2.2=true):Qs s=((exV s).1,true):=if_pos ⟨hs,h⟩
theorem Yi (h:(Qs s).2=true):StgOk s∧1≤(Qs s).1.1.length∧(Qs s).1.1.length≤300∧(Qs s).1.1.Nodup∧(∀v∈(Qs s).1.2,MvOk (Qs s).1.1.length s.2.2.1.length v)∧(Qs s).1.2.length≤7224:=by
  unfold Qs at h ⊢
  split
  · rename_i h1
    obtain ⟨h2,h3⟩:=QoZ h1.1
    exact ⟨h1.1,h2.one,h2.most,h2.nd,h2.mv,h3⟩
  · rename_i h1
    rw[if_neg h1] at h
    cases h
end
section
variable {s:Q9}
theorem Qgy (h:¬0≤(l4V s).2.2.2.1)(h2:(l4V s).2.2.2.2=false):(exV s).2.2.2=true:=by
  have h:¬0≤(ZU s).2.2.1:=h
  have h2:(!(ZU s).2.2.2&&decide ((ZU s).2.2.1 < 0))=false:=h2
  show (ZU s).2.2.2=true
  rw[aI (by omega)] at h2
  simpa using h2
theorem QgX (h:¬0≤(l4V s).2.2.2.1)(h2:(l4V s).2.2.2.2=true):(exV s).2.2.2=false:=by
  have h2:(!(ZU s).2.2.2&&decide ((ZU s).2.2.1 < 0))=true:=h2
  rw[aG] at h2
  show (ZU s).2.2.2=false
  simpa using h2.1
end
theorem QnW {n:Xz}{k:Nat}{mk:ByteArray}{ts:List Int}{st:RS}(h:(goT n k mk ts st).2.2.2=true):(goT n k mk ts st).2.2.1= -1:=by
  induction ts generalizing st with
  | nil=>rw[goT]
  | cons t ts ih=>
    rw[goT] at h ⊢
    split
    · rename_i h1; rw[if_pos h1] at h; cases h
    · rename_i h1
      rw[if_neg h1] at h
      split
      · rename_i h2; rw[if_pos h2] at h; exact ih h
      · rename_i h2
        rw[if_neg h2] at h
        split
        · rfl
        · rename_i h3; rw[if_neg h3] at h; exact ih h
theorem QnO {n:Xz}{f k:Nat}{st:RS}(h:(goK n f k st).2.2.2=true):(goK n f k st).2.2.1= -1:=by
  induction f generalizing k st with
  | zero=>rw[goK]
  | succ f ih=>
    rw[goK] at h ⊢
    cases hx:st.1[k]? with
    | none=>rfl
    | some mk=>
      rw[hx] at h
      simp only at h ⊢
      split
      · rename_i h1; rw[if_pos h1] at h; exact ih h
      · rename_i h1; rw[if_neg h1] at h; exact QnW h
theorem Qgw {s:Q9}(h:0≤(l4V s).2.2.2.1):(exV s).2.2.2=false:=by
  have h:0≤(ZU s).2.2.1:=h
  show (ZU s).2.2.2=false
  cases he:(ZU s).2.2.2 with
  | false=>rfl
  | true=>
    have:=QnO (n:=s.1) (f:=301) (k:=0) (st:=([s.2.2.2],[],[((0:Int),(0:Int),(0:Int))])) he
    have h2:(ZU s).2.2.1= -1:=this
    omega
theorem Qcp (s:(Int×(List (List Int×List Int)))×(List (ByteArray×Int))×(List (Int×Bool))×ByteArray)[∀s,Decidable (StgOk s)]:FC Tryz.prog 124 [(true,[dI s.1.1, .dat X3 s.1.2, .dat Qo s.2.1, .dat YQ s.2.2.1,dS s.2.2.2])] [] 0 (Is (PV.tup [(true,[.ref 0, .ref 1]),(false,[dB ((Qs s).2)])]) [(0,some (.arr 9 .str (((Qs s).1).1))),(1,some (.arr 229 Wi (((Qs s).1).2)))]):=by
 refine Qy Tryz.func124 rfl rfl Tryz.ntmps124 fun O_ hO w0_ N0_ X_ h0_ f0_=> ?_
 refine AC.fact (QH (x:= .tmp 0) (i:=0) (Qf rfl) rfl) fun hi1=> ?_
 refine w_ ?_
 refine xbx 0 ?_
 refine lc (xal 1 QuP QgU) ?_
 iterate 5 refine w_ ?_
 refine lc (dK (WD s) JZ) ?_
 iterate 2 refine w_ ?_
 cases hb2:(decide (StgOk s))
 have hb2':=a6 hb2
 iterate 2 refine w_ ?_
 refine lc (Qi QcU rfl (ah.1 rfl) rfl rfl) ?_
 iterate 3 refine w_ ?_
 refine AC.wk (Qv 2 (p:=1) (off:=0) 9 .str rfl rfl (Fresh.of rfl) (nlr rfl))<|AC.wk (Qv 3 (p:=1) (off:=1) 229 Wi rfl rfl (Fresh.of rfl) (nlr rfl))<|Zf ?_
 subst hO
 have e3:(false:Bool)=((Qs s).2):=by
  (rw[KI ‹_›]; done)
 exact QF _ _ [(0,2),(1,3)] (QM rfl (Qz rfl rfl Qc5 rfl) (Qb rfl)) (by rw[← e3] <;> rfl) ⟨(Qh (by (rw[KI ‹_›]; rfl))),(Qh (by (rw[KI ‹_›]; rfl))),trivial⟩ rfl rfl
 have hb2':=a7 hb2
 iterate 4 refine w_ ?_
 refine lc (dG 4 (Qct s ‹_›) QjA) ?_
 refine lc (xal 7 QsM Qda) ?_
 iterate 6 refine w_ ?_
 refine AL.fact (Ql (x:= .tmp 12) (Qa rfl)) fun hi4=> ?_
 iterate 2 refine w_ ?_
 cases hb5:(decide (0≤((l4V s).2.2.2.1)))
 have hb5':=a6 hb5
 iterate 4 refine w_ ?_
 cases hb6:((l4V s).2.2.2.2)
 iterate 9 refine w_ ?_
 subst hO
 have e7:(true:Bool)=((Qs s).2):=by
  (rw[KG ‹_› (Qgy ‹_› ‹_›)]; done)
 exact QF _ _ [(0,4),(1,5)] (QM rfl (Qz rfl rfl Qc5 rfl) (Qb rfl)) (by rw[← e7] <;> rfl) ⟨(Qh (by (rw[KG ‹_› (Qgy ‹_› ‹_›)]; rfl))),(Qh (by (rw[KG ‹_› (Qgy ‹_› ‹_›)]; rfl))),trivial⟩ rfl rfl
 iterate 2 refine w_ ?_
 refine lc (Qi QcU rfl (ah.1 rfl) rfl rfl) ?_
 iterate 3 refine w_ ?_
 refine AC.wk (Qv 8 (p:=1) (off:=0) 9 .str rfl rfl (Fresh.of rfl) (nlr rfl))<|AC.wk (Qv 9 (p:=1) (off:=1) 229 Wi rfl rfl (Fresh.of rfl) (nlr rfl))<|Zf ?_
 subst hO
 have e8:(false:Bool)=((Qs s).2):=by
  (rw[XC (QgX ‹_› ‹_›)]; done)
 exact QF _ _ [(0,8),(1,9)] (QM rfl (Qz rfl rfl Qc5 rfl) (Qb rfl)) (by rw[← e8] <;> rfl) ⟨(Qh (by (rw[XC (QgX ‹_› ‹_›)]; rfl))),(Qh (by (rw[XC (QgX ‹_› ‹_›)]; rfl))),trivial⟩ rfl rfl
 have hb5':=a7 hb5
 iterate 6 refine w_ ?_
 refine lc (Qi QcU rfl (ah.1 rfl) rfl rfl) ?_
 iterate 3 refine w_ ?_
 refine AC.wk (Qv 10 (p:=1) (off:=0) 9 .str rfl rfl (Fresh.of rfl) (nlr rfl))<|AC.wk (Qv 11 (p:=1) (off:=1) 229 Wi rfl rfl (Fresh.of rfl) (nlr rfl))<|Zf ?_
 subst hO
 have e9:(false:Bool)=((Qs s).2):=by
  (rw[XC (Qgw ‹_›)]; done)
 exact QF _ _ [(0,10),(1,11)] (QM rfl (Qz rfl rfl Qc5 rfl) (Qb rfl)) (by rw[← e9] <;> rfl) ⟨(Qh (by (rw[XC (Qgw ‹_›)]; rfl))),(Qh (by (rw[XC (Qgw ‹_›)]; rfl))),trivial⟩ rfl rfl
end Go.Proofs.YtjaadeknhofhpaaGreat
