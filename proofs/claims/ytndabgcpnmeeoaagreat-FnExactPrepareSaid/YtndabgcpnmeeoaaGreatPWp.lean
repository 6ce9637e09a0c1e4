/- Walks over abstract states: the values of a signal, the reference. -/
import Derived.Test.YtndabgcpnmeeoaaGreatPWn
import Derived.Test.YtndabgcpnmeeoaaGreatPWl
set_option linter.unusedSimpArgs false
set_option linter.unusedVariables false
set_option linter.unusedSectionVars false
namespace Go.Proofs.YtndabgcpnmeeoaaGreat
open Go.RowKit
set_option maxRecDepth 100000
set_option maxHeartbeats 4000000
section
variable {sig:Int}{us us':List UInt8}{arcs:List DAr}{f k n:Nat}{cf ct b1 b2:UInt8}{mv:DMv}{lb:Zl}{ls:List Zl}{ms:List DMv}
theorem QrU (ls:List Zl)(ms:List DMv):(QL ls ms).length=ms.length:=by simp[QL]
theorem Z8 (b:ms[k]? =some mv)(a:Qgx ls mv.2.1=lb):(QL ls ms)[k]? =some (mv.1,lb.1,lb.2,mv.2.2):=by
 unfold QL
 rw[bf,b]
 simp[QhE,a]
def ar4 (mv:DMv)(lb:Zl):DAr:=(mv.1,lb.1,lb.2,mv.2.2)
theorem Wm (b:¬lb.1=sig)(a:us[mv.1.toNat]? =some cf)(c:decide (cf=63)=true)(d:us[mv.2.2.toNat]? =some ct):YU sig (mv.1,lb.1,lb.2,mv.2.2) us=some ((us.set mv.1.toNat ct).set mv.2.2.toNat ct):=by
 unfold YU
 simp only
 rw[if_neg b,Yt a,Yt d,if_pos (ab c)]
theorem Wn (e:¬lb.1=sig)(d:us[mv.1.toNat]? =some cf)(g:decide (cf=63)=false)(i:us[mv.2.2.toNat]? =some ct)(a:ct=63∨ct=cf):YU sig (mv.1,lb.1,lb.2,mv.2.2) us=some ((us.set mv.1.toNat cf).set mv.2.2.toNat cf):=by
 unfold YU
 simp only
 rw[if_neg e,Yt d,Yt i,if_neg (aa g),if_neg]
 rintro ⟨b,c⟩
 rcases a with h | h
 ·exact b h
 ·exact c h
theorem Wo (d:¬lb.1=sig)(c:us[mv.1.toNat]? =some cf)(e:decide (cf=63)=false)(g:us[mv.2.2.toNat]? =some ct)(a:¬ct=63)(b:¬ct=cf):YU sig (mv.1,lb.1,lb.2,mv.2.2) us=none:=by
 unfold YU
 simp only
 rw[if_neg d,Yt c,Yt g,if_neg (aa e),if_pos ⟨a,b⟩]
theorem Qet {b:Bool}{c:UInt8}(h:(Xo b)[((0:Int)).toNat]? =some c):(if b=true then 49 else 48)=c:=by
 have:(Xo b)[((0:Int)).toNat]? =some (if b=true then 49 else 48):=by cases b <;> rfl
 rw[this] at h
 exact cC h
theorem Wl (j:lb.1=sig)(e:(Xo (!lb.2))[((0:Int)).toNat]? =some b1)(g:(Xo lb.2)[((0:Int)).toNat]? =some b2)(i:cf=63∨cf=b1)(l:ct=63∨ct=b2)(c:us[mv.1.toNat]? =some cf)(d:us[mv.2.2.toNat]? =some ct):
 YU sig (mv.1,lb.1,lb.2,mv.2.2) us=some ((us.set mv.1.toNat b1).set mv.2.2.toNat b2):=by
 unfold YU
 simp only
 rw[if_pos j,Qet e,Qet g,Yt c,Yt d,if_neg]
 rintro (⟨a,b⟩ | ⟨a,b⟩)
 ·rcases i with h | h
  ·exact a h
  ·exact b h
 ·rcases l with h | h
  ·exact a h
  ·exact b h
theorem Xx (e:lb.1=sig)(b:(Xo (!lb.2))[((0:Int)).toNat]? =some b1)(a:us[mv.1.toNat]? =some cf)(c:¬cf=63)(d:¬cf=b1):YU sig (mv.1,lb.1,lb.2,mv.2.2) us=none:=by
 unfold YU
 simp only
 rw[if_pos e,Qet b,Yt a,if_pos (.inl ⟨c,d⟩)]
theorem Xy (e:lb.1=sig)(b:(Xo lb.2)[((0:Int)).toNat]? =some b2)(a:us[mv.2.2.toNat]? =some ct)(c:¬ct=63)(d:¬ct=b2):YU sig (mv.1,lb.1,lb.2,mv.2.2) us=none:=by
 unfold YU
 simp only
 rw[if_pos e,Qet b,Yt a,if_pos (.inr ⟨c,d⟩)]
def QaE (n k:Nat):List UInt8:=List.replicate k 63++List.replicate (n - k) 0
theorem QhS (n k:Nat)(h:k≤n):(QaE n k).length=n:=by simp[QaE]; omega
theorem Qqq (h:n≤k)(a:k≤n):QaE n k=List.replicate n 63:=by
 obtain rfl:k=n:=by omega
 simp[QaE]
theorem Qqr (h:k < n):(QaE n k).set k 63=QaE n (k+1):=by
 unfold QaE
 rw[cV _ _ (by simp),aA,cK,show n - k=(n - (k+1))+1 by omega,List.replicate_succ,List.set_cons_zero,List.replicate_succ']
 simp
def WK (n:Nat)(arcs:List DAr):Nat→List Int
 | 0=>[]
 | k+1=>WK n arcs k++(if (l5V n arcs (k:Int)).2=true then [] else [(k:Int)])
theorem Qp6 (n:Nat)(arcs:List DAr)(k:Nat):(WK n arcs k).length≤k:=by
 induction k with
 | zero=>simp[WK]
 | succ k a=>simp only[WK,aj]; split <;> simp <;> omega
theorem QhJ (h:(l5V n arcs (k:Int)).2=true):WK n arcs k=WK n arcs (k+1):=by simp[WK,h]
theorem Qks (h:(l5V n arcs (k:Int)).2=false):WK n arcs k++[(k:Int)]=WK n arcs (k+1):=by simp[WK,h]
end
def MvOk (n m:Nat)(v:DMv):Prop:=(0≤v.1∧v.1 < (n:Int))∧(0≤v.2.1∧v.2.1 < (m:Int))∧0≤v.2.2∧v.2.2 < (n:Int)
theorem XQ (up:Bool):FC Tryz.prog 352 [(false,[dB up])] [] 0 (QY (lf (dS (Xo up)))):=by
 refine Qv Tryz.func352 rfl rfl Tryz.ntmps352 fun g a e b h d c=> ?_
 refine w7 ?_
 refine cb_ (fun _=> ?_) fun _=> ?_
 refine w4 ?_
 refine Qd<|fqS a ?_
 simp[Xo, *]
 refine w3 ?_
 refine Qd<|fqS a ?_
 simp[Xo, *]
theorem KI (s:QcY)(r:QvO)(sig:Int)(hm:∀m∈r.2,MvOk r.1.length s.2.2.1.length m)(d5:r.1.length≤1000000):FC Tryz.prog 273 [(true,[dI s.1.1, .dat Xk s.1.2, .dat Ql s.2.1, .dat Yq s.2.2.1,dS s.2.2.2]),(true,[.dat Qo r.1, .dat HM r.2]),(false,[dI sig])] [] 0 (QY (PV.tup [(false,[dS ((l5V r.1.length (QL s.2.2.1 r.2) sig).1)]),(false,[dB ((l5V r.1.length (QL s.2.2.1 r.2) sig).2)])])):=by
 have e3:(List.replicate r.1.length (Ty.zero .u8)).length=r.1.length:=aA ..
 refine Qv Tryz.func273 rfl rfl Tryz.ntmps273 fun O_ S e4 d0 X_ d2 d1=> ?_
 refine acG 0 0 fun _=> ?_
 refine acI 2 fun _=> ?_
 refine w_ ?_
 refine xbx 0 ?_
 refine xbx 1 ?_
 refine w6 ?_
 refine alL 18 fun _=> ?_
 refine w_ ?_
 refine lc (XB 2 (e:= .u8) (n:=r.1.length) (Qa rfl) (Qa rfl) Za QsS rfl (by omega) (by omega) rfl (Fresh.of rfl) (nlr rfl)) ?_
 refine w9 ?_
 refine lp0 r.1.length (fun k=>⟨[(2,lI sig),(3,lP 0 0),(4,lP 1 0),(6,lf (dS (⟨#[]⟩:ByteArray))),(7,lB false),(8,lR 3),(22,lI ((List.replicate r.1.length (Ty.zero .u8)).length:Int)),(23,lI (k:Int))],[bx 0 51 [dI s.1.1, .dat Xk s.1.2, .dat Ql s.2.1, .dat Yq s.2.2.1,dS s.2.2.2],bx 1 178 [.dat Qo r.1, .dat HM r.2],ar 3 5 .u8 (QaE r.1.length k)]⟩) ?_ fun k _=> ?_
 exact wp [(3,2)] ⟨rfl,rfl,(Qe (rfl)),trivial⟩
 have d3:=QhS r.1.length k (by omega)
 refine w4 ?_
 cases T:(decide ((k:Int) < ((List.replicate r.1.length (Ty.zero .u8)).length:Int)))
 have U:=aa T
 refine w8 ?_
 refine QP (fun m_ s_=>∃(p:Nat) (us:List UInt8),p≤(r.1.length+1)∧m_=(r.1.length+1) - p∧(WM sig (QL s.2.2.1 r.2) (r.1.length+1) (List.replicate r.1.length 63)=WM sig (QL s.2.2.1 r.2) (r.1.length+1 - p) us)∧(us.length=r.1.length)∧s_=⟨[(2,lI sig),(3,lP 0 0),(4,lP 1 0),(8,lR 4),(10,lI (p:Int))],[bx 0 51 [dI s.1.1, .dat Xk s.1.2, .dat Ql s.2.1, .dat Yq s.2.2.1,dS s.2.2.2],bx 1 178 [.dat Qo r.1, .dat HM r.2],ar 4 5 .u8 us]⟩) ⟨0,QaE r.1.length k,aG _,rfl,(by rw[Qqq (by omega) (by omega)]; rfl),(QhS _ _ (by omega)),rfl⟩ ?_ ?_
 exact wp [(4,3)] ⟨rfl,rfl,(Qe (by first | rfl | simp)),trivial⟩
 rintro m_ s_ ⟨p,us,d4,e2,hA,hL,rfl⟩
 refine w5 ?_
 refine alL 32 fun _=> ?_
 refine w3 ?_
 cases X:(decide ((p:Int)≤(r.1.length:Int)))
 have Y:=aa X
 refine w5 ?_
 refine lc (Q7 (ys:=us) (YA (Qa rfl) rfl) Za Wq Z7 rfl) ?_
 refine w4 ?_
 have a9:((⟨(us).toArray⟩:ByteArray):ByteArray)=((l5V r.1.length (QL s.2.2.1 r.2) sig).1):=by
  first | (rw[Qjk (us:=us) (by rw[hA,show r.1.length+1 - p=0 by omega]; rfl)]; done)
 have b0:(true:Bool)=((l5V r.1.length (QL s.2.2.1 r.2) sig).2):=by
  first | (rw[Qjk (us:=us) (by rw[hA,show r.1.length+1 - p=0 by omega]; rfl)]; done)
 exact fr_ S (e:=by rw[a9,← b0] <;> rfl)
 have Y:=ab X
 refine w7 ?_
 refine alL 38 fun _=> ?_
 refine w4 ?_
 refine QP (fun m_ s_=>∃(i:Nat) (a:List UInt8),i≤r.2.length∧m_=r.2.length - i∧(WM sig (QL s.2.2.1 r.2) (r.1.length+1) (List.replicate r.1.length 63)=QaB sig (QL s.2.2.1 r.2) (r.1.length - p) (Xu sig ((QL s.2.2.1 r.2).drop i) a))∧(a.length=r.1.length)∧s_=⟨[(2,lI sig),(3,lP 0 0),(4,lP 1 0),(8,lR 5),(10,lI (p:Int)),(30,lI (p:Int)),(31,lP 1 0),(32,lf (.dat Qo r.1)),(33,lI (r.1.length:Int)),(34,lB true),(37,lP 1 1),(38,lf (.dat HM r.2)),(39,lI (r.2.length:Int)),(40,lI (i:Int))],[bx 0 51 [dI s.1.1, .dat Xk s.1.2, .dat Ql s.2.1, .dat Yq s.2.2.1,dS s.2.2.2],bx 1 178 [.dat Qo r.1, .dat HM r.2],ar 5 5 .u8 a]⟩) ⟨0,us,aG _,rfl,(by rw[hA,show r.1.length+1 - p=(r.1.length - p)+1 by omega]; exact QsC _ _),hL,rfl⟩ ?_ ?_
 exact wo [(5,4)]
 rintro m_ s_ ⟨i,a,c4,c5,c,j,rfl⟩
 refine w4 ?_
 cases u:(decide ((i:Int) < (r.2.length:Int)))
 have G:=aa u
 refine w7 ?_
 refine Qb<|QW ⟨p+1,a,by omega,rfl,(by rw[c,QqM (by rw[QrU]; omega),show r.1.length+1 - (p+1)=r.1.length - p by omega]; rfl),j,rfl⟩ (by omega) ?_
 exact wo [(4,5)]
 have G:=ab u
 refine w5 ?_
 obtain ⟨mv,b⟩:=gx r.2 i
 obtain ⟨⟨d6,d7⟩,⟨d8,d9⟩,e0,e1⟩:=hm _ (ah b)
 refine w2 ?_
 refine lc (xal 6 Zn Vj) ?_
 refine w7 ?_
 refine alI 47 fun _=> ?_
 obtain ⟨lb,Z⟩:=gx s.2.2.1 ((mv.2.1).toNat)
 have d:=QeI Z
 refine w2 ?_
 refine lc (xal 7 QF VK) ?_
 refine w6 ?_
 refine alI 51 fun _=> ?_
 refine w3 ?_
 cases v:(!decide (lb.1=sig))
 have H:(lb.1=sig):=QK v
 refine w2 ?_
 obtain ⟨g,c2⟩:∃z,(Xo (!lb.2))[(0:Int).toNat]? =some z:=by first | exact ⟨_,dr _ _ (by omega)⟩ | exact ⟨_,rfl⟩
 obtain ⟨h,c3⟩:∃z,(Xo lb.2)[(0:Int).toNat]? =some z:=by first | exact ⟨_,dr _ _ (by omega)⟩ | exact ⟨_,rfl⟩
 apply dW (i3 95 _ _ _ (io 98 (lf (dS (Xo (!lb.2)))) :: i3 99 _ _ _ (io 102 (lf (dS (Xo lb.2))) :: io 103 _ :: i2 15 _ _ []))) [0,0,0,0,0,31,31,16,16,256,0]
 refine z3 ?_
 refine zz (fun _ h_=>ac (dK (XQ (!lb.2)) Un) rfl) ?_
 refine z3 ?_
 refine zz (fun _ h_=>ac (dK (XQ lb.2) Un) rfl) ?_
 exact y3
 refine w5 ?_
 refine alI 106 fun _=> ?_
 refine w_ ?_
 obtain ⟨cf,l⟩:=gx a ((mv.1).toNat)
 refine w_ ?_
 refine lc (Zd (Qa rfl) (QC 63 rfl) rfl) ?_
 refine w_ ?_
 cases w:(!decide (cf=63))
 have I:(cf=63):=QK w
 refine w13 ?_
 obtain ⟨ct,c6⟩:=gx a ((mv.2.2).toNat)
 refine w_ ?_
 refine lgy rfl rfl (Zd (Qa rfl) (QC 63 rfl) rfl) ?_
 refine w_ ?_
 cases x:(!decide (ct=63))
 have J:(ct=63):=QK x
 refine w16 ?_
 refine w2 ?_
 refine lc (QA (e:= .u8) (z':=g) (Qa rfl) rfl l rfl (Qk rfl) rfl QX rfl rfl) ?_
 refine w5 ?_
 refine alI 143 fun _=> ?_
 refine w2 ?_
 obtain ⟨e5,a0⟩:∃z,(a.set ((mv.1).toNat) g)[(mv.2.2).toNat]? =some z:=⟨_,ae (by first | omega | (simp only[ap]; omega))⟩
 refine lc (QA (e:= .u8) (z':=h) (Qa rfl) rfl a0 rfl (Qk rfl) rfl QX rfl rfl)<|Qb ?_
 refine w4 ?_
 refine Qb<|QW ⟨i+1,((a.set ((mv.1).toNat) g).set ((mv.2.2).toNat) h),by omega,rfl,c.trans (congrArg (QaB sig (QL s.2.2.1 r.2) (r.1.length - p)) (Vv (Z8 b d) (by first | exact Wm (cf:=cf) (ct:=ct) ‹_› ‹_› ‹_› ‹_› | exact Wn (cf:=cf) (ct:=ct) ‹_› ‹_› ‹_› ‹_› (by first | exact .inl ‹_› | exact .inr ‹_›) | exact Wl (cf:=cf) (ct:=ct) ‹_› ‹_› ‹_› (by first | exact .inl ‹_› | exact .inr ‹_›) (by first | exact .inl ‹_› | exact .inr ‹_›) ‹_› ‹_›))),(by simp only[ap]; exact j),rfl⟩ (by omega) ?_
 exact wp [] ⟨rfl,rfl,(Qe (by first | rfl | simp)),trivial⟩
 have J:¬(ct=63):=QR x
 refine w10 ?_
 cases y:(!decide (ct=h))
 have K:(ct=h):=QK y
 refine w8 ?_
 refine lc (QA (e:= .u8) (z':=g) (Qa rfl) rfl l rfl (Qk rfl) rfl QX rfl rfl) ?_
 refine w5 ?_
 refine alI 143 fun _=> ?_
 refine w2 ?_
 obtain ⟨e6,a1⟩:∃z,(a.set ((mv.1).toNat) g)[(mv.2.2).toNat]? =some z:=⟨_,ae (by first | omega | (simp only[ap]; omega))⟩
 refine lc (QA (e:= .u8) (z':=h) (Qa rfl) rfl a1 rfl (Qk rfl) rfl QX rfl rfl)<|Qb ?_
 refine w4 ?_
 refine Qb<|QW ⟨i+1,((a.set ((mv.1).toNat) g).set ((mv.2.2).toNat) h),by omega,rfl,c.trans (congrArg (QaB sig (QL s.2.2.1 r.2) (r.1.length - p)) (Vv (Z8 b d) (by first | exact Wm (cf:=cf) (ct:=ct) ‹_› ‹_› ‹_› ‹_› | exact Wn (cf:=cf) (ct:=ct) ‹_› ‹_› ‹_› ‹_› (by first | exact .inl ‹_› | exact .inr ‹_›) | exact Wl (cf:=cf) (ct:=ct) ‹_› ‹_› ‹_› (by first | exact .inl ‹_› | exact .inr ‹_›) (by first | exact .inl ‹_› | exact .inr ‹_›) ‹_› ‹_›))),(by simp only[ap]; exact j),rfl⟩ (by omega) ?_
 exact wp [] ⟨rfl,rfl,(Qe (by first | rfl | simp)),trivial⟩
 have K:¬(ct=h):=QR y
 refine w6 ?_
 have b3:((⟨#[]⟩:ByteArray):ByteArray)=((l5V r.1.length (QL s.2.2.1 r.2) sig).1):=by
  (rw[VF (by rw[c,Wg (Z8 b d) (by first | exact Wo (cf:=cf) (ct:=ct) ‹_› ‹_› ‹_› ‹_› ‹_› ‹_› | exact Xx (cf:=cf) ‹_› ‹_› ‹_› ‹_› ‹_› | exact Xy (ct:=ct) ‹_› ‹_› ‹_› ‹_› ‹_›)]; rfl)]; done)
 have b4:(false:Bool)=((l5V r.1.length (QL s.2.2.1 r.2) sig).2):=by
  (rw[VF (by rw[c,Wg (Z8 b d) (by first | exact Wo (cf:=cf) (ct:=ct) ‹_› ‹_› ‹_› ‹_› ‹_› ‹_› | exact Xx (cf:=cf) ‹_› ‹_› ‹_› ‹_› ‹_› | exact Xy (ct:=ct) ‹_› ‹_› ‹_› ‹_› ‹_›)]; rfl)]; done)
 exact fr_ S (e:=by rw[b3,← b4] <;> rfl)
 have I:¬(cf=63):=QR w
 refine w9 ?_
 cases A:(!decide (cf=g))
 have L:(cf=g):=QK A
 refine w4 ?_
 obtain ⟨ct,c7⟩:=gx a ((mv.2.2).toNat)
 refine w_ ?_
 refine lgy rfl rfl (Zd (Qa rfl) (QC 63 rfl) rfl) ?_
 refine w_ ?_
 cases B:(!decide (ct=63))
 have M:(ct=63):=QK B
 refine w16 ?_
 refine w2 ?_
 refine lc (QA (e:= .u8) (z':=g) (Qa rfl) rfl l rfl (Qk rfl) rfl QX rfl rfl) ?_
 refine w5 ?_
 refine alI 143 fun _=> ?_
 refine w2 ?_
 obtain ⟨e7,a2⟩:∃z,(a.set ((mv.1).toNat) g)[(mv.2.2).toNat]? =some z:=⟨_,ae (by first | omega | (simp only[ap]; omega))⟩
 refine lc (QA (e:= .u8) (z':=h) (Qa rfl) rfl a2 rfl (Qk rfl) rfl QX rfl rfl)<|Qb ?_
 refine w4 ?_
 refine Qb<|QW ⟨i+1,((a.set ((mv.1).toNat) g).set ((mv.2.2).toNat) h),by omega,rfl,c.trans (congrArg (QaB sig (QL s.2.2.1 r.2) (r.1.length - p)) (Vv (Z8 b d) (by first | exact Wm (cf:=cf) (ct:=ct) ‹_› ‹_› ‹_› ‹_› | exact Wn (cf:=cf) (ct:=ct) ‹_› ‹_› ‹_› ‹_› (by first | exact .inl ‹_› | exact .inr ‹_›) | exact Wl (cf:=cf) (ct:=ct) ‹_› ‹_› ‹_› (by first | exact .inl ‹_› | exact .inr ‹_›) (by first | exact .inl ‹_› | exact .inr ‹_›) ‹_› ‹_›))),(by simp only[ap]; exact j),rfl⟩ (by omega) ?_
 exact wp [] ⟨rfl,rfl,(Qe (by first | rfl | simp)),trivial⟩
 have M:¬(ct=63):=QR B
 refine w10 ?_
 cases C:(!decide (ct=h))
 have N:(ct=h):=QK C
 refine w8 ?_
 refine lc (QA (e:= .u8) (z':=g) (Qa rfl) rfl l rfl (Qk rfl) rfl QX rfl rfl) ?_
 refine w5 ?_
 refine alI 143 fun _=> ?_
 refine w2 ?_
 obtain ⟨e8,a3⟩:∃z,(a.set ((mv.1).toNat) g)[(mv.2.2).toNat]? =some z:=⟨_,ae (by first | omega | (simp only[ap]; omega))⟩
 refine lc (QA (e:= .u8) (z':=h) (Qa rfl) rfl a3 rfl (Qk rfl) rfl QX rfl rfl)<|Qb ?_
 refine w4 ?_
 refine Qb<|QW ⟨i+1,((a.set ((mv.1).toNat) g).set ((mv.2.2).toNat) h),by omega,rfl,c.trans (congrArg (QaB sig (QL s.2.2.1 r.2) (r.1.length - p)) (Vv (Z8 b d) (by first | exact Wm (cf:=cf) (ct:=ct) ‹_› ‹_› ‹_› ‹_› | exact Wn (cf:=cf) (ct:=ct) ‹_› ‹_› ‹_› ‹_› (by first | exact .inl ‹_› | exact .inr ‹_›) | exact Wl (cf:=cf) (ct:=ct) ‹_› ‹_› ‹_› (by first | exact .inl ‹_› | exact .inr ‹_›) (by first | exact .inl ‹_› | exact .inr ‹_›) ‹_› ‹_›))),(by simp only[ap]; exact j),rfl⟩ (by omega) ?_
 exact wp [] ⟨rfl,rfl,(Qe (by first | rfl | simp)),trivial⟩
 have N:¬(ct=h):=QR C
 refine w6 ?_
 have b5:((⟨#[]⟩:ByteArray):ByteArray)=((l5V r.1.length (QL s.2.2.1 r.2) sig).1):=by
  (rw[VF (by rw[c,Wg (Z8 b d) (by first | exact Wo (cf:=cf) (ct:=ct) ‹_› ‹_› ‹_› ‹_› ‹_› ‹_› | exact Xx (cf:=cf) ‹_› ‹_› ‹_› ‹_› ‹_› | exact Xy (ct:=ct) ‹_› ‹_› ‹_› ‹_› ‹_›)]; rfl)]; done)
 have b6:(false:Bool)=((l5V r.1.length (QL s.2.2.1 r.2) sig).2):=by
  (rw[VF (by rw[c,Wg (Z8 b d) (by first | exact Wo (cf:=cf) (ct:=ct) ‹_› ‹_› ‹_› ‹_› ‹_› ‹_› | exact Xx (cf:=cf) ‹_› ‹_› ‹_› ‹_› ‹_› | exact Xy (ct:=ct) ‹_› ‹_› ‹_› ‹_› ‹_›)]; rfl)]; done)
 exact fr_ S (e:=by rw[b5,← b6] <;> rfl)
 have L:¬(cf=g):=QR A
 refine w7 ?_
 refine Qf rfl rfl rfl ?_ rfl
 refine Qf rfl rfl rfl ?_ rfl
 refine Qf rfl rfl rfl ?_ rfl
 refine Qf rfl rfl rfl ?_ rfl
 refine Qf rfl rfl rfl ?_ rfl
 refine Qf rfl rfl rfl ?_ rfl
 refine Qf rfl rfl rfl ?_ rfl
 refine w9 ?_
 have b7:((⟨#[]⟩:ByteArray):ByteArray)=((l5V r.1.length (QL s.2.2.1 r.2) sig).1):=by
  (rw[VF (by rw[c,Wg (Z8 b d) (by first | exact Wo (cf:=cf) (ct:=ct) ‹_› ‹_› ‹_› ‹_› ‹_› ‹_› | exact Xx (cf:=cf) ‹_› ‹_› ‹_› ‹_› ‹_› | exact Xy (ct:=ct) ‹_› ‹_› ‹_› ‹_› ‹_›)]; rfl)]; done)
 have b8:(false:Bool)=((l5V r.1.length (QL s.2.2.1 r.2) sig).2):=by
  (rw[VF (by rw[c,Wg (Z8 b d) (by first | exact Wo (cf:=cf) (ct:=ct) ‹_› ‹_› ‹_› ‹_› ‹_› ‹_› | exact Xx (cf:=cf) ‹_› ‹_› ‹_› ‹_› ‹_› | exact Xy (ct:=ct) ‹_› ‹_› ‹_› ‹_› ‹_›)]; rfl)]; done)
 exact fr_ S (e:=by rw[b7,← b8] <;> rfl)
 have H:¬(lb.1=sig):=QR v
 refine w5 ?_
 refine alI 56 fun _=> ?_
 refine w_ ?_
 obtain ⟨cf,o⟩:=gx a ((mv.1).toNat)
 refine w6 ?_
 refine lc (Qu (Qa rfl) (QC 63 rfl) rfl) ?_
 refine w_ ?_
 cases q:(decide (cf=63))
 have O:=aa q
 refine w5 ?_
 refine lc (Zd (Qa rfl) (QC 63 rfl) rfl) ?_
 refine w_ ?_
 have V:(!decide (cf=63))=true:=QaJ (q)
 try rw[V]
 refine w4 ?_
 obtain ⟨ct,c8⟩:=gx a ((mv.2.2).toNat)
 refine w_ ?_
 refine lgy rfl rfl (Zd (Qa rfl) (QC 63 rfl) rfl) ?_
 refine w2 ?_
 cases D:(!decide (ct=63))
 have P:(ct=63):=QK D
 refine w16 ?_
 refine w_ ?_
 refine lc (QA (e:= .u8) (z':=cf) (Qa rfl) rfl o rfl (Qk rfl) rfl QX rfl rfl) ?_
 refine w5 ?_
 refine alI 92 fun _=> ?_
 refine w2 ?_
 obtain ⟨e9,a4⟩:∃z,(a.set ((mv.1).toNat) cf)[(mv.2.2).toNat]? =some z:=⟨_,ae (by first | omega | (simp only[ap]; omega))⟩
 refine lc (QA (e:= .u8) (z':=cf) (Qa rfl) rfl a4 rfl (Qk rfl) rfl QX rfl rfl) ?_
 refine w6 ?_
 refine Qb<|QW ⟨i+1,((a.set ((mv.1).toNat) cf).set ((mv.2.2).toNat) cf),by omega,rfl,c.trans (congrArg (QaB sig (QL s.2.2.1 r.2) (r.1.length - p)) (Vv (Z8 b d) (by first | exact Wm (cf:=cf) (ct:=ct) ‹_› ‹_› ‹_› ‹_› | exact Wn (cf:=cf) (ct:=ct) ‹_› ‹_› ‹_› ‹_› (by first | exact .inl ‹_› | exact .inr ‹_›) | exact Wl (cf:=cf) (ct:=ct) ‹_› ‹_› ‹_› (by first | exact .inl ‹_› | exact .inr ‹_›) (by first | exact .inl ‹_› | exact .inr ‹_›) ‹_› ‹_›))),(by simp only[ap]; exact j),rfl⟩ (by omega) ?_
 exact wp [] ⟨rfl,rfl,(Qe (by first | rfl | simp)),trivial⟩
 have P:¬(ct=63):=QR D
 refine w9 ?_
 cases E:(!decide (ct=cf))
 have Q:(ct=cf):=QK E
 refine w8 ?_
 refine lc (QA (e:= .u8) (z':=cf) (Qa rfl) rfl o rfl (Qk rfl) rfl QX rfl rfl) ?_
 refine w5 ?_
 refine alI 92 fun _=> ?_
 refine w2 ?_
 obtain ⟨f0,a5⟩:∃z,(a.set ((mv.1).toNat) cf)[(mv.2.2).toNat]? =some z:=⟨_,ae (by first | omega | (simp only[ap]; omega))⟩
 refine lc (QA (e:= .u8) (z':=cf) (Qa rfl) rfl a5 rfl (Qk rfl) rfl QX rfl rfl) ?_
 refine w6 ?_
 refine Qb<|QW ⟨i+1,((a.set ((mv.1).toNat) cf).set ((mv.2.2).toNat) cf),by omega,rfl,c.trans (congrArg (QaB sig (QL s.2.2.1 r.2) (r.1.length - p)) (Vv (Z8 b d) (by first | exact Wm (cf:=cf) (ct:=ct) ‹_› ‹_› ‹_› ‹_› | exact Wn (cf:=cf) (ct:=ct) ‹_› ‹_› ‹_› ‹_› (by first | exact .inl ‹_› | exact .inr ‹_›) | exact Wl (cf:=cf) (ct:=ct) ‹_› ‹_› ‹_› (by first | exact .inl ‹_› | exact .inr ‹_›) (by first | exact .inl ‹_› | exact .inr ‹_›) ‹_› ‹_›))),(by simp only[ap]; exact j),rfl⟩ (by omega) ?_
 exact wp [] ⟨rfl,rfl,(Qe (by first | rfl | simp)),trivial⟩
 have Q:¬(ct=cf):=QR E
 refine w6 ?_
 have b9:((⟨#[]⟩:ByteArray):ByteArray)=((l5V r.1.length (QL s.2.2.1 r.2) sig).1):=by
  (rw[VF (by rw[c,Wg (Z8 b d) (by first | exact Wo (cf:=cf) (ct:=ct) ‹_› ‹_› ‹_› ‹_› ‹_› ‹_› | exact Xx (cf:=cf) ‹_› ‹_› ‹_› ‹_› ‹_› | exact Xy (ct:=ct) ‹_› ‹_› ‹_› ‹_› ‹_›)]; rfl)]; done)
 have c0:(false:Bool)=((l5V r.1.length (QL s.2.2.1 r.2) sig).2):=by
  (rw[VF (by rw[c,Wg (Z8 b d) (by first | exact Wo (cf:=cf) (ct:=ct) ‹_› ‹_› ‹_› ‹_› ‹_› ‹_› | exact Xx (cf:=cf) ‹_› ‹_› ‹_› ‹_› ‹_› | exact Xy (ct:=ct) ‹_› ‹_› ‹_› ‹_› ‹_›)]; rfl)]; done)
 exact fr_ S (e:=by rw[b9,← c0] <;> rfl)
 have O:=ab q
 refine w5 ?_
 refine alI 63 fun _=> ?_
 refine w_ ?_
 obtain ⟨ct,c9⟩:=gx a ((mv.2.2).toNat)
 refine w6 ?_
 refine lc (Zd (Qa rfl) (QC 63 rfl) rfl) ?_
 refine w_ ?_
 cases t:(!decide (ct=63))
 have R:(ct=63):=QK t
 refine w16 ?_
 refine w9 ?_
 refine lc (QA (e:= .u8) (z':=ct) (Qa rfl) rfl o rfl (Qk rfl) rfl QX rfl rfl) ?_
 refine w7 ?_
 obtain ⟨f1,a6⟩:∃z,(a.set ((mv.1).toNat) ct)[(mv.2.2).toNat]? =some z:=⟨_,ae (by first | omega | (simp only[ap]; omega))⟩
 refine lc (QA (e:= .u8) (z':=ct) (Qa rfl) rfl a6 rfl (Qk rfl) rfl QX rfl rfl) ?_
 refine w6 ?_
 refine Qb<|QW ⟨i+1,((a.set ((mv.1).toNat) ct).set ((mv.2.2).toNat) ct),by omega,rfl,c.trans (congrArg (QaB sig (QL s.2.2.1 r.2) (r.1.length - p)) (Vv (Z8 b d) (by first | exact Wm (cf:=cf) (ct:=ct) ‹_› ‹_› ‹_› ‹_› | exact Wn (cf:=cf) (ct:=ct) ‹_› ‹_› ‹_› ‹_› (by first | exact .inl ‹_› | exact .inr ‹_›) | exact Wl (cf:=cf) (ct:=ct) ‹_› ‹_› ‹_› (by first | exact .inl ‹_› | exact .inr ‹_›) (by first | exact .inl ‹_› | exact .inr ‹_›) ‹_› ‹_›))),(by simp only[ap]; exact j),rfl⟩ (by omega) ?_
 exact wp [] ⟨rfl,rfl,(Qe (by first | rfl | simp)),trivial⟩
 have R:¬(ct=63):=QR t
 refine w5 ?_
 refine lgy rfl rfl (Zd (Qa rfl) (QC 63 rfl) rfl) ?_
 refine w2 ?_
 have W:(!decide (ct=63))=true:=QaJ (Qib t)
 try rw[W]
 refine w9 ?_
 have F:(!decide (ct=ct))=false:=QaJ (aL rfl)
 have c1:(ct=ct):=QK F
 try rw[F]
 refine w8 ?_
 refine lc (QA (e:= .u8) (z':=ct) (Qa rfl) rfl o rfl (Qk rfl) rfl QX rfl rfl) ?_
 refine w7 ?_
 obtain ⟨f2,a7⟩:∃z,(a.set ((mv.1).toNat) ct)[(mv.2.2).toNat]? =some z:=⟨_,ae (by first | omega | (simp only[ap]; omega))⟩
 refine lc (QA (e:= .u8) (z':=ct) (Qa rfl) rfl a7 rfl (Qk rfl) rfl QX rfl rfl) ?_
 refine w6 ?_
 refine Qb<|QW ⟨i+1,((a.set ((mv.1).toNat) ct).set ((mv.2.2).toNat) ct),by omega,rfl,c.trans (congrArg (QaB sig (QL s.2.2.1 r.2) (r.1.length - p)) (Vv (Z8 b d) (by first | exact Wm (cf:=cf) (ct:=ct) ‹_› ‹_› ‹_› ‹_› | exact Wn (cf:=cf) (ct:=ct) ‹_› ‹_› ‹_› ‹_› (by first | exact .inl ‹_› | exact .inr ‹_›) | exact Wl (cf:=cf) (ct:=ct) ‹_› ‹_› ‹_› (by first | exact .inl ‹_› | exact .inr ‹_›) (by first | exact .inl ‹_› | exact .inr ‹_›) ‹_› ‹_›))),(by simp only[ap]; exact j),rfl⟩ (by omega) ?_
 exact wp [] ⟨rfl,rfl,(Qe (by first | rfl | simp)),trivial⟩
 have U:=ab T
 refine w12 ?_
 obtain ⟨f3,a8⟩:=gx (QaE r.1.length k) k
 refine lc (QA (e:= .u8) (z':=63) (Qa rfl) rfl a8 rfl (Evl.ev (QC 63 rfl)) rfl QX rfl rfl)<|Qb ?_
 refine w4 ?_
 refine Qb ?_
 refine l0_ ?_
 exact wp [] ⟨rfl,rfl,(Qe (Qqr (by omega))),trivial⟩
theorem Qel (s:QcY)(r:QvO)(p:∀m∈r.2,MvOk r.1.length s.2.2.1.length m)(c:r.1.length≤1000000)(d:s.2.1.length≤1000000):FC Tryz.prog 272 [(true,[dI s.1.1, .dat Xk s.1.2, .dat Ql s.2.1, .dat Yq s.2.2.1,dS s.2.2.2]),(true,[.dat Qo r.1, .dat HM r.2])] [] 0 (YB 3 .int (WK r.1.length (QL s.2.2.1 r.2) s.2.1.length)):=by
 refine Qv Tryz.func272 rfl rfl Tryz.ntmps272 fun t j q g u i h=> ?_
 refine acG 0 0 fun _=> ?_
 refine w_ ?_
 refine xbx 0 ?_
 refine xbx 1 ?_
 refine w9 ?_
 refine alL 10 fun d=> ?_
 refine w4 ?_
 refine AC.wk (Wk.nilS 2 5 3 .int rfl (Fresh.of rfl) (nlr rfl)) ?_
 refine lp0 s.2.1.length (fun k=>⟨[(2,lP 0 0),(3,lP 1 0),(4,lf (.val (.slice none 0 0))),(5,lR 3),(11,lI (s.2.1.length:Int)),(12,lI (k:Int))],[bx 0 51 [dI s.1.1, .dat Xk s.1.2, .dat Ql s.2.1, .dat Yq s.2.2.1,dS s.2.2.2],bx 1 178 [.dat Qo r.1, .dat HM r.2],ar 3 3 .int (WK r.1.length (QL s.2.2.1 r.2) k)]⟩) ?_ fun k _=> ?_
 exact wp [(3,2)] ⟨rfl,rfl,(Qe (by first | rfl | simp)),trivial⟩
 have o:=Qp6 r.1.length (QL s.2.2.1 r.2) k
 refine w4 ?_
 cases a:(decide ((k:Int) < (s.2.1.length:Int)))
 have b:=aa a
 refine w7 ?_
 refine Qd<|fo_ j ?_
 rw[show k=s.2.1.length by omega]
 have b:=ab a
 refine w12 ?_
 refine lc (dK (KI s r (k:Int) p c) QfH) ?_
 refine w10 ?_
 cases l:((l5V r.1.length (QL s.2.2.1 r.2) (k:Int)).2)
 refine w4 ?_
 refine lc (dBs 4 (e:= .int) Yk) ?_
 refine lc (dA 5 XP) ?_
 refine w_ ?_
 refine Qb ?_
 refine w4 ?_
 refine Qb ?_
 refine l0_ ?_
 exact wp [(3,5)] ⟨rfl,rfl,(Qe (by first | exact QhJ ‹_› | exact Qks ‹_›)),trivial⟩
 refine w6 ?_
 refine Qb ?_
 refine l0_ ?_
 exact wp [] ⟨rfl,rfl,(Qe (by first | exact QhJ ‹_› | exact Qks ‹_›)),trivial⟩
end Go.Proofs.YtndabgcpnmeeoaaGreat
namespace Go.Proofs.YtndabgcpnmeeoaaGreat
open Go.RowKit
set_option maxRecDepth 100000
set_option maxHeartbeats 4000000
structure Rok (m:Nat) (st:RS):Prop where
  one:1≤st.1.length
  most:st.1.length≤300
  nd:st.1.Nodup
  mv:∀v∈st.2.1,MvOk st.1.length m v
section
variable {n:V8}{k f:Nat}{mk:ByteArray}{t:Int}{ts:List Int}{st:RS}{s:Yz}{l:List ByteArray}{x:ByteArray}
theorem Qsq (h:0≤Ys l x):Ys l x < l.length:=by
 unfold Ys Zq at h ⊢
 cases a:l.findIdx? (fun y=>decide (y=x)) with
 | none=>rw[a] at h; simp at h
 | some i=>
  obtain ⟨b,_⟩:=List.findIdx?_eq_some_iff_getElem.1 a
  simp; omega
theorem Qqt (h:¬0≤Ys l x):x∉l:=fun b=>by
 unfold Ys Zq at h
 cases a:l.findIdx? (fun y=>decide (y=x)) with
 | none=>
  have:=List.findIdx?_eq_none_iff.1 a x b
  simp at this
 | some i=>rw[a] at h; simp at h
theorem MvOk.grow {a b m:Nat}{v:DMv}(h:MvOk a m v)(hab:a≤b):MvOk b m v:=by
 obtain ⟨⟨c,g⟩,d,e,i⟩:=h
 exact ⟨⟨c,by omega⟩,d,e,by omega⟩
theorem QvW (q:k < st.1.length)(g:∀t∈ts,0≤t∧t < n.2.length)(h:Rok n.2.length st):Rok n.2.length (goT n k mk ts st).1∧(goT n k mk ts st).1.2.1.length≤st.2.1.length+ts.length∧st.1.length≤(goT n k mk ts st).1.1.length:=by
 induction ts generalizing st with
 | nil=>rw[goT]; exact ⟨h,by simp,aJ _⟩
 | cons t ts u=>
  have r:=g t (az ..)
  have d:∀t∈ts,0≤t∧t < n.2.length:=fun t h=>g t (ay _ h)
  rw[goT]
  split
  ·exact ⟨h,by simp,aJ _⟩
  ·split
   ·rename_i i
    have p:=Qsq i
    obtain ⟨j,m,o⟩:=u (st:=(st.1,st.2.1++[((k:Int),t,Ys st.1 (Yn n mk t).1)],st.2.2)) q d ⟨h.one,h.most,h.nd,fun v c=>by
     rcases aP.1 c with c | c
     ·exact h.mv v c
     ·rw[aS.1 c]; exact ⟨⟨bC _,by simpa using q⟩,r,i,p⟩⟩
    exact ⟨j,by simp at m ⊢; omega,o⟩
   ·rename_i i
    split
    ·exact ⟨h,by simp,aJ _⟩
    ·rename_i z
     have A:=h.most
     obtain ⟨j,m,o⟩:=u (st:=(st.1++[(Yn n mk t).1],st.2.1++[((k:Int),t,(st.1.length:Int))],st.2.2++[((k:Int),t,(st.1.length:Int))])) (by simp; omega) d ⟨by simp,by simp; omega,
      bu.2 ⟨h.nd,by simp,fun a w b y e=>Qqt i (by rw[aS.1 y] at e; exact e▸w)⟩,fun v c=>by
       rcases aP.1 c with c | c
       ·exact (h.mv v c).grow (by simp)
       ·rw[aS.1 c]; exact ⟨⟨bC _,by simp; omega⟩,r,bC _,by simp; omega⟩⟩
     exact ⟨j,by simp at m ⊢; omega,by simp at o; omega⟩
theorem QvV (r:n.2.length≤24)(h:Rok n.2.length st)(q:st.2.1.length≤24*k):Rok n.2.length (goK n f k st).1∧(goK n f k st).1.2.1.length≤24*(k+f):=by
 induction f generalizing k st with
 | zero=>rw[goK]; exact ⟨h,by omega⟩
 | succ f g=>
  rw[goK]
  cases e:st.1[k]? with
  | none=>exact ⟨h,by show st.2.1.length≤_; omega⟩
  | some mk=>
   obtain ⟨a,j,m⟩:=QvW (mk:=mk) (ts:=Vo n mk) (ai.1 e).1 (fun t d=>by
    obtain ⟨i,c⟩:=aN.1 d
    exact Vp c) h
   have o:=Qfz n mk
   show Rok n.2.length (if _ then _ else _:RS×Qkb).1∧(if _ then _ else _:RS×Qkb).1.2.1.length≤_
   split
   ·obtain ⟨b,p⟩:=g (k:=k+1) a (by omega)
    exact ⟨b,by omega⟩
   ·exact ⟨a,by omega⟩
theorem Qs9 (a:StgOk s):Rok s.2.2.1.length (ZV s).1∧(ZV s).1.2.1.length≤7224:=by
 have h:=QvV (n:=s.1) (k:=0) (f:=301) (st:=([s.2.2.2],[],[((0:Int),(0:Int),(0:Int))])) a.net.2.1 ⟨by simp,by simp,by simp,by simp⟩ (by simp)
 rw[← a.len] at h
 exact h
end
theorem UA {ss:List QM}(h:XN ss):ss.length≤24:=by
 have:=h.2.2
 omega
section
variable [∀s,Decidable (StgOk s)]{s:Yz}
theorem XD (h:¬StgOk s):Qg s=(Qou,false):=if_neg fun a=>h a.1
theorem Yd (h:(exV s).2.2.2=false):Qg s=(Qou,false):=if_neg fun a=>by
 have:(ZV s).2.2.2=false:=h
 rw[this] at a
 cases a.2
theorem XE (a:StgOk s)(h:(exV s).2.2.2=true):Qg s=((exV s).1,true):=if_pos ⟨a,h⟩
theorem Yj (h:(Qg s).2=true):StgOk s∧1≤(Qg s).1.1.length∧(Qg s).1.1.length≤300∧(Qg s).1.1.Nodup∧(∀v∈(Qg s).1.2,MvOk (Qg s).1.1.length s.2.2.1.length v)∧(Qg s).1.2.length≤7224:=by
 unfold Qg at h ⊢
 split
 ·rename_i a
  obtain ⟨b,c⟩:=Qs9 a.1
  exact ⟨a.1,b.one,b.most,b.nd,b.mv,c⟩
 ·rename_i a
  rw[if_neg a] at h
  cases h
end
section
variable {s:Yz}
theorem Qjj (h:¬0≤(l4V s).2.2.2.1)(a:(l4V s).2.2.2.2=false):(exV s).2.2.2=true:=by
 have h:¬0≤(ZV s).2.2.1:=h
 have a:(!(ZV s).2.2.2&&decide ((ZV s).2.2.1 < 0))=false:=a
 show (ZV s).2.2.2=true
 rw[aL (by omega)] at a
 simpa using a
theorem Qji (h:¬0≤(l4V s).2.2.2.1)(a:(l4V s).2.2.2.2=true):(exV s).2.2.2=false:=by
 have a:(!(ZV s).2.2.2&&decide ((ZV s).2.2.1 < 0))=true:=a
 rw[aI] at a
 show (ZV s).2.2.2=false
 simpa using a.1
end
theorem Qqz {n:V8}{k:Nat}{mk:ByteArray}{ts:List Int}{st:RS}(h:(goT n k mk ts st).2.2.2=true):(goT n k mk ts st).2.2.1= -1:=by
 induction ts generalizing st with
 | nil=>rw[goT]
 | cons t ts c=>
  rw[goT] at h ⊢
  split
  ·rename_i a; rw[if_pos a] at h; cases h
  ·rename_i a
   rw[if_neg a] at h
   split
   ·rename_i b; rw[if_pos b] at h; exact c h
   ·rename_i b
    rw[if_neg b] at h
    split
    ·rfl
    ·rename_i d; rw[if_neg d] at h; exact c h
theorem Qqy {n:V8}{f k:Nat}{st:RS}(h:(goK n f k st).2.2.2=true):(goK n f k st).2.2.1= -1:=by
 induction f generalizing k st with
 | zero=>rw[goK]
 | succ f c=>
  rw[goK] at h ⊢
  cases b:st.1[k]? with
  | none=>rfl
  | some mk=>
   rw[b] at h
   simp only at h ⊢
   split
   ·rename_i a; rw[if_pos a] at h; exact c h
   ·rename_i a; rw[if_neg a] at h; exact Qqz h
theorem Qjh {s:Yz}(h:0≤(l4V s).2.2.2.1):(exV s).2.2.2=false:=by
 have h:0≤(ZV s).2.2.1:=h
 show (ZV s).2.2.2=false
 cases a:(ZV s).2.2.2 with
 | false=>rfl
 | true=>
  have:=Qqy (n:=s.1) (f:=301) (k:=0) (st:=([s.2.2.2],[],[((0:Int),(0:Int),(0:Int))])) a
  have b:(ZV s).2.2.1= -1:=this
  omega
theorem Qd5 (s:QcY)[∀s,Decidable (StgOk s)]:FC Tryz.prog 241 [(true,[dI s.1.1, .dat Xk s.1.2, .dat Ql s.2.1, .dat Yq s.2.2.1,dS s.2.2.2])] [] 0 (Is (PV.tup [(true,[.ref 0, .ref 1]),(false,[dB ((Qg s).2)])]) [ar 0 9 .str (((Qg s).1).1),ar 1 301 Zn (((Qg s).1).2)]):=by
 refine Qv Tryz.func241 rfl rfl Tryz.ntmps241 fun o c m d q j i=> ?_
 refine acG 0 0 fun _=> ?_
 refine w_ ?_
 refine xbx 0 ?_
 refine lc (xal 1 Qoq U4) ?_
 refine w5 ?_
 refine lc (dK (Qbe s) Ql6) ?_
 refine w2 ?_
 cases a:(decide (StgOk s))
 have b:=aa a
 refine w2 ?_
 refine lc (Qi Ja rfl (ak.1 rfl) rfl rfl) ?_
 refine w3 ?_
 refine AC.wk (Qp 2 (p:=1) (off:=0) 9 .str rfl rfl (Fresh.of rfl) (nlr rfl))<|AC.wk (Qp 3 (p:=1) (off:=1) 301 Zn rfl rfl (Fresh.of rfl) (nlr rfl))<|Qd ?_
 have e:(false:Bool)=((Qg s).2):=by
  (rw[XD ‹_›]; done)
 exact fi_ [(0,2),(1,3)] c ⟨(Qe (by (rw[XD ‹_›]; rfl))),(Qe (by (rw[XD ‹_›]; rfl))),trivial⟩ (h0:=by rw[← e] <;> rfl)
 have b:=ab a
 refine w4 ?_
 refine lc (dG 4 (Qc5 s ‹_›) QmR) ?_
 refine w5 ?_
 refine lc (xal 6 Qoq U4) ?_
 refine w10 ?_
 refine cx_ (fun _=> ?_) fun _=> ?_
 refine w_ ?_
 refine lc (Qi Ja rfl (ak.1 rfl) rfl rfl) ?_
 refine w3 ?_
 refine AC.wk (Qp 7 (p:=1) (off:=0) 9 .str rfl rfl (Fresh.of rfl) (nlr rfl))<|AC.wk (Qp 8 (p:=1) (off:=1) 301 Zn rfl rfl (Fresh.of rfl) (nlr rfl))<|Qd ?_
 have g:(false:Bool)=((Qg s).2):=by
  (rw[Yd ‹_›]; done)
 exact fi_ [(0,7),(1,8)] c ⟨(Qe (by (rw[Yd ‹_›]; rfl))),(Qe (by (rw[Yd ‹_›]; rfl))),trivial⟩ (h0:=by rw[← g] <;> rfl)
 refine w7 ?_
 have h:(true:Bool)=((Qg s).2):=by
  (rw[XE ‹_› ‹_›]; done)
 exact fi_ [(0,4),(1,5)] c ⟨(Qe (by (rw[XE ‹_› ‹_›]; done))),(Qe (by (rw[XE ‹_› ‹_›]; done))),trivial⟩ (h0:=by rw[← h] <;> rfl)
theorem Qeb (s:QcY)[∀s,Decidable (StgOk s)]:FC Tryz.prog 119 [(true,[dI s.1.1, .dat Xk s.1.2, .dat Ql s.2.1, .dat Yq s.2.2.1,dS s.2.2.2])] [] 0 (Is (PV.tup [(true,[.ref 0, .ref 1]),(false,[dB ((Qg s).2)])]) [ar 0 9 .str (((Qg s).1).1),ar 1 301 Zn (((Qg s).1).2)]):=by
 refine Qv Tryz.func119 rfl rfl Tryz.ntmps119 fun v e u g w q o=> ?_
 refine acG 0 0 fun _=> ?_
 refine w_ ?_
 refine xbx 0 ?_
 refine lc (xal 1 Qoq U4) ?_
 refine w5 ?_
 refine lc (dK (Qf8 s) Qmw) ?_
 refine w2 ?_
 cases a:(decide (StgOk s))
 have b:=aa a
 refine w2 ?_
 refine lc (Qi Ja rfl (ak.1 rfl) rfl rfl) ?_
 refine w3 ?_
 refine AC.wk (Qp 2 (p:=1) (off:=0) 9 .str rfl rfl (Fresh.of rfl) (nlr rfl))<|AC.wk (Qp 3 (p:=1) (off:=1) 301 Zn rfl rfl (Fresh.of rfl) (nlr rfl))<|Qd ?_
 have h:(false:Bool)=((Qg s).2):=by
  (rw[XD ‹_›]; done)
 exact fi_ [(0,2),(1,3)] e ⟨(Qe (by (rw[XD ‹_›]; rfl))),(Qe (by (rw[XD ‹_›]; rfl))),trivial⟩ (h0:=by rw[← h] <;> rfl)
 have b:=ab a
 refine w4 ?_
 refine lc (dG 4 (Qek s ‹_›) Qmx) ?_
 refine lc (xal 7 QwF QeT) ?_
 refine w6 ?_
 refine alI 12 fun _=> ?_
 refine w2 ?_
 cases c:(decide (0≤((l4V s).2.2.2.1)))
 have d:=aa c
 refine w4 ?_
 cases r:((l4V s).2.2.2.2)
 refine w9 ?_
 have i:(true:Bool)=((Qg s).2):=by
  (rw[XE ‹_› (Qjj ‹_› ‹_›)]; done)
 exact fi_ [(0,4),(1,5)] e ⟨(Qe (by (rw[XE ‹_› (Qjj ‹_› ‹_›)]; rfl))),(Qe (by (rw[XE ‹_› (Qjj ‹_› ‹_›)]; rfl))),trivial⟩ (h0:=by rw[← i] <;> rfl)
 refine w2 ?_
 refine lc (Qi Ja rfl (ak.1 rfl) rfl rfl) ?_
 refine w3 ?_
 refine AC.wk (Qp 8 (p:=1) (off:=0) 9 .str rfl rfl (Fresh.of rfl) (nlr rfl))<|AC.wk (Qp 9 (p:=1) (off:=1) 301 Zn rfl rfl (Fresh.of rfl) (nlr rfl))<|Qd ?_
 have j:(false:Bool)=((Qg s).2):=by
  (rw[Yd (Qji ‹_› ‹_›)]; done)
 exact fi_ [(0,8),(1,9)] e ⟨(Qe (by (rw[Yd (Qji ‹_› ‹_›)]; rfl))),(Qe (by (rw[Yd (Qji ‹_› ‹_›)]; rfl))),trivial⟩ (h0:=by rw[← j] <;> rfl)
 have d:=ab c
 refine w6 ?_
 refine lc (Qi Ja rfl (ak.1 rfl) rfl rfl) ?_
 refine w3 ?_
 refine AC.wk (Qp 10 (p:=1) (off:=0) 9 .str rfl rfl (Fresh.of rfl) (nlr rfl))<|AC.wk (Qp 11 (p:=1) (off:=1) 301 Zn rfl rfl (Fresh.of rfl) (nlr rfl))<|Qd ?_
 have m:(false:Bool)=((Qg s).2):=by
  (rw[Yd (Qjh ‹_›)]; done)
 exact fi_ [(0,10),(1,11)] e ⟨(Qe (by (rw[Yd (Qjh ‹_›)]; rfl))),(Qe (by (rw[Yd (Qjh ‹_›)]; rfl))),trivial⟩ (h0:=by rw[← m] <;> rfl)
end Go.Proofs.YtndabgcpnmeeoaaGreat
