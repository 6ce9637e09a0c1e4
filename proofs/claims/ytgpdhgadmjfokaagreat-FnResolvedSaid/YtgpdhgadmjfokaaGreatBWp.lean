/- Walks over abstract states: the values of a signal, the reference. -/
import Derived.Test.YtgpdhgadmjfokaaGreatBWn
set_option linter.unusedSimpArgs false
set_option linter.unusedVariables false
set_option linter.unusedSectionVars false
namespace Go.Proofs.YtgpdhgadmjfokaaGreat
open Go.RowKit
set_option maxRecDepth 100000
set_option maxHeartbeats 4000000
section
variable {sig:Int}{us us':List UInt8}{arcs:List DAr}{f k n:Nat}{cf ct b1 b2:UInt8}{mv:DMv}{lb:Zb}{ls:List Zb}{ms:List DMv}
theorem QsH (ls:List Zb)(ms:List DMv):(QP ls ms).length=ms.length:=by simp[QP]
theorem Yl (b:ms[k]? =some mv)(a:QeJ ls mv.2.1=lb):(QP ls ms)[k]? =some (mv.1,lb.1,lb.2,mv.2.2):=by
 unfold QP
 rw[bc,b]
 simp[Qoj,a]
def ar4 (mv:DMv)(lb:Zb):DAr:=(mv.1,lb.1,lb.2,mv.2.2)
theorem Wd (b:¬lb.1=sig)(a:us[mv.1.toNat]? =some cf)(c:decide (cf=63)=true)(d:us[mv.2.2.toNat]? =some ct):YN sig (mv.1,lb.1,lb.2,mv.2.2) us=some ((us.set mv.1.toNat ct).set mv.2.2.toNat ct):=by
 unfold YN
 simp only
 rw[if_neg b,Yy a,Yy d,if_pos (ab c)]
theorem Wn (e:¬lb.1=sig)(d:us[mv.1.toNat]? =some cf)(g:decide (cf=63)=false)(i:us[mv.2.2.toNat]? =some ct)(a:ct=63∨ct=cf):YN sig (mv.1,lb.1,lb.2,mv.2.2) us=some ((us.set mv.1.toNat cf).set mv.2.2.toNat cf):=by
 unfold YN
 simp only
 rw[if_neg e,Yy d,Yy i,if_neg (aa g),if_neg]
 rintro ⟨b,c⟩
 rcases a with h | h
 ·exact b h
 ·exact c h
theorem Wh (d:¬lb.1=sig)(c:us[mv.1.toNat]? =some cf)(e:decide (cf=63)=false)(g:us[mv.2.2.toNat]? =some ct)(a:¬ct=63)(b:¬ct=cf):YN sig (mv.1,lb.1,lb.2,mv.2.2) us=none:=by
 unfold YN
 simp only
 rw[if_neg d,Yy c,Yy g,if_neg (aa e),if_pos ⟨a,b⟩]
theorem QdH {b:Bool}{c:UInt8}(h:(Xw b)[((0:Int)).toNat]? =some c):(if b=true then 49 else 48)=c:=by
 have:(Xw b)[((0:Int)).toNat]? =some (if b=true then 49 else 48):=by cases b <;> rfl
 rw[this] at h
 exact cw h
theorem We (j:lb.1=sig)(e:(Xw (!lb.2))[((0:Int)).toNat]? =some b1)(g:(Xw lb.2)[((0:Int)).toNat]? =some b2)(i:cf=63∨cf=b1)(l:ct=63∨ct=b2)(c:us[mv.1.toNat]? =some cf)(d:us[mv.2.2.toNat]? =some ct):
 YN sig (mv.1,lb.1,lb.2,mv.2.2) us=some ((us.set mv.1.toNat b1).set mv.2.2.toNat b2):=by
 unfold YN
 simp only
 rw[if_pos j,QdH e,QdH g,Yy c,Yy d,if_neg]
 rintro (⟨a,b⟩ | ⟨a,b⟩)
 ·rcases i with h | h
  ·exact a h
  ·exact b h
 ·rcases l with h | h
  ·exact a h
  ·exact b h
theorem Xp (e:lb.1=sig)(b:(Xw (!lb.2))[((0:Int)).toNat]? =some b1)(a:us[mv.1.toNat]? =some cf)(c:¬cf=63)(d:¬cf=b1):YN sig (mv.1,lb.1,lb.2,mv.2.2) us=none:=by
 unfold YN
 simp only
 rw[if_pos e,QdH b,Yy a,if_pos (.inl ⟨c,d⟩)]
theorem Xv (e:lb.1=sig)(b:(Xw lb.2)[((0:Int)).toNat]? =some b2)(a:us[mv.2.2.toNat]? =some ct)(c:¬ct=63)(d:¬ct=b2):YN sig (mv.1,lb.1,lb.2,mv.2.2) us=none:=by
 unfold YN
 simp only
 rw[if_pos e,QdH b,Yy a,if_pos (.inr ⟨c,d⟩)]
def HU (n k:Nat):List UInt8:=List.replicate k 63++List.replicate (n - k) 0
theorem QgH (n k:Nat)(h:k≤n):(HU n k).length=n:=by simp[HU]; omega
theorem Qqj (h:n≤k)(a:k≤n):HU n k=List.replicate n 63:=by
 obtain rfl:k=n:=by omega
 simp[HU]
theorem QpM (h:k < n):(HU n k).set k 63=HU n (k+1):=by
 unfold HU
 rw[List.set_append_right _ _ (by simp),aF,Nat.sub_self,show n - k=(n - (k+1))+1 by omega,List.replicate_succ,List.set_cons_zero,List.replicate_succ']
 simp
def WI (n:Nat)(arcs:List DAr):Nat→List Int
 | 0=>[]
 | k+1=>WI n arcs k++(if (l5V n arcs (k:Int)).2=true then [] else [(k:Int)])
theorem QpV (n:Nat)(arcs:List DAr)(k:Nat):(WI n arcs k).length≤k:=by
 induction k with
 | zero=>simp[WI]
 | succ k a=>simp only[WI,ae]; split <;> simp <;> omega
theorem Qgz (h:(l5V n arcs (k:Int)).2=true):WI n arcs k=WI n arcs (k+1):=by simp[WI,h]
theorem Qi8 (h:(l5V n arcs (k:Int)).2=false):WI n arcs k++[(k:Int)]=WI n arcs (k+1):=by simp[WI,h]
end
def MvOk (n m:Nat)(v:DMv):Prop:=(0≤v.1∧v.1 < (n:Int))∧(0≤v.2.1∧v.2.1 < (m:Int))∧0≤v.2.2∧v.2.2 < (n:Int)
theorem XS (up:Bool):FC Tryz.prog 316 [(false,[dB up])] [] 0 (Q7 (lf (dS (Xw up)))):=by
 refine Qt Tryz.func316 rfl rfl Tryz.ntmps316 fun g a e b h d c=> ?_
 refine w7 ?_
 refine cb_ (fun _=> ?_) fun _=> ?_
 refine w4 ?_
 refine Qd<|fqS a ?_
 simp[Xw, *]
 refine w3 ?_
 refine Qd<|fqS a ?_
 simp[Xw, *]
theorem U9 (s:QlQ)(r:List ByteArray×(List (Int×Int×Int)))(sig:Int)(hm:∀m∈r.2,MvOk r.1.length s.2.2.1.length m)(d5:r.1.length≤1000000):FC Tryz.prog 264 [(true,[dI s.1.1, .dat X7 s.1.2, .dat Ql s.2.1, .dat YQ s.2.2.1,dS s.2.2.2]),(true,[.dat Qm r.1, .dat QcT r.2]),(false,[dI sig])] [] 0 (Q7 (PV.tup [(false,[dS ((l5V r.1.length (QP s.2.2.1 r.2) sig).1)]),(false,[dB ((l5V r.1.length (QP s.2.2.1 r.2) sig).2)])])):=by
 have e3:(List.replicate r.1.length (Ty.zero .u8)).length=r.1.length:=aF ..
 refine Qt Tryz.func264 rfl rfl Tryz.ntmps264 fun O_ S e4 d0 X_ d2 d1=> ?_
 refine acG 0 0 fun _=> ?_
 refine acI 2 fun _=> ?_
 refine w_ ?_
 refine xbx 0 ?_
 refine xbx 1 ?_
 refine w6 ?_
 refine alL 18 fun _=> ?_
 refine w_ ?_
 refine lc (Wm 2 (e:= .u8) (n:=r.1.length) (Qa rfl) (Qa rfl) ZD QvF rfl (by omega) (by omega) rfl (Fresh.of rfl) (nlr rfl)) ?_
 refine w9 ?_
 refine lp0 r.1.length (fun k=>⟨[(2,lI sig),(3,lP 0 0),(4,lP 1 0),(6,lf (dS (⟨#[]⟩:ByteArray))),(7,lB false),(8,lR 3),(22,lI ((List.replicate r.1.length (Ty.zero .u8)).length:Int)),(23,lI (k:Int))],[bx 0 62 [dI s.1.1, .dat X7 s.1.2, .dat Ql s.2.1, .dat YQ s.2.2.1,dS s.2.2.2],bx 1 160 [.dat Qm r.1, .dat QcT r.2],ar 3 5 .u8 (HU r.1.length k)]⟩) ?_ fun k _=> ?_
 exact wp [(3,2)] ⟨rfl,rfl,(Qe (rfl)),trivial⟩
 have d3:=QgH r.1.length k (by omega)
 refine w4 ?_
 cases T:(decide ((k:Int) < ((List.replicate r.1.length (Ty.zero .u8)).length:Int)))
 have U:=aa T
 refine w8 ?_
 refine QL (fun m_ s_=>∃(p:Nat) (us:List UInt8),p≤(r.1.length+1)∧m_=(r.1.length+1) - p∧(WG sig (QP s.2.2.1 r.2) (r.1.length+1) (List.replicate r.1.length 63)=WG sig (QP s.2.2.1 r.2) (r.1.length+1 - p) us)∧(us.length=r.1.length)∧s_=⟨[(2,lI sig),(3,lP 0 0),(4,lP 1 0),(8,lR 4),(10,lI (p:Int))],[bx 0 62 [dI s.1.1, .dat X7 s.1.2, .dat Ql s.2.1, .dat YQ s.2.2.1,dS s.2.2.2],bx 1 160 [.dat Qm r.1, .dat QcT r.2],ar 4 5 .u8 us]⟩) ⟨0,HU r.1.length k,aS _,rfl,(by rw[Qqj (by omega) (by omega)]; rfl),(QgH _ _ (by omega)),rfl⟩ ?_ ?_
 exact wp [(4,3)] ⟨rfl,rfl,(Qe (by first | rfl | simp)),trivial⟩
 rintro m_ s_ ⟨p,us,d4,e2,hA,hL,rfl⟩
 refine w5 ?_
 refine alL 32 fun _=> ?_
 refine w3 ?_
 cases X:(decide ((p:Int)≤(r.1.length:Int)))
 have Y:=aa X
 refine w5 ?_
 refine lc (Zm (ys:=us) (YM (Qa rfl) rfl) ZD Vl Zf rfl) ?_
 refine w4 ?_
 have a9:((⟨(us).toArray⟩:ByteArray):ByteArray)=((l5V r.1.length (QP s.2.2.1 r.2) sig).1):=by
  first | (rw[Qim (us:=us) (by rw[hA,show r.1.length+1 - p=0 by omega]; rfl)]; done)
 have b0:(true:Bool)=((l5V r.1.length (QP s.2.2.1 r.2) sig).2):=by
  first | (rw[Qim (us:=us) (by rw[hA,show r.1.length+1 - p=0 by omega]; rfl)]; done)
 exact fr_ S (e:=by rw[a9,← b0] <;> rfl)
 have Y:=ab X
 refine w7 ?_
 refine alL 38 fun _=> ?_
 refine w4 ?_
 refine QL (fun m_ s_=>∃(i:Nat) (a:List UInt8),i≤r.2.length∧m_=r.2.length - i∧(WG sig (QP s.2.2.1 r.2) (r.1.length+1) (List.replicate r.1.length 63)=HM sig (QP s.2.2.1 r.2) (r.1.length - p) (Xj sig ((QP s.2.2.1 r.2).drop i) a))∧(a.length=r.1.length)∧s_=⟨[(2,lI sig),(3,lP 0 0),(4,lP 1 0),(8,lR 5),(10,lI (p:Int)),(30,lI (p:Int)),(31,lP 1 0),(32,lf (.dat Qm r.1)),(33,lI (r.1.length:Int)),(34,lB true),(37,lP 1 1),(38,lf (.dat QcT r.2)),(39,lI (r.2.length:Int)),(40,lI (i:Int))],[bx 0 62 [dI s.1.1, .dat X7 s.1.2, .dat Ql s.2.1, .dat YQ s.2.2.1,dS s.2.2.2],bx 1 160 [.dat Qm r.1, .dat QcT r.2],ar 5 5 .u8 a]⟩) ⟨0,us,aS _,rfl,(by rw[hA,show r.1.length+1 - p=(r.1.length - p)+1 by omega]; exact Qth _ _),hL,rfl⟩ ?_ ?_
 exact wo [(5,4)]
 rintro m_ s_ ⟨i,a,c4,c5,c,j,rfl⟩
 refine w4 ?_
 cases u:(decide ((i:Int) < (r.2.length:Int)))
 have G:=aa u
 refine w7 ?_
 refine Qb<|Q2 ⟨p+1,a,by omega,rfl,(by rw[c,QpK (by rw[QsH]; omega),show r.1.length+1 - (p+1)=r.1.length - p by omega]; rfl),j,rfl⟩ (by omega) ?_
 exact wo [(4,5)]
 have G:=ab u
 refine w5 ?_
 obtain ⟨mv,b⟩:=gx r.2 i
 obtain ⟨⟨d6,d7⟩,⟨d8,d9⟩,e0,e1⟩:=hm _ (ah b)
 refine w2 ?_
 refine lc (xal 6 Wg KI) ?_
 refine w7 ?_
 refine alI 47 fun _=> ?_
 obtain ⟨lb,Z⟩:=gx s.2.2.1 ((mv.2.1).toNat)
 have d:=Qhy Z
 refine w2 ?_
 refine lc (xal 7 Qy Y8) ?_
 refine w6 ?_
 refine alI 51 fun _=> ?_
 refine w3 ?_
 cases v:(!decide (lb.1=sig))
 have H:(lb.1=sig):=QM v
 refine w2 ?_
 obtain ⟨g,c2⟩:∃z,(Xw (!lb.2))[(0:Int).toNat]? =some z:=by first | exact ⟨_,dx _ _ (by omega)⟩ | exact ⟨_,rfl⟩
 obtain ⟨h,c3⟩:∃z,(Xw lb.2)[(0:Int).toNat]? =some z:=by first | exact ⟨_,dx _ _ (by omega)⟩ | exact ⟨_,rfl⟩
 apply dW (i3 95 _ _ _ (io 98 (lf (dS (Xw (!lb.2)))) :: i3 99 _ _ _ (io 102 (lf (dS (Xw lb.2))) :: io 103 _ :: i2 15 _ _ []))) [0,0,0,0,0,31,31,16,16,256,0]
 refine z3 ?_
 refine zz (fun _ h_=>ac (dK (XS (!lb.2)) V8) rfl) ?_
 refine z3 ?_
 refine zz (fun _ h_=>ac (dK (XS lb.2) V8) rfl) ?_
 exact y3
 refine w5 ?_
 refine alI 106 fun _=> ?_
 refine w_ ?_
 obtain ⟨cf,l⟩:=gx a ((mv.1).toNat)
 refine w_ ?_
 refine lc (Q4 (Qa rfl) (Qw 63 rfl) rfl) ?_
 refine w_ ?_
 cases w:(!decide (cf=63))
 have I:(cf=63):=QM w
 refine w13 ?_
 obtain ⟨ct,c6⟩:=gx a ((mv.2.2).toNat)
 refine w_ ?_
 refine lgy rfl rfl (Q4 (Qa rfl) (Qw 63 rfl) rfl) ?_
 refine w_ ?_
 cases x:(!decide (ct=63))
 have J:(ct=63):=QM x
 refine w16 ?_
 refine w2 ?_
 refine lc (QB (e:= .u8) (z':=g) (Qa rfl) rfl l rfl (Qo rfl) rfl Zd rfl rfl) ?_
 refine w5 ?_
 refine alI 143 fun _=> ?_
 refine w2 ?_
 obtain ⟨e5,a0⟩:∃z,(a.set ((mv.1).toNat) g)[(mv.2.2).toNat]? =some z:=⟨_,ak (by first | omega | (simp only[az]; omega))⟩
 refine lc (QB (e:= .u8) (z':=h) (Qa rfl) rfl a0 rfl (Qo rfl) rfl Zd rfl rfl)<|Qb ?_
 refine w4 ?_
 refine Qb<|Q2 ⟨i+1,((a.set ((mv.1).toNat) g).set ((mv.2.2).toNat) h),by omega,rfl,c.trans (congrArg (HM sig (QP s.2.2.1 r.2) (r.1.length - p)) (Vf (Yl b d) (by first | exact Wd (cf:=cf) (ct:=ct) ‹_› ‹_› ‹_› ‹_› | exact Wn (cf:=cf) (ct:=ct) ‹_› ‹_› ‹_› ‹_› (by first | exact .inl ‹_› | exact .inr ‹_›) | exact We (cf:=cf) (ct:=ct) ‹_› ‹_› ‹_› (by first | exact .inl ‹_› | exact .inr ‹_›) (by first | exact .inl ‹_› | exact .inr ‹_›) ‹_› ‹_›))),(by simp only[az]; exact j),rfl⟩ (by omega) ?_
 exact wp [] ⟨rfl,rfl,(Qe (by first | rfl | simp)),trivial⟩
 have J:¬(ct=63):=QS x
 refine w10 ?_
 cases y:(!decide (ct=h))
 have K:(ct=h):=QM y
 refine w8 ?_
 refine lc (QB (e:= .u8) (z':=g) (Qa rfl) rfl l rfl (Qo rfl) rfl Zd rfl rfl) ?_
 refine w5 ?_
 refine alI 143 fun _=> ?_
 refine w2 ?_
 obtain ⟨e6,a1⟩:∃z,(a.set ((mv.1).toNat) g)[(mv.2.2).toNat]? =some z:=⟨_,ak (by first | omega | (simp only[az]; omega))⟩
 refine lc (QB (e:= .u8) (z':=h) (Qa rfl) rfl a1 rfl (Qo rfl) rfl Zd rfl rfl)<|Qb ?_
 refine w4 ?_
 refine Qb<|Q2 ⟨i+1,((a.set ((mv.1).toNat) g).set ((mv.2.2).toNat) h),by omega,rfl,c.trans (congrArg (HM sig (QP s.2.2.1 r.2) (r.1.length - p)) (Vf (Yl b d) (by first | exact Wd (cf:=cf) (ct:=ct) ‹_› ‹_› ‹_› ‹_› | exact Wn (cf:=cf) (ct:=ct) ‹_› ‹_› ‹_› ‹_› (by first | exact .inl ‹_› | exact .inr ‹_›) | exact We (cf:=cf) (ct:=ct) ‹_› ‹_› ‹_› (by first | exact .inl ‹_› | exact .inr ‹_›) (by first | exact .inl ‹_› | exact .inr ‹_›) ‹_› ‹_›))),(by simp only[az]; exact j),rfl⟩ (by omega) ?_
 exact wp [] ⟨rfl,rfl,(Qe (by first | rfl | simp)),trivial⟩
 have K:¬(ct=h):=QS y
 refine w6 ?_
 have b3:((⟨#[]⟩:ByteArray):ByteArray)=((l5V r.1.length (QP s.2.2.1 r.2) sig).1):=by
  (rw[Vv (by rw[c,Wo (Yl b d) (by first | exact Wh (cf:=cf) (ct:=ct) ‹_› ‹_› ‹_› ‹_› ‹_› ‹_› | exact Xp (cf:=cf) ‹_› ‹_› ‹_› ‹_› ‹_› | exact Xv (ct:=ct) ‹_› ‹_› ‹_› ‹_› ‹_›)]; rfl)]; done)
 have b4:(false:Bool)=((l5V r.1.length (QP s.2.2.1 r.2) sig).2):=by
  (rw[Vv (by rw[c,Wo (Yl b d) (by first | exact Wh (cf:=cf) (ct:=ct) ‹_› ‹_› ‹_› ‹_› ‹_› ‹_› | exact Xp (cf:=cf) ‹_› ‹_› ‹_› ‹_› ‹_› | exact Xv (ct:=ct) ‹_› ‹_› ‹_› ‹_› ‹_›)]; rfl)]; done)
 exact fr_ S (e:=by rw[b3,← b4] <;> rfl)
 have I:¬(cf=63):=QS w
 refine w9 ?_
 cases A:(!decide (cf=g))
 have L:(cf=g):=QM A
 refine w4 ?_
 obtain ⟨ct,c7⟩:=gx a ((mv.2.2).toNat)
 refine w_ ?_
 refine lgy rfl rfl (Q4 (Qa rfl) (Qw 63 rfl) rfl) ?_
 refine w_ ?_
 cases B:(!decide (ct=63))
 have M:(ct=63):=QM B
 refine w16 ?_
 refine w2 ?_
 refine lc (QB (e:= .u8) (z':=g) (Qa rfl) rfl l rfl (Qo rfl) rfl Zd rfl rfl) ?_
 refine w5 ?_
 refine alI 143 fun _=> ?_
 refine w2 ?_
 obtain ⟨e7,a2⟩:∃z,(a.set ((mv.1).toNat) g)[(mv.2.2).toNat]? =some z:=⟨_,ak (by first | omega | (simp only[az]; omega))⟩
 refine lc (QB (e:= .u8) (z':=h) (Qa rfl) rfl a2 rfl (Qo rfl) rfl Zd rfl rfl)<|Qb ?_
 refine w4 ?_
 refine Qb<|Q2 ⟨i+1,((a.set ((mv.1).toNat) g).set ((mv.2.2).toNat) h),by omega,rfl,c.trans (congrArg (HM sig (QP s.2.2.1 r.2) (r.1.length - p)) (Vf (Yl b d) (by first | exact Wd (cf:=cf) (ct:=ct) ‹_› ‹_› ‹_› ‹_› | exact Wn (cf:=cf) (ct:=ct) ‹_› ‹_› ‹_› ‹_› (by first | exact .inl ‹_› | exact .inr ‹_›) | exact We (cf:=cf) (ct:=ct) ‹_› ‹_› ‹_› (by first | exact .inl ‹_› | exact .inr ‹_›) (by first | exact .inl ‹_› | exact .inr ‹_›) ‹_› ‹_›))),(by simp only[az]; exact j),rfl⟩ (by omega) ?_
 exact wp [] ⟨rfl,rfl,(Qe (by first | rfl | simp)),trivial⟩
 have M:¬(ct=63):=QS B
 refine w10 ?_
 cases C:(!decide (ct=h))
 have N:(ct=h):=QM C
 refine w8 ?_
 refine lc (QB (e:= .u8) (z':=g) (Qa rfl) rfl l rfl (Qo rfl) rfl Zd rfl rfl) ?_
 refine w5 ?_
 refine alI 143 fun _=> ?_
 refine w2 ?_
 obtain ⟨e8,a3⟩:∃z,(a.set ((mv.1).toNat) g)[(mv.2.2).toNat]? =some z:=⟨_,ak (by first | omega | (simp only[az]; omega))⟩
 refine lc (QB (e:= .u8) (z':=h) (Qa rfl) rfl a3 rfl (Qo rfl) rfl Zd rfl rfl)<|Qb ?_
 refine w4 ?_
 refine Qb<|Q2 ⟨i+1,((a.set ((mv.1).toNat) g).set ((mv.2.2).toNat) h),by omega,rfl,c.trans (congrArg (HM sig (QP s.2.2.1 r.2) (r.1.length - p)) (Vf (Yl b d) (by first | exact Wd (cf:=cf) (ct:=ct) ‹_› ‹_› ‹_› ‹_› | exact Wn (cf:=cf) (ct:=ct) ‹_› ‹_› ‹_› ‹_› (by first | exact .inl ‹_› | exact .inr ‹_›) | exact We (cf:=cf) (ct:=ct) ‹_› ‹_› ‹_› (by first | exact .inl ‹_› | exact .inr ‹_›) (by first | exact .inl ‹_› | exact .inr ‹_›) ‹_› ‹_›))),(by simp only[az]; exact j),rfl⟩ (by omega) ?_
 exact wp [] ⟨rfl,rfl,(Qe (by first | rfl | simp)),trivial⟩
 have N:¬(ct=h):=QS C
 refine w6 ?_
 have b5:((⟨#[]⟩:ByteArray):ByteArray)=((l5V r.1.length (QP s.2.2.1 r.2) sig).1):=by
  (rw[Vv (by rw[c,Wo (Yl b d) (by first | exact Wh (cf:=cf) (ct:=ct) ‹_› ‹_› ‹_› ‹_› ‹_› ‹_› | exact Xp (cf:=cf) ‹_› ‹_› ‹_› ‹_› ‹_› | exact Xv (ct:=ct) ‹_› ‹_› ‹_› ‹_› ‹_›)]; rfl)]; done)
 have b6:(false:Bool)=((l5V r.1.length (QP s.2.2.1 r.2) sig).2):=by
  (rw[Vv (by rw[c,Wo (Yl b d) (by first | exact Wh (cf:=cf) (ct:=ct) ‹_› ‹_› ‹_› ‹_› ‹_› ‹_› | exact Xp (cf:=cf) ‹_› ‹_› ‹_› ‹_› ‹_› | exact Xv (ct:=ct) ‹_› ‹_› ‹_› ‹_› ‹_›)]; rfl)]; done)
 exact fr_ S (e:=by rw[b5,← b6] <;> rfl)
 have L:¬(cf=g):=QS A
 refine w7 ?_
 refine Qi rfl rfl rfl ?_ rfl
 refine Qi rfl rfl rfl ?_ rfl
 refine Qi rfl rfl rfl ?_ rfl
 refine Qi rfl rfl rfl ?_ rfl
 refine Qi rfl rfl rfl ?_ rfl
 refine Qi rfl rfl rfl ?_ rfl
 refine Qi rfl rfl rfl ?_ rfl
 refine w9 ?_
 have b7:((⟨#[]⟩:ByteArray):ByteArray)=((l5V r.1.length (QP s.2.2.1 r.2) sig).1):=by
  (rw[Vv (by rw[c,Wo (Yl b d) (by first | exact Wh (cf:=cf) (ct:=ct) ‹_› ‹_› ‹_› ‹_› ‹_› ‹_› | exact Xp (cf:=cf) ‹_› ‹_› ‹_› ‹_› ‹_› | exact Xv (ct:=ct) ‹_› ‹_› ‹_› ‹_› ‹_›)]; rfl)]; done)
 have b8:(false:Bool)=((l5V r.1.length (QP s.2.2.1 r.2) sig).2):=by
  (rw[Vv (by rw[c,Wo (Yl b d) (by first | exact Wh (cf:=cf) (ct:=ct) ‹_› ‹_› ‹_› ‹_› ‹_› ‹_› | exact Xp (cf:=cf) ‹_› ‹_› ‹_› ‹_› ‹_› | exact Xv (ct:=ct) ‹_› ‹_› ‹_› ‹_› ‹_›)]; rfl)]; done)
 exact fr_ S (e:=by rw[b7,← b8] <;> rfl)
 have H:¬(lb.1=sig):=QS v
 refine w5 ?_
 refine alI 56 fun _=> ?_
 refine w_ ?_
 obtain ⟨cf,o⟩:=gx a ((mv.1).toNat)
 refine w6 ?_
 refine lc (Qr (Qa rfl) (Qw 63 rfl) rfl) ?_
 refine w_ ?_
 cases q:(decide (cf=63))
 have O:=aa q
 refine w5 ?_
 refine lc (Q4 (Qa rfl) (Qw 63 rfl) rfl) ?_
 refine w_ ?_
 have V:(!decide (cf=63))=true:=QeM (q)
 try rw[V]
 refine w4 ?_
 obtain ⟨ct,c8⟩:=gx a ((mv.2.2).toNat)
 refine w_ ?_
 refine lgy rfl rfl (Q4 (Qa rfl) (Qw 63 rfl) rfl) ?_
 refine w2 ?_
 cases D:(!decide (ct=63))
 have P:(ct=63):=QM D
 refine w16 ?_
 refine w_ ?_
 refine lc (QB (e:= .u8) (z':=cf) (Qa rfl) rfl o rfl (Qo rfl) rfl Zd rfl rfl) ?_
 refine w5 ?_
 refine alI 92 fun _=> ?_
 refine w2 ?_
 obtain ⟨e9,a4⟩:∃z,(a.set ((mv.1).toNat) cf)[(mv.2.2).toNat]? =some z:=⟨_,ak (by first | omega | (simp only[az]; omega))⟩
 refine lc (QB (e:= .u8) (z':=cf) (Qa rfl) rfl a4 rfl (Qo rfl) rfl Zd rfl rfl) ?_
 refine w6 ?_
 refine Qb<|Q2 ⟨i+1,((a.set ((mv.1).toNat) cf).set ((mv.2.2).toNat) cf),by omega,rfl,c.trans (congrArg (HM sig (QP s.2.2.1 r.2) (r.1.length - p)) (Vf (Yl b d) (by first | exact Wd (cf:=cf) (ct:=ct) ‹_› ‹_› ‹_› ‹_› | exact Wn (cf:=cf) (ct:=ct) ‹_› ‹_› ‹_› ‹_› (by first | exact .inl ‹_› | exact .inr ‹_›) | exact We (cf:=cf) (ct:=ct) ‹_› ‹_› ‹_› (by first | exact .inl ‹_› | exact .inr ‹_›) (by first | exact .inl ‹_› | exact .inr ‹_›) ‹_› ‹_›))),(by simp only[az]; exact j),rfl⟩ (by omega) ?_
 exact wp [] ⟨rfl,rfl,(Qe (by first | rfl | simp)),trivial⟩
 have P:¬(ct=63):=QS D
 refine w9 ?_
 cases E:(!decide (ct=cf))
 have Q:(ct=cf):=QM E
 refine w8 ?_
 refine lc (QB (e:= .u8) (z':=cf) (Qa rfl) rfl o rfl (Qo rfl) rfl Zd rfl rfl) ?_
 refine w5 ?_
 refine alI 92 fun _=> ?_
 refine w2 ?_
 obtain ⟨f0,a5⟩:∃z,(a.set ((mv.1).toNat) cf)[(mv.2.2).toNat]? =some z:=⟨_,ak (by first | omega | (simp only[az]; omega))⟩
 refine lc (QB (e:= .u8) (z':=cf) (Qa rfl) rfl a5 rfl (Qo rfl) rfl Zd rfl rfl) ?_
 refine w6 ?_
 refine Qb<|Q2 ⟨i+1,((a.set ((mv.1).toNat) cf).set ((mv.2.2).toNat) cf),by omega,rfl,c.trans (congrArg (HM sig (QP s.2.2.1 r.2) (r.1.length - p)) (Vf (Yl b d) (by first | exact Wd (cf:=cf) (ct:=ct) ‹_› ‹_› ‹_› ‹_› | exact Wn (cf:=cf) (ct:=ct) ‹_› ‹_› ‹_› ‹_› (by first | exact .inl ‹_› | exact .inr ‹_›) | exact We (cf:=cf) (ct:=ct) ‹_› ‹_› ‹_› (by first | exact .inl ‹_› | exact .inr ‹_›) (by first | exact .inl ‹_› | exact .inr ‹_›) ‹_› ‹_›))),(by simp only[az]; exact j),rfl⟩ (by omega) ?_
 exact wp [] ⟨rfl,rfl,(Qe (by first | rfl | simp)),trivial⟩
 have Q:¬(ct=cf):=QS E
 refine w6 ?_
 have b9:((⟨#[]⟩:ByteArray):ByteArray)=((l5V r.1.length (QP s.2.2.1 r.2) sig).1):=by
  (rw[Vv (by rw[c,Wo (Yl b d) (by first | exact Wh (cf:=cf) (ct:=ct) ‹_› ‹_› ‹_› ‹_› ‹_› ‹_› | exact Xp (cf:=cf) ‹_› ‹_› ‹_› ‹_› ‹_› | exact Xv (ct:=ct) ‹_› ‹_› ‹_› ‹_› ‹_›)]; rfl)]; done)
 have c0:(false:Bool)=((l5V r.1.length (QP s.2.2.1 r.2) sig).2):=by
  (rw[Vv (by rw[c,Wo (Yl b d) (by first | exact Wh (cf:=cf) (ct:=ct) ‹_› ‹_› ‹_› ‹_› ‹_› ‹_› | exact Xp (cf:=cf) ‹_› ‹_› ‹_› ‹_› ‹_› | exact Xv (ct:=ct) ‹_› ‹_› ‹_› ‹_› ‹_›)]; rfl)]; done)
 exact fr_ S (e:=by rw[b9,← c0] <;> rfl)
 have O:=ab q
 refine w5 ?_
 refine alI 63 fun _=> ?_
 refine w_ ?_
 obtain ⟨ct,c9⟩:=gx a ((mv.2.2).toNat)
 refine w6 ?_
 refine lc (Q4 (Qa rfl) (Qw 63 rfl) rfl) ?_
 refine w_ ?_
 cases t:(!decide (ct=63))
 have R:(ct=63):=QM t
 refine w16 ?_
 refine w9 ?_
 refine lc (QB (e:= .u8) (z':=ct) (Qa rfl) rfl o rfl (Qo rfl) rfl Zd rfl rfl) ?_
 refine w7 ?_
 obtain ⟨f1,a6⟩:∃z,(a.set ((mv.1).toNat) ct)[(mv.2.2).toNat]? =some z:=⟨_,ak (by first | omega | (simp only[az]; omega))⟩
 refine lc (QB (e:= .u8) (z':=ct) (Qa rfl) rfl a6 rfl (Qo rfl) rfl Zd rfl rfl) ?_
 refine w6 ?_
 refine Qb<|Q2 ⟨i+1,((a.set ((mv.1).toNat) ct).set ((mv.2.2).toNat) ct),by omega,rfl,c.trans (congrArg (HM sig (QP s.2.2.1 r.2) (r.1.length - p)) (Vf (Yl b d) (by first | exact Wd (cf:=cf) (ct:=ct) ‹_› ‹_› ‹_› ‹_› | exact Wn (cf:=cf) (ct:=ct) ‹_› ‹_› ‹_› ‹_› (by first | exact .inl ‹_› | exact .inr ‹_›) | exact We (cf:=cf) (ct:=ct) ‹_› ‹_› ‹_› (by first | exact .inl ‹_› | exact .inr ‹_›) (by first | exact .inl ‹_› | exact .inr ‹_›) ‹_› ‹_›))),(by simp only[az]; exact j),rfl⟩ (by omega) ?_
 exact wp [] ⟨rfl,rfl,(Qe (by first | rfl | simp)),trivial⟩
 have R:¬(ct=63):=QS t
 refine w5 ?_
 refine lgy rfl rfl (Q4 (Qa rfl) (Qw 63 rfl) rfl) ?_
 refine w2 ?_
 have W:(!decide (ct=63))=true:=QeM (QqS t)
 try rw[W]
 refine w9 ?_
 have F:(!decide (ct=ct))=false:=QeM (aQ rfl)
 have c1:(ct=ct):=QM F
 try rw[F]
 refine w8 ?_
 refine lc (QB (e:= .u8) (z':=ct) (Qa rfl) rfl o rfl (Qo rfl) rfl Zd rfl rfl) ?_
 refine w7 ?_
 obtain ⟨f2,a7⟩:∃z,(a.set ((mv.1).toNat) ct)[(mv.2.2).toNat]? =some z:=⟨_,ak (by first | omega | (simp only[az]; omega))⟩
 refine lc (QB (e:= .u8) (z':=ct) (Qa rfl) rfl a7 rfl (Qo rfl) rfl Zd rfl rfl) ?_
 refine w6 ?_
 refine Qb<|Q2 ⟨i+1,((a.set ((mv.1).toNat) ct).set ((mv.2.2).toNat) ct),by omega,rfl,c.trans (congrArg (HM sig (QP s.2.2.1 r.2) (r.1.length - p)) (Vf (Yl b d) (by first | exact Wd (cf:=cf) (ct:=ct) ‹_› ‹_› ‹_› ‹_› | exact Wn (cf:=cf) (ct:=ct) ‹_› ‹_› ‹_› ‹_› (by first | exact .inl ‹_› | exact .inr ‹_›) | exact We (cf:=cf) (ct:=ct) ‹_› ‹_› ‹_› (by first | exact .inl ‹_› | exact .inr ‹_›) (by first | exact .inl ‹_› | exact .inr ‹_›) ‹_› ‹_›))),(by simp only[az]; exact j),rfl⟩ (by omega) ?_
 exact wp [] ⟨rfl,rfl,(Qe (by first | rfl | simp)),trivial⟩
 have U:=ab T
 refine w12 ?_
 obtain ⟨f3,a8⟩:=gx (HU r.1.length k) k
 refine lc (QB (e:= .u8) (z':=63) (Qa rfl) rfl a8 rfl (Evl.ev (Qw 63 rfl)) rfl Zd rfl rfl)<|Qb ?_
 refine w4 ?_
 refine Qb ?_
 refine l0_ ?_
 exact wp [] ⟨rfl,rfl,(Qe (QpM (by omega))),trivial⟩
theorem Qde (s:QlQ)(r:List ByteArray×(List (Int×Int×Int)))(p:∀m∈r.2,MvOk r.1.length s.2.2.1.length m)(c:r.1.length≤1000000)(d:s.2.1.length≤1000000):FC Tryz.prog 263 [(true,[dI s.1.1, .dat X7 s.1.2, .dat Ql s.2.1, .dat YQ s.2.2.1,dS s.2.2.2]),(true,[.dat Qm r.1, .dat QcT r.2])] [] 0 (YJ 3 .int (WI r.1.length (QP s.2.2.1 r.2) s.2.1.length)):=by
 refine Qt Tryz.func263 rfl rfl Tryz.ntmps263 fun t j q g u i h=> ?_
 refine acG 0 0 fun _=> ?_
 refine w_ ?_
 refine xbx 0 ?_
 refine xbx 1 ?_
 refine w9 ?_
 refine alL 10 fun d=> ?_
 refine w4 ?_
 refine AC.wk (Wk.nilS 2 5 3 .int rfl (Fresh.of rfl) (nlr rfl)) ?_
 refine lp0 s.2.1.length (fun k=>⟨[(2,lP 0 0),(3,lP 1 0),(4,lf (.val (.slice none 0 0))),(5,lR 3),(11,lI (s.2.1.length:Int)),(12,lI (k:Int))],[bx 0 62 [dI s.1.1, .dat X7 s.1.2, .dat Ql s.2.1, .dat YQ s.2.2.1,dS s.2.2.2],bx 1 160 [.dat Qm r.1, .dat QcT r.2],ar 3 3 .int (WI r.1.length (QP s.2.2.1 r.2) k)]⟩) ?_ fun k _=> ?_
 exact wp [(3,2)] ⟨rfl,rfl,(Qe (by first | rfl | simp)),trivial⟩
 have o:=QpV r.1.length (QP s.2.2.1 r.2) k
 refine w4 ?_
 cases a:(decide ((k:Int) < (s.2.1.length:Int)))
 have b:=aa a
 refine w7 ?_
 refine Qd<|fo_ j ?_
 rw[show k=s.2.1.length by omega]
 have b:=ab a
 refine w12 ?_
 refine lc (dK (U9 s r (k:Int) p c) Qeg) ?_
 refine w10 ?_
 cases l:((l5V r.1.length (QP s.2.2.1 r.2) (k:Int)).2)
 refine w4 ?_
 refine lc (dBs 4 (e:= .int) Yj) ?_
 refine lc (dA 5 Y4) ?_
 refine w_ ?_
 refine Qb ?_
 refine w4 ?_
 refine Qb ?_
 refine l0_ ?_
 exact wp [(3,5)] ⟨rfl,rfl,(Qe (by first | exact Qgz ‹_› | exact Qi8 ‹_›)),trivial⟩
 refine w6 ?_
 refine Qb ?_
 refine l0_ ?_
 exact wp [] ⟨rfl,rfl,(Qe (by first | exact Qgz ‹_› | exact Qi8 ‹_›)),trivial⟩
end Go.Proofs.YtgpdhgadmjfokaaGreat
namespace Go.Proofs.YtgpdhgadmjfokaaGreat
open Go.RowKit
set_option maxRecDepth 100000
set_option maxHeartbeats 4000000
structure Rok (m:Nat) (st:RS):Prop where
  one:1≤st.1.length
  most:st.1.length≤300
  nd:st.1.Nodup
  mv:∀v∈st.2.1,MvOk st.1.length m v
section
variable {n:Xr}{k f:Nat}{mk:ByteArray}{t:Int}{ts:List Int}{st:RS}{s:Q5}{l:List ByteArray}{x:ByteArray}
theorem QrS (h:0≤Yx l x):Yx l x < l.length:=by
 unfold Yx Zl at h ⊢
 cases a:l.findIdx? (fun y=>decide (y=x)) with
 | none=>rw[a] at h; simp at h
 | some i=>
  obtain ⟨b,_⟩:=cA.1 a
  simp; omega
theorem Qo9 (h:¬0≤Yx l x):x∉l:=fun b=>by
 unfold Yx Zl at h
 cases a:l.findIdx? (fun y=>decide (y=x)) with
 | none=>
  have:=List.findIdx?_eq_none_iff.1 a x b
  simp at this
 | some i=>rw[a] at h; simp at h
theorem MvOk.grow {a b m:Nat}{v:DMv}(h:MvOk a m v)(hab:a≤b):MvOk b m v:=by
 obtain ⟨⟨c,g⟩,d,e,i⟩:=h
 exact ⟨⟨c,by omega⟩,d,e,by omega⟩
theorem Qwf (q:k < st.1.length)(g:∀t∈ts,0≤t∧t < n.2.length)(h:Rok n.2.length st):Rok n.2.length (goT n k mk ts st).1∧(goT n k mk ts st).1.2.1.length≤st.2.1.length+ts.length∧st.1.length≤(goT n k mk ts st).1.1.length:=by
 induction ts generalizing st with
 | nil=>rw[goT]; exact ⟨h,by simp,aO _⟩
 | cons t ts u=>
  have r:=g t (ax ..)
  have d:∀t∈ts,0≤t∧t < n.2.length:=fun t h=>g t (aw _ h)
  rw[goT]
  split
  ·exact ⟨h,by simp,aO _⟩
  ·split
   ·rename_i i
    have p:=QrS i
    obtain ⟨j,m,o⟩:=u (st:=(st.1,st.2.1++[((k:Int),t,Yx st.1 (YE n mk t).1)],st.2.2)) q d ⟨h.one,h.most,h.nd,fun v c=>by
     rcases aE.1 c with c | c
     ·exact h.mv v c
     ·rw[aB.1 c]; exact ⟨⟨cp _,by simpa using q⟩,r,i,p⟩⟩
    exact ⟨j,by simp at m ⊢; omega,o⟩
   ·rename_i i
    split
    ·exact ⟨h,by simp,aO _⟩
    ·rename_i z
     have A:=h.most
     obtain ⟨j,m,o⟩:=u (st:=(st.1++[(YE n mk t).1],st.2.1++[((k:Int),t,(st.1.length:Int))],st.2.2++[((k:Int),t,(st.1.length:Int))])) (by simp; omega) d ⟨by simp,by simp; omega,
      aV.2 ⟨h.nd,by simp,fun a w b y e=>Qo9 i (by rw[aB.1 y] at e; exact e▸w)⟩,fun v c=>by
       rcases aE.1 c with c | c
       ·exact (h.mv v c).grow (by simp)
       ·rw[aB.1 c]; exact ⟨⟨cp _,by simp; omega⟩,r,cp _,by simp; omega⟩⟩
     exact ⟨j,by simp at m ⊢; omega,by simp at o; omega⟩
theorem Qw9 (r:n.2.length≤24)(h:Rok n.2.length st)(q:st.2.1.length≤24*k):Rok n.2.length (goK n f k st).1∧(goK n f k st).1.2.1.length≤24*(k+f):=by
 induction f generalizing k st with
 | zero=>rw[goK]; exact ⟨h,by omega⟩
 | succ f g=>
  rw[goK]
  cases e:st.1[k]? with
  | none=>exact ⟨h,by show st.2.1.length≤_; omega⟩
  | some mk=>
   obtain ⟨a,j,m⟩:=Qwf (mk:=mk) (ts:=Jj n mk) (ai.1 e).1 (fun t d=>by
    obtain ⟨i,c⟩:=aM.1 d
    exact Vj c) h
   have o:=Qi3 n mk
   show Rok n.2.length (if _ then _ else _:RS×QiQ).1∧(if _ then _ else _:RS×QiQ).1.2.1.length≤_
   split
   ·obtain ⟨b,p⟩:=g (k:=k+1) a (by omega)
    exact ⟨b,by omega⟩
   ·exact ⟨a,by omega⟩
theorem Qrd (a:StgOk s):Rok s.2.2.1.length (ZO s).1∧(ZO s).1.2.1.length≤7224:=by
 have h:=Qw9 (n:=s.1) (k:=0) (f:=301) (st:=([s.2.2.2],[],[((0:Int),(0:Int),(0:Int))])) a.net.2.1 ⟨by simp,by simp,by simp,by simp⟩ (by simp)
 rw[← a.len] at h
 exact h
end
theorem Kc {ss:List QD}(h:XK ss):ss.length≤24:=by
 have:=h.2.2
 omega
section
variable [∀s,Decidable (StgOk s)]{s:Q5}
theorem KB (h:¬StgOk s):Qq s=(Qlo,false):=if_neg fun a=>h a.1
theorem XB (h:(exV s).2.2.2=false):Qq s=(Qlo,false):=if_neg fun a=>by
 have:(ZO s).2.2.2=false:=h
 rw[this] at a
 cases a.2
theorem KR (a:StgOk s)(h:(exV s).2.2.2=true):Qq s=((exV s).1,true):=if_pos ⟨a,h⟩
theorem Yq (h:(Qq s).2=true):StgOk s∧1≤(Qq s).1.1.length∧(Qq s).1.1.length≤300∧(Qq s).1.1.Nodup∧(∀v∈(Qq s).1.2,MvOk (Qq s).1.1.length s.2.2.1.length v)∧(Qq s).1.2.length≤7224:=by
 unfold Qq at h ⊢
 split
 ·rename_i a
  obtain ⟨b,c⟩:=Qrd a.1
  exact ⟨a.1,b.one,b.most,b.nd,b.mv,c⟩
 ·rename_i a
  rw[if_neg a] at h
  cases h
end
section
variable {s:Q5}
theorem Qh4 (h:¬0≤(l4V s).2.2.2.1)(a:(l4V s).2.2.2.2=false):(exV s).2.2.2=true:=by
 have h:¬0≤(ZO s).2.2.1:=h
 have a:(!(ZO s).2.2.2&&decide ((ZO s).2.2.1 < 0))=false:=a
 show (ZO s).2.2.2=true
 rw[aQ (by omega)] at a
 simpa using a
theorem Qiv (h:¬0≤(l4V s).2.2.2.1)(a:(l4V s).2.2.2.2=true):(exV s).2.2.2=false:=by
 have a:(!(ZO s).2.2.2&&decide ((ZO s).2.2.1 < 0))=true:=a
 rw[aL] at a
 show (ZO s).2.2.2=false
 simpa using a.1
end
theorem Qp0 {n:Xr}{k:Nat}{mk:ByteArray}{ts:List Int}{st:RS}(h:(goT n k mk ts st).2.2.2=true):(goT n k mk ts st).2.2.1= -1:=by
 induction ts generalizing st with
 | nil=>rw[goT]
 | cons t ts c=>
  rw[goT] at h ⊢
  split
  ·rename_i a; rw[if_pos a] at h; cases h
  ·rename_i a
   rw[if_neg a] at h
   split
   ·rename_i b; rw[if_pos b] at h; exact c h
   ·rename_i b
    rw[if_neg b] at h
    split
    ·rfl
    ·rename_i d; rw[if_neg d] at h; exact c h
theorem QoR {n:Xr}{f k:Nat}{st:RS}(h:(goK n f k st).2.2.2=true):(goK n f k st).2.2.1= -1:=by
 induction f generalizing k st with
 | zero=>rw[goK]
 | succ f c=>
  rw[goK] at h ⊢
  cases b:st.1[k]? with
  | none=>rfl
  | some mk=>
   rw[b] at h
   simp only at h ⊢
   split
   ·rename_i a; rw[if_pos a] at h; exact c h
   ·rename_i a; rw[if_neg a] at h; exact Qp0 h
theorem Qhm {s:Q5}(h:0≤(l4V s).2.2.2.1):(exV s).2.2.2=false:=by
 have h:0≤(ZO s).2.2.1:=h
 show (ZO s).2.2.2=false
 cases a:(ZO s).2.2.2 with
 | false=>rfl
 | true=>
  have:=QoR (n:=s.1) (f:=301) (k:=0) (st:=([s.2.2.2],[],[((0:Int),(0:Int),(0:Int))])) a
  have b:(ZO s).2.2.1= -1:=this
  omega
theorem Qdk (s:QlQ)[∀s,Decidable (StgOk s)]:FC Tryz.prog 130 [(true,[dI s.1.1, .dat X7 s.1.2, .dat Ql s.2.1, .dat YQ s.2.2.1,dS s.2.2.2])] [] 0 (Is (PV.tup [(true,[.ref 0, .ref 1]),(false,[dB ((Qq s).2)])]) [ar 0 9 .str (((Qq s).1).1),ar 1 263 Wg (((Qq s).1).2)]):=by
 refine Qt Tryz.func130 rfl rfl Tryz.ntmps130 fun v e u g w q o=> ?_
 refine acG 0 0 fun _=> ?_
 refine w_ ?_
 refine xbx 0 ?_
 refine lc (xal 1 QxW QiC) ?_
 refine w5 ?_
 refine lc (dK (Ww s) Ky) ?_
 refine w2 ?_
 cases a:(decide (StgOk s))
 have b:=aa a
 refine w2 ?_
 refine lc (Qg Qdn rfl (au.1 rfl) rfl rfl) ?_
 refine w3 ?_
 refine AC.wk (Qn 2 (p:=1) (off:=0) 9 .str rfl rfl (Fresh.of rfl) (nlr rfl))<|AC.wk (Qn 3 (p:=1) (off:=1) 263 Wg rfl rfl (Fresh.of rfl) (nlr rfl))<|Qd ?_
 have h:(false:Bool)=((Qq s).2):=by
  (rw[KB ‹_›]; done)
 exact fi_ [(0,2),(1,3)] e ⟨(Qe (by (rw[KB ‹_›]; rfl))),(Qe (by (rw[KB ‹_›]; rfl))),trivial⟩ (h0:=by rw[← h] <;> rfl)
 have b:=ab a
 refine w4 ?_
 refine lc (dG 4 (Qc3 s ‹_›) Qmb) ?_
 refine lc (xal 7 Qw4 Qdx) ?_
 refine w6 ?_
 refine alI 12 fun _=> ?_
 refine w2 ?_
 cases c:(decide (0≤((l4V s).2.2.2.1)))
 have d:=aa c
 refine w4 ?_
 cases r:((l4V s).2.2.2.2)
 refine w9 ?_
 have i:(true:Bool)=((Qq s).2):=by
  (rw[KR ‹_› (Qh4 ‹_› ‹_›)]; done)
 exact fi_ [(0,4),(1,5)] e ⟨(Qe (by (rw[KR ‹_› (Qh4 ‹_› ‹_›)]; rfl))),(Qe (by (rw[KR ‹_› (Qh4 ‹_› ‹_›)]; rfl))),trivial⟩ (h0:=by rw[← i] <;> rfl)
 refine w2 ?_
 refine lc (Qg Qdn rfl (au.1 rfl) rfl rfl) ?_
 refine w3 ?_
 refine AC.wk (Qn 8 (p:=1) (off:=0) 9 .str rfl rfl (Fresh.of rfl) (nlr rfl))<|AC.wk (Qn 9 (p:=1) (off:=1) 263 Wg rfl rfl (Fresh.of rfl) (nlr rfl))<|Qd ?_
 have j:(false:Bool)=((Qq s).2):=by
  (rw[XB (Qiv ‹_› ‹_›)]; done)
 exact fi_ [(0,8),(1,9)] e ⟨(Qe (by (rw[XB (Qiv ‹_› ‹_›)]; rfl))),(Qe (by (rw[XB (Qiv ‹_› ‹_›)]; rfl))),trivial⟩ (h0:=by rw[← j] <;> rfl)
 have d:=ab c
 refine w6 ?_
 refine lc (Qg Qdn rfl (au.1 rfl) rfl rfl) ?_
 refine w3 ?_
 refine AC.wk (Qn 10 (p:=1) (off:=0) 9 .str rfl rfl (Fresh.of rfl) (nlr rfl))<|AC.wk (Qn 11 (p:=1) (off:=1) 263 Wg rfl rfl (Fresh.of rfl) (nlr rfl))<|Qd ?_
 have m:(false:Bool)=((Qq s).2):=by
  (rw[XB (Qhm ‹_›)]; done)
 exact fi_ [(0,10),(1,11)] e ⟨(Qe (by (rw[XB (Qhm ‹_›)]; rfl))),(Qe (by (rw[XB (Qhm ‹_›)]; rfl))),trivial⟩ (h0:=by rw[← m] <;> rfl)
end Go.Proofs.YtgpdhgadmjfokaaGreat
