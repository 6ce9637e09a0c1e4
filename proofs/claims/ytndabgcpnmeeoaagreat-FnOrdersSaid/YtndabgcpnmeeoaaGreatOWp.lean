/- Walks over abstract states: the values of a signal, the reference. -/
import Derived.Test.YtndabgcpnmeeoaaGreatOWn
import Derived.Test.YtndabgcpnmeeoaaGreatOWl
set_option linter.unusedSimpArgs false
set_option linter.unusedVariables false
set_option linter.unusedSectionVars false
namespace Go.Proofs.YtndabgcpnmeeoaaGreat
open Go.RowKit
set_option maxRecDepth 100000
set_option maxHeartbeats 4000000
section
variable {sig:Int}{us us':List UInt8}{arcs:List DAr}{f k n:Nat}{cf ct b1 b2:UInt8}{mv:DMv}{lb:Q9}{ls:List Q9}{ms:List DMv}
theorem Qq1 (ls:List Q9)(ms:List DMv):(QA ls ms).length=ms.length:=by simp[QA]
theorem Z5 (b:ms[k]? =some mv)(a:QjQ ls mv.2.1=lb):(QA ls ms)[k]? =some (mv.1,lb.1,lb.2,mv.2.2):=by
 unfold QA
 rw[bo,b]
 simp[QgB,a]
def ar4 (mv:DMv)(lb:Q9):DAr:=(mv.1,lb.1,lb.2,mv.2.2)
theorem Wh (b:¬lb.1=sig)(a:us[mv.1.toNat]? =some cf)(c:decide (cf=63)=true)(d:us[mv.2.2.toNat]? =some ct):YL sig (mv.1,lb.1,lb.2,mv.2.2) us=some ((us.set mv.1.toNat ct).set mv.2.2.toNat ct):=by
 unfold YL
 simp only
 rw[if_neg b,Yn a,Yn d,if_pos (ab c)]
theorem Wi (e:¬lb.1=sig)(d:us[mv.1.toNat]? =some cf)(g:decide (cf=63)=false)(i:us[mv.2.2.toNat]? =some ct)(a:ct=63∨ct=cf):YL sig (mv.1,lb.1,lb.2,mv.2.2) us=some ((us.set mv.1.toNat cf).set mv.2.2.toNat cf):=by
 unfold YL
 simp only
 rw[if_neg e,Yn d,Yn i,if_neg (aa g),if_neg]
 rintro ⟨b,c⟩
 rcases a with h | h
 ·exact b h
 ·exact c h
theorem Wj (d:¬lb.1=sig)(c:us[mv.1.toNat]? =some cf)(e:decide (cf=63)=false)(g:us[mv.2.2.toNat]? =some ct)(a:¬ct=63)(b:¬ct=cf):YL sig (mv.1,lb.1,lb.2,mv.2.2) us=none:=by
 unfold YL
 simp only
 rw[if_neg d,Yn c,Yn g,if_neg (aa e),if_pos ⟨a,b⟩]
theorem Qdw {b:Bool}{c:UInt8}(h:(YF b)[((0:Int)).toNat]? =some c):(if b=true then 49 else 48)=c:=by
 have:(YF b)[((0:Int)).toNat]? =some (if b=true then 49 else 48):=by cases b <;> rfl
 rw[this] at h
 exact ci h
theorem Wg (j:lb.1=sig)(e:(YF (!lb.2))[((0:Int)).toNat]? =some b1)(g:(YF lb.2)[((0:Int)).toNat]? =some b2)(i:cf=63∨cf=b1)(l:ct=63∨ct=b2)(c:us[mv.1.toNat]? =some cf)(d:us[mv.2.2.toNat]? =some ct):
 YL sig (mv.1,lb.1,lb.2,mv.2.2) us=some ((us.set mv.1.toNat b1).set mv.2.2.toNat b2):=by
 unfold YL
 simp only
 rw[if_pos j,Qdw e,Qdw g,Yn c,Yn d,if_neg]
 rintro (⟨a,b⟩ | ⟨a,b⟩)
 ·rcases i with h | h
  ·exact a h
  ·exact b h
 ·rcases l with h | h
  ·exact a h
  ·exact b h
theorem Xs (e:lb.1=sig)(b:(YF (!lb.2))[((0:Int)).toNat]? =some b1)(a:us[mv.1.toNat]? =some cf)(c:¬cf=63)(d:¬cf=b1):YL sig (mv.1,lb.1,lb.2,mv.2.2) us=none:=by
 unfold YL
 simp only
 rw[if_pos e,Qdw b,Yn a,if_pos (.inl ⟨c,d⟩)]
theorem Xt (e:lb.1=sig)(b:(YF lb.2)[((0:Int)).toNat]? =some b2)(a:us[mv.2.2.toNat]? =some ct)(c:¬ct=63)(d:¬ct=b2):YL sig (mv.1,lb.1,lb.2,mv.2.2) us=none:=by
 unfold YL
 simp only
 rw[if_pos e,Qdw b,Yn a,if_pos (.inr ⟨c,d⟩)]
def Qad (n k:Nat):List UInt8:=List.replicate k 63++List.replicate (n - k) 0
theorem QgW (n k:Nat)(h:k≤n):(Qad n k).length=n:=by simp[Qad]; omega
theorem Qpl (h:n≤k)(a:k≤n):Qad n k=List.replicate n 63:=by
 obtain rfl:k=n:=by omega
 simp[Qad]
theorem Qpm (h:k < n):(Qad n k).set k 63=Qad n (k+1):=by
 unfold Qad
 rw[List.set_append_right _ _ (by simp),aF,dJ,show n - k=(n - (k+1))+1 by omega,List.replicate_succ,List.set_cons_zero,List.replicate_succ']
 simp
def WJ (n:Nat)(arcs:List DAr):Nat→List Int
 | 0=>[]
 | k+1=>WJ n arcs k++(if (l5V n arcs (k:Int)).2=true then [] else [(k:Int)])
theorem QoZ (n:Nat)(arcs:List DAr)(k:Nat):(WJ n arcs k).length≤k:=by
 induction k with
 | zero=>simp[WJ]
 | succ k a=>simp only[WJ,ae]; split <;> simp <;> omega
theorem QgJ (h:(l5V n arcs (k:Int)).2=true):WJ n arcs k=WJ n arcs (k+1):=by simp[WJ,h]
theorem Qjn (h:(l5V n arcs (k:Int)).2=false):WJ n arcs k++[(k:Int)]=WJ n arcs (k+1):=by simp[WJ,h]
end
def MvOk (n m:Nat)(v:DMv):Prop:=(0≤v.1∧v.1 < (n:Int))∧(0≤v.2.1∧v.2.1 < (m:Int))∧0≤v.2.2∧v.2.2 < (n:Int)
theorem XU (b:Bool):FC Tryz.prog 352 [(false,[dB b])] [] 0 (Za (lf (dS (YF b)))):=by
 refine Qn Tryz.func352 rfl rfl Tryz.ntmps352 fun h a g c i e d=> ?_
 refine w7 ?_
 refine cb_ (fun _=> ?_) fun _=> ?_
 refine w4 ?_
 refine Qe<|fqS a ?_
 simp[YF, *]
 refine w3 ?_
 refine Qe<|fqS a ?_
 simp[YF, *]
theorem Ko (s:YA)(r:Qev)(sig:Int)(hm:∀m∈r.2,MvOk r.1.length s.2.2.1.length m)(d5:r.1.length≤1000000):FC Tryz.prog 273 [(true,[dI s.1.1, .dat QF s.1.2, .dat Qo s.2.1, .dat Qw s.2.2.1,dS s.2.2.2]),(true,[.dat Qu r.1, .dat Y5 r.2]),(false,[dI sig])] [] 0 (Za (PV.tup [(false,[dS ((l5V r.1.length (QA s.2.2.1 r.2) sig).1)]),(false,[dB ((l5V r.1.length (QA s.2.2.1 r.2) sig).2)])])):=by
 have e3:(List.replicate r.1.length (Ty.zero .u8)).length=r.1.length:=aF ..
 refine Qn Tryz.func273 rfl rfl Tryz.ntmps273 fun O_ S e4 d0 X_ d2 d1=> ?_
 refine acG 0 0 fun _=> ?_
 refine acI 2 fun _=> ?_
 refine w_ ?_
 refine xbx 0 ?_
 refine xbx 1 ?_
 refine w6 ?_
 refine alL 18 fun _=> ?_
 refine w_ ?_
 refine lc (U0 2 (e:= .u8) (n:=r.1.length) (Qa rfl) (Qa rfl) YN Qvm rfl (by omega) (by omega) rfl (Fresh.of rfl) (nlr rfl)) ?_
 refine w9 ?_
 refine lp0 r.1.length (fun k=>⟨[(2,lI sig),(3,lP 0 0),(4,lP 1 0),(6,lf (dS (⟨#[]⟩:ByteArray))),(7,lB false),(8,lR 3),(22,lI ((List.replicate r.1.length (Ty.zero .u8)).length:Int)),(23,lI (k:Int))],[bx 0 51 [dI s.1.1, .dat QF s.1.2, .dat Qo s.2.1, .dat Qw s.2.2.1,dS s.2.2.2],bx 1 178 [.dat Qu r.1, .dat Y5 r.2],ar 3 5 .u8 (Qad r.1.length k)]⟩) ?_ fun k _=> ?_
 exact wp [(3,2)] ⟨rfl,rfl,(Qh (rfl)),trivial⟩
 have d3:=QgW r.1.length k (by omega)
 refine w4 ?_
 cases T:(decide ((k:Int) < ((List.replicate r.1.length (Ty.zero .u8)).length:Int)))
 have U:=aa T
 refine w8 ?_
 refine QH (fun m_ s_=>∃(p:Nat) (us:List UInt8),p≤(r.1.length+1)∧m_=(r.1.length+1) - p∧(WN sig (QA s.2.2.1 r.2) (r.1.length+1) (List.replicate r.1.length 63)=WN sig (QA s.2.2.1 r.2) (r.1.length+1 - p) us)∧(us.length=r.1.length)∧s_=⟨[(2,lI sig),(3,lP 0 0),(4,lP 1 0),(8,lR 4),(10,lI (p:Int))],[bx 0 51 [dI s.1.1, .dat QF s.1.2, .dat Qo s.2.1, .dat Qw s.2.2.1,dS s.2.2.2],bx 1 178 [.dat Qu r.1, .dat Y5 r.2],ar 4 5 .u8 us]⟩) ⟨0,Qad r.1.length k,aP _,rfl,(by rw[Qpl (by omega) (by omega)]; rfl),(QgW _ _ (by omega)),rfl⟩ ?_ ?_
 exact wp [(4,3)] ⟨rfl,rfl,(Qh (by first | rfl | simp)),trivial⟩
 rintro m_ s_ ⟨p,us,d4,e2,hA,hL,rfl⟩
 refine w5 ?_
 refine alL 32 fun _=> ?_
 refine w3 ?_
 cases X:(decide ((p:Int)≤(r.1.length:Int)))
 have Y:=aa X
 refine w5 ?_
 refine lc (XA (ys:=us) (U1 (Qa rfl) rfl) YN QbT ZN rfl) ?_
 refine w4 ?_
 have a9:((⟨(us).toArray⟩:ByteArray):ByteArray)=((l5V r.1.length (QA s.2.2.1 r.2) sig).1):=by
  first | (rw[Qh6 (us:=us) (by rw[hA,show r.1.length+1 - p=0 by omega]; rfl)]; done)
 have b0:(true:Bool)=((l5V r.1.length (QA s.2.2.1 r.2) sig).2):=by
  first | (rw[Qh6 (us:=us) (by rw[hA,show r.1.length+1 - p=0 by omega]; rfl)]; done)
 exact fr_ S (e:=by rw[a9,← b0] <;> rfl)
 have Y:=ab X
 refine w7 ?_
 refine alL 38 fun _=> ?_
 refine w4 ?_
 refine QH (fun m_ s_=>∃(i:Nat) (a:List UInt8),i≤r.2.length∧m_=r.2.length - i∧(WN sig (QA s.2.2.1 r.2) (r.1.length+1) (List.replicate r.1.length 63)=Qaa sig (QA s.2.2.1 r.2) (r.1.length - p) (Xp sig ((QA s.2.2.1 r.2).drop i) a))∧(a.length=r.1.length)∧s_=⟨[(2,lI sig),(3,lP 0 0),(4,lP 1 0),(8,lR 5),(10,lI (p:Int)),(30,lI (p:Int)),(31,lP 1 0),(32,lf (.dat Qu r.1)),(33,lI (r.1.length:Int)),(34,lB true),(37,lP 1 1),(38,lf (.dat Y5 r.2)),(39,lI (r.2.length:Int)),(40,lI (i:Int))],[bx 0 51 [dI s.1.1, .dat QF s.1.2, .dat Qo s.2.1, .dat Qw s.2.2.1,dS s.2.2.2],bx 1 178 [.dat Qu r.1, .dat Y5 r.2],ar 5 5 .u8 a]⟩) ⟨0,us,aP _,rfl,(by rw[hA,show r.1.length+1 - p=(r.1.length - p)+1 by omega]; exact QrW _ _),hL,rfl⟩ ?_ ?_
 exact wo [(5,4)]
 rintro m_ s_ ⟨i,a,c4,c5,c,j,rfl⟩
 refine w4 ?_
 cases u:(decide ((i:Int) < (r.2.length:Int)))
 have G:=aa u
 refine w7 ?_
 refine Qf<|ZF ⟨p+1,a,by omega,rfl,(by rw[c,QpH (by rw[Qq1]; omega),show r.1.length+1 - (p+1)=r.1.length - p by omega]; rfl),j,rfl⟩ (by omega) ?_
 exact wo [(4,5)]
 have G:=ab u
 refine w5 ?_
 obtain ⟨mv,b⟩:=gx r.2 i
 obtain ⟨⟨d6,d7⟩,⟨d8,d9⟩,e0,e1⟩:=hm _ (ai b)
 refine w2 ?_
 refine lc (xal 6 Zx YX) ?_
 refine w7 ?_
 refine alI 47 fun _=> ?_
 obtain ⟨lb,Z⟩:=gx s.2.2.1 ((mv.2.1).toNat)
 have d:=Qh7 Z
 refine w2 ?_
 refine lc (xal 7 QL Xy) ?_
 refine w6 ?_
 refine alI 51 fun _=> ?_
 refine w3 ?_
 cases v:(!decide (lb.1=sig))
 have H:(lb.1=sig):=QY v
 refine w2 ?_
 obtain ⟨g,c2⟩:∃z,(YF (!lb.2))[(0:Int).toNat]? =some z:=by first | exact ⟨_,dH _ _ (by omega)⟩ | exact ⟨_,rfl⟩
 obtain ⟨h,c3⟩:∃z,(YF lb.2)[(0:Int).toNat]? =some z:=by first | exact ⟨_,dH _ _ (by omega)⟩ | exact ⟨_,rfl⟩
 apply dW (i3 95 _ _ _ (io 98 (lf (dS (YF (!lb.2)))) :: i3 99 _ _ _ (io 102 (lf (dS (YF lb.2))) :: io 103 _ :: i2 15 _ _ []))) [0,0,0,0,0,31,31,16,16,256,0]
 refine z3 ?_
 refine zz (fun _ h_=>ac (dK (XU (!lb.2)) Ue) rfl) ?_
 refine z3 ?_
 refine zz (fun _ h_=>ac (dK (XU lb.2) Ue) rfl) ?_
 exact y3
 refine w5 ?_
 refine alI 106 fun _=> ?_
 refine w_ ?_
 obtain ⟨cf,l⟩:=gx a ((mv.1).toNat)
 refine w_ ?_
 refine lc (Zy (Qa rfl) (Q0 63 rfl) rfl) ?_
 refine w_ ?_
 cases w:(!decide (cf=63))
 have I:(cf=63):=QY w
 refine w13 ?_
 obtain ⟨ct,c6⟩:=gx a ((mv.2.2).toNat)
 refine w_ ?_
 refine lgy rfl rfl (Zy (Qa rfl) (Q0 63 rfl) rfl) ?_
 refine w_ ?_
 cases x:(!decide (ct=63))
 have J:(ct=63):=QY x
 refine w16 ?_
 refine w2 ?_
 refine lc (Qz (e:= .u8) (z':=g) (Qa rfl) rfl l rfl (Ql rfl) rfl ZH rfl rfl) ?_
 refine w5 ?_
 refine alI 143 fun _=> ?_
 refine w2 ?_
 obtain ⟨e5,a0⟩:∃z,(a.set ((mv.1).toNat) g)[(mv.2.2).toNat]? =some z:=⟨_,ap (by first | omega | (simp only[au]; omega))⟩
 refine lc (Qz (e:= .u8) (z':=h) (Qa rfl) rfl a0 rfl (Ql rfl) rfl ZH rfl rfl)<|Qf ?_
 refine w4 ?_
 refine Qf<|ZF ⟨i+1,((a.set ((mv.1).toNat) g).set ((mv.2.2).toNat) h),by omega,rfl,c.trans (congrArg (Qaa sig (QA s.2.2.1 r.2) (r.1.length - p)) (Vo (Z5 b d) (by first | exact Wh (cf:=cf) (ct:=ct) ‹_› ‹_› ‹_› ‹_› | exact Wi (cf:=cf) (ct:=ct) ‹_› ‹_› ‹_› ‹_› (by first | exact .inl ‹_› | exact .inr ‹_›) | exact Wg (cf:=cf) (ct:=ct) ‹_› ‹_› ‹_› (by first | exact .inl ‹_› | exact .inr ‹_›) (by first | exact .inl ‹_› | exact .inr ‹_›) ‹_› ‹_›))),(by simp only[au]; exact j),rfl⟩ (by omega) ?_
 exact wp [] ⟨rfl,rfl,(Qh (by first | rfl | simp)),trivial⟩
 have J:¬(ct=63):=Zb x
 refine w10 ?_
 cases y:(!decide (ct=h))
 have K:(ct=h):=QY y
 refine w8 ?_
 refine lc (Qz (e:= .u8) (z':=g) (Qa rfl) rfl l rfl (Ql rfl) rfl ZH rfl rfl) ?_
 refine w5 ?_
 refine alI 143 fun _=> ?_
 refine w2 ?_
 obtain ⟨e6,a1⟩:∃z,(a.set ((mv.1).toNat) g)[(mv.2.2).toNat]? =some z:=⟨_,ap (by first | omega | (simp only[au]; omega))⟩
 refine lc (Qz (e:= .u8) (z':=h) (Qa rfl) rfl a1 rfl (Ql rfl) rfl ZH rfl rfl)<|Qf ?_
 refine w4 ?_
 refine Qf<|ZF ⟨i+1,((a.set ((mv.1).toNat) g).set ((mv.2.2).toNat) h),by omega,rfl,c.trans (congrArg (Qaa sig (QA s.2.2.1 r.2) (r.1.length - p)) (Vo (Z5 b d) (by first | exact Wh (cf:=cf) (ct:=ct) ‹_› ‹_› ‹_› ‹_› | exact Wi (cf:=cf) (ct:=ct) ‹_› ‹_› ‹_› ‹_› (by first | exact .inl ‹_› | exact .inr ‹_›) | exact Wg (cf:=cf) (ct:=ct) ‹_› ‹_› ‹_› (by first | exact .inl ‹_› | exact .inr ‹_›) (by first | exact .inl ‹_› | exact .inr ‹_›) ‹_› ‹_›))),(by simp only[au]; exact j),rfl⟩ (by omega) ?_
 exact wp [] ⟨rfl,rfl,(Qh (by first | rfl | simp)),trivial⟩
 have K:¬(ct=h):=Zb y
 refine w6 ?_
 have b3:((⟨#[]⟩:ByteArray):ByteArray)=((l5V r.1.length (QA s.2.2.1 r.2) sig).1):=by
  (rw[Vy (by rw[c,Wf (Z5 b d) (by first | exact Wj (cf:=cf) (ct:=ct) ‹_› ‹_› ‹_› ‹_› ‹_› ‹_› | exact Xs (cf:=cf) ‹_› ‹_› ‹_› ‹_› ‹_› | exact Xt (ct:=ct) ‹_› ‹_› ‹_› ‹_› ‹_›)]; rfl)]; done)
 have b4:(false:Bool)=((l5V r.1.length (QA s.2.2.1 r.2) sig).2):=by
  (rw[Vy (by rw[c,Wf (Z5 b d) (by first | exact Wj (cf:=cf) (ct:=ct) ‹_› ‹_› ‹_› ‹_› ‹_› ‹_› | exact Xs (cf:=cf) ‹_› ‹_› ‹_› ‹_› ‹_› | exact Xt (ct:=ct) ‹_› ‹_› ‹_› ‹_› ‹_›)]; rfl)]; done)
 exact fr_ S (e:=by rw[b3,← b4] <;> rfl)
 have I:¬(cf=63):=Zb w
 refine w9 ?_
 cases A:(!decide (cf=g))
 have L:(cf=g):=QY A
 refine w4 ?_
 obtain ⟨ct,c7⟩:=gx a ((mv.2.2).toNat)
 refine w_ ?_
 refine lgy rfl rfl (Zy (Qa rfl) (Q0 63 rfl) rfl) ?_
 refine w_ ?_
 cases B:(!decide (ct=63))
 have M:(ct=63):=QY B
 refine w16 ?_
 refine w2 ?_
 refine lc (Qz (e:= .u8) (z':=g) (Qa rfl) rfl l rfl (Ql rfl) rfl ZH rfl rfl) ?_
 refine w5 ?_
 refine alI 143 fun _=> ?_
 refine w2 ?_
 obtain ⟨e7,a2⟩:∃z,(a.set ((mv.1).toNat) g)[(mv.2.2).toNat]? =some z:=⟨_,ap (by first | omega | (simp only[au]; omega))⟩
 refine lc (Qz (e:= .u8) (z':=h) (Qa rfl) rfl a2 rfl (Ql rfl) rfl ZH rfl rfl)<|Qf ?_
 refine w4 ?_
 refine Qf<|ZF ⟨i+1,((a.set ((mv.1).toNat) g).set ((mv.2.2).toNat) h),by omega,rfl,c.trans (congrArg (Qaa sig (QA s.2.2.1 r.2) (r.1.length - p)) (Vo (Z5 b d) (by first | exact Wh (cf:=cf) (ct:=ct) ‹_› ‹_› ‹_› ‹_› | exact Wi (cf:=cf) (ct:=ct) ‹_› ‹_› ‹_› ‹_› (by first | exact .inl ‹_› | exact .inr ‹_›) | exact Wg (cf:=cf) (ct:=ct) ‹_› ‹_› ‹_› (by first | exact .inl ‹_› | exact .inr ‹_›) (by first | exact .inl ‹_› | exact .inr ‹_›) ‹_› ‹_›))),(by simp only[au]; exact j),rfl⟩ (by omega) ?_
 exact wp [] ⟨rfl,rfl,(Qh (by first | rfl | simp)),trivial⟩
 have M:¬(ct=63):=Zb B
 refine w10 ?_
 cases C:(!decide (ct=h))
 have N:(ct=h):=QY C
 refine w8 ?_
 refine lc (Qz (e:= .u8) (z':=g) (Qa rfl) rfl l rfl (Ql rfl) rfl ZH rfl rfl) ?_
 refine w5 ?_
 refine alI 143 fun _=> ?_
 refine w2 ?_
 obtain ⟨e8,a3⟩:∃z,(a.set ((mv.1).toNat) g)[(mv.2.2).toNat]? =some z:=⟨_,ap (by first | omega | (simp only[au]; omega))⟩
 refine lc (Qz (e:= .u8) (z':=h) (Qa rfl) rfl a3 rfl (Ql rfl) rfl ZH rfl rfl)<|Qf ?_
 refine w4 ?_
 refine Qf<|ZF ⟨i+1,((a.set ((mv.1).toNat) g).set ((mv.2.2).toNat) h),by omega,rfl,c.trans (congrArg (Qaa sig (QA s.2.2.1 r.2) (r.1.length - p)) (Vo (Z5 b d) (by first | exact Wh (cf:=cf) (ct:=ct) ‹_› ‹_› ‹_› ‹_› | exact Wi (cf:=cf) (ct:=ct) ‹_› ‹_› ‹_› ‹_› (by first | exact .inl ‹_› | exact .inr ‹_›) | exact Wg (cf:=cf) (ct:=ct) ‹_› ‹_› ‹_› (by first | exact .inl ‹_› | exact .inr ‹_›) (by first | exact .inl ‹_› | exact .inr ‹_›) ‹_› ‹_›))),(by simp only[au]; exact j),rfl⟩ (by omega) ?_
 exact wp [] ⟨rfl,rfl,(Qh (by first | rfl | simp)),trivial⟩
 have N:¬(ct=h):=Zb C
 refine w6 ?_
 have b5:((⟨#[]⟩:ByteArray):ByteArray)=((l5V r.1.length (QA s.2.2.1 r.2) sig).1):=by
  (rw[Vy (by rw[c,Wf (Z5 b d) (by first | exact Wj (cf:=cf) (ct:=ct) ‹_› ‹_› ‹_› ‹_› ‹_› ‹_› | exact Xs (cf:=cf) ‹_› ‹_› ‹_› ‹_› ‹_› | exact Xt (ct:=ct) ‹_› ‹_› ‹_› ‹_› ‹_›)]; rfl)]; done)
 have b6:(false:Bool)=((l5V r.1.length (QA s.2.2.1 r.2) sig).2):=by
  (rw[Vy (by rw[c,Wf (Z5 b d) (by first | exact Wj (cf:=cf) (ct:=ct) ‹_› ‹_› ‹_› ‹_› ‹_› ‹_› | exact Xs (cf:=cf) ‹_› ‹_› ‹_› ‹_› ‹_› | exact Xt (ct:=ct) ‹_› ‹_› ‹_› ‹_› ‹_›)]; rfl)]; done)
 exact fr_ S (e:=by rw[b5,← b6] <;> rfl)
 have L:¬(cf=g):=Zb A
 refine w7 ?_
 refine Zh rfl rfl rfl ?_ rfl
 refine Zh rfl rfl rfl ?_ rfl
 refine Zh rfl rfl rfl ?_ rfl
 refine Zh rfl rfl rfl ?_ rfl
 refine Zh rfl rfl rfl ?_ rfl
 refine Zh rfl rfl rfl ?_ rfl
 refine Zh rfl rfl rfl ?_ rfl
 refine w9 ?_
 have b7:((⟨#[]⟩:ByteArray):ByteArray)=((l5V r.1.length (QA s.2.2.1 r.2) sig).1):=by
  (rw[Vy (by rw[c,Wf (Z5 b d) (by first | exact Wj (cf:=cf) (ct:=ct) ‹_› ‹_› ‹_› ‹_› ‹_› ‹_› | exact Xs (cf:=cf) ‹_› ‹_› ‹_› ‹_› ‹_› | exact Xt (ct:=ct) ‹_› ‹_› ‹_› ‹_› ‹_›)]; rfl)]; done)
 have b8:(false:Bool)=((l5V r.1.length (QA s.2.2.1 r.2) sig).2):=by
  (rw[Vy (by rw[c,Wf (Z5 b d) (by first | exact Wj (cf:=cf) (ct:=ct) ‹_› ‹_› ‹_› ‹_› ‹_› ‹_› | exact Xs (cf:=cf) ‹_› ‹_› ‹_› ‹_› ‹_› | exact Xt (ct:=ct) ‹_› ‹_› ‹_› ‹_› ‹_›)]; rfl)]; done)
 exact fr_ S (e:=by rw[b7,← b8] <;> rfl)
 have H:¬(lb.1=sig):=Zb v
 refine w5 ?_
 refine alI 56 fun _=> ?_
 refine w_ ?_
 obtain ⟨cf,o⟩:=gx a ((mv.1).toNat)
 refine w6 ?_
 refine lc (Zm (Qa rfl) (Q0 63 rfl) rfl) ?_
 refine w_ ?_
 cases q:(decide (cf=63))
 have O:=aa q
 refine w5 ?_
 refine lc (Zy (Qa rfl) (Q0 63 rfl) rfl) ?_
 refine w_ ?_
 have V:(!decide (cf=63))=true:=Qsa (q)
 try rw[V]
 refine w4 ?_
 obtain ⟨ct,c8⟩:=gx a ((mv.2.2).toNat)
 refine w_ ?_
 refine lgy rfl rfl (Zy (Qa rfl) (Q0 63 rfl) rfl) ?_
 refine w2 ?_
 cases D:(!decide (ct=63))
 have P:(ct=63):=QY D
 refine w16 ?_
 refine w_ ?_
 refine lc (Qz (e:= .u8) (z':=cf) (Qa rfl) rfl o rfl (Ql rfl) rfl ZH rfl rfl) ?_
 refine w5 ?_
 refine alI 92 fun _=> ?_
 refine w2 ?_
 obtain ⟨e9,a4⟩:∃z,(a.set ((mv.1).toNat) cf)[(mv.2.2).toNat]? =some z:=⟨_,ap (by first | omega | (simp only[au]; omega))⟩
 refine lc (Qz (e:= .u8) (z':=cf) (Qa rfl) rfl a4 rfl (Ql rfl) rfl ZH rfl rfl) ?_
 refine w6 ?_
 refine Qf<|ZF ⟨i+1,((a.set ((mv.1).toNat) cf).set ((mv.2.2).toNat) cf),by omega,rfl,c.trans (congrArg (Qaa sig (QA s.2.2.1 r.2) (r.1.length - p)) (Vo (Z5 b d) (by first | exact Wh (cf:=cf) (ct:=ct) ‹_› ‹_› ‹_› ‹_› | exact Wi (cf:=cf) (ct:=ct) ‹_› ‹_› ‹_› ‹_› (by first | exact .inl ‹_› | exact .inr ‹_›) | exact Wg (cf:=cf) (ct:=ct) ‹_› ‹_› ‹_› (by first | exact .inl ‹_› | exact .inr ‹_›) (by first | exact .inl ‹_› | exact .inr ‹_›) ‹_› ‹_›))),(by simp only[au]; exact j),rfl⟩ (by omega) ?_
 exact wp [] ⟨rfl,rfl,(Qh (by first | rfl | simp)),trivial⟩
 have P:¬(ct=63):=Zb D
 refine w9 ?_
 cases E:(!decide (ct=cf))
 have Q:(ct=cf):=QY E
 refine w8 ?_
 refine lc (Qz (e:= .u8) (z':=cf) (Qa rfl) rfl o rfl (Ql rfl) rfl ZH rfl rfl) ?_
 refine w5 ?_
 refine alI 92 fun _=> ?_
 refine w2 ?_
 obtain ⟨f0,a5⟩:∃z,(a.set ((mv.1).toNat) cf)[(mv.2.2).toNat]? =some z:=⟨_,ap (by first | omega | (simp only[au]; omega))⟩
 refine lc (Qz (e:= .u8) (z':=cf) (Qa rfl) rfl a5 rfl (Ql rfl) rfl ZH rfl rfl) ?_
 refine w6 ?_
 refine Qf<|ZF ⟨i+1,((a.set ((mv.1).toNat) cf).set ((mv.2.2).toNat) cf),by omega,rfl,c.trans (congrArg (Qaa sig (QA s.2.2.1 r.2) (r.1.length - p)) (Vo (Z5 b d) (by first | exact Wh (cf:=cf) (ct:=ct) ‹_› ‹_› ‹_› ‹_› | exact Wi (cf:=cf) (ct:=ct) ‹_› ‹_› ‹_› ‹_› (by first | exact .inl ‹_› | exact .inr ‹_›) | exact Wg (cf:=cf) (ct:=ct) ‹_› ‹_› ‹_› (by first | exact .inl ‹_› | exact .inr ‹_›) (by first | exact .inl ‹_› | exact .inr ‹_›) ‹_› ‹_›))),(by simp only[au]; exact j),rfl⟩ (by omega) ?_
 exact wp [] ⟨rfl,rfl,(Qh (by first | rfl | simp)),trivial⟩
 have Q:¬(ct=cf):=Zb E
 refine w6 ?_
 have b9:((⟨#[]⟩:ByteArray):ByteArray)=((l5V r.1.length (QA s.2.2.1 r.2) sig).1):=by
  (rw[Vy (by rw[c,Wf (Z5 b d) (by first | exact Wj (cf:=cf) (ct:=ct) ‹_› ‹_› ‹_› ‹_› ‹_› ‹_› | exact Xs (cf:=cf) ‹_› ‹_› ‹_› ‹_› ‹_› | exact Xt (ct:=ct) ‹_› ‹_› ‹_› ‹_› ‹_›)]; rfl)]; done)
 have c0:(false:Bool)=((l5V r.1.length (QA s.2.2.1 r.2) sig).2):=by
  (rw[Vy (by rw[c,Wf (Z5 b d) (by first | exact Wj (cf:=cf) (ct:=ct) ‹_› ‹_› ‹_› ‹_› ‹_› ‹_› | exact Xs (cf:=cf) ‹_› ‹_› ‹_› ‹_› ‹_› | exact Xt (ct:=ct) ‹_› ‹_› ‹_› ‹_› ‹_›)]; rfl)]; done)
 exact fr_ S (e:=by rw[b9,← c0] <;> rfl)
 have O:=ab q
 refine w5 ?_
 refine alI 63 fun _=> ?_
 refine w_ ?_
 obtain ⟨ct,c9⟩:=gx a ((mv.2.2).toNat)
 refine w6 ?_
 refine lc (Zy (Qa rfl) (Q0 63 rfl) rfl) ?_
 refine w_ ?_
 cases t:(!decide (ct=63))
 have R:(ct=63):=QY t
 refine w16 ?_
 refine w9 ?_
 refine lc (Qz (e:= .u8) (z':=ct) (Qa rfl) rfl o rfl (Ql rfl) rfl ZH rfl rfl) ?_
 refine w7 ?_
 obtain ⟨f1,a6⟩:∃z,(a.set ((mv.1).toNat) ct)[(mv.2.2).toNat]? =some z:=⟨_,ap (by first | omega | (simp only[au]; omega))⟩
 refine lc (Qz (e:= .u8) (z':=ct) (Qa rfl) rfl a6 rfl (Ql rfl) rfl ZH rfl rfl) ?_
 refine w6 ?_
 refine Qf<|ZF ⟨i+1,((a.set ((mv.1).toNat) ct).set ((mv.2.2).toNat) ct),by omega,rfl,c.trans (congrArg (Qaa sig (QA s.2.2.1 r.2) (r.1.length - p)) (Vo (Z5 b d) (by first | exact Wh (cf:=cf) (ct:=ct) ‹_› ‹_› ‹_› ‹_› | exact Wi (cf:=cf) (ct:=ct) ‹_› ‹_› ‹_› ‹_› (by first | exact .inl ‹_› | exact .inr ‹_›) | exact Wg (cf:=cf) (ct:=ct) ‹_› ‹_› ‹_› (by first | exact .inl ‹_› | exact .inr ‹_›) (by first | exact .inl ‹_› | exact .inr ‹_›) ‹_› ‹_›))),(by simp only[au]; exact j),rfl⟩ (by omega) ?_
 exact wp [] ⟨rfl,rfl,(Qh (by first | rfl | simp)),trivial⟩
 have R:¬(ct=63):=Zb t
 refine w5 ?_
 refine lgy rfl rfl (Zy (Qa rfl) (Q0 63 rfl) rfl) ?_
 refine w2 ?_
 have W:(!decide (ct=63))=true:=Qsa (Qx5 t)
 try rw[W]
 refine w9 ?_
 have F:(!decide (ct=ct))=false:=Qsa (aY rfl)
 have c1:(ct=ct):=QY F
 try rw[F]
 refine w8 ?_
 refine lc (Qz (e:= .u8) (z':=ct) (Qa rfl) rfl o rfl (Ql rfl) rfl ZH rfl rfl) ?_
 refine w7 ?_
 obtain ⟨f2,a7⟩:∃z,(a.set ((mv.1).toNat) ct)[(mv.2.2).toNat]? =some z:=⟨_,ap (by first | omega | (simp only[au]; omega))⟩
 refine lc (Qz (e:= .u8) (z':=ct) (Qa rfl) rfl a7 rfl (Ql rfl) rfl ZH rfl rfl) ?_
 refine w6 ?_
 refine Qf<|ZF ⟨i+1,((a.set ((mv.1).toNat) ct).set ((mv.2.2).toNat) ct),by omega,rfl,c.trans (congrArg (Qaa sig (QA s.2.2.1 r.2) (r.1.length - p)) (Vo (Z5 b d) (by first | exact Wh (cf:=cf) (ct:=ct) ‹_› ‹_› ‹_› ‹_› | exact Wi (cf:=cf) (ct:=ct) ‹_› ‹_› ‹_› ‹_› (by first | exact .inl ‹_› | exact .inr ‹_›) | exact Wg (cf:=cf) (ct:=ct) ‹_› ‹_› ‹_› (by first | exact .inl ‹_› | exact .inr ‹_›) (by first | exact .inl ‹_› | exact .inr ‹_›) ‹_› ‹_›))),(by simp only[au]; exact j),rfl⟩ (by omega) ?_
 exact wp [] ⟨rfl,rfl,(Qh (by first | rfl | simp)),trivial⟩
 have U:=ab T
 refine w12 ?_
 obtain ⟨f3,a8⟩:=gx (Qad r.1.length k) k
 refine lc (Qz (e:= .u8) (z':=63) (Qa rfl) rfl a8 rfl (Evl.ev (Q0 63 rfl)) rfl ZH rfl rfl)<|Qf ?_
 refine w4 ?_
 refine Qf ?_
 refine l0_ ?_
 exact wp [] ⟨rfl,rfl,(Qh (Qpm (by omega))),trivial⟩
theorem Qdn (s:YA)(r:Qev)(p:∀m∈r.2,MvOk r.1.length s.2.2.1.length m)(c:r.1.length≤1000000)(d:s.2.1.length≤1000000):FC Tryz.prog 272 [(true,[dI s.1.1, .dat QF s.1.2, .dat Qo s.2.1, .dat Qw s.2.2.1,dS s.2.2.2]),(true,[.dat Qu r.1, .dat Y5 r.2])] [] 0 (XB 3 .int (WJ r.1.length (QA s.2.2.1 r.2) s.2.1.length)):=by
 refine Qn Tryz.func272 rfl rfl Tryz.ntmps272 fun t j q g u i h=> ?_
 refine acG 0 0 fun _=> ?_
 refine w_ ?_
 refine xbx 0 ?_
 refine xbx 1 ?_
 refine w9 ?_
 refine alL 10 fun d=> ?_
 refine w4 ?_
 refine AC.wk (Wk.nilS 2 5 3 .int rfl (Fresh.of rfl) (nlr rfl)) ?_
 refine lp0 s.2.1.length (fun k=>⟨[(2,lP 0 0),(3,lP 1 0),(4,lf (.val (.slice none 0 0))),(5,lR 3),(11,lI (s.2.1.length:Int)),(12,lI (k:Int))],[bx 0 51 [dI s.1.1, .dat QF s.1.2, .dat Qo s.2.1, .dat Qw s.2.2.1,dS s.2.2.2],bx 1 178 [.dat Qu r.1, .dat Y5 r.2],ar 3 3 .int (WJ r.1.length (QA s.2.2.1 r.2) k)]⟩) ?_ fun k _=> ?_
 exact wp [(3,2)] ⟨rfl,rfl,(Qh (by first | rfl | simp)),trivial⟩
 have o:=QoZ r.1.length (QA s.2.2.1 r.2) k
 refine w4 ?_
 cases a:(decide ((k:Int) < (s.2.1.length:Int)))
 have b:=aa a
 refine w7 ?_
 refine Qe<|fo_ j ?_
 rw[show k=s.2.1.length by omega]
 have b:=ab a
 refine w12 ?_
 refine lc (dK (Ko s r (k:Int) p c) QeN) ?_
 refine w10 ?_
 cases l:((l5V r.1.length (QA s.2.2.1 r.2) (k:Int)).2)
 refine w4 ?_
 refine lc (dBs 4 (e:= .int) Zq) ?_
 refine lc (dA 5 YO) ?_
 refine w_ ?_
 refine Qf ?_
 refine w4 ?_
 refine Qf ?_
 refine l0_ ?_
 exact wp [(3,5)] ⟨rfl,rfl,(Qh (by first | exact QgJ ‹_› | exact Qjn ‹_›)),trivial⟩
 refine w6 ?_
 refine Qf ?_
 refine l0_ ?_
 exact wp [] ⟨rfl,rfl,(Qh (by first | exact QgJ ‹_› | exact Qjn ‹_›)),trivial⟩
end Go.Proofs.YtndabgcpnmeeoaaGreat
namespace Go.Proofs.YtndabgcpnmeeoaaGreat
open Go.RowKit
set_option maxRecDepth 100000
set_option maxHeartbeats 4000000
structure Rok (m:Nat) (st:RS):Prop where
  one:1≤st.1.length
  most:st.1.length≤300
  nd:st.1.Nodup
  mv:∀v∈st.2.1,MvOk st.1.length m v
section
variable {n:Yh}{k f:Nat}{mk:ByteArray}{t:Int}{ts:List Int}{st:RS}{s:Qy}{l:List ByteArray}{x:ByteArray}
theorem QrF (h:0≤ZM l x):ZM l x < l.length:=by
 unfold ZM ZO at h ⊢
 cases a:l.findIdx? (fun y=>decide (y=x)) with
 | none=>rw[a] at h; simp at h
 | some i=>
  obtain ⟨b,_⟩:=bS.1 a
  simp; omega
theorem QgY (h:¬0≤ZM l x):x∉l:=fun b=>by
 unfold ZM ZO at h
 cases a:l.findIdx? (fun y=>decide (y=x)) with
 | none=>
  have:=List.findIdx?_eq_none_iff.1 a x b
  simp at this
 | some i=>rw[a] at h; simp at h
theorem MvOk.grow {a b m:Nat}{v:DMv}(h:MvOk a m v)(hab:a≤b):MvOk b m v:=by
 obtain ⟨⟨c,g⟩,d,e,i⟩:=h
 exact ⟨⟨c,by omega⟩,d,e,by omega⟩
theorem Qv7 (q:k < st.1.length)(g:∀t∈ts,0≤t∧t < n.2.length)(h:Rok n.2.length st):Rok n.2.length (goT n k mk ts st).1∧(goT n k mk ts st).1.2.1.length≤st.2.1.length+ts.length∧st.1.length≤(goT n k mk ts st).1.1.length:=by
 induction ts generalizing st with
 | nil=>rw[goT]; exact ⟨h,by simp,aL _⟩
 | cons t ts u=>
  have r:=g t (aw ..)
  have d:∀t∈ts,0≤t∧t < n.2.length:=fun t h=>g t (ax _ h)
  rw[goT]
  split
  ·exact ⟨h,by simp,aL _⟩
  ·split
   ·rename_i i
    have p:=QrF i
    obtain ⟨j,m,o⟩:=u (st:=(st.1,st.2.1++[((k:Int),t,ZM st.1 (Zw n mk t).1)],st.2.2)) q d ⟨h.one,h.most,h.nd,fun v c=>by
     rcases aG.1 c with c | c
     ·exact h.mv v c
     ·rw[aC.1 c]; exact ⟨⟨cQ _,by simpa using q⟩,r,i,p⟩⟩
    exact ⟨j,by simp at m ⊢; omega,o⟩
   ·rename_i i
    split
    ·exact ⟨h,by simp,aL _⟩
    ·rename_i z
     have A:=h.most
     obtain ⟨j,m,o⟩:=u (st:=(st.1++[(Zw n mk t).1],st.2.1++[((k:Int),t,(st.1.length:Int))],st.2.2++[((k:Int),t,(st.1.length:Int))])) (by simp; omega) d ⟨by simp,by simp; omega,
      aT.2 ⟨h.nd,by simp,fun a w b y e=>QgY i (by rw[aC.1 y] at e; exact e▸w)⟩,fun v c=>by
       rcases aG.1 c with c | c
       ·exact (h.mv v c).grow (by simp)
       ·rw[aC.1 c]; exact ⟨⟨cQ _,by simp; omega⟩,r,cQ _,by simp; omega⟩⟩
     exact ⟨j,by simp at m ⊢; omega,by simp at o; omega⟩
theorem Qv5 (r:n.2.length≤24)(h:Rok n.2.length st)(q:st.2.1.length≤24*k):Rok n.2.length (goK n f k st).1∧(goK n f k st).1.2.1.length≤24*(k+f):=by
 induction f generalizing k st with
 | zero=>rw[goK]; exact ⟨h,by omega⟩
 | succ f g=>
  rw[goK]
  cases e:st.1[k]? with
  | none=>exact ⟨h,by show st.2.1.length≤_; omega⟩
  | some mk=>
   obtain ⟨a,j,m⟩:=Qv7 (mk:=mk) (ts:=QO n mk) (ah.1 e).1 (fun t d=>by
    obtain ⟨i,c⟩:=aO.1 d
    exact Yu c) h
   have o:=Ub n mk
   show Rok n.2.length (if _ then _ else _:RS×Qjc).1∧(if _ then _ else _:RS×Qjc).1.2.1.length≤_
   split
   ·obtain ⟨b,p⟩:=g (k:=k+1) a (by omega)
    exact ⟨b,by omega⟩
   ·exact ⟨a,by omega⟩
theorem Qsx (a:StgOk s):Rok s.2.2.1.length (ZS s).1∧(ZS s).1.2.1.length≤7224:=by
 have h:=Qv5 (n:=s.1) (k:=0) (f:=301) (st:=([s.2.2.2],[],[((0:Int),(0:Int),(0:Int))])) a.net.2.1 ⟨by simp,by simp,by simp,by simp⟩ (by simp)
 rw[← a.len] at h
 exact h
end
theorem QfQ {a:List QB}(h:XM a):a.length≤24:=by
 have:=h.2.2
 omega
section
variable [∀s,Decidable (StgOk s)]{s:Qy}
theorem XD (h:¬StgOk s):Qb s=(QmZ,false):=if_neg fun a=>h a.1
theorem Yb (h:(exV s).2.2.2=false):Qb s=(QmZ,false):=if_neg fun a=>by
 have:(ZS s).2.2.2=false:=h
 rw[this] at a
 cases a.2
theorem XE (a:StgOk s)(h:(exV s).2.2.2=true):Qb s=((exV s).1,true):=if_pos ⟨a,h⟩
theorem Zs (h:(Qb s).2=true):StgOk s∧1≤(Qb s).1.1.length∧(Qb s).1.1.length≤300∧(Qb s).1.1.Nodup∧(∀v∈(Qb s).1.2,MvOk (Qb s).1.1.length s.2.2.1.length v)∧(Qb s).1.2.length≤7224:=by
 unfold Qb at h ⊢
 split
 ·rename_i a
  obtain ⟨b,c⟩:=Qsx a.1
  exact ⟨a.1,b.one,b.most,b.nd,b.mv,c⟩
 ·rename_i a
  rw[if_neg a] at h
  cases h
end
section
variable {s:Qy}
theorem Qh5 (h:¬0≤(l4V s).2.2.2.1)(a:(l4V s).2.2.2.2=false):(exV s).2.2.2=true:=by
 have h:¬0≤(ZS s).2.2.1:=h
 have a:(!(ZS s).2.2.2&&decide ((ZS s).2.2.1 < 0))=false:=a
 show (ZS s).2.2.2=true
 rw[aY (by omega)] at a
 simpa using a
theorem Qh4 (h:¬0≤(l4V s).2.2.2.1)(a:(l4V s).2.2.2.2=true):(exV s).2.2.2=false:=by
 have a:(!(ZS s).2.2.2&&decide ((ZS s).2.2.1 < 0))=true:=a
 rw[aM] at a
 show (ZS s).2.2.2=false
 simpa using a.1
end
theorem Qpv {n:Yh}{k:Nat}{mk:ByteArray}{ts:List Int}{st:RS}(h:(goT n k mk ts st).2.2.2=true):(goT n k mk ts st).2.2.1= -1:=by
 induction ts generalizing st with
 | nil=>rw[goT]
 | cons t ts c=>
  rw[goT] at h ⊢
  split
  ·rename_i a; rw[if_pos a] at h; cases h
  ·rename_i a
   rw[if_neg a] at h
   split
   ·rename_i b; rw[if_pos b] at h; exact c h
   ·rename_i b
    rw[if_neg b] at h
    split
    ·rfl
    ·rename_i d; rw[if_neg d] at h; exact c h
theorem Qpu {n:Yh}{f k:Nat}{st:RS}(h:(goK n f k st).2.2.2=true):(goK n f k st).2.2.1= -1:=by
 induction f generalizing k st with
 | zero=>rw[goK]
 | succ f c=>
  rw[goK] at h ⊢
  cases b:st.1[k]? with
  | none=>rfl
  | some mk=>
   rw[b] at h
   simp only at h ⊢
   split
   ·rename_i a; rw[if_pos a] at h; exact c h
   ·rename_i a; rw[if_neg a] at h; exact Qpv h
theorem Qh3 {s:Qy}(h:0≤(l4V s).2.2.2.1):(exV s).2.2.2=false:=by
 have h:0≤(ZS s).2.2.1:=h
 show (ZS s).2.2.2=false
 cases a:(ZS s).2.2.2 with
 | false=>rfl
 | true=>
  have:=Qpu (n:=s.1) (f:=301) (k:=0) (st:=([s.2.2.2],[],[((0:Int),(0:Int),(0:Int))])) a
  have b:(ZS s).2.2.1= -1:=this
  omega
theorem Vw (s:YA)[∀s,Decidable (StgOk s)]:FC Tryz.prog 241 [(true,[dI s.1.1, .dat QF s.1.2, .dat Qo s.2.1, .dat Qw s.2.2.1,dS s.2.2.2])] [] 0 (Is (PV.tup [(true,[.ref 0, .ref 1]),(false,[dB ((Qb s).2)])]) [ar 0 9 .str (((Qb s).1).1),ar 1 301 Zx (((Qb s).1).2)]):=by
 refine Qn Tryz.func241 rfl rfl Tryz.ntmps241 fun o c m d q j i=> ?_
 refine acG 0 0 fun _=> ?_
 refine w_ ?_
 refine xbx 0 ?_
 refine lc (xal 1 Qdu XI) ?_
 refine w5 ?_
 refine lc (dK (YU s) KW) ?_
 refine w2 ?_
 cases a:(decide (StgOk s))
 have b:=aa a
 refine w2 ?_
 refine lc (Qj KM rfl (av.1 rfl) rfl rfl) ?_
 refine w3 ?_
 refine AC.wk (Qq 2 (p:=1) (off:=0) 9 .str rfl rfl (Fresh.of rfl) (nlr rfl))<|AC.wk (Qq 3 (p:=1) (off:=1) 301 Zx rfl rfl (Fresh.of rfl) (nlr rfl))<|Qe ?_
 have e:(false:Bool)=((Qb s).2):=by
  (rw[XD ‹_›]; done)
 exact fi_ [(0,2),(1,3)] c ⟨(Qh (by (rw[XD ‹_›]; rfl))),(Qh (by (rw[XD ‹_›]; rfl))),trivial⟩ (h0:=by rw[← e] <;> rfl)
 have b:=ab a
 refine w4 ?_
 refine lc (dG 4 (Qck s ‹_›) Ql0) ?_
 refine w5 ?_
 refine lc (xal 6 Qdu XI) ?_
 refine w10 ?_
 refine cx_ (fun _=> ?_) fun _=> ?_
 refine w_ ?_
 refine lc (Qj KM rfl (av.1 rfl) rfl rfl) ?_
 refine w3 ?_
 refine AC.wk (Qq 7 (p:=1) (off:=0) 9 .str rfl rfl (Fresh.of rfl) (nlr rfl))<|AC.wk (Qq 8 (p:=1) (off:=1) 301 Zx rfl rfl (Fresh.of rfl) (nlr rfl))<|Qe ?_
 have g:(false:Bool)=((Qb s).2):=by
  (rw[Yb ‹_›]; done)
 exact fi_ [(0,7),(1,8)] c ⟨(Qh (by (rw[Yb ‹_›]; rfl))),(Qh (by (rw[Yb ‹_›]; rfl))),trivial⟩ (h0:=by rw[← g] <;> rfl)
 refine w7 ?_
 have h:(true:Bool)=((Qb s).2):=by
  (rw[XE ‹_› ‹_›]; done)
 exact fi_ [(0,4),(1,5)] c ⟨(Qh (by (rw[XE ‹_› ‹_›]; done))),(Qh (by (rw[XE ‹_› ‹_›]; done))),trivial⟩ (h0:=by rw[← h] <;> rfl)
theorem XY (s:YA)[∀s,Decidable (StgOk s)]:FC Tryz.prog 119 [(true,[dI s.1.1, .dat QF s.1.2, .dat Qo s.2.1, .dat Qw s.2.2.1,dS s.2.2.2])] [] 0 (Is (PV.tup [(true,[.ref 0, .ref 1]),(false,[dB ((Qb s).2)])]) [ar 0 9 .str (((Qb s).1).1),ar 1 301 Zx (((Qb s).1).2)]):=by
 refine Qn Tryz.func119 rfl rfl Tryz.ntmps119 fun v e u g w q o=> ?_
 refine acG 0 0 fun _=> ?_
 refine w_ ?_
 refine xbx 0 ?_
 refine lc (xal 1 Qdu XI) ?_
 refine w5 ?_
 refine lc (dK (Z0 s) Xl) ?_
 refine w2 ?_
 cases a:(decide (StgOk s))
 have b:=aa a
 refine w2 ?_
 refine lc (Qj KM rfl (av.1 rfl) rfl rfl) ?_
 refine w3 ?_
 refine AC.wk (Qq 2 (p:=1) (off:=0) 9 .str rfl rfl (Fresh.of rfl) (nlr rfl))<|AC.wk (Qq 3 (p:=1) (off:=1) 301 Zx rfl rfl (Fresh.of rfl) (nlr rfl))<|Qe ?_
 have h:(false:Bool)=((Qb s).2):=by
  (rw[XD ‹_›]; done)
 exact fi_ [(0,2),(1,3)] e ⟨(Qh (by (rw[XD ‹_›]; rfl))),(Qh (by (rw[XD ‹_›]; rfl))),trivial⟩ (h0:=by rw[← h] <;> rfl)
 have b:=ab a
 refine w4 ?_
 refine lc (dG 4 (Qdm s ‹_›) Qlx) ?_
 refine lc (xal 7 Qw1 Qd1) ?_
 refine w6 ?_
 refine alI 12 fun _=> ?_
 refine w2 ?_
 cases c:(decide (0≤((l4V s).2.2.2.1)))
 have d:=aa c
 refine w4 ?_
 cases r:((l4V s).2.2.2.2)
 refine w9 ?_
 have i:(true:Bool)=((Qb s).2):=by
  (rw[XE ‹_› (Qh5 ‹_› ‹_›)]; done)
 exact fi_ [(0,4),(1,5)] e ⟨(Qh (by (rw[XE ‹_› (Qh5 ‹_› ‹_›)]; rfl))),(Qh (by (rw[XE ‹_› (Qh5 ‹_› ‹_›)]; rfl))),trivial⟩ (h0:=by rw[← i] <;> rfl)
 refine w2 ?_
 refine lc (Qj KM rfl (av.1 rfl) rfl rfl) ?_
 refine w3 ?_
 refine AC.wk (Qq 8 (p:=1) (off:=0) 9 .str rfl rfl (Fresh.of rfl) (nlr rfl))<|AC.wk (Qq 9 (p:=1) (off:=1) 301 Zx rfl rfl (Fresh.of rfl) (nlr rfl))<|Qe ?_
 have j:(false:Bool)=((Qb s).2):=by
  (rw[Yb (Qh4 ‹_› ‹_›)]; done)
 exact fi_ [(0,8),(1,9)] e ⟨(Qh (by (rw[Yb (Qh4 ‹_› ‹_›)]; rfl))),(Qh (by (rw[Yb (Qh4 ‹_› ‹_›)]; rfl))),trivial⟩ (h0:=by rw[← j] <;> rfl)
 have d:=ab c
 refine w6 ?_
 refine lc (Qj KM rfl (av.1 rfl) rfl rfl) ?_
 refine w3 ?_
 refine AC.wk (Qq 10 (p:=1) (off:=0) 9 .str rfl rfl (Fresh.of rfl) (nlr rfl))<|AC.wk (Qq 11 (p:=1) (off:=1) 301 Zx rfl rfl (Fresh.of rfl) (nlr rfl))<|Qe ?_
 have m:(false:Bool)=((Qb s).2):=by
  (rw[Yb (Qh3 ‹_›)]; done)
 exact fi_ [(0,10),(1,11)] e ⟨(Qh (by (rw[Yb (Qh3 ‹_›)]; rfl))),(Qh (by (rw[Yb (Qh3 ‹_›)]; rfl))),trivial⟩ (h0:=by rw[← m] <;> rfl)
end Go.Proofs.YtndabgcpnmeeoaaGreat
