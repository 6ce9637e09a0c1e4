/- Walks over abstract states: the values of a signal, the reference. -/
import Derived.Test.YtjfpbcmfbnnooaaGreatGWn
set_option linter.unusedSimpArgs false
set_option linter.unusedVariables false
set_option linter.unusedSectionVars false
namespace Go.Proofs.YtjfpbcmfbnnooaaGreat
open Go.RowKit
set_option maxRecDepth 100000
set_option maxHeartbeats 4000000
section
variable {sig:Int}{us us':List UInt8}{arcs:List DAr}{f k n:Nat}{cf ct b1 b2:UInt8}{mv:DMv}{lb:ZZ}{ls:List ZZ}{ms:List DMv}
theorem Qq7 (ls:List ZZ)(ms:List DMv):(QQ ls ms).length=ms.length:=by simp[QQ]
theorem Yf (b:ms[k]? =some mv)(a:QfL ls mv.2.1=lb):(QQ ls ms)[k]? =some (mv.1,lb.1,lb.2,mv.2.2):=by
 unfold QQ
 rw[bn,b]
 simp[Qnc,a]
def ar4 (mv:DMv)(lb:ZZ):DAr:=(mv.1,lb.1,lb.2,mv.2.2)
theorem X6 (b:¬lb.1=sig)(a:us[mv.1.toNat]? =some cf)(c:decide (cf=63)=true)(d:us[mv.2.2.toNat]? =some ct):YP sig (mv.1,lb.1,lb.2,mv.2.2) us=some ((us.set mv.1.toNat ct).set mv.2.2.toNat ct):=by
 unfold YP
 simp only
 rw[if_neg b,Xd a,Xd d,if_pos (ab c)]
theorem X7 (e:¬lb.1=sig)(d:us[mv.1.toNat]? =some cf)(g:decide (cf=63)=false)(i:us[mv.2.2.toNat]? =some ct)(a:ct=63∨ct=cf):YP sig (mv.1,lb.1,lb.2,mv.2.2) us=some ((us.set mv.1.toNat cf).set mv.2.2.toNat cf):=by
 unfold YP
 simp only
 rw[if_neg e,Xd d,Xd i,if_neg (aa g),if_neg]
 rintro ⟨b,c⟩
 rcases a with h|h
 ·exact b h
 ·exact c h
theorem X8 (d:¬lb.1=sig)(c:us[mv.1.toNat]? =some cf)(e:decide (cf=63)=false)(g:us[mv.2.2.toNat]? =some ct)(a:¬ct=63)(b:¬ct=cf):YP sig (mv.1,lb.1,lb.2,mv.2.2) us=none:=by
 unfold YP
 simp only
 rw[if_neg d,Xd c,Xd g,if_neg (aa e),if_pos ⟨a,b⟩]
theorem Qdz {b:Bool}{c:UInt8}(h:(Xb b)[((0:Int)).toNat]? =some c):(if b=true then 49 else 48)=c:=by
 have:(Xb b)[((0:Int)).toNat]? =some (if b=true then 49 else 48):=by cases b <;> rfl
 rw[this] at h
 exact cN h
theorem X5 (j:lb.1=sig)(e:(Xb (!lb.2))[((0:Int)).toNat]? =some b1)(g:(Xb lb.2)[((0:Int)).toNat]? =some b2)(i:cf=63∨cf=b1)(l:ct=63∨ct=b2)(c:us[mv.1.toNat]? =some cf)(d:us[mv.2.2.toNat]? =some ct):
 YP sig (mv.1,lb.1,lb.2,mv.2.2) us=some ((us.set mv.1.toNat b1).set mv.2.2.toNat b2):=by
 unfold YP
 simp only
 rw[if_pos j,Qdz e,Qdz g,Xd c,Xd d,if_neg]
 rintro (⟨a,b⟩|⟨a,b⟩)
 ·rcases i with h|h
  ·exact a h
  ·exact b h
 ·rcases l with h|h
  ·exact a h
  ·exact b h
theorem Xq (e:lb.1=sig)(b:(Xb (!lb.2))[((0:Int)).toNat]? =some b1)(a:us[mv.1.toNat]? =some cf)(c:¬cf=63)(d:¬cf=b1):YP sig (mv.1,lb.1,lb.2,mv.2.2) us=none:=by
 unfold YP
 simp only
 rw[if_pos e,Qdz b,Xd a,if_pos (.inl ⟨c,d⟩)]
theorem Xr (e:lb.1=sig)(b:(Xb lb.2)[((0:Int)).toNat]? =some b2)(a:us[mv.2.2.toNat]? =some ct)(c:¬ct=63)(d:¬ct=b2):YP sig (mv.1,lb.1,lb.2,mv.2.2) us=none:=by
 unfold YP
 simp only
 rw[if_pos e,Qdz b,Xd a,if_pos (.inr ⟨c,d⟩)]
def H6 (n k:Nat):List UInt8:=List.replicate k 63++List.replicate (n - k) 0
theorem Qhc (n k:Nat)(h:k≤n):(H6 n k).length=n:=by simp[H6];omega
theorem Qpw (h:n≤k)(a:k≤n):H6 n k=List.replicate n 63:=by
 obtain rfl:k=n:=by omega
 simp[H6]
theorem Qpx (h:k<n):(H6 n k).set k 63=H6 n (k+1):=by
 unfold H6
 rw[List.set_append_right _ _ (by simp),az,Nat.sub_self,show n - k=(n - (k+1))+1 by omega,List.replicate_succ,List.set_cons_zero,List.replicate_succ']
 simp
def Wq (n:Nat)(arcs:List DAr):Nat→List Int
 | 0=>[]
 | k+1=>Wq n arcs k++(if (l5V n arcs (k:Int)).2=true then [] else [(k:Int)])
theorem QoY (n:Nat)(arcs:List DAr)(k:Nat):(Wq n arcs k).length≤k:=by
 induction k with
 | zero=>simp[Wq]
 | succ k a=>simp only[Wq,ah];split <;> simp <;> omega
theorem QgT (h:(l5V n arcs (k:Int)).2=true):Wq n arcs k=Wq n arcs (k+1):=by simp[Wq,h]
theorem QjB (h:(l5V n arcs (k:Int)).2=false):Wq n arcs k++[(k:Int)]=Wq n arcs (k+1):=by simp[Wq,h]
end
def MvOk (n m:Nat)(v:DMv):Prop:=(0≤v.1∧v.1<(n:Int))∧(0≤v.2.1∧v.2.1<(m:Int))∧0≤v.2.2∧v.2.2<(n:Int)
theorem XM (b:Bool):FC Tryz.prog 203 [(false,[dB b])] [] 0 (QK (lf (dS (Xb b)))):=by
 refine Qj Tryz.func203 rfl rfl Tryz.ntmps203 fun h a g c i e d=> ?_
 refine w7 ?_
 refine cb_ (fun _=> ?_) fun _=> ?_
 refine w4 ?_
 refine Qe<|fqS a ?_
 simp[Xb, *]
 refine w3 ?_
 refine Qe<|fqS a ?_
 simp[Xb, *]
theorem Kh (s:Qk1)(r:List ByteArray×(List (Int×Int×Int)))(sig:Int)(hm:∀m∈r.2,MvOk r.1.length s.2.2.1.length m)(d5:r.1.length≤1000000):FC Tryz.prog 190 [(true,[dI s.1.1,.dat XZ s.1.2,.dat Ql s.2.1,.dat XQ s.2.2.1,dS s.2.2.2]),(true,[.dat Qb r.1,.dat Qc1 r.2]),(false,[dI sig])] [] 0 (QK (PV.tup [(false,[dS ((l5V r.1.length (QQ s.2.2.1 r.2) sig).1)]),(false,[dB ((l5V r.1.length (QQ s.2.2.1 r.2) sig).2)])])):=by
 have e3:(List.replicate r.1.length (Ty.zero .u8)).length=r.1.length:=az ..
 refine Qj Tryz.func190 rfl rfl Tryz.ntmps190 fun O_ S e4 d0 X_ d2 d1=> ?_
 refine acG 0 0 fun _=> ?_
 refine acI 2 fun _=> ?_
 refine w_ ?_
 refine xbx 0 ?_
 refine xbx 1 ?_
 refine w6 ?_
 refine alL 18 fun _=> ?_
 refine w_ ?_
 refine lc (Vy 2 (e:= .u8) (n:=r.1.length) (Qa rfl) (Qa rfl) He Qzt rfl (by omega) (by omega) rfl (Fresh.of rfl) (nlr rfl)) ?_
 refine w9 ?_
 refine lp0 r.1.length (fun k=>⟨[(2,lI sig),(3,lP 0 0),(4,lP 1 0),(6,lf (dS (⟨#[]⟩:ByteArray))),(7,lB false),(8,lR 3),(22,lI ((List.replicate r.1.length (Ty.zero .u8)).length:Int)),(23,lI (k:Int))],[bx 0 164 [dI s.1.1,.dat XZ s.1.2,.dat Ql s.2.1,.dat XQ s.2.2.1,dS s.2.2.2],bx 1 227 [.dat Qb r.1,.dat Qc1 r.2],ar 3 5 .u8 (H6 r.1.length k)]⟩) ?_ fun k _=> ?_
 exact wp [(3,2)] ⟨rfl,rfl,(Qm (rfl)),trivial⟩
 have d3:=Qhc r.1.length k (by omega)
 refine w4 ?_
 cases T:(decide ((k:Int)<((List.replicate r.1.length (Ty.zero .u8)).length:Int)))
 have U:=aa T
 refine w8 ?_
 refine Qu (fun m_ s_=>∃(p:Nat) (us:List UInt8),p≤(r.1.length+1)∧m_=(r.1.length+1) - p∧(Wt sig (QQ s.2.2.1 r.2) (r.1.length+1) (List.replicate r.1.length 63)=Wt sig (QQ s.2.2.1 r.2) (r.1.length+1 - p) us)∧(us.length=r.1.length)∧s_=⟨[(2,lI sig),(3,lP 0 0),(4,lP 1 0),(8,lR 4),(10,lI (p:Int))],[bx 0 164 [dI s.1.1,.dat XZ s.1.2,.dat Ql s.2.1,.dat XQ s.2.2.1,dS s.2.2.2],bx 1 227 [.dat Qb r.1,.dat Qc1 r.2],ar 4 5 .u8 us]⟩) ⟨0,H6 r.1.length k,aL _,rfl,(by rw[Qpw (by omega) (by omega)];rfl),(Qhc _ _ (by omega)),rfl⟩ ?_ ?_
 exact wp [(4,3)] ⟨rfl,rfl,(Qm (by first|rfl|simp)),trivial⟩
 rintro m_ s_ ⟨p,us,d4,e2,hA,hL,rfl⟩
 refine w5 ?_
 refine alL 32 fun _=> ?_
 refine w3 ?_
 cases X:(decide ((p:Int)≤(r.1.length:Int)))
 have Y:=aa X
 refine w5 ?_
 refine lc (KA (ys:=us) (Qem (Qa rfl) rfl) He QkB Zo rfl) ?_
 refine w4 ?_
 have a9:((⟨(us).toArray⟩:ByteArray):ByteArray)=((l5V r.1.length (QQ s.2.2.1 r.2) sig).1):=by
  first|(rw[Qiv (us:=us) (by rw[hA,show r.1.length+1 - p=0 by omega];rfl)];done)
 have b0:(true:Bool)=((l5V r.1.length (QQ s.2.2.1 r.2) sig).2):=by
  first|(rw[Qiv (us:=us) (by rw[hA,show r.1.length+1 - p=0 by omega];rfl)];done)
 exact fr_ S (e:=by rw[a9,← b0] <;> rfl)
 have Y:=ab X
 refine w7 ?_
 refine alL 38 fun _=> ?_
 refine w4 ?_
 refine Qu (fun m_ s_=>∃(i:Nat) (a:List UInt8),i≤r.2.length∧m_=r.2.length - i∧(Wt sig (QQ s.2.2.1 r.2) (r.1.length+1) (List.replicate r.1.length 63)=H1 sig (QQ s.2.2.1 r.2) (r.1.length - p) (Xo sig ((QQ s.2.2.1 r.2).drop i) a))∧(a.length=r.1.length)∧s_=⟨[(2,lI sig),(3,lP 0 0),(4,lP 1 0),(8,lR 5),(10,lI (p:Int)),(30,lI (p:Int)),(31,lP 1 0),(32,lf (.dat Qb r.1)),(33,lI (r.1.length:Int)),(34,lB true),(37,lP 1 1),(38,lf (.dat Qc1 r.2)),(39,lI (r.2.length:Int)),(40,lI (i:Int))],[bx 0 164 [dI s.1.1,.dat XZ s.1.2,.dat Ql s.2.1,.dat XQ s.2.2.1,dS s.2.2.2],bx 1 227 [.dat Qb r.1,.dat Qc1 r.2],ar 5 5 .u8 a]⟩) ⟨0,us,aL _,rfl,(by rw[hA,show r.1.length+1 - p=(r.1.length - p)+1 by omega];exact Qsb _ _),hL,rfl⟩ ?_ ?_
 exact wo [(5,4)]
 rintro m_ s_ ⟨i,a,c4,c5,c,j,rfl⟩
 refine w4 ?_
 cases u:(decide ((i:Int)<(r.2.length:Int)))
 have G:=aa u
 refine w7 ?_
 refine Qd<|QV ⟨p+1,a,by omega,rfl,(by rw[c,QpT (by rw[Qq7];omega),show r.1.length+1 - (p+1)=r.1.length - p by omega];rfl),j,rfl⟩ (by omega) ?_
 exact wo [(4,5)]
 have G:=ab u
 refine w5 ?_
 obtain ⟨mv,b⟩:=gx r.2 i
 obtain ⟨⟨d6,d7⟩,⟨d8,d9⟩,e0,e1⟩:=hm _ (ae b)
 refine w2 ?_
 refine lc (xal 6 Z5 K5) ?_
 refine w7 ?_
 refine alI 47 fun _=> ?_
 obtain ⟨lb,Z⟩:=gx s.2.2.1 ((mv.2.1).toNat)
 have d:=Qiw Z
 refine w2 ?_
 refine lc (xal 7 ZY WP) ?_
 refine w6 ?_
 refine alI 51 fun _=> ?_
 refine w3 ?_
 cases v:(!decide (lb.1=sig))
 have H:(lb.1=sig):=Qz v
 refine w2 ?_
 obtain ⟨g,c2⟩:∃z,(Xb (!lb.2))[(0:Int).toNat]? =some z:=by first|exact ⟨_,dk _ _ (by omega)⟩|exact ⟨_,rfl⟩
 obtain ⟨h,c3⟩:∃z,(Xb lb.2)[(0:Int).toNat]? =some z:=by first|exact ⟨_,dk _ _ (by omega)⟩|exact ⟨_,rfl⟩
 apply dW (i3 95 _ _ _ (io 98 (lf (dS (Xb (!lb.2))))::i3 99 _ _ _ (io 102 (lf (dS (Xb lb.2)))::io 103 _::i2 15 _ _ []))) [0,0,0,0,0,31,31,16,16,256,0]
 refine z3 ?_
 refine zz (fun _ h_=>ac (dK (XM (!lb.2)) VR) rfl) ?_
 refine z3 ?_
 refine zz (fun _ h_=>ac (dK (XM lb.2) VR) rfl) ?_
 exact y3
 refine w5 ?_
 refine alI 106 fun _=> ?_
 refine w_ ?_
 obtain ⟨cf,l⟩:=gx a ((mv.1).toNat)
 refine w_ ?_
 refine lc (QP (Qa rfl) (QJ 63 rfl) rfl) ?_
 refine w_ ?_
 cases w:(!decide (cf=63))
 have I:(cf=63):=Qz w
 refine w13 ?_
 obtain ⟨ct,c6⟩:=gx a ((mv.2.2).toNat)
 refine w_ ?_
 refine lgy rfl rfl (QP (Qa rfl) (QJ 63 rfl) rfl) ?_
 refine w_ ?_
 cases x:(!decide (ct=63))
 have J:(ct=63):=Qz x
 refine w16 ?_
 refine w2 ?_
 refine lc (QB (e:= .u8) (z':=g) (Qa rfl) rfl l rfl (Qn rfl) rfl Xs rfl rfl) ?_
 refine w5 ?_
 refine alI 143 fun _=> ?_
 refine w2 ?_
 obtain ⟨e5,a0⟩:∃z,(a.set ((mv.1).toNat) g)[(mv.2.2).toNat]? =some z:=⟨_,ao (by first|omega|(simp only[aD];omega))⟩
 refine lc (QB (e:= .u8) (z':=h) (Qa rfl) rfl a0 rfl (Qn rfl) rfl Xs rfl rfl)<|Qd ?_
 refine w4 ?_
 refine Qd<|QV ⟨i+1,((a.set ((mv.1).toNat) g).set ((mv.2.2).toNat) h),by omega,rfl,c.trans (congrArg (H1 sig (QQ s.2.2.1 r.2) (r.1.length - p)) (W2 (Yf b d) (by first|exact X6 (cf:=cf) (ct:=ct) ‹_› ‹_› ‹_› ‹_› | exact X7 (cf:=cf) (ct:=ct) ‹_› ‹_› ‹_› ‹_› (by first|exact .inl ‹_› | exact .inr ‹_›)|exact X5 (cf:=cf) (ct:=ct) ‹_› ‹_› ‹_› (by first|exact .inl ‹_› | exact .inr ‹_›) (by first|exact .inl ‹_› | exact .inr ‹_›) ‹_› ‹_›))),(by simp only[aD];exact j),rfl⟩ (by omega) ?_
 exact wp [] ⟨rfl,rfl,(Qm (by first|rfl|simp)),trivial⟩
 have J:¬(ct=63):=QG x
 refine w10 ?_
 cases y:(!decide (ct=h))
 have K:(ct=h):=Qz y
 refine w8 ?_
 refine lc (QB (e:= .u8) (z':=g) (Qa rfl) rfl l rfl (Qn rfl) rfl Xs rfl rfl) ?_
 refine w5 ?_
 refine alI 143 fun _=> ?_
 refine w2 ?_
 obtain ⟨e6,a1⟩:∃z,(a.set ((mv.1).toNat) g)[(mv.2.2).toNat]? =some z:=⟨_,ao (by first|omega|(simp only[aD];omega))⟩
 refine lc (QB (e:= .u8) (z':=h) (Qa rfl) rfl a1 rfl (Qn rfl) rfl Xs rfl rfl)<|Qd ?_
 refine w4 ?_
 refine Qd<|QV ⟨i+1,((a.set ((mv.1).toNat) g).set ((mv.2.2).toNat) h),by omega,rfl,c.trans (congrArg (H1 sig (QQ s.2.2.1 r.2) (r.1.length - p)) (W2 (Yf b d) (by first|exact X6 (cf:=cf) (ct:=ct) ‹_› ‹_› ‹_› ‹_› | exact X7 (cf:=cf) (ct:=ct) ‹_› ‹_› ‹_› ‹_› (by first|exact .inl ‹_› | exact .inr ‹_›)|exact X5 (cf:=cf) (ct:=ct) ‹_› ‹_› ‹_› (by first|exact .inl ‹_› | exact .inr ‹_›) (by first|exact .inl ‹_› | exact .inr ‹_›) ‹_› ‹_›))),(by simp only[aD];exact j),rfl⟩ (by omega) ?_
 exact wp [] ⟨rfl,rfl,(Qm (by first|rfl|simp)),trivial⟩
 have K:¬(ct=h):=QG y
 refine w6 ?_
 have b3:((⟨#[]⟩:ByteArray):ByteArray)=((l5V r.1.length (QQ s.2.2.1 r.2) sig).1):=by
  (rw[Ub (by rw[c,X3 (Yf b d) (by first|exact X8 (cf:=cf) (ct:=ct) ‹_› ‹_› ‹_› ‹_› ‹_› ‹_› | exact Xq (cf:=cf) ‹_› ‹_› ‹_› ‹_› ‹_› | exact Xr (ct:=ct) ‹_› ‹_› ‹_› ‹_› ‹_›)];rfl)];done)
 have b4:(false:Bool)=((l5V r.1.length (QQ s.2.2.1 r.2) sig).2):=by
  (rw[Ub (by rw[c,X3 (Yf b d) (by first|exact X8 (cf:=cf) (ct:=ct) ‹_› ‹_› ‹_› ‹_› ‹_› ‹_› | exact Xq (cf:=cf) ‹_› ‹_› ‹_› ‹_› ‹_› | exact Xr (ct:=ct) ‹_› ‹_› ‹_› ‹_› ‹_›)];rfl)];done)
 exact fr_ S (e:=by rw[b3,← b4] <;> rfl)
 have I:¬(cf=63):=QG w
 refine w9 ?_
 cases A:(!decide (cf=g))
 have L:(cf=g):=Qz A
 refine w4 ?_
 obtain ⟨ct,c7⟩:=gx a ((mv.2.2).toNat)
 refine w_ ?_
 refine lgy rfl rfl (QP (Qa rfl) (QJ 63 rfl) rfl) ?_
 refine w_ ?_
 cases B:(!decide (ct=63))
 have M:(ct=63):=Qz B
 refine w16 ?_
 refine w2 ?_
 refine lc (QB (e:= .u8) (z':=g) (Qa rfl) rfl l rfl (Qn rfl) rfl Xs rfl rfl) ?_
 refine w5 ?_
 refine alI 143 fun _=> ?_
 refine w2 ?_
 obtain ⟨e7,a2⟩:∃z,(a.set ((mv.1).toNat) g)[(mv.2.2).toNat]? =some z:=⟨_,ao (by first|omega|(simp only[aD];omega))⟩
 refine lc (QB (e:= .u8) (z':=h) (Qa rfl) rfl a2 rfl (Qn rfl) rfl Xs rfl rfl)<|Qd ?_
 refine w4 ?_
 refine Qd<|QV ⟨i+1,((a.set ((mv.1).toNat) g).set ((mv.2.2).toNat) h),by omega,rfl,c.trans (congrArg (H1 sig (QQ s.2.2.1 r.2) (r.1.length - p)) (W2 (Yf b d) (by first|exact X6 (cf:=cf) (ct:=ct) ‹_› ‹_› ‹_› ‹_› | exact X7 (cf:=cf) (ct:=ct) ‹_› ‹_› ‹_› ‹_› (by first|exact .inl ‹_› | exact .inr ‹_›)|exact X5 (cf:=cf) (ct:=ct) ‹_› ‹_› ‹_› (by first|exact .inl ‹_› | exact .inr ‹_›) (by first|exact .inl ‹_› | exact .inr ‹_›) ‹_› ‹_›))),(by simp only[aD];exact j),rfl⟩ (by omega) ?_
 exact wp [] ⟨rfl,rfl,(Qm (by first|rfl|simp)),trivial⟩
 have M:¬(ct=63):=QG B
 refine w10 ?_
 cases C:(!decide (ct=h))
 have N:(ct=h):=Qz C
 refine w8 ?_
 refine lc (QB (e:= .u8) (z':=g) (Qa rfl) rfl l rfl (Qn rfl) rfl Xs rfl rfl) ?_
 refine w5 ?_
 refine alI 143 fun _=> ?_
 refine w2 ?_
 obtain ⟨e8,a3⟩:∃z,(a.set ((mv.1).toNat) g)[(mv.2.2).toNat]? =some z:=⟨_,ao (by first|omega|(simp only[aD];omega))⟩
 refine lc (QB (e:= .u8) (z':=h) (Qa rfl) rfl a3 rfl (Qn rfl) rfl Xs rfl rfl)<|Qd ?_
 refine w4 ?_
 refine Qd<|QV ⟨i+1,((a.set ((mv.1).toNat) g).set ((mv.2.2).toNat) h),by omega,rfl,c.trans (congrArg (H1 sig (QQ s.2.2.1 r.2) (r.1.length - p)) (W2 (Yf b d) (by first|exact X6 (cf:=cf) (ct:=ct) ‹_› ‹_› ‹_› ‹_› | exact X7 (cf:=cf) (ct:=ct) ‹_› ‹_› ‹_› ‹_› (by first|exact .inl ‹_› | exact .inr ‹_›)|exact X5 (cf:=cf) (ct:=ct) ‹_› ‹_› ‹_› (by first|exact .inl ‹_› | exact .inr ‹_›) (by first|exact .inl ‹_› | exact .inr ‹_›) ‹_› ‹_›))),(by simp only[aD];exact j),rfl⟩ (by omega) ?_
 exact wp [] ⟨rfl,rfl,(Qm (by first|rfl|simp)),trivial⟩
 have N:¬(ct=h):=QG C
 refine w6 ?_
 have b5:((⟨#[]⟩:ByteArray):ByteArray)=((l5V r.1.length (QQ s.2.2.1 r.2) sig).1):=by
  (rw[Ub (by rw[c,X3 (Yf b d) (by first|exact X8 (cf:=cf) (ct:=ct) ‹_› ‹_› ‹_› ‹_› ‹_› ‹_› | exact Xq (cf:=cf) ‹_› ‹_› ‹_› ‹_› ‹_› | exact Xr (ct:=ct) ‹_› ‹_› ‹_› ‹_› ‹_›)];rfl)];done)
 have b6:(false:Bool)=((l5V r.1.length (QQ s.2.2.1 r.2) sig).2):=by
  (rw[Ub (by rw[c,X3 (Yf b d) (by first|exact X8 (cf:=cf) (ct:=ct) ‹_› ‹_› ‹_› ‹_› ‹_› ‹_› | exact Xq (cf:=cf) ‹_› ‹_› ‹_› ‹_› ‹_› | exact Xr (ct:=ct) ‹_› ‹_› ‹_› ‹_› ‹_›)];rfl)];done)
 exact fr_ S (e:=by rw[b5,← b6] <;> rfl)
 have L:¬(cf=g):=QG A
 refine w7 ?_
 refine Qh rfl rfl rfl ?_ rfl
 refine Qh rfl rfl rfl ?_ rfl
 refine Qh rfl rfl rfl ?_ rfl
 refine Qh rfl rfl rfl ?_ rfl
 refine Qh rfl rfl rfl ?_ rfl
 refine Qh rfl rfl rfl ?_ rfl
 refine Qh rfl rfl rfl ?_ rfl
 refine w9 ?_
 have b7:((⟨#[]⟩:ByteArray):ByteArray)=((l5V r.1.length (QQ s.2.2.1 r.2) sig).1):=by
  (rw[Ub (by rw[c,X3 (Yf b d) (by first|exact X8 (cf:=cf) (ct:=ct) ‹_› ‹_› ‹_› ‹_› ‹_› ‹_› | exact Xq (cf:=cf) ‹_› ‹_› ‹_› ‹_› ‹_› | exact Xr (ct:=ct) ‹_› ‹_› ‹_› ‹_› ‹_›)];rfl)];done)
 have b8:(false:Bool)=((l5V r.1.length (QQ s.2.2.1 r.2) sig).2):=by
  (rw[Ub (by rw[c,X3 (Yf b d) (by first|exact X8 (cf:=cf) (ct:=ct) ‹_› ‹_› ‹_› ‹_› ‹_› ‹_› | exact Xq (cf:=cf) ‹_› ‹_› ‹_› ‹_› ‹_› | exact Xr (ct:=ct) ‹_› ‹_› ‹_› ‹_› ‹_›)];rfl)];done)
 exact fr_ S (e:=by rw[b7,← b8] <;> rfl)
 have H:¬(lb.1=sig):=QG v
 refine w5 ?_
 refine alI 56 fun _=> ?_
 refine w_ ?_
 obtain ⟨cf,o⟩:=gx a ((mv.1).toNat)
 refine w6 ?_
 refine lc (Q8 (Qa rfl) (QJ 63 rfl) rfl) ?_
 refine w_ ?_
 cases q:(decide (cf=63))
 have O:=aa q
 refine w5 ?_
 refine lc (QP (Qa rfl) (QJ 63 rfl) rfl) ?_
 refine w_ ?_
 have V:(!decide (cf=63))=true:=J2 (q)
 try rw[V]
 refine w4 ?_
 obtain ⟨ct,c8⟩:=gx a ((mv.2.2).toNat)
 refine w_ ?_
 refine lgy rfl rfl (QP (Qa rfl) (QJ 63 rfl) rfl) ?_
 refine w2 ?_
 cases D:(!decide (ct=63))
 have P:(ct=63):=Qz D
 refine w16 ?_
 refine w_ ?_
 refine lc (QB (e:= .u8) (z':=cf) (Qa rfl) rfl o rfl (Qn rfl) rfl Xs rfl rfl) ?_
 refine w5 ?_
 refine alI 92 fun _=> ?_
 refine w2 ?_
 obtain ⟨e9,a4⟩:∃z,(a.set ((mv.1).toNat) cf)[(mv.2.2).toNat]? =some z:=⟨_,ao (by first|omega|(simp only[aD];omega))⟩
 refine lc (QB (e:= .u8) (z':=cf) (Qa rfl) rfl a4 rfl (Qn rfl) rfl Xs rfl rfl) ?_
 refine w6 ?_
 refine Qd<|QV ⟨i+1,((a.set ((mv.1).toNat) cf).set ((mv.2.2).toNat) cf),by omega,rfl,c.trans (congrArg (H1 sig (QQ s.2.2.1 r.2) (r.1.length - p)) (W2 (Yf b d) (by first|exact X6 (cf:=cf) (ct:=ct) ‹_› ‹_› ‹_› ‹_› | exact X7 (cf:=cf) (ct:=ct) ‹_› ‹_› ‹_› ‹_› (by first|exact .inl ‹_› | exact .inr ‹_›)|exact X5 (cf:=cf) (ct:=ct) ‹_› ‹_› ‹_› (by first|exact .inl ‹_› | exact .inr ‹_›) (by first|exact .inl ‹_› | exact .inr ‹_›) ‹_› ‹_›))),(by simp only[aD];exact j),rfl⟩ (by omega) ?_
 exact wp [] ⟨rfl,rfl,(Qm (by first|rfl|simp)),trivial⟩
 have P:¬(ct=63):=QG D
 refine w9 ?_
 cases E:(!decide (ct=cf))
 have Q:(ct=cf):=Qz E
 refine w8 ?_
 refine lc (QB (e:= .u8) (z':=cf) (Qa rfl) rfl o rfl (Qn rfl) rfl Xs rfl rfl) ?_
 refine w5 ?_
 refine alI 92 fun _=> ?_
 refine w2 ?_
 obtain ⟨f0,a5⟩:∃z,(a.set ((mv.1).toNat) cf)[(mv.2.2).toNat]? =some z:=⟨_,ao (by first|omega|(simp only[aD];omega))⟩
 refine lc (QB (e:= .u8) (z':=cf) (Qa rfl) rfl a5 rfl (Qn rfl) rfl Xs rfl rfl) ?_
 refine w6 ?_
 refine Qd<|QV ⟨i+1,((a.set ((mv.1).toNat) cf).set ((mv.2.2).toNat) cf),by omega,rfl,c.trans (congrArg (H1 sig (QQ s.2.2.1 r.2) (r.1.length - p)) (W2 (Yf b d) (by first|exact X6 (cf:=cf) (ct:=ct) ‹_› ‹_› ‹_› ‹_› | exact X7 (cf:=cf) (ct:=ct) ‹_› ‹_› ‹_› ‹_› (by first|exact .inl ‹_› | exact .inr ‹_›)|exact X5 (cf:=cf) (ct:=ct) ‹_› ‹_› ‹_› (by first|exact .inl ‹_› | exact .inr ‹_›) (by first|exact .inl ‹_› | exact .inr ‹_›) ‹_› ‹_›))),(by simp only[aD];exact j),rfl⟩ (by omega) ?_
 exact wp [] ⟨rfl,rfl,(Qm (by first|rfl|simp)),trivial⟩
 have Q:¬(ct=cf):=QG E
 refine w6 ?_
 have b9:((⟨#[]⟩:ByteArray):ByteArray)=((l5V r.1.length (QQ s.2.2.1 r.2) sig).1):=by
  (rw[Ub (by rw[c,X3 (Yf b d) (by first|exact X8 (cf:=cf) (ct:=ct) ‹_› ‹_› ‹_› ‹_› ‹_› ‹_› | exact Xq (cf:=cf) ‹_› ‹_› ‹_› ‹_› ‹_› | exact Xr (ct:=ct) ‹_› ‹_› ‹_› ‹_› ‹_›)];rfl)];done)
 have c0:(false:Bool)=((l5V r.1.length (QQ s.2.2.1 r.2) sig).2):=by
  (rw[Ub (by rw[c,X3 (Yf b d) (by first|exact X8 (cf:=cf) (ct:=ct) ‹_› ‹_› ‹_› ‹_› ‹_› ‹_› | exact Xq (cf:=cf) ‹_› ‹_› ‹_› ‹_› ‹_› | exact Xr (ct:=ct) ‹_› ‹_› ‹_› ‹_› ‹_›)];rfl)];done)
 exact fr_ S (e:=by rw[b9,← c0] <;> rfl)
 have O:=ab q
 refine w5 ?_
 refine alI 63 fun _=> ?_
 refine w_ ?_
 obtain ⟨ct,c9⟩:=gx a ((mv.2.2).toNat)
 refine w6 ?_
 refine lc (QP (Qa rfl) (QJ 63 rfl) rfl) ?_
 refine w_ ?_
 cases t:(!decide (ct=63))
 have R:(ct=63):=Qz t
 refine w16 ?_
 refine w9 ?_
 refine lc (QB (e:= .u8) (z':=ct) (Qa rfl) rfl o rfl (Qn rfl) rfl Xs rfl rfl) ?_
 refine w7 ?_
 obtain ⟨f1,a6⟩:∃z,(a.set ((mv.1).toNat) ct)[(mv.2.2).toNat]? =some z:=⟨_,ao (by first|omega|(simp only[aD];omega))⟩
 refine lc (QB (e:= .u8) (z':=ct) (Qa rfl) rfl a6 rfl (Qn rfl) rfl Xs rfl rfl) ?_
 refine w6 ?_
 refine Qd<|QV ⟨i+1,((a.set ((mv.1).toNat) ct).set ((mv.2.2).toNat) ct),by omega,rfl,c.trans (congrArg (H1 sig (QQ s.2.2.1 r.2) (r.1.length - p)) (W2 (Yf b d) (by first|exact X6 (cf:=cf) (ct:=ct) ‹_› ‹_› ‹_› ‹_› | exact X7 (cf:=cf) (ct:=ct) ‹_› ‹_› ‹_› ‹_› (by first|exact .inl ‹_› | exact .inr ‹_›)|exact X5 (cf:=cf) (ct:=ct) ‹_› ‹_› ‹_› (by first|exact .inl ‹_› | exact .inr ‹_›) (by first|exact .inl ‹_› | exact .inr ‹_›) ‹_› ‹_›))),(by simp only[aD];exact j),rfl⟩ (by omega) ?_
 exact wp [] ⟨rfl,rfl,(Qm (by first|rfl|simp)),trivial⟩
 have R:¬(ct=63):=QG t
 refine w5 ?_
 refine lgy rfl rfl (QP (Qa rfl) (QJ 63 rfl) rfl) ?_
 refine w2 ?_
 have W:(!decide (ct=63))=true:=J2 (QbF t)
 try rw[W]
 refine w9 ?_
 have F:(!decide (ct=ct))=false:=J2 (aN rfl)
 have c1:(ct=ct):=Qz F
 try rw[F]
 refine w8 ?_
 refine lc (QB (e:= .u8) (z':=ct) (Qa rfl) rfl o rfl (Qn rfl) rfl Xs rfl rfl) ?_
 refine w7 ?_
 obtain ⟨f2,a7⟩:∃z,(a.set ((mv.1).toNat) ct)[(mv.2.2).toNat]? =some z:=⟨_,ao (by first|omega|(simp only[aD];omega))⟩
 refine lc (QB (e:= .u8) (z':=ct) (Qa rfl) rfl a7 rfl (Qn rfl) rfl Xs rfl rfl) ?_
 refine w6 ?_
 refine Qd<|QV ⟨i+1,((a.set ((mv.1).toNat) ct).set ((mv.2.2).toNat) ct),by omega,rfl,c.trans (congrArg (H1 sig (QQ s.2.2.1 r.2) (r.1.length - p)) (W2 (Yf b d) (by first|exact X6 (cf:=cf) (ct:=ct) ‹_› ‹_› ‹_› ‹_› | exact X7 (cf:=cf) (ct:=ct) ‹_› ‹_› ‹_› ‹_› (by first|exact .inl ‹_› | exact .inr ‹_›)|exact X5 (cf:=cf) (ct:=ct) ‹_› ‹_› ‹_› (by first|exact .inl ‹_› | exact .inr ‹_›) (by first|exact .inl ‹_› | exact .inr ‹_›) ‹_› ‹_›))),(by simp only[aD];exact j),rfl⟩ (by omega) ?_
 exact wp [] ⟨rfl,rfl,(Qm (by first|rfl|simp)),trivial⟩
 have U:=ab T
 refine w12 ?_
 obtain ⟨f3,a8⟩:=gx (H6 r.1.length k) k
 refine lc (QB (e:= .u8) (z':=63) (Qa rfl) rfl a8 rfl (Evl.ev (QJ 63 rfl)) rfl Xs rfl rfl)<|Qd ?_
 refine w4 ?_
 refine Qd ?_
 refine l0_ ?_
 exact wp [] ⟨rfl,rfl,(Qm (Qpx (by omega))),trivial⟩
theorem Qdl (s:Qk1)(r:List ByteArray×(List (Int×Int×Int)))(p:∀m∈r.2,MvOk r.1.length s.2.2.1.length m)(c:r.1.length≤1000000)(d:s.2.1.length≤1000000):FC Tryz.prog 189 [(true,[dI s.1.1,.dat XZ s.1.2,.dat Ql s.2.1,.dat XQ s.2.2.1,dS s.2.2.2]),(true,[.dat Qb r.1,.dat Qc1 r.2])] [] 0 (Xv 3 .int (Wq r.1.length (QQ s.2.2.1 r.2) s.2.1.length)):=by
 refine Qj Tryz.func189 rfl rfl Tryz.ntmps189 fun t j q g u i h=> ?_
 refine acG 0 0 fun _=> ?_
 refine w_ ?_
 refine xbx 0 ?_
 refine xbx 1 ?_
 refine w9 ?_
 refine alL 10 fun d=> ?_
 refine w4 ?_
 refine AC.wk (Wk.nilS 2 5 3 .int rfl (Fresh.of rfl) (nlr rfl)) ?_
 refine lp0 s.2.1.length (fun k=>⟨[(2,lP 0 0),(3,lP 1 0),(4,lf (.val (.slice none 0 0))),(5,lR 3),(11,lI (s.2.1.length:Int)),(12,lI (k:Int))],[bx 0 164 [dI s.1.1,.dat XZ s.1.2,.dat Ql s.2.1,.dat XQ s.2.2.1,dS s.2.2.2],bx 1 227 [.dat Qb r.1,.dat Qc1 r.2],ar 3 3 .int (Wq r.1.length (QQ s.2.2.1 r.2) k)]⟩) ?_ fun k _=> ?_
 exact wp [(3,2)] ⟨rfl,rfl,(Qm (by first|rfl|simp)),trivial⟩
 have o:=QoY r.1.length (QQ s.2.2.1 r.2) k
 refine w4 ?_
 cases a:(decide ((k:Int)<(s.2.1.length:Int)))
 have b:=aa a
 refine w7 ?_
 refine Qe<|fo_ j ?_
 rw[show k=s.2.1.length by omega]
 have b:=ab a
 refine w12 ?_
 refine lc (dK (Kh s r (k:Int) p c) QeU) ?_
 refine w10 ?_
 cases l:((l5V r.1.length (QQ s.2.2.1 r.2) (k:Int)).2)
 refine w4 ?_
 refine lc (dBs 4 (e:= .int) Xt) ?_
 refine lc (dA 5 Vh) ?_
 refine w_ ?_
 refine Qd ?_
 refine w4 ?_
 refine Qd ?_
 refine l0_ ?_
 exact wp [(3,5)] ⟨rfl,rfl,(Qm (by first|exact QgT ‹_› | exact QjB ‹_›)),trivial⟩
 refine w6 ?_
 refine Qd ?_
 refine l0_ ?_
 exact wp [] ⟨rfl,rfl,(Qm (by first|exact QgT ‹_› | exact QjB ‹_›)),trivial⟩
structure Rok (m:Nat) (st:RS):Prop where
  one:1≤st.1.length
  most:st.1.length≤300
  nd:st.1.Nodup
  mv:∀v∈st.2.1,MvOk st.1.length m v
section
variable {n:XG}{k f:Nat}{mk:ByteArray}{t:Int}{ts:List Int}{st:RS}{s:ZG}{l:List ByteArray}{x:ByteArray}
theorem QrQ (h:0≤YO l x):YO l x<l.length:=by
 unfold YO Zf at h ⊢
 cases a:l.findIdx? (fun y=>decide (y=x)) with
 | none=>rw[a] at h;simp at h
 | some i=>
  obtain ⟨b,_⟩:=cy.1 a
  simp;omega
theorem Qpz (h:¬0≤YO l x):x∉l:=fun b=>by
 unfold YO Zf at h
 cases a:l.findIdx? (fun y=>decide (y=x)) with
 | none=>
  have:=List.findIdx?_eq_none_iff.1 a x b
  simp at this
 | some i=>rw[a] at h;simp at h
theorem MvOk.grow {a b m:Nat}{v:DMv}(h:MvOk a m v)(hab:a≤b):MvOk b m v:=by
 obtain ⟨⟨c,g⟩,d,e,i⟩:=h
 exact ⟨⟨c,by omega⟩,d,e,by omega⟩
theorem Qw8 (q:k<st.1.length)(g:∀t∈ts,0≤t∧t<n.2.length)(h:Rok n.2.length st):Rok n.2.length (goT n k mk ts st).1∧(goT n k mk ts st).1.2.1.length≤st.2.1.length+ts.length∧st.1.length≤(goT n k mk ts st).1.1.length:=by
 induction ts generalizing st with
 | nil=>rw[goT];exact ⟨h,by simp,aO _⟩
 | cons t ts u=>
  have r:=g t (aB ..)
  have d:∀t∈ts,0≤t∧t<n.2.length:=fun t h=>g t (aA _ h)
  rw[goT]
  split
  ·exact ⟨h,by simp,aO _⟩
  ·split
   ·rename_i i
    have p:=QrQ i
    obtain ⟨j,m,o⟩:=u (st:=(st.1,st.2.1++[((k:Int),t,YO st.1 (YB n mk t).1)],st.2.2)) q d ⟨h.one,h.most,h.nd,fun v c=>by
     rcases aQ.1 c with c|c
     ·exact h.mv v c
     ·rw[aF.1 c];exact ⟨⟨bV _,by simpa using q⟩,r,i,p⟩⟩
    exact ⟨j,by simp at m ⊢;omega,o⟩
   ·rename_i i
    split
    ·exact ⟨h,by simp,aO _⟩
    ·rename_i z
     have A:=h.most
     obtain ⟨j,m,o⟩:=u (st:=(st.1++[(YB n mk t).1],st.2.1++[((k:Int),t,(st.1.length:Int))],st.2.2++[((k:Int),t,(st.1.length:Int))])) (by simp;omega) d ⟨by simp,by simp;omega,
      bj.2 ⟨h.nd,by simp,fun a w b y e=>Qpz i (by rw[aF.1 y] at e;exact e▸w)⟩,fun v c=>by
       rcases aQ.1 c with c|c
       ·exact (h.mv v c).grow (by simp)
       ·rw[aF.1 c];exact ⟨⟨bV _,by simp;omega⟩,r,bV _,by simp;omega⟩⟩
     exact ⟨j,by simp at m ⊢;omega,by simp at o;omega⟩
theorem Qw6 (r:n.2.length≤24)(h:Rok n.2.length st)(q:st.2.1.length≤24*k):Rok n.2.length (goK n f k st).1∧(goK n f k st).1.2.1.length≤24*(k+f):=by
 induction f generalizing k st with
 | zero=>rw[goK];exact ⟨h,by omega⟩
 | succ f g=>
  rw[goK]
  cases e:st.1[k]? with
  | none=>exact ⟨h,by show st.2.1.length≤_;omega⟩
  | some mk=>
   obtain ⟨a,j,m⟩:=Qw8 (mk:=mk) (ts:=Jj n mk) (ai.1 e).1 (fun t d=>by
    obtain ⟨i,c⟩:=aK.1 d
    exact WS c) h
   have o:=QjJ n mk
   show Rok n.2.length (if _ then _ else _:RS×Qjo).1∧(if _ then _ else _:RS×Qjo).1.2.1.length≤_
   split
   ·obtain ⟨b,p⟩:=g (k:=k+1) a (by omega)
    exact ⟨b,by omega⟩
   ·exact ⟨a,by omega⟩
theorem QsV (a:StgOk s):Rok s.2.2.1.length (ZK s).1∧(ZK s).1.2.1.length≤7224:=by
 have h:=Qw6 (n:=s.1) (k:=0) (f:=301) (st:=([s.2.2.2],[],[((0:Int),(0:Int),(0:Int))])) a.net.2.1 ⟨by simp,by simp,by simp,by simp⟩ (by simp)
 rw[← a.len] at h
 exact h
end
theorem Qkr {ss:List Qy}(h:Yj ss):ss.length≤24:=by
 have:=h.2.2
 omega
section
variable [∀s,Decidable (StgOk s)]{s:ZG}
theorem KQ (h:¬StgOk s):Qo s=(Qm7,false):=if_neg fun a=>h a.1
theorem Xx (h:(exV s).2.2.2=false):Qo s=(Qm7,false):=if_neg fun a=>by
 have:(ZK s).2.2.2=false:=h
 rw[this] at a
 cases a.2
theorem KR (a:StgOk s)(h:(exV s).2.2.2=true):Qo s=((exV s).1,true):=if_pos ⟨a,h⟩
theorem Yp (h:(Qo s).2=true):StgOk s∧1≤(Qo s).1.1.length∧(Qo s).1.1.length≤300∧(Qo s).1.1.Nodup∧(∀v∈(Qo s).1.2,MvOk (Qo s).1.1.length s.2.2.1.length v)∧(Qo s).1.2.length≤7224:=by
 unfold Qo at h ⊢
 split
 ·rename_i a
  obtain ⟨b,c⟩:=QsV a.1
  exact ⟨a.1,b.one,b.most,b.nd,b.mv,c⟩
 ·rename_i a
  rw[if_neg a] at h
  cases h
end
section
variable {s:ZG}
theorem Qiu (h:¬0≤(l4V s).2.2.2.1)(a:(l4V s).2.2.2.2=false):(exV s).2.2.2=true:=by
 have h:¬0≤(ZK s).2.2.1:=h
 have a:(!(ZK s).2.2.2&&decide ((ZK s).2.2.1<0))=false:=a
 show (ZK s).2.2.2=true
 rw[aN (by omega)] at a
 simpa using a
theorem Qit (h:¬0≤(l4V s).2.2.2.1)(a:(l4V s).2.2.2.2=true):(exV s).2.2.2=false:=by
 have a:(!(ZK s).2.2.2&&decide ((ZK s).2.2.1<0))=true:=a
 rw[aM] at a
 show (ZK s).2.2.2=false
 simpa using a.1
end
theorem QpF {n:XG}{k:Nat}{mk:ByteArray}{ts:List Int}{st:RS}(h:(goT n k mk ts st).2.2.2=true):(goT n k mk ts st).2.2.1= -1:=by
 induction ts generalizing st with
 | nil=>rw[goT]
 | cons t ts c=>
  rw[goT] at h ⊢
  split
  ·rename_i a;rw[if_pos a] at h;cases h
  ·rename_i a
   rw[if_neg a] at h
   split
   ·rename_i b;rw[if_pos b] at h;exact c h
   ·rename_i b
    rw[if_neg b] at h
    split
    ·rfl
    ·rename_i d;rw[if_neg d] at h;exact c h
theorem QpE {n:XG}{f k:Nat}{st:RS}(h:(goK n f k st).2.2.2=true):(goK n f k st).2.2.1= -1:=by
 induction f generalizing k st with
 | zero=>rw[goK]
 | succ f c=>
  rw[goK] at h ⊢
  cases b:st.1[k]? with
  | none=>rfl
  | some mk=>
   rw[b] at h
   simp only at h ⊢
   split
   ·rename_i a;rw[if_pos a] at h;exact c h
   ·rename_i a;rw[if_neg a] at h;exact QpF h
theorem Qis {s:ZG}(h:0≤(l4V s).2.2.2.1):(exV s).2.2.2=false:=by
 have h:0≤(ZK s).2.2.1:=h
 show (ZK s).2.2.2=false
 cases a:(ZK s).2.2.2 with
 | false=>rfl
 | true=>
  have:=QpE (n:=s.1) (f:=301) (k:=0) (st:=([s.2.2.2],[],[((0:Int),(0:Int),(0:Int))])) a
  have b:(ZK s).2.2.1= -1:=this
  omega
theorem Qdc (s:Qk1)[∀s,Decidable (StgOk s)]:FC Tryz.prog 188 [(true,[dI s.1.1,.dat XZ s.1.2,.dat Ql s.2.1,.dat XQ s.2.2.1,dS s.2.2.2])] [] 0 (Is (PV.tup [(true,[.ref 0,.ref 1]),(false,[dB ((Qo s).2)])]) [ar 0 9 .str (((Qo s).1).1),ar 1 229 Z5 (((Qo s).1).2)]):=by
 refine Qj Tryz.func188 rfl rfl Tryz.ntmps188 fun v e u g w q o=> ?_
 refine acG 0 0 fun _=> ?_
 refine w_ ?_
 refine xbx 0 ?_
 refine lc (xal 1 QAe Qi2) ?_
 refine w5 ?_
 refine lc (dK (Wf s) KP) ?_
 refine w2 ?_
 cases a:(decide (StgOk s))
 have b:=aa a
 refine w2 ?_
 refine lc (Qk QdE rfl (au.1 rfl) rfl rfl) ?_
 refine w3 ?_
 refine AC.wk (Qr 2 (p:=1) (off:=0) 9 .str rfl rfl (Fresh.of rfl) (nlr rfl))<|AC.wk (Qr 3 (p:=1) (off:=1) 229 Z5 rfl rfl (Fresh.of rfl) (nlr rfl))<|Qe ?_
 have h:(false:Bool)=((Qo s).2):=by
  (rw[KQ ‹_›];done)
 exact fi_ [(0,2),(1,3)] e ⟨(Qm (by (rw[KQ ‹_›];rfl))),(Qm (by (rw[KQ ‹_›];rfl))),trivial⟩ (h0:=by rw[← h] <;> rfl)
 have b:=ab a
 refine w4 ?_
 refine lc (dG 4 (Qdk s ‹_›) QlO) ?_
 refine lc (xal 7 Qx4 Qec) ?_
 refine w6 ?_
 refine alI 12 fun _=> ?_
 refine w2 ?_
 cases c:(decide (0≤((l4V s).2.2.2.1)))
 have d:=aa c
 refine w4 ?_
 cases r:((l4V s).2.2.2.2)
 refine w9 ?_
 have i:(true:Bool)=((Qo s).2):=by
  (rw[KR ‹_› (Qiu ‹_› ‹_›)];done)
 exact fi_ [(0,4),(1,5)] e ⟨(Qm (by (rw[KR ‹_› (Qiu ‹_› ‹_›)];rfl))),(Qm (by (rw[KR ‹_› (Qiu ‹_› ‹_›)];rfl))),trivial⟩ (h0:=by rw[← i] <;> rfl)
 refine w2 ?_
 refine lc (Qk QdE rfl (au.1 rfl) rfl rfl) ?_
 refine w3 ?_
 refine AC.wk (Qr 8 (p:=1) (off:=0) 9 .str rfl rfl (Fresh.of rfl) (nlr rfl))<|AC.wk (Qr 9 (p:=1) (off:=1) 229 Z5 rfl rfl (Fresh.of rfl) (nlr rfl))<|Qe ?_
 have j:(false:Bool)=((Qo s).2):=by
  (rw[Xx (Qit ‹_› ‹_›)];done)
 exact fi_ [(0,8),(1,9)] e ⟨(Qm (by (rw[Xx (Qit ‹_› ‹_›)];rfl))),(Qm (by (rw[Xx (Qit ‹_› ‹_›)];rfl))),trivial⟩ (h0:=by rw[← j] <;> rfl)
 have d:=ab c
 refine w6 ?_
 refine lc (Qk QdE rfl (au.1 rfl) rfl rfl) ?_
 refine w3 ?_
 refine AC.wk (Qr 10 (p:=1) (off:=0) 9 .str rfl rfl (Fresh.of rfl) (nlr rfl))<|AC.wk (Qr 11 (p:=1) (off:=1) 229 Z5 rfl rfl (Fresh.of rfl) (nlr rfl))<|Qe ?_
 have m:(false:Bool)=((Qo s).2):=by
  (rw[Xx (Qis ‹_›)];done)
 exact fi_ [(0,10),(1,11)] e ⟨(Qm (by (rw[Xx (Qis ‹_›)];rfl))),(Qm (by (rw[Xx (Qis ‹_›)];rfl))),trivial⟩ (h0:=by rw[← m] <;> rfl)
end Go.Proofs.YtjfpbcmfbnnooaaGreat
