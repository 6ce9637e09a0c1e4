/- Walks over abstract states: the values of a signal, the reference. -/
import Derived.Test.YtgpdhgadmjfokaaGreatHWn
set_option linter.unusedSimpArgs false
set_option linter.unusedVariables false
set_option linter.unusedSectionVars false
namespace Go.Proofs.YtgpdhgadmjfokaaGreat
open Go.RowKit
set_option maxRecDepth 100000
set_option maxHeartbeats 4000000
section
variable {sig:Int}{us us':List UInt8}{arcs:List DAr}{f k n:Nat}{cf ct b1 b2:UInt8}{mv:DMv}{lb:Zu}{ls:List Zu}{ms:List DMv}
theorem Qky (ls:List Zu)(ms:List DMv):(Qv ls ms).length=ms.length:=by simp[Qv]
theorem ZO (hx:ms[k]? =some mv)(hla:QaY ls mv.2.1=lb):(Qv ls ms)[k]? =some (mv.1,lb.1,lb.2,mv.2.2):=by
  unfold Qv
  rw[bo,hx]
  simp[QhY,hla]
def ar4 (mv:DMv)(lb:Zu):DAr:=(mv.1,lb.1,lb.2,mv.2.2)
theorem Y6 (hl:¬lb.1=sig)(hf:us[mv.1.toNat]? =some cf)(hq:decide (cf=63)=true)(ht:us[mv.2.2.toNat]? =some ct):Yh sig (mv.1,lb.1,lb.2,mv.2.2) us=some ((us.set mv.1.toNat ct).set mv.2.2.toNat ct):=by
  unfold Yh
  simp only
  rw[if_neg hl,Z3 hf,Z3 ht,if_pos (ae hq)]
theorem Y8 (hl:¬lb.1=sig)(hf:us[mv.1.toNat]? =some cf)(hq:decide (cf=63)=false)(ht:us[mv.2.2.toNat]? =some ct)(h2:ct=63∨ct=cf):Yh sig (mv.1,lb.1,lb.2,mv.2.2) us=some ((us.set mv.1.toNat cf).set mv.2.2.toNat cf):=by
  unfold Yh
  simp only
  rw[if_neg hl,Z3 hf,Z3 ht,if_neg (ab hq),if_neg]
  rintro ⟨h3,h4⟩
  rcases h2 with h | h
  · exact h3 h
  · exact h4 h
theorem Y7 (hl:¬lb.1=sig)(hf:us[mv.1.toNat]? =some cf)(hq:decide (cf=63)=false)(ht:us[mv.2.2.toNat]? =some ct)(h1:¬ct=63)(h2:¬ct=cf):Yh sig (mv.1,lb.1,lb.2,mv.2.2) us=none:=by
  unfold Yh
  simp only
  rw[if_neg hl,Z3 hf,Z3 ht,if_neg (ab hq),if_pos ⟨h1,h2⟩]
theorem HT {b:Bool}{c:UInt8}(h:(YG b)[((0:Int)).toNat]? =some c):(if b=true then 49 else 48)=c:=by
  have:(YG b)[((0:Int)).toNat]? =some (if b=true then 49 else 48):=by cases b <;> rfl
  rw[this] at h
  exact Option.some.inj h
theorem Y1 (hl:lb.1=sig)(h1:(YG (!lb.2))[((0:Int)).toNat]? =some b1)(h2:(YG lb.2)[((0:Int)).toNat]? =some b2)(hf:cf=63∨cf=b1)(ht:ct=63∨ct=b2)(hcf:us[mv.1.toNat]? =some cf)(hct:us[mv.2.2.toNat]? =some ct):
    Yh sig (mv.1,lb.1,lb.2,mv.2.2) us=some ((us.set mv.1.toNat b1).set mv.2.2.toNat b2):=by
  unfold Yh
  simp only
  rw[if_pos hl,HT h1,HT h2,Z3 hcf,Z3 hct,if_neg]
  rintro (⟨h3,h4⟩ | ⟨h3,h4⟩)
  · rcases hf with h | h
    · exact h3 h
    · exact h4 h
  · rcases ht with h | h
    · exact h3 h
    · exact h4 h
theorem Yw (hl:lb.1=sig)(h1:(YG (!lb.2))[((0:Int)).toNat]? =some b1)(hcf:us[mv.1.toNat]? =some cf)(h3:¬cf=63)(h4:¬cf=b1):Yh sig (mv.1,lb.1,lb.2,mv.2.2) us=none:=by
  unfold Yh
  simp only
  rw[if_pos hl,HT h1,Z3 hcf,if_pos (.inl ⟨h3,h4⟩)]
theorem YF (hl:lb.1=sig)(h1:(YG lb.2)[((0:Int)).toNat]? =some b2)(hct:us[mv.2.2.toNat]? =some ct)(h3:¬ct=63)(h4:¬ct=b2):Yh sig (mv.1,lb.1,lb.2,mv.2.2) us=none:=by
  unfold Yh
  simp only
  rw[if_pos hl,HT h1,Z3 hct,if_pos (.inr ⟨h3,h4⟩)]
def U4 (n k:Nat):List UInt8:=List.replicate k 63++List.replicate (n - k) 0
theorem QcI (n k:Nat)(h:k≤n):(U4 n k).length=n:=by simp[U4]; omega
theorem Qjk (h:n≤k)(h2:k≤n):U4 n k=List.replicate n 63:=by
  obtain rfl:k=n:=by omega
  simp[U4]
theorem Qjn (h:k < n):(U4 n k).set k 63=U4 n (k+1):=by
  unfold U4
  rw[List.set_append_right _ _ (by simp),aB,Nat.sub_self,show n - k=(n - (k+1))+1 by omega,List.replicate_succ,List.set_cons_zero,List.replicate_succ']
  simp
def Xn (n:Nat)(arcs:List DAr):Nat→List Int
  | 0=>[]
  | k+1=>Xn n arcs k++(if (l5V n arcs (k:Int)).2=true then [] else [(k:Int)])
theorem QjW (n:Nat)(arcs:List DAr)(k:Nat):(Xn n arcs k).length≤k:=by
  induction k with
  | zero=>simp[Xn]
  | succ k ih=>simp only[Xn,ak]; split <;> simp <;> omega
theorem Qcp (h:(l5V n arcs (k:Int)).2=true):Xn n arcs k=Xn n arcs (k+1):=by simp[Xn,h]
theorem Qfw (h:(l5V n arcs (k:Int)).2=false):Xn n arcs k++[(k:Int)]=Xn n arcs (k+1):=by simp[Xn,h]
end
def MvOk (n m:Nat)(v:DMv):Prop:=(0≤v.1∧v.1 < (n:Int))∧(0≤v.2.1∧v.2.1 < (m:Int))∧0≤v.2.2∧v.2.2 < (n:Int)
theorem YS (up:Bool):FC Tryz.prog 316 [(false,[dB up])] [] 0 (QV (lf (dS (YG up)))):=by
 refine Qj Tryz.func316 rfl rfl Tryz.ntmps316 fun O_ hO w0_ N0_ X_ h0_ f0_=> ?_
 iterate 7 refine w_ ?_
 refine cb_ (fun hb1=> ?_) fun hb1=> ?_
 ·iterate 4 refine w_ ?_
  refine Qb<|fqS hO ?_
  simp[YG, *]
 ·iterate 3 refine w_ ?_
  refine Qb<|fqS hO ?_
  simp[YG, *]
theorem W7 (s:(Int×(List (List Int×List Int)))×(List (ByteArray×Int))×(List (Int×Bool))×ByteArray)(r:List ByteArray×(List (Int×Int×Int)))(sig:Int)(hm:∀m∈r.2,MvOk r.1.length s.2.2.1.length m)(hl1:r.1.length≤1000000):FC Tryz.prog 264 [(true,[dI s.1.1, .dat (.sl 245 (.pr (.sl 3 .int) (.sl 3 .int))) s.1.2, .dat (.sl 44 (.pr .str .int)) s.2.1, .dat (.sl 86 (.pr .int .bool)) s.2.2.1,dS s.2.2.2]),(true,[.dat (.sl 9 .str) r.1, .dat (.sl 263 (.pr .int (.pr .int .int))) r.2]),(false,[dI sig])] [] 0 (QV (PV.tup [(false,[dS ((l5V r.1.length (Qv s.2.2.1 r.2) sig).1)]),(false,[dB ((l5V r.1.length (Qv s.2.2.1 r.2) sig).2)])])):=by
 have hrl:(List.replicate r.1.length (Ty.zero .u8)).length=r.1.length:=aB ..
 refine Qj Tryz.func264 rfl rfl Tryz.ntmps264 fun O_ hO w0_ N0_ X_ h0_ f0_=> ?_
 refine acG 0 0 fun hi1=> ?_
 refine acI 2 fun hi2=> ?_
 refine w_ ?_
 refine xbx 0 ?_
 refine xbx 1 ?_
 iterate 6 refine w_ ?_
 refine alL 18 fun hl3=> ?_
 refine w_ ?_
 refine lc (US 2 (e:= .u8) (n:=r.1.length) (Qa rfl) (Qa rfl) Ut Qrb rfl (by omega) (by omega) rfl (Fresh.of rfl) (nlr rfl)) ?_
 iterate 9 refine w_ ?_
 refine lp0 r.1.length (fun k=>⟨[(2,lI sig),(3,lP 0 0),(4,lP 1 0),(6,lf (dS (⟨#[]⟩:ByteArray))),(7,lB false),(8,lR 3),(22,lI ((List.replicate r.1.length (Ty.zero .u8)).length:Int)),(23,lI (k:Int))],[bx 0 62 [dI s.1.1, .dat (.sl 245 (.pr (.sl 3 .int) (.sl 3 .int))) s.1.2, .dat (.sl 44 (.pr .str .int)) s.2.1, .dat (.sl 86 (.pr .int .bool)) s.2.2.1,dS s.2.2.2],bx 1 160 [.dat (.sl 9 .str) r.1, .dat (.sl 263 (.pr .int (.pr .int .int))) r.2],ar 3 5 .u8 (U4 r.1.length k)]⟩) ?_ fun k hk4=> ?_
 · exact Wk.of [(3,2)] rfl ⟨rfl,rfl,rfl,rfl,rfl,rfl,rfl,rfl,trivial⟩ ⟨rfl,rfl,(Qk (rfl)),trivial⟩ rfl rfl
 have hfq:=QcI r.1.length k (by omega)
 iterate 4 refine w_ ?_
 cases hb5:(decide ((k:Int) < ((List.replicate r.1.length (Ty.zero .u8)).length:Int)))
 ·have hb5':=ab hb5
  refine w_ ?_
  refine Qi ?_
  refine (?_:AC _ _ _ _ _)
  iterate 5 refine w_ ?_
  refine QF (fun m_ s_=>∃(p:Nat) (us:List UInt8),p≤(r.1.length+1)∧m_=(r.1.length+1) - p∧(Xm sig (Qv s.2.2.1 r.2) (r.1.length+1) (List.replicate r.1.length 63)=Xm sig (Qv s.2.2.1 r.2) (r.1.length+1 - p) us)∧(us.length=r.1.length)∧s_=⟨[(2,lI sig),(3,lP 0 0),(4,lP 1 0),(8,lR 4),(10,lI (p:Int))],[bx 0 62 [dI s.1.1, .dat (.sl 245 (.pr (.sl 3 .int) (.sl 3 .int))) s.1.2, .dat (.sl 44 (.pr .str .int)) s.2.1, .dat (.sl 86 (.pr .int .bool)) s.2.2.1,dS s.2.2.2],bx 1 160 [.dat (.sl 9 .str) r.1, .dat (.sl 263 (.pr .int (.pr .int .int))) r.2],ar 4 5 .u8 us]⟩) ⟨0,U4 r.1.length k,aT _,rfl,(by rw[Qjk (by omega) (by omega)]; rfl),(QcI _ _ (by omega)),rfl⟩ ?_ ?_
  · exact Wk.of [(4,3)] rfl ⟨rfl,rfl,rfl,rfl,rfl,trivial⟩ ⟨rfl,rfl,(Qk (by first | rfl | simp)),trivial⟩ rfl rfl
  rintro m_ s_ ⟨p,us,hk6,hm7,hA,hL,rfl⟩
  iterate 5 refine w_ ?_
  refine alL 32 fun hl8=> ?_
  iterate 3 refine w_ ?_
  cases hb9:(decide ((p:Int)≤(r.1.length:Int)))
  ·have hb9':=ab hb9
   refine w_ ?_
   refine Qi ?_
   refine (?_:AC _ _ _ _ _)
   iterate 2 refine w_ ?_
   refine lc (VC (ys:=us) (Qex (Qa rfl) rfl) Ut Qfk QT rfl) ?_
   iterate 3 refine w_ ?_
   refine Qb ?_
   have e10:((⟨(us).toArray⟩:ByteArray):ByteArray)=((l5V r.1.length (Qv s.2.2.1 r.2) sig).1):=by
    first | (rw[Qd6 (us:=us) (by rw[hA,show r.1.length+1 - p=0 by omega]; rfl)]; done)
   have e11:(true:Bool)=((l5V r.1.length (Qv s.2.2.1 r.2) sig).2):=by
    first | (rw[Qd6 (us:=us) (by rw[hA,show r.1.length+1 - p=0 by omega]; rfl)]; done)
   exact fr_ hO (e:=((congrArg (fun z_=>PV.tup [(false,[dS z_]),(false,[dB true])]) e10)).trans (congrArg (fun z_=>PV.tup [(false,[dS ((l5V r.1.length (Qv s.2.2.1 r.2) sig).1)]),(false,[dB z_])]) e11))
  ·have hb9':=ae hb9
   iterate 7 refine w_ ?_
   refine alL 38 fun hl12=> ?_
   iterate 4 refine w_ ?_
   refine QF (fun m_ s_=>∃(i:Nat) (us2:List UInt8),i≤r.2.length∧m_=r.2.length - i∧(Xm sig (Qv s.2.2.1 r.2) (r.1.length+1) (List.replicate r.1.length 63)=Kf sig (Qv s.2.2.1 r.2) (r.1.length - p) (Yx sig ((Qv s.2.2.1 r.2).drop i) us2))∧(us2.length=r.1.length)∧s_=⟨[(2,lI sig),(3,lP 0 0),(4,lP 1 0),(8,lR 5),(10,lI (p:Int)),(30,lI (p:Int)),(31,lP 1 0),(32,lf (.dat (.sl 9 .str) r.1)),(33,lI (r.1.length:Int)),(34,lB true),(37,lP 1 1),(38,lf (.dat (.sl 263 (.pr .int (.pr .int .int))) r.2)),(39,lI (r.2.length:Int)),(40,lI (i:Int))],[bx 0 62 [dI s.1.1, .dat (.sl 245 (.pr (.sl 3 .int) (.sl 3 .int))) s.1.2, .dat (.sl 44 (.pr .str .int)) s.2.1, .dat (.sl 86 (.pr .int .bool)) s.2.2.1,dS s.2.2.2],bx 1 160 [.dat (.sl 9 .str) r.1, .dat (.sl 263 (.pr .int (.pr .int .int))) r.2],ar 5 5 .u8 us2]⟩) ⟨0,us,aT _,rfl,(by rw[hA,show r.1.length+1 - p=(r.1.length - p)+1 by omega]; exact Qmu _ _),hL,rfl⟩ ?_ ?_
   · exact Wk.of [(5,4)] rfl ⟨rfl,rfl,rfl,rfl,rfl,rfl,rfl,rfl,rfl,rfl,rfl,rfl,rfl,rfl,trivial⟩ ⟨rfl,rfl,rfl,trivial⟩ rfl rfl
   rintro m_ s_ ⟨i,us2,hk13,hm14,hA2,hL2,rfl⟩
   iterate 4 refine w_ ?_
   cases hb15:(decide ((i:Int) < (r.2.length:Int)))
   ·have hb15':=ab hb15
    refine w_ ?_
    refine Qi ?_
    refine (?_:AC _ _ _ _ _)
    iterate 4 refine w_ ?_
    refine Qd<|Q8 ⟨p+1,us2,by omega,rfl,(by rw[hA2,QjP (by rw[Qky]; omega),show r.1.length+1 - (p+1)=r.1.length - p by omega]; rfl),hL2,rfl⟩ (by omega) ?_
    exact Wk.of [(4,5)] rfl ⟨rfl,rfl,rfl,rfl,rfl,trivial⟩ ⟨rfl,rfl,rfl,trivial⟩ rfl rfl
   ·have hb15':=ae hb15
    iterate 5 refine w_ ?_
    obtain ⟨mv,hx17⟩:∃z,r.2[i]? =some z:=⟨_,aa (by omega)⟩
    obtain ⟨⟨hm1,hm2⟩,⟨hm3,hm4⟩,hm5,hm6⟩:=hm _ (ao hx17)
    iterate 2 refine w_ ?_
    refine lc (xal 6 (.pr .int (.pr .int .int)) Vo) ?_
    iterate 7 refine w_ ?_
    refine alI 47 fun hi18=> ?_
    obtain ⟨lb,hx20⟩:∃z,s.2.2.1[(mv.2.1).toNat]? =some z:=⟨_,aa (by omega)⟩
    have hla:=QdR hx20
    iterate 2 refine w_ ?_
    refine lc (xal 7 (.pr .int .bool) WR) ?_
    iterate 6 refine w_ ?_
    refine alI 51 fun hi21=> ?_
    iterate 3 refine w_ ?_
    cases hb22:(!decide (lb.1=sig))
    ·have hb22':(lb.1=sig):=QA hb22
     iterate 2 refine w_ ?_
     obtain ⟨c23,hc24⟩:∃z,(YG (!lb.2))[(0:Int).toNat]? =some z:=by first | exact ⟨_,b6 _ _ (by omega)⟩ | exact ⟨_,rfl⟩
     obtain ⟨c25,hc26⟩:∃z,(YG lb.2)[(0:Int).toNat]? =some z:=by first | exact ⟨_,b6 _ _ (by omega)⟩ | exact ⟨_,rfl⟩
     apply dW (i3 95 _ _ _ (io 98 (lf (dS (YG (!lb.2)))) :: i3 99 _ _ _ (io 102 (lf (dS (YG lb.2))) :: io 103 _ :: i2 15 _ _ []))) [0,0,0,0,0,31,31,16,16,256,0]
     iterate 3 refine z_ ?_
     refine zz (fun _ h_=>ac (dK (YS (!lb.2)) Wl) rfl) ?_
     iterate 3 refine z_ ?_
     refine zz (fun _ h_=>ac (dK (YS lb.2) Wl) rfl) ?_
     iterate 3 refine z_ ?_
     exact zN
     iterate 5 refine w_ ?_
     refine alI 106 fun hi27=> ?_
     refine w_ ?_
     obtain ⟨cf,hx29⟩:∃z,us2[(mv.1).toNat]? =some z:=⟨_,aa (by omega)⟩
     refine w_ ?_
     refine lc (QH (Qa rfl) (QM 63 rfl) rfl) ?_
     refine w_ ?_
     cases hb30:(!decide (cf=63))
     ·have hb30':(cf=63):=QA hb30
      iterate 13 refine w_ ?_
      obtain ⟨ct,hx32⟩:∃z,us2[(mv.2.2).toNat]? =some z:=⟨_,aa (by omega)⟩
      refine w_ ?_
      refine lgy rfl rfl (QH (Qa rfl) (QM 63 rfl) rfl) ?_
      refine w_ ?_
      cases hb33:(!decide (ct=63))
      ·have hb33':(ct=63):=QA hb33
       iterate 18 refine w_ ?_
       refine lc (Qu (e:= .u8) (z':=c23) (Qa rfl) rfl hx29 rfl (Qm rfl) rfl YA rfl rfl) ?_
       iterate 5 refine w_ ?_
       refine alI 143 fun hi34=> ?_
       iterate 2 refine w_ ?_
       obtain ⟨x35,hx36⟩:∃z,(us2.set ((mv.1).toNat) c23)[(mv.2.2).toNat]? =some z:=⟨_,aa (by first | omega | (simp only[aA]; omega))⟩
       refine lc (Qu (e:= .u8) (z':=c25) (Qa rfl) rfl hx36 rfl (Qm rfl) rfl YA rfl rfl)<|Qd ?_
       refine (?_:AC _ _ _ _ _)
       iterate 3 refine w_ ?_
       refine Qd<|Q8 ⟨i+1,((us2.set ((mv.1).toNat) c23).set ((mv.2.2).toNat) c25),by omega,rfl,hA2.trans (congrArg (Kf sig (Qv s.2.2.1 r.2) (r.1.length - p)) (Xy (ZO hx17 hla) (by first | exact Y6 (cf:=cf) (ct:=ct) (by assumption) (by assumption) (by assumption) (by assumption) | exact Y8 (cf:=cf) (ct:=ct) (by assumption) (by assumption) (by assumption) (by assumption) (by first | exact .inl (by assumption) | exact .inr (by assumption)) | exact Y1 (cf:=cf) (ct:=ct) (by assumption) (by assumption) (by assumption) (by first | exact .inl (by assumption) | exact .inr (by assumption)) (by first | exact .inl (by assumption) | exact .inr (by assumption)) (by assumption) (by assumption)))),(by simp only[aA]; exact hL2),rfl⟩ (by omega) ?_
       exact Wk.of [] rfl ⟨rfl,rfl,rfl,rfl,rfl,rfl,rfl,rfl,rfl,rfl,rfl,rfl,rfl,rfl,trivial⟩ ⟨rfl,rfl,(Qk (by first | rfl | simp)),trivial⟩ rfl rfl
      ·have hb33':¬(ct=63):=QP hb33
       iterate 10 refine w_ ?_
       cases hb37:(!decide (ct=c25))
       ·have hb37':(ct=c25):=QA hb37
        iterate 8 refine w_ ?_
        refine lc (Qu (e:= .u8) (z':=c23) (Qa rfl) rfl hx29 rfl (Qm rfl) rfl YA rfl rfl) ?_
        iterate 5 refine w_ ?_
        refine alI 143 fun hi38=> ?_
        iterate 2 refine w_ ?_
        obtain ⟨x39,hx40⟩:∃z,(us2.set ((mv.1).toNat) c23)[(mv.2.2).toNat]? =some z:=⟨_,aa (by first | omega | (simp only[aA]; omega))⟩
        refine lc (Qu (e:= .u8) (z':=c25) (Qa rfl) rfl hx40 rfl (Qm rfl) rfl YA rfl rfl)<|Qd ?_
        refine (?_:AC _ _ _ _ _)
        iterate 3 refine w_ ?_
        refine Qd<|Q8 ⟨i+1,((us2.set ((mv.1).toNat) c23).set ((mv.2.2).toNat) c25),by omega,rfl,hA2.trans (congrArg (Kf sig (Qv s.2.2.1 r.2) (r.1.length - p)) (Xy (ZO hx17 hla) (by first | exact Y6 (cf:=cf) (ct:=ct) (by assumption) (by assumption) (by assumption) (by assumption) | exact Y8 (cf:=cf) (ct:=ct) (by assumption) (by assumption) (by assumption) (by assumption) (by first | exact .inl (by assumption) | exact .inr (by assumption)) | exact Y1 (cf:=cf) (ct:=ct) (by assumption) (by assumption) (by assumption) (by first | exact .inl (by assumption) | exact .inr (by assumption)) (by first | exact .inl (by assumption) | exact .inr (by assumption)) (by assumption) (by assumption)))),(by simp only[aA]; exact hL2),rfl⟩ (by omega) ?_
        exact Wk.of [] rfl ⟨rfl,rfl,rfl,rfl,rfl,rfl,rfl,rfl,rfl,rfl,rfl,rfl,rfl,rfl,trivial⟩ ⟨rfl,rfl,(Qk (by first | rfl | simp)),trivial⟩ rfl rfl
       ·have hb37':¬(ct=c25):=QP hb37
        iterate 5 refine w_ ?_
        refine Qb ?_
        have e41:((⟨#[]⟩:ByteArray):ByteArray)=((l5V r.1.length (Qv s.2.2.1 r.2) sig).1):=by
         (rw[XS (by rw[hA2,Y9 (ZO hx17 hla) (by first | exact Y7 (cf:=cf) (ct:=ct) (by assumption) (by assumption) (by assumption) (by assumption) (by assumption) (by assumption) | exact Yw (cf:=cf) (by assumption) (by assumption) (by assumption) (by assumption) (by assumption) | exact YF (ct:=ct) (by assumption) (by assumption) (by assumption) (by assumption) (by assumption))]; rfl)]; done)
        have e42:(false:Bool)=((l5V r.1.length (Qv s.2.2.1 r.2) sig).2):=by
         (rw[XS (by rw[hA2,Y9 (ZO hx17 hla) (by first | exact Y7 (cf:=cf) (ct:=ct) (by assumption) (by assumption) (by assumption) (by assumption) (by assumption) (by assumption) | exact Yw (cf:=cf) (by assumption) (by assumption) (by assumption) (by assumption) (by assumption) | exact YF (ct:=ct) (by assumption) (by assumption) (by assumption) (by assumption) (by assumption))]; rfl)]; done)
        exact fr_ hO (e:=((congrArg (fun z_=>PV.tup [(false,[dS z_]),(false,[dB false])]) e41)).trans (congrArg (fun z_=>PV.tup [(false,[dS ((l5V r.1.length (Qv s.2.2.1 r.2) sig).1)]),(false,[dB z_])]) e42))
     ·have hb30':¬(cf=63):=QP hb30
      iterate 9 refine w_ ?_
      cases hb43:(!decide (cf=c23))
      ·have hb43':(cf=c23):=QA hb43
       iterate 4 refine w_ ?_
       obtain ⟨ct,hx45⟩:∃z,us2[(mv.2.2).toNat]? =some z:=⟨_,aa (by omega)⟩
       refine w_ ?_
       refine lgy rfl rfl (QH (Qa rfl) (QM 63 rfl) rfl) ?_
       refine w_ ?_
       cases hb46:(!decide (ct=63))
       ·have hb46':(ct=63):=QA hb46
        iterate 18 refine w_ ?_
        refine lc (Qu (e:= .u8) (z':=c23) (Qa rfl) rfl hx29 rfl (Qm rfl) rfl YA rfl rfl) ?_
        iterate 5 refine w_ ?_
        refine alI 143 fun hi47=> ?_
        iterate 2 refine w_ ?_
        obtain ⟨x48,hx49⟩:∃z,(us2.set ((mv.1).toNat) c23)[(mv.2.2).toNat]? =some z:=⟨_,aa (by first | omega | (simp only[aA]; omega))⟩
        refine lc (Qu (e:= .u8) (z':=c25) (Qa rfl) rfl hx49 rfl (Qm rfl) rfl YA rfl rfl)<|Qd ?_
        refine (?_:AC _ _ _ _ _)
        iterate 3 refine w_ ?_
        refine Qd<|Q8 ⟨i+1,((us2.set ((mv.1).toNat) c23).set ((mv.2.2).toNat) c25),by omega,rfl,hA2.trans (congrArg (Kf sig (Qv s.2.2.1 r.2) (r.1.length - p)) (Xy (ZO hx17 hla) (by first | exact Y6 (cf:=cf) (ct:=ct) (by assumption) (by assumption) (by assumption) (by assumption) | exact Y8 (cf:=cf) (ct:=ct) (by assumption) (by assumption) (by assumption) (by assumption) (by first | exact .inl (by assumption) | exact .inr (by assumption)) | exact Y1 (cf:=cf) (ct:=ct) (by assumption) (by assumption) (by assumption) (by first | exact .inl (by assumption) | exact .inr (by assumption)) (by first | exact .inl (by assumption) | exact .inr (by assumption)) (by assumption) (by assumption)))),(by simp only[aA]; exact hL2),rfl⟩ (by omega) ?_
        exact Wk.of [] rfl ⟨rfl,rfl,rfl,rfl,rfl,rfl,rfl,rfl,rfl,rfl,rfl,rfl,rfl,rfl,trivial⟩ ⟨rfl,rfl,(Qk (by first | rfl | simp)),trivial⟩ rfl rfl
       ·have hb46':¬(ct=63):=QP hb46
        iterate 10 refine w_ ?_
        cases hb50:(!decide (ct=c25))
        ·have hb50':(ct=c25):=QA hb50
         iterate 8 refine w_ ?_
         refine lc (Qu (e:= .u8) (z':=c23) (Qa rfl) rfl hx29 rfl (Qm rfl) rfl YA rfl rfl) ?_
         iterate 5 refine w_ ?_
         refine alI 143 fun hi51=> ?_
         iterate 2 refine w_ ?_
         obtain ⟨x52,hx53⟩:∃z,(us2.set ((mv.1).toNat) c23)[(mv.2.2).toNat]? =some z:=⟨_,aa (by first | omega | (simp only[aA]; omega))⟩
         refine lc (Qu (e:= .u8) (z':=c25) (Qa rfl) rfl hx53 rfl (Qm rfl) rfl YA rfl rfl)<|Qd ?_
         refine (?_:AC _ _ _ _ _)
         iterate 3 refine w_ ?_
         refine Qd<|Q8 ⟨i+1,((us2.set ((mv.1).toNat) c23).set ((mv.2.2).toNat) c25),by omega,rfl,hA2.trans (congrArg (Kf sig (Qv s.2.2.1 r.2) (r.1.length - p)) (Xy (ZO hx17 hla) (by first | exact Y6 (cf:=cf) (ct:=ct) (by assumption) (by assumption) (by assumption) (by assumption) | exact Y8 (cf:=cf) (ct:=ct) (by assumption) (by assumption) (by assumption) (by assumption) (by first | exact .inl (by assumption) | exact .inr (by assumption)) | exact Y1 (cf:=cf) (ct:=ct) (by assumption) (by assumption) (by assumption) (by first | exact .inl (by assumption) | exact .inr (by assumption)) (by first | exact .inl (by assumption) | exact .inr (by assumption)) (by assumption) (by assumption)))),(by simp only[aA]; exact hL2),rfl⟩ (by omega) ?_
         exact Wk.of [] rfl ⟨rfl,rfl,rfl,rfl,rfl,rfl,rfl,rfl,rfl,rfl,rfl,rfl,rfl,rfl,trivial⟩ ⟨rfl,rfl,(Qk (by first | rfl | simp)),trivial⟩ rfl rfl
        ·have hb50':¬(ct=c25):=QP hb50
         iterate 5 refine w_ ?_
         refine Qb ?_
         have e54:((⟨#[]⟩:ByteArray):ByteArray)=((l5V r.1.length (Qv s.2.2.1 r.2) sig).1):=by
          (rw[XS (by rw[hA2,Y9 (ZO hx17 hla) (by first | exact Y7 (cf:=cf) (ct:=ct) (by assumption) (by assumption) (by assumption) (by assumption) (by assumption) (by assumption) | exact Yw (cf:=cf) (by assumption) (by assumption) (by assumption) (by assumption) (by assumption) | exact YF (ct:=ct) (by assumption) (by assumption) (by assumption) (by assumption) (by assumption))]; rfl)]; done)
         have e55:(false:Bool)=((l5V r.1.length (Qv s.2.2.1 r.2) sig).2):=by
          (rw[XS (by rw[hA2,Y9 (ZO hx17 hla) (by first | exact Y7 (cf:=cf) (ct:=ct) (by assumption) (by assumption) (by assumption) (by assumption) (by assumption) (by assumption) | exact Yw (cf:=cf) (by assumption) (by assumption) (by assumption) (by assumption) (by assumption) | exact YF (ct:=ct) (by assumption) (by assumption) (by assumption) (by assumption) (by assumption))]; rfl)]; done)
         exact fr_ hO (e:=((congrArg (fun z_=>PV.tup [(false,[dS z_]),(false,[dB false])]) e54)).trans (congrArg (fun z_=>PV.tup [(false,[dS ((l5V r.1.length (Qv s.2.2.1 r.2) sig).1)]),(false,[dB z_])]) e55))
      ·have hb43':¬(cf=c23):=QP hb43
       iterate 7 refine w_ ?_
       refine Qo rfl rfl rfl ?_ rfl
       refine Qo rfl rfl rfl ?_ rfl
       refine Qo rfl rfl rfl ?_ rfl
       refine Qo rfl rfl rfl ?_ rfl
       refine Qo rfl rfl rfl ?_ rfl
       refine Qo rfl rfl rfl ?_ rfl
       refine Qo rfl rfl rfl ?_ rfl
       iterate 8 refine w_ ?_
       refine Qb ?_
       have e56:((⟨#[]⟩:ByteArray):ByteArray)=((l5V r.1.length (Qv s.2.2.1 r.2) sig).1):=by
        (rw[XS (by rw[hA2,Y9 (ZO hx17 hla) (by first | exact Y7 (cf:=cf) (ct:=ct) (by assumption) (by assumption) (by assumption) (by assumption) (by assumption) (by assumption) | exact Yw (cf:=cf) (by assumption) (by assumption) (by assumption) (by assumption) (by assumption) | exact YF (ct:=ct) (by assumption) (by assumption) (by assumption) (by assumption) (by assumption))]; rfl)]; done)
       have e57:(false:Bool)=((l5V r.1.length (Qv s.2.2.1 r.2) sig).2):=by
        (rw[XS (by rw[hA2,Y9 (ZO hx17 hla) (by first | exact Y7 (cf:=cf) (ct:=ct) (by assumption) (by assumption) (by assumption) (by assumption) (by assumption) (by assumption) | exact Yw (cf:=cf) (by assumption) (by assumption) (by assumption) (by assumption) (by assumption) | exact YF (ct:=ct) (by assumption) (by assumption) (by assumption) (by assumption) (by assumption))]; rfl)]; done)
       exact fr_ hO (e:=((congrArg (fun z_=>PV.tup [(false,[dS z_]),(false,[dB false])]) e56)).trans (congrArg (fun z_=>PV.tup [(false,[dS ((l5V r.1.length (Qv s.2.2.1 r.2) sig).1)]),(false,[dB z_])]) e57))
    ·have hb22':¬(lb.1=sig):=QP hb22
     iterate 5 refine w_ ?_
     refine alI 56 fun hi58=> ?_
     refine w_ ?_
     obtain ⟨cf,hx60⟩:∃z,us2[(mv.1).toNat]? =some z:=⟨_,aa (by omega)⟩
     iterate 6 refine w_ ?_
     refine lc (Zz (Qa rfl) (QM 63 rfl) rfl) ?_
     refine w_ ?_
     cases hb61:(decide (cf=63))
     ·have hb61':=ab hb61
      iterate 5 refine w_ ?_
      refine lc (QH (Qa rfl) (QM 63 rfl) rfl) ?_
      refine w_ ?_
      have hb62:(!decide (cf=63))=true:=Qb3 (hb61)
      try rw[hb62]
      iterate 4 refine w_ ?_
      obtain ⟨ct,hx64⟩:∃z,us2[(mv.2.2).toNat]? =some z:=⟨_,aa (by omega)⟩
      refine w_ ?_
      refine lgy rfl rfl (QH (Qa rfl) (QM 63 rfl) rfl) ?_
      iterate 2 refine w_ ?_
      cases hb65:(!decide (ct=63))
      ·have hb65':(ct=63):=QA hb65
       iterate 17 refine w_ ?_
       refine lc (Qu (e:= .u8) (z':=cf) (Qa rfl) rfl hx60 rfl (Qm rfl) rfl YA rfl rfl) ?_
       iterate 5 refine w_ ?_
       refine alI 92 fun hi66=> ?_
       iterate 2 refine w_ ?_
       obtain ⟨x67,hx68⟩:∃z,(us2.set ((mv.1).toNat) cf)[(mv.2.2).toNat]? =some z:=⟨_,aa (by first | omega | (simp only[aA]; omega))⟩
       refine lc (Qu (e:= .u8) (z':=cf) (Qa rfl) rfl hx68 rfl (Qm rfl) rfl YA rfl rfl) ?_
       refine w_ ?_
       refine Qi ?_
       refine (?_:AC _ _ _ _ _)
       iterate 3 refine w_ ?_
       refine Qd<|Q8 ⟨i+1,((us2.set ((mv.1).toNat) cf).set ((mv.2.2).toNat) cf),by omega,rfl,hA2.trans (congrArg (Kf sig (Qv s.2.2.1 r.2) (r.1.length - p)) (Xy (ZO hx17 hla) (by first | exact Y6 (cf:=cf) (ct:=ct) (by assumption) (by assumption) (by assumption) (by assumption) | exact Y8 (cf:=cf) (ct:=ct) (by assumption) (by assumption) (by assumption) (by assumption) (by first | exact .inl (by assumption) | exact .inr (by assumption)) | exact Y1 (cf:=cf) (ct:=ct) (by assumption) (by assumption) (by assumption) (by first | exact .inl (by assumption) | exact .inr (by assumption)) (by first | exact .inl (by assumption) | exact .inr (by assumption)) (by assumption) (by assumption)))),(by simp only[aA]; exact hL2),rfl⟩ (by omega) ?_
       exact Wk.of [] rfl ⟨rfl,rfl,rfl,rfl,rfl,rfl,rfl,rfl,rfl,rfl,rfl,rfl,rfl,rfl,trivial⟩ ⟨rfl,rfl,(Qk (by first | rfl | simp)),trivial⟩ rfl rfl
      ·have hb65':¬(ct=63):=QP hb65
       iterate 9 refine w_ ?_
       cases hb69:(!decide (ct=cf))
       ·have hb69':(ct=cf):=QA hb69
        iterate 8 refine w_ ?_
        refine lc (Qu (e:= .u8) (z':=cf) (Qa rfl) rfl hx60 rfl (Qm rfl) rfl YA rfl rfl) ?_
        iterate 5 refine w_ ?_
        refine alI 92 fun hi70=> ?_
        iterate 2 refine w_ ?_
        obtain ⟨x71,hx72⟩:∃z,(us2.set ((mv.1).toNat) cf)[(mv.2.2).toNat]? =some z:=⟨_,aa (by first | omega | (simp only[aA]; omega))⟩
        refine lc (Qu (e:= .u8) (z':=cf) (Qa rfl) rfl hx72 rfl (Qm rfl) rfl YA rfl rfl) ?_
        refine w_ ?_
        refine Qi ?_
        refine (?_:AC _ _ _ _ _)
        iterate 3 refine w_ ?_
        refine Qd<|Q8 ⟨i+1,((us2.set ((mv.1).toNat) cf).set ((mv.2.2).toNat) cf),by omega,rfl,hA2.trans (congrArg (Kf sig (Qv s.2.2.1 r.2) (r.1.length - p)) (Xy (ZO hx17 hla) (by first | exact Y6 (cf:=cf) (ct:=ct) (by assumption) (by assumption) (by assumption) (by assumption) | exact Y8 (cf:=cf) (ct:=ct) (by assumption) (by assumption) (by assumption) (by assumption) (by first | exact .inl (by assumption) | exact .inr (by assumption)) | exact Y1 (cf:=cf) (ct:=ct) (by assumption) (by assumption) (by assumption) (by first | exact .inl (by assumption) | exact .inr (by assumption)) (by first | exact .inl (by assumption) | exact .inr (by assumption)) (by assumption) (by assumption)))),(by simp only[aA]; exact hL2),rfl⟩ (by omega) ?_
        exact Wk.of [] rfl ⟨rfl,rfl,rfl,rfl,rfl,rfl,rfl,rfl,rfl,rfl,rfl,rfl,rfl,rfl,trivial⟩ ⟨rfl,rfl,(Qk (by first | rfl | simp)),trivial⟩ rfl rfl
       ·have hb69':¬(ct=cf):=QP hb69
        iterate 5 refine w_ ?_
        refine Qb ?_
        have e73:((⟨#[]⟩:ByteArray):ByteArray)=((l5V r.1.length (Qv s.2.2.1 r.2) sig).1):=by
         (rw[XS (by rw[hA2,Y9 (ZO hx17 hla) (by first | exact Y7 (cf:=cf) (ct:=ct) (by assumption) (by assumption) (by assumption) (by assumption) (by assumption) (by assumption) | exact Yw (cf:=cf) (by assumption) (by assumption) (by assumption) (by assumption) (by assumption) | exact YF (ct:=ct) (by assumption) (by assumption) (by assumption) (by assumption) (by assumption))]; rfl)]; done)
        have e74:(false:Bool)=((l5V r.1.length (Qv s.2.2.1 r.2) sig).2):=by
         (rw[XS (by rw[hA2,Y9 (ZO hx17 hla) (by first | exact Y7 (cf:=cf) (ct:=ct) (by assumption) (by assumption) (by assumption) (by assumption) (by assumption) (by assumption) | exact Yw (cf:=cf) (by assumption) (by assumption) (by assumption) (by assumption) (by assumption) | exact YF (ct:=ct) (by assumption) (by assumption) (by assumption) (by assumption) (by assumption))]; rfl)]; done)
        exact fr_ hO (e:=((congrArg (fun z_=>PV.tup [(false,[dS z_]),(false,[dB false])]) e73)).trans (congrArg (fun z_=>PV.tup [(false,[dS ((l5V r.1.length (Qv s.2.2.1 r.2) sig).1)]),(false,[dB z_])]) e74))
     ·have hb61':=ae hb61
      iterate 5 refine w_ ?_
      refine alI 63 fun hi75=> ?_
      refine w_ ?_
      obtain ⟨ct,hx77⟩:∃z,us2[(mv.2.2).toNat]? =some z:=⟨_,aa (by omega)⟩
      iterate 6 refine w_ ?_
      refine lc (QH (Qa rfl) (QM 63 rfl) rfl) ?_
      refine w_ ?_
      cases hb78:(!decide (ct=63))
      ·have hb78':(ct=63):=QA hb78
       iterate 25 refine w_ ?_
       refine lc (Qu (e:= .u8) (z':=ct) (Qa rfl) rfl hx60 rfl (Qm rfl) rfl YA rfl rfl) ?_
       iterate 7 refine w_ ?_
       obtain ⟨x79,hx80⟩:∃z,(us2.set ((mv.1).toNat) ct)[(mv.2.2).toNat]? =some z:=⟨_,aa (by first | omega | (simp only[aA]; omega))⟩
       refine lc (Qu (e:= .u8) (z':=ct) (Qa rfl) rfl hx80 rfl (Qm rfl) rfl YA rfl rfl) ?_
       refine w_ ?_
       refine Qi ?_
       refine (?_:AC _ _ _ _ _)
       iterate 3 refine w_ ?_
       refine Qd<|Q8 ⟨i+1,((us2.set ((mv.1).toNat) ct).set ((mv.2.2).toNat) ct),by omega,rfl,hA2.trans (congrArg (Kf sig (Qv s.2.2.1 r.2) (r.1.length - p)) (Xy (ZO hx17 hla) (by first | exact Y6 (cf:=cf) (ct:=ct) (by assumption) (by assumption) (by assumption) (by assumption) | exact Y8 (cf:=cf) (ct:=ct) (by assumption) (by assumption) (by assumption) (by assumption) (by first | exact .inl (by assumption) | exact .inr (by assumption)) | exact Y1 (cf:=cf) (ct:=ct) (by assumption) (by assumption) (by assumption) (by first | exact .inl (by assumption) | exact .inr (by assumption)) (by first | exact .inl (by assumption) | exact .inr (by assumption)) (by assumption) (by assumption)))),(by simp only[aA]; exact hL2),rfl⟩ (by omega) ?_
       exact Wk.of [] rfl ⟨rfl,rfl,rfl,rfl,rfl,rfl,rfl,rfl,rfl,rfl,rfl,rfl,rfl,rfl,trivial⟩ ⟨rfl,rfl,(Qk (by first | rfl | simp)),trivial⟩ rfl rfl
      ·have hb78':¬(ct=63):=QP hb78
       iterate 5 refine w_ ?_
       refine lgy rfl rfl (QH (Qa rfl) (QM 63 rfl) rfl) ?_
       iterate 2 refine w_ ?_
       have hb81:(!decide (ct=63))=true:=Qb3 (Qfb hb78)
       try rw[hb81]
       iterate 9 refine w_ ?_
       have hb82:(!decide (ct=ct))=false:=Qb3 (aJ rfl)
       have hb82':(ct=ct):=QA hb82
       try rw[hb82]
       iterate 8 refine w_ ?_
       refine lc (Qu (e:= .u8) (z':=ct) (Qa rfl) rfl hx60 rfl (Qm rfl) rfl YA rfl rfl) ?_
       iterate 7 refine w_ ?_
       obtain ⟨x83,hx84⟩:∃z,(us2.set ((mv.1).toNat) ct)[(mv.2.2).toNat]? =some z:=⟨_,aa (by first | omega | (simp only[aA]; omega))⟩
       refine lc (Qu (e:= .u8) (z':=ct) (Qa rfl) rfl hx84 rfl (Qm rfl) rfl YA rfl rfl) ?_
       refine w_ ?_
       refine Qi ?_
       refine (?_:AC _ _ _ _ _)
       iterate 3 refine w_ ?_
       refine Qd<|Q8 ⟨i+1,((us2.set ((mv.1).toNat) ct).set ((mv.2.2).toNat) ct),by omega,rfl,hA2.trans (congrArg (Kf sig (Qv s.2.2.1 r.2) (r.1.length - p)) (Xy (ZO hx17 hla) (by first | exact Y6 (cf:=cf) (ct:=ct) (by assumption) (by assumption) (by assumption) (by assumption) | exact Y8 (cf:=cf) (ct:=ct) (by assumption) (by assumption) (by assumption) (by assumption) (by first | exact .inl (by assumption) | exact .inr (by assumption)) | exact Y1 (cf:=cf) (ct:=ct) (by assumption) (by assumption) (by assumption) (by first | exact .inl (by assumption) | exact .inr (by assumption)) (by first | exact .inl (by assumption) | exact .inr (by assumption)) (by assumption) (by assumption)))),(by simp only[aA]; exact hL2),rfl⟩ (by omega) ?_
       exact Wk.of [] rfl ⟨rfl,rfl,rfl,rfl,rfl,rfl,rfl,rfl,rfl,rfl,rfl,rfl,rfl,rfl,trivial⟩ ⟨rfl,rfl,(Qk (by first | rfl | simp)),trivial⟩ rfl rfl
 ·have hb5':=ae hb5
  iterate 12 refine w_ ?_
  obtain ⟨x85,hx86⟩:∃z,(U4 r.1.length k)[k]? =some z:=⟨_,aa (by omega)⟩
  refine lc (Qu (e:= .u8) (z':=63) (Qa rfl) rfl hx86 rfl (Evl.ev (QM 63 rfl)) rfl YA rfl rfl)<|Qd ?_
  refine (?_:AC _ _ _ _ _)
  iterate 3 refine w_ ?_
  refine Qd ?_
  refine l0_ ?_
  exact Wk.of [] rfl ⟨rfl,rfl,rfl,rfl,rfl,rfl,rfl,rfl,trivial⟩ ⟨rfl,rfl,(Qk (Qjn (by omega))),trivial⟩ rfl rfl
theorem Hv (s:(Int×(List (List Int×List Int)))×(List (ByteArray×Int))×(List (Int×Bool))×ByteArray)(r:List ByteArray×(List (Int×Int×Int)))(hm:∀m∈r.2,MvOk r.1.length s.2.2.1.length m)(hl1:r.1.length≤1000000)(hl2:s.2.1.length≤1000000):FC Tryz.prog 263 [(true,[dI s.1.1, .dat (.sl 245 (.pr (.sl 3 .int) (.sl 3 .int))) s.1.2, .dat (.sl 44 (.pr .str .int)) s.2.1, .dat (.sl 86 (.pr .int .bool)) s.2.2.1,dS s.2.2.2]),(true,[.dat (.sl 9 .str) r.1, .dat (.sl 263 (.pr .int (.pr .int .int))) r.2])] [] 0 (Wy 3 .int (Xn r.1.length (Qv s.2.2.1 r.2) s.2.1.length)):=by
 refine Qj Tryz.func263 rfl rfl Tryz.ntmps263 fun O_ hO w0_ N0_ X_ h0_ f0_=> ?_
 refine acG 0 0 fun hi1=> ?_
 refine w_ ?_
 refine xbx 0 ?_
 refine xbx 1 ?_
 iterate 9 refine w_ ?_
 refine alL 10 fun hl2=> ?_
 iterate 4 refine w_ ?_
 refine AC.wk (Wk.nilS 2 5 3 .int rfl (Fresh.of rfl) (nlr rfl)) ?_
 refine lp0 s.2.1.length (fun k=>⟨[(2,lP 0 0),(3,lP 1 0),(4,lf (.val (.slice none 0 0))),(5,lR 3),(11,lI (s.2.1.length:Int)),(12,lI (k:Int))],[bx 0 62 [dI s.1.1, .dat (.sl 245 (.pr (.sl 3 .int) (.sl 3 .int))) s.1.2, .dat (.sl 44 (.pr .str .int)) s.2.1, .dat (.sl 86 (.pr .int .bool)) s.2.2.1,dS s.2.2.2],bx 1 160 [.dat (.sl 9 .str) r.1, .dat (.sl 263 (.pr .int (.pr .int .int))) r.2],ar 3 3 .int (Xn r.1.length (Qv s.2.2.1 r.2) k)]⟩) ?_ fun k hk3=> ?_
 · exact Wk.of [(3,2)] rfl ⟨rfl,rfl,rfl,rfl,rfl,rfl,trivial⟩ ⟨rfl,rfl,(Qk (by first | rfl | simp)),trivial⟩ rfl rfl
 have hcl:=QjW r.1.length (Qv s.2.2.1 r.2) k
 iterate 4 refine w_ ?_
 cases hb4:(decide ((k:Int) < (s.2.1.length:Int)))
 ·have hb4':=ab hb4
  refine w_ ?_
  refine Qi ?_
  refine (?_:AC _ _ _ _ _)
  iterate 4 refine w_ ?_
  refine Qb<|fo_ hO ?_
  rw[show k=s.2.1.length by omega]
 ·have hb4':=ae hb4
  iterate 12 refine w_ ?_
  refine lc (dK (W7 s r (k:Int) hm hl1) QbY) ?_
  iterate 10 refine w_ ?_
  cases hb5:((l5V r.1.length (Qv s.2.2.1 r.2) (k:Int)).2)
  ·iterate 4 refine w_ ?_
   refine lc (dBs 4 (e:= .int) XI) ?_
   refine lc (dA 5 Wf) ?_
   refine w_ ?_
   refine Qd ?_
   refine (?_:AC _ _ _ _ _)
   iterate 3 refine w_ ?_
   refine Qd ?_
   refine l0_ ?_
   exact Wk.of [(3,5)] rfl ⟨rfl,rfl,rfl,rfl,rfl,rfl,trivial⟩ ⟨rfl,rfl,(Qk (by first | exact Qcp (by assumption) | exact Qfw (by assumption))),trivial⟩ rfl rfl
  ·refine w_ ?_
   refine AC.skip ?_
   refine (?_:AC _ _ _ _ _)
   iterate 3 refine w_ ?_
   refine Qd ?_
   refine l0_ ?_
   exact Wk.of [] rfl ⟨rfl,rfl,rfl,rfl,rfl,rfl,trivial⟩ ⟨rfl,rfl,(Qk (by first | exact Qcp (by assumption) | exact Qfw (by assumption))),trivial⟩ rfl rfl
end Go.Proofs.YtgpdhgadmjfokaaGreat
namespace Go.Proofs.YtgpdhgadmjfokaaGreat
open Go.RowKit
set_option maxRecDepth 100000
set_option maxHeartbeats 4000000
structure Rok (m:Nat) (st:RS):Prop where
  one:1≤st.1.length
  most:st.1.length≤300
  nd:st.1.Nodup
  mv:∀v∈st.2.1,MvOk st.1.length m v
section
variable {n:YD}{k f:Nat}{mk:ByteArray}{t:Int}{ts:List Int}{st:RS}{s:QR}{l:List ByteArray}{x:ByteArray}
theorem QkZ (h:0≤Yk l x):Yk l x < l.length:=by
  unfold Yk Ze at h ⊢
  cases hf:l.findIdx? (fun y=>decide (y=x)) with
  | none=>rw[hf] at h; simp at h
  | some i=>
    obtain ⟨h1,_⟩:=bT.1 hf
    simp; omega
theorem Qjj (h:¬0≤Yk l x):x∉l:=fun hm=>by
  unfold Yk Ze at h
  cases hf:l.findIdx? (fun y=>decide (y=x)) with
  | none=>
    have:=cw.1 hf x hm
    simp at this
  | some i=>rw[hf] at h; simp at h
theorem MvOk.grow {a b m:Nat}{v:DMv}(h:MvOk a m v)(hab:a≤b):MvOk b m v:=by
  obtain ⟨⟨h1,h2⟩,h3,h4,h5⟩:=h
  exact ⟨⟨h1,by omega⟩,h3,h4,by omega⟩
theorem Qo7 (hk:k < st.1.length)(hts:∀t∈ts,0≤t∧t < n.2.length)(h:Rok n.2.length st):Rok n.2.length (goT n k mk ts st).1∧(goT n k mk ts st).1.2.1.length≤st.2.1.length+ts.length∧st.1.length≤(goT n k mk ts st).1.1.length:=by
  induction ts generalizing st with
  | nil=>rw[goT]; exact ⟨h,by simp,aO _⟩
  | cons t ts ih=>
    have ht:=hts t (ay ..)
    have hts':∀t∈ts,0≤t∧t < n.2.length:=fun t h=>hts t (ax _ h)
    rw[goT]
    split
    · exact ⟨h,by simp,aO _⟩
    · split
      · rename_i h0
        have hlt:=QkZ h0
        obtain ⟨h1,h2,h3⟩:=ih (st:=(st.1,st.2.1++[((k:Int),t,Yk st.1 (Z1 n mk t).1)],st.2.2)) hk hts' ⟨h.one,h.most,h.nd,fun v hv=>by
          rcases aG.1 hv with hv | hv
          · exact h.mv v hv
          · rw[aC.1 hv]; exact ⟨⟨Int.natCast_nonneg _,by simpa using hk⟩,ht,h0,hlt⟩⟩
        exact ⟨h1,by simp at h2 ⊢; omega,h3⟩
      · rename_i h0
        split
        · exact ⟨h,by simp,aO _⟩
        · rename_i h4
          have hm:=h.most
          obtain ⟨h1,h2,h3⟩:=ih (st:=(st.1++[(Z1 n mk t).1],st.2.1++[((k:Int),t,(st.1.length:Int))],st.2.2++[((k:Int),t,(st.1.length:Int))])) (by simp; omega) hts' ⟨by simp,by simp; omega,
            ba.2 ⟨h.nd,by simp,fun a ha b hb e=>Qjj h0 (by rw[aC.1 hb] at e; exact e▸ha)⟩,fun v hv=>by
              rcases aG.1 hv with hv | hv
              · exact (h.mv v hv).grow (by simp)
              · rw[aC.1 hv]; exact ⟨⟨Int.natCast_nonneg _,by simp; omega⟩,ht,Int.natCast_nonneg _,by simp; omega⟩⟩
          exact ⟨h1,by simp at h2 ⊢; omega,by simp at h3; omega⟩
theorem QoR (hn:n.2.length≤24)(h:Rok n.2.length st)(hl:st.2.1.length≤24*k):Rok n.2.length (goK n f k st).1∧(goK n f k st).1.2.1.length≤24*(k+f):=by
  induction f generalizing k st with
  | zero=>rw[goK]; exact ⟨h,by omega⟩
  | succ f ih=>
    rw[goK]
    cases hx:st.1[k]? with
    | none=>exact ⟨h,by show st.2.1.length≤_; omega⟩
    | some mk=>
      obtain ⟨h1,h2,h3⟩:=Qo7 (mk:=mk) (ts:=VT n mk) (aj.1 hx).1 (fun t ht=>by
        obtain ⟨i,hi⟩:=aM.1 ht
        exact XA hi) h
      have h4:=Qet n mk
      show Rok n.2.length (if _ then _ else _:RS×Qfr).1∧(if _ then _ else _:RS×Qfr).1.2.1.length≤_
      split
      · obtain ⟨h5, h6⟩ := ih (k := k + 1) h1 (by omega)
        exact ⟨h5,by omega⟩
      · exact ⟨h1,by omega⟩
theorem Qll (hs:StgOk s):Rok s.2.2.1.length (Zn s).1∧(Zn s).1.2.1.length≤7224:=by
  have h:=QoR (n:=s.1) (k:=0) (f:=301) (st:=([s.2.2.2],[],[((0:Int),(0:Int),(0:Int))])) hs.net.2.1 ⟨by simp,by simp,by simp,by simp⟩ (by simp)
  rw[← hs.len] at h
  exact h
end
theorem Qew {ss:List Qz}(h:YO ss):ss.length≤24:=by
  have:=h.2.2
  omega
section
variable [∀s,Decidable (StgOk s)]{s:QR}
theorem Vu (h:¬StgOk s):Qh s=(QhJ,false):=if_neg fun h2=>h h2.1
theorem YI (h:(exV s).2.2.2=false):Qh s=(QhJ,false):=if_neg fun h2=>by
  have:(Zn s).2.2.2=false:=h
  rw[this] at h2
  cases h2.2
theorem Vz (hs:StgOk s)(h:(exV s).2.2.2=true):Qh s=((exV s).1,true):=if_pos ⟨hs,h⟩
theorem ZW (h:(Qh s).2=true):StgOk s∧1≤(Qh s).1.1.length∧(Qh s).1.1.length≤300∧(Qh s).1.1.Nodup∧(∀v∈(Qh s).1.2,MvOk (Qh s).1.1.length s.2.2.1.length v)∧(Qh s).1.2.length≤7224:=by
  unfold Qh at h ⊢
  split
  · rename_i h1
    obtain ⟨h2,h3⟩:=Qll h1.1
    exact ⟨h1.1,h2.one,h2.most,h2.nd,h2.mv,h3⟩
  · rename_i h1
    rw[if_neg h1] at h
    cases h
end
section
variable {s:QR}
theorem Qdm (h:¬0≤(l4V s).2.2.2.1)(h2:(l4V s).2.2.2.2=false):(exV s).2.2.2=true:=by
  have h:¬0≤(Zn s).2.2.1:=h
  have h2:(!(Zn s).2.2.2&&decide ((Zn s).2.2.1 < 0))=false:=h2
  show (Zn s).2.2.2=true
  rw[aJ (by omega)] at h2
  simpa using h2
theorem Qec (h:¬0≤(l4V s).2.2.2.1)(h2:(l4V s).2.2.2.2=true):(exV s).2.2.2=false:=by
  have h2:(!(Zn s).2.2.2&&decide ((Zn s).2.2.1 < 0))=true:=h2
  rw[aN] at h2
  show (Zn s).2.2.2=false
  simpa using h2.1
end
theorem QjG {n:YD}{k:Nat}{mk:ByteArray}{ts:List Int}{st:RS}(h:(goT n k mk ts st).2.2.2=true):(goT n k mk ts st).2.2.1= -1:=by
  induction ts generalizing st with
  | nil=>rw[goT]
  | cons t ts ih=>
    rw[goT] at h ⊢
    split
    · rename_i h1; rw[if_pos h1] at h; cases h
    · rename_i h1
      rw[if_neg h1] at h
      split
      · rename_i h2; rw[if_pos h2] at h; exact ih h
      · rename_i h2
        rw[if_neg h2] at h
        split
        · rfl
        · rename_i h3; rw[if_neg h3] at h; exact ih h
theorem Qi8 {n:YD}{f k:Nat}{st:RS}(h:(goK n f k st).2.2.2=true):(goK n f k st).2.2.1= -1:=by
  induction f generalizing k st with
  | zero=>rw[goK]
  | succ f ih=>
    rw[goK] at h ⊢
    cases hx:st.1[k]? with
    | none=>rfl
    | some mk=>
      rw[hx] at h
      simp only at h ⊢
      split
      · rename_i h1; rw[if_pos h1] at h; exact ih h
      · rename_i h1; rw[if_neg h1] at h; exact QjG h
theorem QdK {s:QR}(h:0≤(l4V s).2.2.2.1):(exV s).2.2.2=false:=by
  have h:0≤(Zn s).2.2.1:=h
  show (Zn s).2.2.2=false
  cases he:(Zn s).2.2.2 with
  | false=>rfl
  | true=>
    have:=Qi8 (n:=s.1) (f:=301) (k:=0) (st:=([s.2.2.2],[],[((0:Int),(0:Int),(0:Int))])) he
    have h2:(Zn s).2.2.1= -1:=this
    omega
theorem HD (s:(Int×(List (List Int×List Int)))×(List (ByteArray×Int))×(List (Int×Bool))×ByteArray)[∀s,Decidable (StgOk s)]:FC Tryz.prog 130 [(true,[dI s.1.1, .dat (.sl 245 (.pr (.sl 3 .int) (.sl 3 .int))) s.1.2, .dat (.sl 44 (.pr .str .int)) s.2.1, .dat (.sl 86 (.pr .int .bool)) s.2.2.1,dS s.2.2.2])] [] 0 (Is (PV.tup [(true,[.ref 0, .ref 1]),(false,[dB ((Qh s).2)])]) [ar 0 9 .str (((Qh s).1).1),ar 1 263 (.pr .int (.pr .int .int)) (((Qh s).1).2)]):=by
 refine Qj Tryz.func130 rfl rfl Tryz.ntmps130 fun O_ hO w0_ N0_ X_ h0_ f0_=> ?_
 refine acG 0 0 fun hi1=> ?_
 refine w_ ?_
 refine xbx 0 ?_
 refine lc (xal 1 (.pr (.sl 9 .str) (.sl 263 (.pr .int (.pr .int .int)))) Qdq) ?_
 iterate 5 refine w_ ?_
 refine lc (dK (Xe s) Vn) ?_
 iterate 2 refine w_ ?_
 cases hb2:(decide (StgOk s))
 ·have hb2':=ab hb2
  iterate 2 refine w_ ?_
  refine lc (Qn Qal rfl (aw.1 rfl) rfl rfl) ?_
  iterate 3 refine w_ ?_
  refine AC.wk (QD 2 (p:=1) (off:=0) 9 .str rfl rfl (Fresh.of rfl) (nlr rfl))<|AC.wk (QD 3 (p:=1) (off:=1) 263 (.pr .int (.pr .int .int)) rfl rfl (Fresh.of rfl) (nlr rfl))<|Qb ?_
  have e3:(false:Bool)=((Qh s).2):=by
   (rw[Vu (by assumption)]; done)
  exact fi_ [(0,2),(1,3)] hO ⟨(Qk (by (rw[Vu (by assumption)]; rfl))),(Qk (by (rw[Vu (by assumption)]; rfl))),trivial⟩ (h0:=(congrArg (fun z_=>PV.tup [(true,[.ref 2, .ref 3]),(false,[dB z_])]) e3))
 ·have hb2':=ae hb2
  iterate 4 refine w_ ?_
  refine lc (dG 4 (Hr s (by assumption)) Qhu) ?_
  refine lc (xal 7 (.pr (.pr (.sl 9 .str) (.sl 263 (.pr .int (.pr .int .int)))) (.pr (.sl 263 (.pr .int (.pr .int .int))) (.pr .int (.pr .int .bool)))) Qag) ?_
  iterate 6 refine w_ ?_
  refine alI 12 fun hi4=> ?_
  iterate 2 refine w_ ?_
  cases hb5:(decide (0≤((l4V s).2.2.2.1)))
  ·have hb5':=ab hb5
   iterate 4 refine w_ ?_
   cases hb6:((l4V s).2.2.2.2)
   ·iterate 8 refine w_ ?_
    refine Qb ?_
    have e7:(true:Bool)=((Qh s).2):=by
     (rw[Vz (by assumption) (Qdm (by assumption) (by assumption))]; done)
    exact fi_ [(0,4),(1,5)] hO ⟨(Qk (by (rw[Vz (by assumption) (Qdm (by assumption) (by assumption))]; rfl))),(Qk (by (rw[Vz (by assumption) (Qdm (by assumption) (by assumption))]; rfl))),trivial⟩ (h0:=(congrArg (fun z_=>PV.tup [(true,[.ref 4, .ref 5]),(false,[dB z_])]) e7))
   ·iterate 2 refine w_ ?_
    refine lc (Qn Qal rfl (aw.1 rfl) rfl rfl) ?_
    iterate 3 refine w_ ?_
    refine AC.wk (QD 8 (p:=1) (off:=0) 9 .str rfl rfl (Fresh.of rfl) (nlr rfl))<|AC.wk (QD 9 (p:=1) (off:=1) 263 (.pr .int (.pr .int .int)) rfl rfl (Fresh.of rfl) (nlr rfl))<|Qb ?_
    have e8:(false:Bool)=((Qh s).2):=by
     (rw[YI (Qec (by assumption) (by assumption))]; done)
    exact fi_ [(0,8),(1,9)] hO ⟨(Qk (by (rw[YI (Qec (by assumption) (by assumption))]; rfl))),(Qk (by (rw[YI (Qec (by assumption) (by assumption))]; rfl))),trivial⟩ (h0:=(congrArg (fun z_=>PV.tup [(true,[.ref 8, .ref 9]),(false,[dB z_])]) e8))
  ·have hb5':=ae hb5
   iterate 6 refine w_ ?_
   refine lc (Qn Qal rfl (aw.1 rfl) rfl rfl) ?_
   iterate 3 refine w_ ?_
   refine AC.wk (QD 10 (p:=1) (off:=0) 9 .str rfl rfl (Fresh.of rfl) (nlr rfl))<|AC.wk (QD 11 (p:=1) (off:=1) 263 (.pr .int (.pr .int .int)) rfl rfl (Fresh.of rfl) (nlr rfl))<|Qb ?_
   have e9:(false:Bool)=((Qh s).2):=by
    (rw[YI (QdK (by assumption))]; done)
   exact fi_ [(0,10),(1,11)] hO ⟨(Qk (by (rw[YI (QdK (by assumption))]; rfl))),(Qk (by (rw[YI (QdK (by assumption))]; rfl))),trivial⟩ (h0:=(congrArg (fun z_=>PV.tup [(true,[.ref 10, .ref 11]),(false,[dB z_])]) e9))
end Go.Proofs.YtgpdhgadmjfokaaGreat
