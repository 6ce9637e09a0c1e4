/- Walks over abstract states: the values of a signal, the reference. -/
import Derived.Test.YtfkmmpfdncopdaaGreatWn
set_option linter.unusedSimpArgs false
set_option linter.unusedVariables false
set_option linter.unusedSectionVars false
namespace Go.Proofs.YtfkmmpfdncopdaaGreat
open Go.RowKit
set_option maxRecDepth 100000
set_option maxHeartbeats 4000000
section
variable {sig:Int}{us us':List UInt8}{arcs:List DAr}{f k n:Nat}{cf ct b1 b2:UInt8}{mv:DMv}{lb:ZA}{ls:List ZA}{ms:List DMv}
theorem QlZ (ls:List ZA)(ms:List DMv):(Qu ls ms).length=ms.length:=by simp[Qu]
theorem ZL (hx:ms[k]? =some mv)(hla:Qbj ls mv.2.1=lb):(Qu ls ms)[k]? =some (mv.1,lb.1,lb.2,mv.2.2):=by
  unfold Qu
  rw[bo,hx]
  simp[Qhk,hla]
def ar4 (mv:DMv)(lb:ZA):DAr:=(mv.1,lb.1,lb.2,mv.2.2)
theorem Y0 (hl:¬lb.1=sig)(hf:us[mv.1.toNat]? =some cf)(hq:decide (cf=63)=true)(ht:us[mv.2.2.toNat]? =some ct):Yg sig (mv.1,lb.1,lb.2,mv.2.2) us=some ((us.set mv.1.toNat ct).set mv.2.2.toNat ct):=by
  unfold Yg
  simp only
  rw[if_neg hl,Z1 hf,Z1 ht,if_pos (ae hq)]
theorem YX (hl:¬lb.1=sig)(hf:us[mv.1.toNat]? =some cf)(hq:decide (cf=63)=false)(ht:us[mv.2.2.toNat]? =some ct)(h2:ct=63∨ct=cf):Yg sig (mv.1,lb.1,lb.2,mv.2.2) us=some ((us.set mv.1.toNat cf).set mv.2.2.toNat cf):=by
  unfold Yg
  simp only
  rw[if_neg hl,Z1 hf,Z1 ht,if_neg (ab hq),if_neg]
  rintro ⟨h3,h4⟩
  rcases h2 with h | h
  · exact h3 h
  · exact h4 h
theorem Y3 (hl:¬lb.1=sig)(hf:us[mv.1.toNat]? =some cf)(hq:decide (cf=63)=false)(ht:us[mv.2.2.toNat]? =some ct)(h1:¬ct=63)(h2:¬ct=cf):Yg sig (mv.1,lb.1,lb.2,mv.2.2) us=none:=by
  unfold Yg
  simp only
  rw[if_neg hl,Z1 hf,Z1 ht,if_neg (ab hq),if_pos ⟨h1,h2⟩]
theorem H0 {b:Bool}{c:UInt8}(h:(Yv b)[((0:Int)).toNat]? =some c):(if b=true then 49 else 48)=c:=by
  have:(Yv b)[((0:Int)).toNat]? =some (if b=true then 49 else 48):=by cases b <;> rfl
  rw[this] at h
  exact Option.some.inj h
theorem Y8 (hl:lb.1=sig)(h1:(Yv (!lb.2))[((0:Int)).toNat]? =some b1)(h2:(Yv lb.2)[((0:Int)).toNat]? =some b2)(hf:cf=63∨cf=b1)(ht:ct=63∨ct=b2)(hcf:us[mv.1.toNat]? =some cf)(hct:us[mv.2.2.toNat]? =some ct):
    Yg sig (mv.1,lb.1,lb.2,mv.2.2) us=some ((us.set mv.1.toNat b1).set mv.2.2.toNat b2):=by
  unfold Yg
  simp only
  rw[if_pos hl,H0 h1,H0 h2,Z1 hcf,Z1 hct,if_neg]
  rintro (⟨h3,h4⟩ | ⟨h3,h4⟩)
  · rcases hf with h | h
    · exact h3 h
    · exact h4 h
  · rcases ht with h | h
    · exact h3 h
    · exact h4 h
theorem YD (hl:lb.1=sig)(h1:(Yv (!lb.2))[((0:Int)).toNat]? =some b1)(hcf:us[mv.1.toNat]? =some cf)(h3:¬cf=63)(h4:¬cf=b1):Yg sig (mv.1,lb.1,lb.2,mv.2.2) us=none:=by
  unfold Yg
  simp only
  rw[if_pos hl,H0 h1,Z1 hcf,if_pos (.inl ⟨h3,h4⟩)]
theorem YA (hl:lb.1=sig)(h1:(Yv lb.2)[((0:Int)).toNat]? =some b2)(hct:us[mv.2.2.toNat]? =some ct)(h3:¬ct=63)(h4:¬ct=b2):Yg sig (mv.1,lb.1,lb.2,mv.2.2) us=none:=by
  unfold Yg
  simp only
  rw[if_pos hl,H0 h1,Z1 hct,if_pos (.inr ⟨h3,h4⟩)]
def U2 (n k:Nat):List UInt8:=List.replicate k 63++List.replicate (n - k) 0
theorem QbX (n k:Nat)(h:k≤n):(U2 n k).length=n:=by simp[U2]; omega
theorem QiX (h:n≤k)(h2:k≤n):U2 n k=List.replicate n 63:=by
  obtain rfl:k=n:=by omega
  simp[U2]
theorem QjH (h:k < n):(U2 n k).set k 63=U2 n (k+1):=by
  unfold U2
  rw[List.set_append_right _ _ (by simp),aB,Nat.sub_self,show n - k=(n - (k+1))+1 by omega,List.replicate_succ,List.set_cons_zero,List.replicate_succ']
  simp
def Xj (n:Nat)(arcs:List DAr):Nat→List Int
  | 0=>[]
  | k+1=>Xj n arcs k++(if (l5V n arcs (k:Int)).2=true then [] else [(k:Int)])
theorem Qjq (n:Nat)(arcs:List DAr)(k:Nat):(Xj n arcs k).length≤k:=by
  induction k with
  | zero=>simp[Xj]
  | succ k ih=>simp only[Xj,ak]; split <;> simp <;> omega
theorem Qcl (h:(l5V n arcs (k:Int)).2=true):Xj n arcs k=Xj n arcs (k+1):=by simp[Xj,h]
theorem Qew (h:(l5V n arcs (k:Int)).2=false):Xj n arcs k++[(k:Int)]=Xj n arcs (k+1):=by simp[Xj,h]
end
def MvOk (n m:Nat)(v:DMv):Prop:=(0≤v.1∧v.1 < (n:Int))∧(0≤v.2.1∧v.2.1 < (m:Int))∧0≤v.2.2∧v.2.2 < (n:Int)
theorem YR (up:Bool):FC Tryz.prog 235 [(false,[dB up])] [] 0 (QU (lf (dS (Yv up)))):=by
 refine Qj Tryz.func235 rfl rfl Tryz.ntmps235 fun O_ hO w0_ N0_ X_ h0_ f0_=> ?_
 iterate 7 refine w_ ?_
 refine cb_ (fun hb1=> ?_) fun hb1=> ?_
 ·iterate 4 refine w_ ?_
  refine Qb<|fqS hO ?_
  simp[Yv, *]
 ·iterate 3 refine w_ ?_
  refine Qb<|fqS hO ?_
  simp[Yv, *]
theorem WY (s:(Int×(List (List Int×List Int)))×(List (ByteArray×Int))×(List (Int×Bool))×ByteArray)(r:List ByteArray×(List (Int×Int×Int)))(sig:Int)(hm:∀m∈r.2,MvOk r.1.length s.2.2.1.length m)(hl1:r.1.length≤1000000):FC Tryz.prog 146 [(true,[dI s.1.1, .dat (.sl 237 (.pr (.sl 3 .int) (.sl 3 .int))) s.1.2, .dat (.sl 203 (.pr .str .int)) s.2.1, .dat (.sl 120 (.pr .int .bool)) s.2.2.1,dS s.2.2.2]),(true,[.dat (.sl 9 .str) r.1, .dat (.sl 184 (.pr .int (.pr .int .int))) r.2]),(false,[dI sig])] [] 0 (QU (PV.tup [(false,[dS ((l5V r.1.length (Qu s.2.2.1 r.2) sig).1)]),(false,[dB ((l5V r.1.length (Qu s.2.2.1 r.2) sig).2)])])):=by
 have hrl:(List.replicate r.1.length (Ty.zero .u8)).length=r.1.length:=aB ..
 refine Qj Tryz.func146 rfl rfl Tryz.ntmps146 fun O_ hO w0_ N0_ X_ h0_ f0_=> ?_
 refine acG 0 0 fun hi1=> ?_
 refine acI 2 fun hi2=> ?_
 refine w_ ?_
 refine xbx 0 ?_
 refine xbx 1 ?_
 iterate 6 refine w_ ?_
 refine alL 18 fun hl3=> ?_
 refine w_ ?_
 refine lc (UG 2 (e:= .u8) (n:=r.1.length) (Qa rfl) (Qa rfl) Ua QpA rfl (by omega) (by omega) rfl (Fresh.of rfl) (nlr rfl)) ?_
 iterate 9 refine w_ ?_
 refine lp0 r.1.length (fun k=>⟨[(2,lI sig),(3,lP 0 0),(4,lP 1 0),(6,lf (dS (⟨#[]⟩:ByteArray))),(7,lB false),(8,lR 3),(22,lI ((List.replicate r.1.length (Ty.zero .u8)).length:Int)),(23,lI (k:Int))],[bx 0 83 [dI s.1.1, .dat (.sl 237 (.pr (.sl 3 .int) (.sl 3 .int))) s.1.2, .dat (.sl 203 (.pr .str .int)) s.2.1, .dat (.sl 120 (.pr .int .bool)) s.2.2.1,dS s.2.2.2],bx 1 178 [.dat (.sl 9 .str) r.1, .dat (.sl 184 (.pr .int (.pr .int .int))) r.2],ar 3 5 .u8 (U2 r.1.length k)]⟩) ?_ fun k hk4=> ?_
 · exact Wk.of [(3,2)] rfl ⟨rfl,rfl,rfl,rfl,rfl,rfl,rfl,rfl,trivial⟩ ⟨rfl,rfl,(Qk (rfl)),trivial⟩ rfl rfl
 have hfq:=QbX r.1.length k (by omega)
 iterate 4 refine w_ ?_
 cases hb5:(decide ((k:Int) < ((List.replicate r.1.length (Ty.zero .u8)).length:Int)))
 ·have hb5':=ab hb5
  refine w_ ?_
  refine Qi ?_
  refine (?_:AC _ _ _ _ _)
  iterate 5 refine w_ ?_
  refine QE (fun m_ s_=>∃(p:Nat) (us:List UInt8),p≤(r.1.length+1)∧m_=(r.1.length+1) - p∧(Xl sig (Qu s.2.2.1 r.2) (r.1.length+1) (List.replicate r.1.length 63)=Xl sig (Qu s.2.2.1 r.2) (r.1.length+1 - p) us)∧(us.length=r.1.length)∧s_=⟨[(2,lI sig),(3,lP 0 0),(4,lP 1 0),(8,lR 4),(10,lI (p:Int))],[bx 0 83 [dI s.1.1, .dat (.sl 237 (.pr (.sl 3 .int) (.sl 3 .int))) s.1.2, .dat (.sl 203 (.pr .str .int)) s.2.1, .dat (.sl 120 (.pr .int .bool)) s.2.2.1,dS s.2.2.2],bx 1 178 [.dat (.sl 9 .str) r.1, .dat (.sl 184 (.pr .int (.pr .int .int))) r.2],ar 4 5 .u8 us]⟩) ⟨0,U2 r.1.length k,aS _,rfl,(by rw[QiX (by omega) (by omega)]; rfl),(QbX _ _ (by omega)),rfl⟩ ?_ ?_
  · exact Wk.of [(4,3)] rfl ⟨rfl,rfl,rfl,rfl,rfl,trivial⟩ ⟨rfl,rfl,(Qk (by first | rfl | simp)),trivial⟩ rfl rfl
  rintro m_ s_ ⟨p,us,hk6,hm7,hA,hL,rfl⟩
  iterate 5 refine w_ ?_
  refine alL 32 fun hl8=> ?_
  iterate 3 refine w_ ?_
  cases hb9:(decide ((p:Int)≤(r.1.length:Int)))
  ·have hb9':=ab hb9
   refine w_ ?_
   refine Qi ?_
   refine (?_:AC _ _ _ _ _)
   iterate 2 refine w_ ?_
   refine lc (Vk (ys:=us) (Qd7 (Qa rfl) rfl) Ua Qd0 QR rfl) ?_
   iterate 3 refine w_ ?_
   refine Qb ?_
   have e10:((⟨(us).toArray⟩:ByteArray):ByteArray)=((l5V r.1.length (Qu s.2.2.1 r.2) sig).1):=by
    first | (rw[QdU (us:=us) (by rw[hA,show r.1.length+1 - p=0 by omega]; rfl)]; done)
   have e11:(true:Bool)=((l5V r.1.length (Qu s.2.2.1 r.2) sig).2):=by
    first | (rw[QdU (us:=us) (by rw[hA,show r.1.length+1 - p=0 by omega]; rfl)]; done)
   exact fr_ hO (e:=((congrArg (fun z_=>PV.tup [(false,[dS z_]),(false,[dB true])]) e10)).trans (congrArg (fun z_=>PV.tup [(false,[dS ((l5V r.1.length (Qu s.2.2.1 r.2) sig).1)]),(false,[dB z_])]) e11))
  ·have hb9':=ae hb9
   iterate 7 refine w_ ?_
   refine alL 38 fun hl12=> ?_
   iterate 4 refine w_ ?_
   refine QE (fun m_ s_=>∃(i:Nat) (us2:List UInt8),i≤r.2.length∧m_=r.2.length - i∧(Xl sig (Qu s.2.2.1 r.2) (r.1.length+1) (List.replicate r.1.length 63)=U6 sig (Qu s.2.2.1 r.2) (r.1.length - p) (Yz sig ((Qu s.2.2.1 r.2).drop i) us2))∧(us2.length=r.1.length)∧s_=⟨[(2,lI sig),(3,lP 0 0),(4,lP 1 0),(8,lR 5),(10,lI (p:Int)),(30,lI (p:Int)),(31,lP 1 0),(32,lf (.dat (.sl 9 .str) r.1)),(33,lI (r.1.length:Int)),(34,lB true),(37,lP 1 1),(38,lf (.dat (.sl 184 (.pr .int (.pr .int .int))) r.2)),(39,lI (r.2.length:Int)),(40,lI (i:Int))],[bx 0 83 [dI s.1.1, .dat (.sl 237 (.pr (.sl 3 .int) (.sl 3 .int))) s.1.2, .dat (.sl 203 (.pr .str .int)) s.2.1, .dat (.sl 120 (.pr .int .bool)) s.2.2.1,dS s.2.2.2],bx 1 178 [.dat (.sl 9 .str) r.1, .dat (.sl 184 (.pr .int (.pr .int .int))) r.2],ar 5 5 .u8 us2]⟩) ⟨0,us,aS _,rfl,(by rw[hA,show r.1.length+1 - p=(r.1.length - p)+1 by omega]; exact QkP _ _),hL,rfl⟩ ?_ ?_
   · exact Wk.of [(5,4)] rfl ⟨rfl,rfl,rfl,rfl,rfl,rfl,rfl,rfl,rfl,rfl,rfl,rfl,rfl,rfl,trivial⟩ ⟨rfl,rfl,rfl,trivial⟩ rfl rfl
   rintro m_ s_ ⟨i,us2,hk13,hm14,hA2,hL2,rfl⟩
   iterate 4 refine w_ ?_
   cases hb15:(decide ((i:Int) < (r.2.length:Int)))
   ·have hb15':=ab hb15
    refine w_ ?_
    refine Qi ?_
    refine (?_:AC _ _ _ _ _)
    iterate 4 refine w_ ?_
    refine Qd<|Q5 ⟨p+1,us2,by omega,rfl,(by rw[hA2,QiY (by rw[QlZ]; omega),show r.1.length+1 - (p+1)=r.1.length - p by omega]; rfl),hL2,rfl⟩ (by omega) ?_
    exact Wk.of [(4,5)] rfl ⟨rfl,rfl,rfl,rfl,rfl,trivial⟩ ⟨rfl,rfl,rfl,trivial⟩ rfl rfl
   ·have hb15':=ae hb15
    iterate 5 refine w_ ?_
    obtain ⟨mv,hx17⟩:∃z,r.2[i]? =some z:=⟨_,aa (by omega)⟩
    obtain ⟨⟨hm1,hm2⟩,⟨hm3,hm4⟩,hm5,hm6⟩:=hm _ (ao hx17)
    iterate 2 refine w_ ?_
    refine lc (xal 6 (.pr .int (.pr .int .int)) Vl) ?_
    iterate 7 refine w_ ?_
    refine alI 47 fun hi18=> ?_
    obtain ⟨lb,hx20⟩:∃z,s.2.2.1[(mv.2.1).toNat]? =some z:=⟨_,aa (by omega)⟩
    have hla:=Qdc hx20
    iterate 2 refine w_ ?_
    refine lc (xal 7 (.pr .int .bool) Xv) ?_
    iterate 6 refine w_ ?_
    refine alI 51 fun hi21=> ?_
    iterate 3 refine w_ ?_
    cases hb22:(!decide (lb.1=sig))
    ·have hb22':(lb.1=sig):=Qz hb22
     iterate 2 refine w_ ?_
     obtain ⟨c23,hc24⟩:∃z,(Yv (!lb.2))[(0:Int).toNat]? =some z:=by first | exact ⟨_,b5 _ _ (by omega)⟩ | exact ⟨_,rfl⟩
     obtain ⟨c25,hc26⟩:∃z,(Yv lb.2)[(0:Int).toNat]? =some z:=by first | exact ⟨_,b5 _ _ (by omega)⟩ | exact ⟨_,rfl⟩
     apply dW (i3 95 _ _ _ (io 98 (lf (dS (Yv (!lb.2)))) :: i3 99 _ _ _ (io 102 (lf (dS (Yv lb.2))) :: io 103 _ :: i2 15 _ _ []))) [0,0,0,0,0,31,31,16,16,256,0]
     iterate 3 refine z_ ?_
     refine zz (fun _ h_=>ac (dK (YR (!lb.2)) Wf) rfl) ?_
     iterate 3 refine z_ ?_
     refine zz (fun _ h_=>ac (dK (YR lb.2) Wf) rfl) ?_
     iterate 3 refine z_ ?_
     exact zN
     iterate 5 refine w_ ?_
     refine alI 106 fun hi27=> ?_
     refine w_ ?_
     obtain ⟨cf,hx29⟩:∃z,us2[(mv.1).toNat]? =some z:=⟨_,aa (by omega)⟩
     refine w_ ?_
     refine lc (QF (Qa rfl) (QK 63 rfl) rfl) ?_
     refine w_ ?_
     cases hb30:(!decide (cf=63))
     ·have hb30':(cf=63):=Qz hb30
      iterate 13 refine w_ ?_
      obtain ⟨ct,hx32⟩:∃z,us2[(mv.2.2).toNat]? =some z:=⟨_,aa (by omega)⟩
      refine w_ ?_
      refine lgy rfl rfl (QF (Qa rfl) (QK 63 rfl) rfl) ?_
      refine w_ ?_
      cases hb33:(!decide (ct=63))
      ·have hb33':(ct=63):=Qz hb33
       iterate 18 refine w_ ?_
       refine lc (Qs (e:= .u8) (z':=c23) (Qa rfl) rfl hx29 rfl (Qm rfl) rfl Yy rfl rfl) ?_
       iterate 5 refine w_ ?_
       refine alI 143 fun hi34=> ?_
       iterate 2 refine w_ ?_
       obtain ⟨x35,hx36⟩:∃z,(us2.set ((mv.1).toNat) c23)[(mv.2.2).toNat]? =some z:=⟨_,aa (by first | omega | (simp only[aA]; omega))⟩
       refine lc (Qs (e:= .u8) (z':=c25) (Qa rfl) rfl hx36 rfl (Qm rfl) rfl Yy rfl rfl)<|Qd ?_
       refine (?_:AC _ _ _ _ _)
       iterate 3 refine w_ ?_
       refine Qd<|Q5 ⟨i+1,((us2.set ((mv.1).toNat) c23).set ((mv.2.2).toNat) c25),by omega,rfl,hA2.trans (congrArg (U6 sig (Qu s.2.2.1 r.2) (r.1.length - p)) (XD (ZL hx17 hla) (by first | exact Y0 (cf:=cf) (ct:=ct) (by assumption) (by assumption) (by assumption) (by assumption) | exact YX (cf:=cf) (ct:=ct) (by assumption) (by assumption) (by assumption) (by assumption) (by first | exact .inl (by assumption) | exact .inr (by assumption)) | exact Y8 (cf:=cf) (ct:=ct) (by assumption) (by assumption) (by assumption) (by first | exact .inl (by assumption) | exact .inr (by assumption)) (by first | exact .inl (by assumption) | exact .inr (by assumption)) (by assumption) (by assumption)))),(by simp only[aA]; exact hL2),rfl⟩ (by omega) ?_
       exact Wk.of [] rfl ⟨rfl,rfl,rfl,rfl,rfl,rfl,rfl,rfl,rfl,rfl,rfl,rfl,rfl,rfl,trivial⟩ ⟨rfl,rfl,(Qk (by first | rfl | simp)),trivial⟩ rfl rfl
      ·have hb33':¬(ct=63):=QN hb33
       iterate 10 refine w_ ?_
       cases hb37:(!decide (ct=c25))
       ·have hb37':(ct=c25):=Qz hb37
        iterate 8 refine w_ ?_
        refine lc (Qs (e:= .u8) (z':=c23) (Qa rfl) rfl hx29 rfl (Qm rfl) rfl Yy rfl rfl) ?_
        iterate 5 refine w_ ?_
        refine alI 143 fun hi38=> ?_
        iterate 2 refine w_ ?_
        obtain ⟨x39,hx40⟩:∃z,(us2.set ((mv.1).toNat) c23)[(mv.2.2).toNat]? =some z:=⟨_,aa (by first | omega | (simp only[aA]; omega))⟩
        refine lc (Qs (e:= .u8) (z':=c25) (Qa rfl) rfl hx40 rfl (Qm rfl) rfl Yy rfl rfl)<|Qd ?_
        refine (?_:AC _ _ _ _ _)
        iterate 3 refine w_ ?_
        refine Qd<|Q5 ⟨i+1,((us2.set ((mv.1).toNat) c23).set ((mv.2.2).toNat) c25),by omega,rfl,hA2.trans (congrArg (U6 sig (Qu s.2.2.1 r.2) (r.1.length - p)) (XD (ZL hx17 hla) (by first | exact Y0 (cf:=cf) (ct:=ct) (by assumption) (by assumption) (by assumption) (by assumption) | exact YX (cf:=cf) (ct:=ct) (by assumption) (by assumption) (by assumption) (by assumption) (by first | exact .inl (by assumption) | exact .inr (by assumption)) | exact Y8 (cf:=cf) (ct:=ct) (by assumption) (by assumption) (by assumption) (by first | exact .inl (by assumption) | exact .inr (by assumption)) (by first | exact .inl (by assumption) | exact .inr (by assumption)) (by assumption) (by assumption)))),(by simp only[aA]; exact hL2),rfl⟩ (by omega) ?_
        exact Wk.of [] rfl ⟨rfl,rfl,rfl,rfl,rfl,rfl,rfl,rfl,rfl,rfl,rfl,rfl,rfl,rfl,trivial⟩ ⟨rfl,rfl,(Qk (by first | rfl | simp)),trivial⟩ rfl rfl
       ·have hb37':¬(ct=c25):=QN hb37
        iterate 5 refine w_ ?_
        refine Qb ?_
        have e41:((⟨#[]⟩:ByteArray):ByteArray)=((l5V r.1.length (Qu s.2.2.1 r.2) sig).1):=by
         (rw[XW (by rw[hA2,YZ (ZL hx17 hla) (by first | exact Y3 (cf:=cf) (ct:=ct) (by assumption) (by assumption) (by assumption) (by assumption) (by assumption) (by assumption) | exact YD (cf:=cf) (by assumption) (by assumption) (by assumption) (by assumption) (by assumption) | exact YA (ct:=ct) (by assumption) (by assumption) (by assumption) (by assumption) (by assumption))]; rfl)]; done)
        have e42:(false:Bool)=((l5V r.1.length (Qu s.2.2.1 r.2) sig).2):=by
         (rw[XW (by rw[hA2,YZ (ZL hx17 hla) (by first | exact Y3 (cf:=cf) (ct:=ct) (by assumption) (by assumption) (by assumption) (by assumption) (by assumption) (by assumption) | exact YD (cf:=cf) (by assumption) (by assumption) (by assumption) (by assumption) (by assumption) | exact YA (ct:=ct) (by assumption) (by assumption) (by assumption) (by assumption) (by assumption))]; rfl)]; done)
        exact fr_ hO (e:=((congrArg (fun z_=>PV.tup [(false,[dS z_]),(false,[dB false])]) e41)).trans (congrArg (fun z_=>PV.tup [(false,[dS ((l5V r.1.length (Qu s.2.2.1 r.2) sig).1)]),(false,[dB z_])]) e42))
     ·have hb30':¬(cf=63):=QN hb30
      iterate 9 refine w_ ?_
      cases hb43:(!decide (cf=c23))
      ·have hb43':(cf=c23):=Qz hb43
       iterate 4 refine w_ ?_
       obtain ⟨ct,hx45⟩:∃z,us2[(mv.2.2).toNat]? =some z:=⟨_,aa (by omega)⟩
       refine w_ ?_
       refine lgy rfl rfl (QF (Qa rfl) (QK 63 rfl) rfl) ?_
       refine w_ ?_
       cases hb46:(!decide (ct=63))
       ·have hb46':(ct=63):=Qz hb46
        iterate 18 refine w_ ?_
        refine lc (Qs (e:= .u8) (z':=c23) (Qa rfl) rfl hx29 rfl (Qm rfl) rfl Yy rfl rfl) ?_
        iterate 5 refine w_ ?_
        refine alI 143 fun hi47=> ?_
        iterate 2 refine w_ ?_
        obtain ⟨x48,hx49⟩:∃z,(us2.set ((mv.1).toNat) c23)[(mv.2.2).toNat]? =some z:=⟨_,aa (by first | omega | (simp only[aA]; omega))⟩
        refine lc (Qs (e:= .u8) (z':=c25) (Qa rfl) rfl hx49 rfl (Qm rfl) rfl Yy rfl rfl)<|Qd ?_
        refine (?_:AC _ _ _ _ _)
        iterate 3 refine w_ ?_
        refine Qd<|Q5 ⟨i+1,((us2.set ((mv.1).toNat) c23).set ((mv.2.2).toNat) c25),by omega,rfl,hA2.trans (congrArg (U6 sig (Qu s.2.2.1 r.2) (r.1.length - p)) (XD (ZL hx17 hla) (by first | exact Y0 (cf:=cf) (ct:=ct) (by assumption) (by assumption) (by assumption) (by assumption) | exact YX (cf:=cf) (ct:=ct) (by assumption) (by assumption) (by assumption) (by assumption) (by first | exact .inl (by assumption) | exact .inr (by assumption)) | exact Y8 (cf:=cf) (ct:=ct) (by assumption) (by assumption) (by assumption) (by first | exact .inl (by assumption) | exact .inr (by assumption)) (by first | exact .inl (by assumption) | exact .inr (by assumption)) (by assumption) (by assumption)))),(by simp only[aA]; exact hL2),rfl⟩ (by omega) ?_
        exact Wk.of [] rfl ⟨rfl,rfl,rfl,rfl,rfl,rfl,rfl,rfl,rfl,rfl,rfl,rfl,rfl,rfl,trivial⟩ ⟨rfl,rfl,(Qk (by first | rfl | simp)),trivial⟩ rfl rfl
       ·have hb46':¬(ct=63):=QN hb46
        iterate 10 refine w_ ?_
        cases hb50:(!decide (ct=c25))
        ·have hb50':(ct=c25):=Qz hb50
         iterate 8 refine w_ ?_
         refine lc (Qs (e:= .u8) (z':=c23) (Qa rfl) rfl hx29 rfl (Qm rfl) rfl Yy rfl rfl) ?_
         iterate 5 refine w_ ?_
         refine alI 143 fun hi51=> ?_
         iterate 2 refine w_ ?_
         obtain ⟨x52,hx53⟩:∃z,(us2.set ((mv.1).toNat) c23)[(mv.2.2).toNat]? =some z:=⟨_,aa (by first | omega | (simp only[aA]; omega))⟩
         refine lc (Qs (e:= .u8) (z':=c25) (Qa rfl) rfl hx53 rfl (Qm rfl) rfl Yy rfl rfl)<|Qd ?_
         refine (?_:AC _ _ _ _ _)
         iterate 3 refine w_ ?_
         refine Qd<|Q5 ⟨i+1,((us2.set ((mv.1).toNat) c23).set ((mv.2.2).toNat) c25),by omega,rfl,hA2.trans (congrArg (U6 sig (Qu s.2.2.1 r.2) (r.1.length - p)) (XD (ZL hx17 hla) (by first | exact Y0 (cf:=cf) (ct:=ct) (by assumption) (by assumption) (by assumption) (by assumption) | exact YX (cf:=cf) (ct:=ct) (by assumption) (by assumption) (by assumption) (by assumption) (by first | exact .inl (by assumption) | exact .inr (by assumption)) | exact Y8 (cf:=cf) (ct:=ct) (by assumption) (by assumption) (by assumption) (by first | exact .inl (by assumption) | exact .inr (by assumption)) (by first | exact .inl (by assumption) | exact .inr (by assumption)) (by assumption) (by assumption)))),(by simp only[aA]; exact hL2),rfl⟩ (by omega) ?_
         exact Wk.of [] rfl ⟨rfl,rfl,rfl,rfl,rfl,rfl,rfl,rfl,rfl,rfl,rfl,rfl,rfl,rfl,trivial⟩ ⟨rfl,rfl,(Qk (by first | rfl | simp)),trivial⟩ rfl rfl
        ·have hb50':¬(ct=c25):=QN hb50
         iterate 5 refine w_ ?_
         refine Qb ?_
         have e54:((⟨#[]⟩:ByteArray):ByteArray)=((l5V r.1.length (Qu s.2.2.1 r.2) sig).1):=by
          (rw[XW (by rw[hA2,YZ (ZL hx17 hla) (by first | exact Y3 (cf:=cf) (ct:=ct) (by assumption) (by assumption) (by assumption) (by assumption) (by assumption) (by assumption) | exact YD (cf:=cf) (by assumption) (by assumption) (by assumption) (by assumption) (by assumption) | exact YA (ct:=ct) (by assumption) (by assumption) (by assumption) (by assumption) (by assumption))]; rfl)]; done)
         have e55:(false:Bool)=((l5V r.1.length (Qu s.2.2.1 r.2) sig).2):=by
          (rw[XW (by rw[hA2,YZ (ZL hx17 hla) (by first | exact Y3 (cf:=cf) (ct:=ct) (by assumption) (by assumption) (by assumption) (by assumption) (by assumption) (by assumption) | exact YD (cf:=cf) (by assumption) (by assumption) (by assumption) (by assumption) (by assumption) | exact YA (ct:=ct) (by assumption) (by assumption) (by assumption) (by assumption) (by assumption))]; rfl)]; done)
         exact fr_ hO (e:=((congrArg (fun z_=>PV.tup [(false,[dS z_]),(false,[dB false])]) e54)).trans (congrArg (fun z_=>PV.tup [(false,[dS ((l5V r.1.length (Qu s.2.2.1 r.2) sig).1)]),(false,[dB z_])]) e55))
      ·have hb43':¬(cf=c23):=QN hb43
       iterate 7 refine w_ ?_
       refine Qo rfl rfl rfl ?_ rfl
       refine Qo rfl rfl rfl ?_ rfl
       refine Qo rfl rfl rfl ?_ rfl
       refine Qo rfl rfl rfl ?_ rfl
       refine Qo rfl rfl rfl ?_ rfl
       refine Qo rfl rfl rfl ?_ rfl
       refine Qo rfl rfl rfl ?_ rfl
       iterate 8 refine w_ ?_
       refine Qb ?_
       have e56:((⟨#[]⟩:ByteArray):ByteArray)=((l5V r.1.length (Qu s.2.2.1 r.2) sig).1):=by
        (rw[XW (by rw[hA2,YZ (ZL hx17 hla) (by first | exact Y3 (cf:=cf) (ct:=ct) (by assumption) (by assumption) (by assumption) (by assumption) (by assumption) (by assumption) | exact YD (cf:=cf) (by assumption) (by assumption) (by assumption) (by assumption) (by assumption) | exact YA (ct:=ct) (by assumption) (by assumption) (by assumption) (by assumption) (by assumption))]; rfl)]; done)
       have e57:(false:Bool)=((l5V r.1.length (Qu s.2.2.1 r.2) sig).2):=by
        (rw[XW (by rw[hA2,YZ (ZL hx17 hla) (by first | exact Y3 (cf:=cf) (ct:=ct) (by assumption) (by assumption) (by assumption) (by assumption) (by assumption) (by assumption) | exact YD (cf:=cf) (by assumption) (by assumption) (by assumption) (by assumption) (by assumption) | exact YA (ct:=ct) (by assumption) (by assumption) (by assumption) (by assumption) (by assumption))]; rfl)]; done)
       exact fr_ hO (e:=((congrArg (fun z_=>PV.tup [(false,[dS z_]),(false,[dB false])]) e56)).trans (congrArg (fun z_=>PV.tup [(false,[dS ((l5V r.1.length (Qu s.2.2.1 r.2) sig).1)]),(false,[dB z_])]) e57))
    ·have hb22':¬(lb.1=sig):=QN hb22
     iterate 5 refine w_ ?_
     refine alI 56 fun hi58=> ?_
     refine w_ ?_
     obtain ⟨cf,hx60⟩:∃z,us2[(mv.1).toNat]? =some z:=⟨_,aa (by omega)⟩
     iterate 6 refine w_ ?_
     refine lc (Zw (Qa rfl) (QK 63 rfl) rfl) ?_
     refine w_ ?_
     cases hb61:(decide (cf=63))
     ·have hb61':=ab hb61
      iterate 5 refine w_ ?_
      refine lc (QF (Qa rfl) (QK 63 rfl) rfl) ?_
      refine w_ ?_
      have hb62:(!decide (cf=63))=true:=QaB (hb61)
      try rw[hb62]
      iterate 4 refine w_ ?_
      obtain ⟨ct,hx64⟩:∃z,us2[(mv.2.2).toNat]? =some z:=⟨_,aa (by omega)⟩
      refine w_ ?_
      refine lgy rfl rfl (QF (Qa rfl) (QK 63 rfl) rfl) ?_
      iterate 2 refine w_ ?_
      cases hb65:(!decide (ct=63))
      ·have hb65':(ct=63):=Qz hb65
       iterate 17 refine w_ ?_
       refine lc (Qs (e:= .u8) (z':=cf) (Qa rfl) rfl hx60 rfl (Qm rfl) rfl Yy rfl rfl) ?_
       iterate 5 refine w_ ?_
       refine alI 92 fun hi66=> ?_
       iterate 2 refine w_ ?_
       obtain ⟨x67,hx68⟩:∃z,(us2.set ((mv.1).toNat) cf)[(mv.2.2).toNat]? =some z:=⟨_,aa (by first | omega | (simp only[aA]; omega))⟩
       refine lc (Qs (e:= .u8) (z':=cf) (Qa rfl) rfl hx68 rfl (Qm rfl) rfl Yy rfl rfl) ?_
       refine w_ ?_
       refine Qi ?_
       refine (?_:AC _ _ _ _ _)
       iterate 3 refine w_ ?_
       refine Qd<|Q5 ⟨i+1,((us2.set ((mv.1).toNat) cf).set ((mv.2.2).toNat) cf),by omega,rfl,hA2.trans (congrArg (U6 sig (Qu s.2.2.1 r.2) (r.1.length - p)) (XD (ZL hx17 hla) (by first | exact Y0 (cf:=cf) (ct:=ct) (by assumption) (by assumption) (by assumption) (by assumption) | exact YX (cf:=cf) (ct:=ct) (by assumption) (by assumption) (by assumption) (by assumption) (by first | exact .inl (by assumption) | exact .inr (by assumption)) | exact Y8 (cf:=cf) (ct:=ct) (by assumption) (by assumption) (by assumption) (by first | exact .inl (by assumption) | exact .inr (by assumption)) (by first | exact .inl (by assumption) | exact .inr (by assumption)) (by assumption) (by assumption)))),(by simp only[aA]; exact hL2),rfl⟩ (by omega) ?_
       exact Wk.of [] rfl ⟨rfl,rfl,rfl,rfl,rfl,rfl,rfl,rfl,rfl,rfl,rfl,rfl,rfl,rfl,trivial⟩ ⟨rfl,rfl,(Qk (by first | rfl | simp)),trivial⟩ rfl rfl
      ·have hb65':¬(ct=63):=QN hb65
       iterate 9 refine w_ ?_
       cases hb69:(!decide (ct=cf))
       ·have hb69':(ct=cf):=Qz hb69
        iterate 8 refine w_ ?_
        refine lc (Qs (e:= .u8) (z':=cf) (Qa rfl) rfl hx60 rfl (Qm rfl) rfl Yy rfl rfl) ?_
        iterate 5 refine w_ ?_
        refine alI 92 fun hi70=> ?_
        iterate 2 refine w_ ?_
        obtain ⟨x71,hx72⟩:∃z,(us2.set ((mv.1).toNat) cf)[(mv.2.2).toNat]? =some z:=⟨_,aa (by first | omega | (simp only[aA]; omega))⟩
        refine lc (Qs (e:= .u8) (z':=cf) (Qa rfl) rfl hx72 rfl (Qm rfl) rfl Yy rfl rfl) ?_
        refine w_ ?_
        refine Qi ?_
        refine (?_:AC _ _ _ _ _)
        iterate 3 refine w_ ?_
        refine Qd<|Q5 ⟨i+1,((us2.set ((mv.1).toNat) cf).set ((mv.2.2).toNat) cf),by omega,rfl,hA2.trans (congrArg (U6 sig (Qu s.2.2.1 r.2) (r.1.length - p)) (XD (ZL hx17 hla) (by first | exact Y0 (cf:=cf) (ct:=ct) (by assumption) (by assumption) (by assumption) (by assumption) | exact YX (cf:=cf) (ct:=ct) (by assumption) (by assumption) (by assumption) (by assumption) (by first | exact .inl (by assumption) | exact .inr (by assumption)) | exact Y8 (cf:=cf) (ct:=ct) (by assumption) (by assumption) (by assumption) (by first | exact .inl (by assumption) | exact .inr (by assumption)) (by first | exact .inl (by assumption) | exact .inr (by assumption)) (by assumption) (by assumption)))),(by simp only[aA]; exact hL2),rfl⟩ (by omega) ?_
        exact Wk.of [] rfl ⟨rfl,rfl,rfl,rfl,rfl,rfl,rfl,rfl,rfl,rfl,rfl,rfl,rfl,rfl,trivial⟩ ⟨rfl,rfl,(Qk (by first | rfl | simp)),trivial⟩ rfl rfl
       ·have hb69':¬(ct=cf):=QN hb69
        iterate 5 refine w_ ?_
        refine Qb ?_
        have e73:((⟨#[]⟩:ByteArray):ByteArray)=((l5V r.1.length (Qu s.2.2.1 r.2) sig).1):=by
         (rw[XW (by rw[hA2,YZ (ZL hx17 hla) (by first | exact Y3 (cf:=cf) (ct:=ct) (by assumption) (by assumption) (by assumption) (by assumption) (by assumption) (by assumption) | exact YD (cf:=cf) (by assumption) (by assumption) (by assumption) (by assumption) (by assumption) | exact YA (ct:=ct) (by assumption) (by assumption) (by assumption) (by assumption) (by assumption))]; rfl)]; done)
        have e74:(false:Bool)=((l5V r.1.length (Qu s.2.2.1 r.2) sig).2):=by
         (rw[XW (by rw[hA2,YZ (ZL hx17 hla) (by first | exact Y3 (cf:=cf) (ct:=ct) (by assumption) (by assumption) (by assumption) (by assumption) (by assumption) (by assumption) | exact YD (cf:=cf) (by assumption) (by assumption) (by assumption) (by assumption) (by assumption) | exact YA (ct:=ct) (by assumption) (by assumption) (by assumption) (by assumption) (by assumption))]; rfl)]; done)
        exact fr_ hO (e:=((congrArg (fun z_=>PV.tup [(false,[dS z_]),(false,[dB false])]) e73)).trans (congrArg (fun z_=>PV.tup [(false,[dS ((l5V r.1.length (Qu s.2.2.1 r.2) sig).1)]),(false,[dB z_])]) e74))
     ·have hb61':=ae hb61
      iterate 5 refine w_ ?_
      refine alI 63 fun hi75=> ?_
      refine w_ ?_
      obtain ⟨ct,hx77⟩:∃z,us2[(mv.2.2).toNat]? =some z:=⟨_,aa (by omega)⟩
      iterate 6 refine w_ ?_
      refine lc (QF (Qa rfl) (QK 63 rfl) rfl) ?_
      refine w_ ?_
      cases hb78:(!decide (ct=63))
      ·have hb78':(ct=63):=Qz hb78
       iterate 25 refine w_ ?_
       refine lc (Qs (e:= .u8) (z':=ct) (Qa rfl) rfl hx60 rfl (Qm rfl) rfl Yy rfl rfl) ?_
       iterate 7 refine w_ ?_
       obtain ⟨x79,hx80⟩:∃z,(us2.set ((mv.1).toNat) ct)[(mv.2.2).toNat]? =some z:=⟨_,aa (by first | omega | (simp only[aA]; omega))⟩
       refine lc (Qs (e:= .u8) (z':=ct) (Qa rfl) rfl hx80 rfl (Qm rfl) rfl Yy rfl rfl) ?_
       refine w_ ?_
       refine Qi ?_
       refine (?_:AC _ _ _ _ _)
       iterate 3 refine w_ ?_
       refine Qd<|Q5 ⟨i+1,((us2.set ((mv.1).toNat) ct).set ((mv.2.2).toNat) ct),by omega,rfl,hA2.trans (congrArg (U6 sig (Qu s.2.2.1 r.2) (r.1.length - p)) (XD (ZL hx17 hla) (by first | exact Y0 (cf:=cf) (ct:=ct) (by assumption) (by assumption) (by assumption) (by assumption) | exact YX (cf:=cf) (ct:=ct) (by assumption) (by assumption) (by assumption) (by assumption) (by first | exact .inl (by assumption) | exact .inr (by assumption)) | exact Y8 (cf:=cf) (ct:=ct) (by assumption) (by assumption) (by assumption) (by first | exact .inl (by assumption) | exact .inr (by assumption)) (by first | exact .inl (by assumption) | exact .inr (by assumption)) (by assumption) (by assumption)))),(by simp only[aA]; exact hL2),rfl⟩ (by omega) ?_
       exact Wk.of [] rfl ⟨rfl,rfl,rfl,rfl,rfl,rfl,rfl,rfl,rfl,rfl,rfl,rfl,rfl,rfl,trivial⟩ ⟨rfl,rfl,(Qk (by first | rfl | simp)),trivial⟩ rfl rfl
      ·have hb78':¬(ct=63):=QN hb78
       iterate 5 refine w_ ?_
       refine lgy rfl rfl (QF (Qa rfl) (QK 63 rfl) rfl) ?_
       iterate 2 refine w_ ?_
       have hb81:(!decide (ct=63))=true:=QaB (QeC hb78)
       try rw[hb81]
       iterate 9 refine w_ ?_
       have hb82:(!decide (ct=ct))=false:=QaB (aJ rfl)
       have hb82':(ct=ct):=Qz hb82
       try rw[hb82]
       iterate 8 refine w_ ?_
       refine lc (Qs (e:= .u8) (z':=ct) (Qa rfl) rfl hx60 rfl (Qm rfl) rfl Yy rfl rfl) ?_
       iterate 7 refine w_ ?_
       obtain ⟨x83,hx84⟩:∃z,(us2.set ((mv.1).toNat) ct)[(mv.2.2).toNat]? =some z:=⟨_,aa (by first | omega | (simp only[aA]; omega))⟩
       refine lc (Qs (e:= .u8) (z':=ct) (Qa rfl) rfl hx84 rfl (Qm rfl) rfl Yy rfl rfl) ?_
       refine w_ ?_
       refine Qi ?_
       refine (?_:AC _ _ _ _ _)
       iterate 3 refine w_ ?_
       refine Qd<|Q5 ⟨i+1,((us2.set ((mv.1).toNat) ct).set ((mv.2.2).toNat) ct),by omega,rfl,hA2.trans (congrArg (U6 sig (Qu s.2.2.1 r.2) (r.1.length - p)) (XD (ZL hx17 hla) (by first | exact Y0 (cf:=cf) (ct:=ct) (by assumption) (by assumption) (by assumption) (by assumption) | exact YX (cf:=cf) (ct:=ct) (by assumption) (by assumption) (by assumption) (by assumption) (by first | exact .inl (by assumption) | exact .inr (by assumption)) | exact Y8 (cf:=cf) (ct:=ct) (by assumption) (by assumption) (by assumption) (by first | exact .inl (by assumption) | exact .inr (by assumption)) (by first | exact .inl (by assumption) | exact .inr (by assumption)) (by assumption) (by assumption)))),(by simp only[aA]; exact hL2),rfl⟩ (by omega) ?_
       exact Wk.of [] rfl ⟨rfl,rfl,rfl,rfl,rfl,rfl,rfl,rfl,rfl,rfl,rfl,rfl,rfl,rfl,trivial⟩ ⟨rfl,rfl,(Qk (by first | rfl | simp)),trivial⟩ rfl rfl
 ·have hb5':=ae hb5
  iterate 12 refine w_ ?_
  obtain ⟨x85,hx86⟩:∃z,(U2 r.1.length k)[k]? =some z:=⟨_,aa (by omega)⟩
  refine lc (Qs (e:= .u8) (z':=63) (Qa rfl) rfl hx86 rfl (Evl.ev (QK 63 rfl)) rfl Yy rfl rfl)<|Qd ?_
  refine (?_:AC _ _ _ _ _)
  iterate 3 refine w_ ?_
  refine Qd ?_
  refine l0_ ?_
  exact Wk.of [] rfl ⟨rfl,rfl,rfl,rfl,rfl,rfl,rfl,rfl,trivial⟩ ⟨rfl,rfl,(Qk (QjH (by omega))),trivial⟩ rfl rfl
theorem Hl (s:(Int×(List (List Int×List Int)))×(List (ByteArray×Int))×(List (Int×Bool))×ByteArray)(r:List ByteArray×(List (Int×Int×Int)))(hm:∀m∈r.2,MvOk r.1.length s.2.2.1.length m)(hl1:r.1.length≤1000000)(hl2:s.2.1.length≤1000000):FC Tryz.prog 145 [(true,[dI s.1.1, .dat (.sl 237 (.pr (.sl 3 .int) (.sl 3 .int))) s.1.2, .dat (.sl 203 (.pr .str .int)) s.2.1, .dat (.sl 120 (.pr .int .bool)) s.2.2.1,dS s.2.2.2]),(true,[.dat (.sl 9 .str) r.1, .dat (.sl 184 (.pr .int (.pr .int .int))) r.2])] [] 0 (Wv 3 .int (Xj r.1.length (Qu s.2.2.1 r.2) s.2.1.length)):=by
 refine Qj Tryz.func145 rfl rfl Tryz.ntmps145 fun O_ hO w0_ N0_ X_ h0_ f0_=> ?_
 refine acG 0 0 fun hi1=> ?_
 refine w_ ?_
 refine xbx 0 ?_
 refine xbx 1 ?_
 iterate 9 refine w_ ?_
 refine alL 10 fun hl2=> ?_
 iterate 4 refine w_ ?_
 refine AC.wk (Wk.nilS 2 5 3 .int rfl (Fresh.of rfl) (nlr rfl)) ?_
 refine lp0 s.2.1.length (fun k=>⟨[(2,lP 0 0),(3,lP 1 0),(4,lf (.val (.slice none 0 0))),(5,lR 3),(11,lI (s.2.1.length:Int)),(12,lI (k:Int))],[bx 0 83 [dI s.1.1, .dat (.sl 237 (.pr (.sl 3 .int) (.sl 3 .int))) s.1.2, .dat (.sl 203 (.pr .str .int)) s.2.1, .dat (.sl 120 (.pr .int .bool)) s.2.2.1,dS s.2.2.2],bx 1 178 [.dat (.sl 9 .str) r.1, .dat (.sl 184 (.pr .int (.pr .int .int))) r.2],ar 3 3 .int (Xj r.1.length (Qu s.2.2.1 r.2) k)]⟩) ?_ fun k hk3=> ?_
 · exact Wk.of [(3,2)] rfl ⟨rfl,rfl,rfl,rfl,rfl,rfl,trivial⟩ ⟨rfl,rfl,(Qk (by first | rfl | simp)),trivial⟩ rfl rfl
 have hcl:=Qjq r.1.length (Qu s.2.2.1 r.2) k
 iterate 4 refine w_ ?_
 cases hb4:(decide ((k:Int) < (s.2.1.length:Int)))
 ·have hb4':=ab hb4
  refine w_ ?_
  refine Qi ?_
  refine (?_:AC _ _ _ _ _)
  iterate 4 refine w_ ?_
  refine Qb<|fo_ hO ?_
  rw[show k=s.2.1.length by omega]
 ·have hb4':=ae hb4
  iterate 12 refine w_ ?_
  refine lc (dK (WY s r (k:Int) hm hl1) Qas) ?_
  iterate 10 refine w_ ?_
  cases hb5:((l5V r.1.length (Qu s.2.2.1 r.2) (k:Int)).2)
  ·iterate 4 refine w_ ?_
   refine lc (dBs 4 (e:= .int) Xy) ?_
   refine lc (dA 5 Wo) ?_
   refine w_ ?_
   refine Qd ?_
   refine (?_:AC _ _ _ _ _)
   iterate 3 refine w_ ?_
   refine Qd ?_
   refine l0_ ?_
   exact Wk.of [(3,5)] rfl ⟨rfl,rfl,rfl,rfl,rfl,rfl,trivial⟩ ⟨rfl,rfl,(Qk (by first | exact Qcl (by assumption) | exact Qew (by assumption))),trivial⟩ rfl rfl
  ·refine w_ ?_
   refine AC.skip ?_
   refine (?_:AC _ _ _ _ _)
   iterate 3 refine w_ ?_
   refine Qd ?_
   refine l0_ ?_
   exact Wk.of [] rfl ⟨rfl,rfl,rfl,rfl,rfl,rfl,trivial⟩ ⟨rfl,rfl,(Qk (by first | exact Qcl (by assumption) | exact Qew (by assumption))),trivial⟩ rfl rfl
end Go.Proofs.YtfkmmpfdncopdaaGreat
namespace Go.Proofs.YtfkmmpfdncopdaaGreat
open Go.RowKit
set_option maxRecDepth 100000
set_option maxHeartbeats 4000000
structure Rok (m:Nat) (st:RS):Prop where
  one:1≤st.1.length
  most:st.1.length≤300
  nd:st.1.Nodup
  mv:∀v∈st.2.1,MvOk st.1.length m v
section
variable {n:YM}{k f:Nat}{mk:ByteArray}{t:Int}{ts:List Int}{st:RS}{s:Zk}{l:List ByteArray}{x:ByteArray}
theorem QjS (h:0≤Yj l x):Yj l x < l.length:=by
  unfold Yj Zb at h ⊢
  cases hf:l.findIdx? (fun y=>decide (y=x)) with
  | none=>rw[hf] at h; simp at h
  | some i=>
    obtain ⟨h1,_⟩:=bT.1 hf
    simp; omega
theorem Qiu (h:¬0≤Yj l x):x∉l:=fun hm=>by
  unfold Yj Zb at h
  cases hf:l.findIdx? (fun y=>decide (y=x)) with
  | none=>
    have:=cu.1 hf x hm
    simp at this
  | some i=>rw[hf] at h; simp at h
theorem MvOk.grow {a b m:Nat}{v:DMv}(h:MvOk a m v)(hab:a≤b):MvOk b m v:=by
  obtain ⟨⟨h1,h2⟩,h3,h4,h5⟩:=h
  exact ⟨⟨h1,by omega⟩,h3,h4,by omega⟩
theorem Qo1 (hk:k < st.1.length)(hts:∀t∈ts,0≤t∧t < n.2.length)(h:Rok n.2.length st):Rok n.2.length (goT n k mk ts st).1∧(goT n k mk ts st).1.2.1.length≤st.2.1.length+ts.length∧st.1.length≤(goT n k mk ts st).1.1.length:=by
  induction ts generalizing st with
  | nil=>rw[goT]; exact ⟨h,by simp,aO _⟩
  | cons t ts ih=>
    have ht:=hts t (ay ..)
    have hts':∀t∈ts,0≤t∧t < n.2.length:=fun t h=>hts t (ax _ h)
    rw[goT]
    split
    · exact ⟨h,by simp,aO _⟩
    · split
      · rename_i h0
        have hlt:=QjS h0
        obtain ⟨h1,h2,h3⟩:=ih (st:=(st.1,st.2.1++[((k:Int),t,Yj st.1 (ZX n mk t).1)],st.2.2)) hk hts' ⟨h.one,h.most,h.nd,fun v hv=>by
          rcases aH.1 hv with hv | hv
          · exact h.mv v hv
          · rw[aE.1 hv]; exact ⟨⟨Int.natCast_nonneg _,by simpa using hk⟩,ht,h0,hlt⟩⟩
        exact ⟨h1,by simp at h2 ⊢; omega,h3⟩
      · rename_i h0
        split
        · exact ⟨h,by simp,aO _⟩
        · rename_i h4
          have hm:=h.most
          obtain ⟨h1,h2,h3⟩:=ih (st:=(st.1++[(ZX n mk t).1],st.2.1++[((k:Int),t,(st.1.length:Int))],st.2.2++[((k:Int),t,(st.1.length:Int))])) (by simp; omega) hts' ⟨by simp,by simp; omega,
            ba.2 ⟨h.nd,by simp,fun a ha b hb e=>Qiu h0 (by rw[aE.1 hb] at e; exact e▸ha)⟩,fun v hv=>by
              rcases aH.1 hv with hv | hv
              · exact (h.mv v hv).grow (by simp)
              · rw[aE.1 hv]; exact ⟨⟨Int.natCast_nonneg _,by simp; omega⟩,ht,Int.natCast_nonneg _,by simp; omega⟩⟩
          exact ⟨h1,by simp at h2 ⊢; omega,by simp at h3; omega⟩
theorem Qn2 (hn:n.2.length≤24)(h:Rok n.2.length st)(hl:st.2.1.length≤24*k):Rok n.2.length (goK n f k st).1∧(goK n f k st).1.2.1.length≤24*(k+f):=by
  induction f generalizing k st with
  | zero=>rw[goK]; exact ⟨h,by omega⟩
  | succ f ih=>
    rw[goK]
    cases hx:st.1[k]? with
    | none=>exact ⟨h,by show st.2.1.length≤_; omega⟩
    | some mk=>
      obtain ⟨h1,h2,h3⟩:=Qo1 (mk:=mk) (ts:=VK n mk) (aj.1 hx).1 (fun t ht=>by
        obtain ⟨i,hi⟩:=aM.1 ht
        exact XE hi) h
      have h4:=Qev n mk
      show Rok n.2.length (if _ then _ else _:RS×Qe3).1∧(if _ then _ else _:RS×Qe3).1.2.1.length≤_
      split
      · obtain ⟨h5, h6⟩ := ih (k := k + 1) h1 (by omega)
        exact ⟨h5,by omega⟩
      · exact ⟨h1,by omega⟩
theorem QlA (hs:StgOk s):Rok s.2.2.1.length (Zn s).1∧(Zn s).1.2.1.length≤7224:=by
  have h:=Qn2 (n:=s.1) (k:=0) (f:=301) (st:=([s.2.2.2],[],[((0:Int),(0:Int),(0:Int))])) hs.net.2.1 ⟨by simp,by simp,by simp,by simp⟩ (by simp)
  rw[← hs.len] at h
  exact h
end
theorem Qd1 {ss:List Qy}(h:YQ ss):ss.length≤24:=by
  have:=h.2.2
  omega
section
variable [∀s,Decidable (StgOk s)]{s:Zk}
theorem Vj (h:¬StgOk s):Qh s=(Qgs,false):=if_neg fun h2=>h h2.1
theorem YG (h:(exV s).2.2.2=false):Qh s=(Qgs,false):=if_neg fun h2=>by
  have:(Zn s).2.2.2=false:=h
  rw[this] at h2
  cases h2.2
theorem Vq (hs:StgOk s)(h:(exV s).2.2.2=true):Qh s=((exV s).1,true):=if_pos ⟨hs,h⟩
theorem ZT (h:(Qh s).2=true):StgOk s∧1≤(Qh s).1.1.length∧(Qh s).1.1.length≤300∧(Qh s).1.1.Nodup∧(∀v∈(Qh s).1.2,MvOk (Qh s).1.1.length s.2.2.1.length v)∧(Qh s).1.2.length≤7224:=by
  unfold Qh at h ⊢
  split
  · rename_i h1
    obtain ⟨h2,h3⟩:=QlA h1.1
    exact ⟨h1.1,h2.one,h2.most,h2.nd,h2.mv,h3⟩
  · rename_i h1
    rw[if_neg h1] at h
    cases h
end
section
variable {s:Zk}
theorem Qc8 (h:¬0≤(l4V s).2.2.2.1)(h2:(l4V s).2.2.2.2=false):(exV s).2.2.2=true:=by
  have h:¬0≤(Zn s).2.2.1:=h
  have h2:(!(Zn s).2.2.2&&decide ((Zn s).2.2.1 < 0))=false:=h2
  show (Zn s).2.2.2=true
  rw[aJ (by omega)] at h2
  simpa using h2
theorem QdD (h:¬0≤(l4V s).2.2.2.1)(h2:(l4V s).2.2.2.2=true):(exV s).2.2.2=false:=by
  have h2:(!(Zn s).2.2.2&&decide ((Zn s).2.2.1 < 0))=true:=h2
  rw[aN] at h2
  show (Zn s).2.2.2=false
  simpa using h2.1
end
theorem Qjn {n:YM}{k:Nat}{mk:ByteArray}{ts:List Int}{st:RS}(h:(goT n k mk ts st).2.2.2=true):(goT n k mk ts st).2.2.1= -1:=by
  induction ts generalizing st with
  | nil=>rw[goT]
  | cons t ts ih=>
    rw[goT] at h ⊢
    split
    · rename_i h1; rw[if_pos h1] at h; cases h
    · rename_i h1
      rw[if_neg h1] at h
      split
      · rename_i h2; rw[if_pos h2] at h; exact ih h
      · rename_i h2
        rw[if_neg h2] at h
        split
        · rfl
        · rename_i h3; rw[if_neg h3] at h; exact ih h
theorem QiW {n:YM}{f k:Nat}{st:RS}(h:(goK n f k st).2.2.2=true):(goK n f k st).2.2.1= -1:=by
  induction f generalizing k st with
  | zero=>rw[goK]
  | succ f ih=>
    rw[goK] at h ⊢
    cases hx:st.1[k]? with
    | none=>rfl
    | some mk=>
      rw[hx] at h
      simp only at h ⊢
      split
      · rename_i h1; rw[if_pos h1] at h; exact ih h
      · rename_i h1; rw[if_neg h1] at h; exact Qjn h
theorem Qdn {s:Zk}(h:0≤(l4V s).2.2.2.1):(exV s).2.2.2=false:=by
  have h:0≤(Zn s).2.2.1:=h
  show (Zn s).2.2.2=false
  cases he:(Zn s).2.2.2 with
  | false=>rfl
  | true=>
    have:=QiW (n:=s.1) (f:=301) (k:=0) (st:=([s.2.2.2],[],[((0:Int),(0:Int),(0:Int))])) he
    have h2:(Zn s).2.2.1= -1:=this
    omega
theorem Hm (s:(Int×(List (List Int×List Int)))×(List (ByteArray×Int))×(List (Int×Bool))×ByteArray)[∀s,Decidable (StgOk s)]:FC Tryz.prog 144 [(true,[dI s.1.1, .dat (.sl 237 (.pr (.sl 3 .int) (.sl 3 .int))) s.1.2, .dat (.sl 203 (.pr .str .int)) s.2.1, .dat (.sl 120 (.pr .int .bool)) s.2.2.1,dS s.2.2.2])] [] 0 (Is (PV.tup [(true,[.ref 0, .ref 1]),(false,[dB ((Qh s).2)])]) [ar 0 9 .str (((Qh s).1).1),ar 1 184 (.pr .int (.pr .int .int)) (((Qh s).1).2)]):=by
 refine Qj Tryz.func144 rfl rfl Tryz.ntmps144 fun O_ hO w0_ N0_ X_ h0_ f0_=> ?_
 refine acG 0 0 fun hi1=> ?_
 refine w_ ?_
 refine xbx 0 ?_
 refine lc (xal 1 (.pr (.sl 9 .str) (.sl 184 (.pr .int (.pr .int .int)))) Qc3) ?_
 iterate 5 refine w_ ?_
 refine lc (dK (Xd s) VD) ?_
 iterate 2 refine w_ ?_
 cases hb2:(decide (StgOk s))
 ·have hb2':=ab hb2
  iterate 2 refine w_ ?_
  refine lc (Qn HQ rfl (aw.1 rfl) rfl rfl) ?_
  iterate 3 refine w_ ?_
  refine AC.wk (QB 2 (p:=1) (off:=0) 9 .str rfl rfl (Fresh.of rfl) (nlr rfl))<|AC.wk (QB 3 (p:=1) (off:=1) 184 (.pr .int (.pr .int .int)) rfl rfl (Fresh.of rfl) (nlr rfl))<|Qb ?_
  have e3:(false:Bool)=((Qh s).2):=by
   (rw[Vj (by assumption)]; done)
  exact fi_ [(0,2),(1,3)] hO ⟨(Qk (by (rw[Vj (by assumption)]; rfl))),(Qk (by (rw[Vj (by assumption)]; rfl))),trivial⟩ (h0:=(congrArg (fun z_=>PV.tup [(true,[.ref 2, .ref 3]),(false,[dB z_])]) e3))
 ·have hb2':=ae hb2
  iterate 4 refine w_ ?_
  refine lc (dG 4 (Ho s (by assumption)) Qf0) ?_
  refine lc (xal 7 (.pr (.pr (.sl 9 .str) (.sl 184 (.pr .int (.pr .int .int)))) (.pr (.sl 184 (.pr .int (.pr .int .int))) (.pr .int (.pr .int .bool)))) HE) ?_
  iterate 6 refine w_ ?_
  refine alI 12 fun hi4=> ?_
  iterate 2 refine w_ ?_
  cases hb5:(decide (0≤((l4V s).2.2.2.1)))
  ·have hb5':=ab hb5
   iterate 4 refine w_ ?_
   cases hb6:((l4V s).2.2.2.2)
   ·iterate 8 refine w_ ?_
    refine Qb ?_
    have e7:(true:Bool)=((Qh s).2):=by
     (rw[Vq (by assumption) (Qc8 (by assumption) (by assumption))]; done)
    exact fi_ [(0,4),(1,5)] hO ⟨(Qk (by (rw[Vq (by assumption) (Qc8 (by assumption) (by assumption))]; rfl))),(Qk (by (rw[Vq (by assumption) (Qc8 (by assumption) (by assumption))]; rfl))),trivial⟩ (h0:=(congrArg (fun z_=>PV.tup [(true,[.ref 4, .ref 5]),(false,[dB z_])]) e7))
   ·iterate 2 refine w_ ?_
    refine lc (Qn HQ rfl (aw.1 rfl) rfl rfl) ?_
    iterate 3 refine w_ ?_
    refine AC.wk (QB 8 (p:=1) (off:=0) 9 .str rfl rfl (Fresh.of rfl) (nlr rfl))<|AC.wk (QB 9 (p:=1) (off:=1) 184 (.pr .int (.pr .int .int)) rfl rfl (Fresh.of rfl) (nlr rfl))<|Qb ?_
    have e8:(false:Bool)=((Qh s).2):=by
     (rw[YG (QdD (by assumption) (by assumption))]; done)
    exact fi_ [(0,8),(1,9)] hO ⟨(Qk (by (rw[YG (QdD (by assumption) (by assumption))]; rfl))),(Qk (by (rw[YG (QdD (by assumption) (by assumption))]; rfl))),trivial⟩ (h0:=(congrArg (fun z_=>PV.tup [(true,[.ref 8, .ref 9]),(false,[dB z_])]) e8))
  ·have hb5':=ae hb5
   iterate 6 refine w_ ?_
   refine lc (Qn HQ rfl (aw.1 rfl) rfl rfl) ?_
   iterate 3 refine w_ ?_
   refine AC.wk (QB 10 (p:=1) (off:=0) 9 .str rfl rfl (Fresh.of rfl) (nlr rfl))<|AC.wk (QB 11 (p:=1) (off:=1) 184 (.pr .int (.pr .int .int)) rfl rfl (Fresh.of rfl) (nlr rfl))<|Qb ?_
   have e9:(false:Bool)=((Qh s).2):=by
    (rw[YG (Qdn (by assumption))]; done)
   exact fi_ [(0,10),(1,11)] hO ⟨(Qk (by (rw[YG (Qdn (by assumption))]; rfl))),(Qk (by (rw[YG (Qdn (by assumption))]; rfl))),trivial⟩ (h0:=(congrArg (fun z_=>PV.tup [(true,[.ref 10, .ref 11]),(false,[dB z_])]) e9))
end Go.Proofs.YtfkmmpfdncopdaaGreat
