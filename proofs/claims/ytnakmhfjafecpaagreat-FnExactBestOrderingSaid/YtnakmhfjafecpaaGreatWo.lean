/- Walks over abstract states: the values of a signal, the reference. -/
import Derived.Test.YtnakmhfjafecpaaGreatWn
set_option linter.unusedSimpArgs false
set_option linter.unusedVariables false
set_option linter.unusedSectionVars false
namespace Go.Proofs.YtnakmhfjafecpaaGreat
open Go.RowKit
set_option maxRecDepth 100000
set_option maxHeartbeats 4000000
section
variable {sig:Int}{us us':List UInt8}{arcs:List DAr}{f k n:Nat}{cf ct b1 b2:UInt8}{mv:DMv}{lb:Zn}{ls:List Zn}{ms:List DMv}
theorem Qmj (ls:List Zn)(ms:List DMv):(QP ls ms).length=ms.length:=by simp[QP]
theorem ZV (hx:ms[k]? =some mv)(hla:Qb9 ls mv.2.1=lb):(QP ls ms)[k]? =some (mv.1,lb.1,lb.2,mv.2.2):=by
  unfold QP
  rw[List.getElem?_map,hx]
  simp[Qc2,hla]
def ar4 (mv:DMv)(lb:Zn):DAr:=(mv.1,lb.1,lb.2,mv.2.2)
theorem XB (hl:¬lb.1=sig)(hf:us[mv.1.toNat]? =some cf)(hq:decide (cf=63)=true)(ht:us[mv.2.2.toNat]? =some ct):Ym sig (mv.1,lb.1,lb.2,mv.2.2) us=some ((us.set mv.1.toNat ct).set mv.2.2.toNat ct):=by
  unfold Ym
  simp only
  rw[if_neg hl,Z5 hf,Z5 ht,if_pos (of_decide_eq_true hq)]
theorem Xn (hl:¬lb.1=sig)(hf:us[mv.1.toNat]? =some cf)(hq:decide (cf=63)=false)(ht:us[mv.2.2.toNat]? =some ct)(h2:ct=63∨ct=cf):Ym sig (mv.1,lb.1,lb.2,mv.2.2) us=some ((us.set mv.1.toNat cf).set mv.2.2.toNat cf):=by
  unfold Ym
  simp only
  rw[if_neg hl,Z5 hf,Z5 ht,if_neg (of_decide_eq_false hq),if_neg]
  rintro ⟨h3,h4⟩
  rcases h2 with h | h
  · exact h3 h
  · exact h4 h
theorem Xu (hl:¬lb.1=sig)(hf:us[mv.1.toNat]? =some cf)(hq:decide (cf=63)=false)(ht:us[mv.2.2.toNat]? =some ct)(h1:¬ct=63)(h2:¬ct=cf):Ym sig (mv.1,lb.1,lb.2,mv.2.2) us=none:=by
  unfold Ym
  simp only
  rw[if_neg hl,Z5 hf,Z5 ht,if_neg (of_decide_eq_false hq),if_pos ⟨h1,h2⟩]
theorem Qbx {b:Bool}{c:UInt8}(h:(U5 b)[((0:Int)).toNat]? =some c):(if b=true then 49 else 48)=c:=by
  have:(U5 b)[((0:Int)).toNat]? =some (if b=true then 49 else 48):=by cases b <;> rfl
  rw[this] at h
  exact Option.some.inj h
theorem Xv (hl:lb.1=sig)(h1:(U5 (!lb.2))[((0:Int)).toNat]? =some b1)(h2:(U5 lb.2)[((0:Int)).toNat]? =some b2)(hf:cf=63∨cf=b1)(ht:ct=63∨ct=b2)(hcf:us[mv.1.toNat]? =some cf)(hct:us[mv.2.2.toNat]? =some ct):
    Ym sig (mv.1,lb.1,lb.2,mv.2.2) us=some ((us.set mv.1.toNat b1).set mv.2.2.toNat b2):=by
  unfold Ym
  simp only
  rw[if_pos hl,Qbx h1,Qbx h2,Z5 hcf,Z5 hct,if_neg]
  rintro (⟨h3,h4⟩ | ⟨h3,h4⟩)
  · rcases hf with h | h
    · exact h3 h
    · exact h4 h
  · rcases ht with h | h
    · exact h3 h
    · exact h4 h
theorem YN (hl:lb.1=sig)(h1:(U5 (!lb.2))[((0:Int)).toNat]? =some b1)(hcf:us[mv.1.toNat]? =some cf)(h3:¬cf=63)(h4:¬cf=b1):Ym sig (mv.1,lb.1,lb.2,mv.2.2) us=none:=by
  unfold Ym
  simp only
  rw[if_pos hl,Qbx h1,Z5 hcf,if_pos (.inl ⟨h3,h4⟩)]
theorem YL (hl:lb.1=sig)(h1:(U5 lb.2)[((0:Int)).toNat]? =some b2)(hct:us[mv.2.2.toNat]? =some ct)(h3:¬ct=63)(h4:¬ct=b2):Ym sig (mv.1,lb.1,lb.2,mv.2.2) us=none:=by
  unfold Ym
  simp only
  rw[if_pos hl,Qbx h1,Z5 hct,if_pos (.inr ⟨h3,h4⟩)]
def Jp (n k:Nat):List UInt8:=List.replicate k 63++List.replicate (n - k) 0
theorem Qei (n k:Nat)(h:k≤n):(Jp n k).length=n:=by simp[Jp]; omega
theorem Qkt (h:n≤k)(h2:k≤n):Jp n k=List.replicate n 63:=by
  obtain rfl:k=n:=by omega
  simp[Jp]
theorem QkC (h:k < n):(Jp n k).set k 63=Jp n (k+1):=by
  unfold Jp
  rw[List.set_append_right _ _ (by simp),List.length_replicate,Nat.sub_self,show n - k=(n - (k+1))+1 by omega,List.replicate_succ,List.set_cons_zero,List.replicate_succ']
  simp
def XN (n:Nat)(arcs:List DAr):Nat→List Int
  | 0=>[]
  | k+1=>XN n arcs k++(if (l5V n arcs (k:Int)).2=true then [] else [(k:Int)])
theorem Qky (n:Nat)(arcs:List DAr)(k:Nat):(XN n arcs k).length≤k:=by
  induction k with
  | zero=>simp[XN]
  | succ k ih=>simp only[XN,List.length_append]; split <;> simp <;> omega
theorem Qet (h:(l5V n arcs (k:Int)).2=true):XN n arcs k=XN n arcs (k+1):=by simp[XN,h]
theorem QgY (h:(l5V n arcs (k:Int)).2=false):XN n arcs k++[(k:Int)]=XN n arcs (k+1):=by simp[XN,h]
end
def MvOk (n m:Nat)(v:DMv):Prop:=(0≤v.1∧v.1 < (n:Int))∧(0≤v.2.1∧v.2.1 < (m:Int))∧0≤v.2.2∧v.2.2 < (n:Int)
theorem Jq (up:Bool):FC Tryz.prog 220 [(false,[dB up])] [] 0 (Zq (lf (dS (U5 up)))):=by
 refine QN Tryz.func220 rfl rfl Tryz.ntmps220 fun O_ hO w0_ N0_ X_ h0_ f0_=> ?_
 iterate 7 refine w_ ?_
 cases hb1:(up)
 ·iterate 5 refine w_ ?_
  refine Qf ?_
  subst hO
  have e2:((⟨#[48]⟩:ByteArray):ByteArray)=(U5 up):=by
   simp[U5, *]
  exact Ql (Qm rfl (Qd rfl)) ((congrArg (fun z_=>lf (dS z_)) e2)) rfl
 ·iterate 4 refine w_ ?_
  refine Qf ?_
  subst hO
  have e3:((⟨#[49]⟩:ByteArray):ByteArray)=(U5 up):=by
   simp[U5, *]
  exact Ql (Qm rfl (Qd rfl)) ((congrArg (fun z_=>lf (dS z_)) e3)) rfl
theorem Uo (s:(Int×(List (List Int×List Int)))×(List (ByteArray×Int))×(List (Int×Bool))×ByteArray)(r:List ByteArray×(List (Int×Int×Int)))(sig:Int)(hm:∀m∈r.2,MvOk r.1.length s.2.2.1.length m)(hl1:r.1.length≤1000000):FC Tryz.prog 227 [(true,[dI s.1.1, .dat (.sl 159 (.pr (.sl 3 .int) (.sl 3 .int))) s.1.2, .dat (.sl 145 (.pr .str .int)) s.2.1, .dat (.sl 61 (.pr .int .bool)) s.2.2.1,dS s.2.2.2]),(true,[.dat (.sl 9 .str) r.1, .dat (.sl 226 (.pr .int (.pr .int .int))) r.2]),(false,[dI sig])] [] 0 (Zq (PV.tup [(false,[dS ((l5V r.1.length (QP s.2.2.1 r.2) sig).1)]),(false,[dB ((l5V r.1.length (QP s.2.2.1 r.2) sig).2)])])):=by
 have hrl:(List.replicate r.1.length (Ty.zero .u8)).length=r.1.length:=List.length_replicate ..
 refine QN Tryz.func227 rfl rfl Tryz.ntmps227 fun O_ hO w0_ N0_ X_ h0_ f0_=> ?_
 refine AC.fact (QG (x:= .tmp 0) (i:=0) (Qb rfl) rfl) fun hi1=>AC.fact (QA (x:= .tmp 2) (Qa rfl)) fun hi2=> ?_
 refine w_ ?_
 refine lc (Qw 0 (Qb rfl) rfl rfl (Fresh.of rfl) (nlr rfl))<|lc (Qw 1 (Qb rfl) rfl rfl (Fresh.of rfl) (nlr rfl)) ?_
 iterate 6 refine w_ ?_
 refine AL.fact (Qq (x:= .tmp 18) (Qa rfl)) fun hl3=> ?_
 refine w_ ?_
 refine lc (VX 2 (e:= .u8) (n:=r.1.length) (Qa rfl) (Qa rfl) QV Qn7 rfl (by omega) (by omega) rfl (Fresh.of rfl) (nlr rfl)) ?_
 iterate 9 refine w_ ?_
 refine Qx (fun m_ s_=>∃(k:Nat),k≤r.1.length∧m_=r.1.length - k∧s_=⟨[(2,lI sig),(3,lP 0 0),(4,lP 1 0),(6,lf (dS (⟨#[]⟩:ByteArray))),(7,lB false),(8,lR 3),(22,lI ((List.replicate r.1.length (Ty.zero .u8)).length:Int)),(23,lI (k:Int))],[(0,some (.box 39 [dI s.1.1, .dat (.sl 159 (.pr (.sl 3 .int) (.sl 3 .int))) s.1.2, .dat (.sl 145 (.pr .str .int)) s.2.1, .dat (.sl 61 (.pr .int .bool)) s.2.2.1,dS s.2.2.2])),(1,some (.box 98 [.dat (.sl 9 .str) r.1, .dat (.sl 226 (.pr .int (.pr .int .int))) r.2])),(3,some (.arr 5 .u8 (Jp r.1.length k)))]⟩) ⟨0,Nat.zero_le _,rfl,rfl⟩ ?_ ?_
 · exact Wk.of [(0,0),(1,1),(3,2)] rfl ⟨rfl,rfl,rfl,rfl,rfl,rfl,rfl,rfl,trivial⟩ ⟨rfl,rfl,(Qy (rfl)),trivial⟩ rfl rfl
 rintro m_ s_ ⟨k,hk4,hm5,rfl⟩
 have hfq:=Qei r.1.length k (by omega)
 iterate 4 refine w_ ?_
 cases hb6:(decide ((k:Int) < ((List.replicate r.1.length (Ty.zero .u8)).length:Int)))
 ·have hb6':=of_decide_eq_false hb6
  refine w_ ?_
  refine QB ?_
  refine (?_:AC _ _ _ _ _)
  iterate 5 refine w_ ?_
  refine Qx (fun m_ s_=>∃(p:Nat) (us:List UInt8),p≤(r.1.length+1)∧m_=(r.1.length+1) - p∧(XS sig (QP s.2.2.1 r.2) (r.1.length+1) (List.replicate r.1.length 63)=XS sig (QP s.2.2.1 r.2) (r.1.length+1 - p) us)∧(us.length=r.1.length)∧s_=⟨[(2,lI sig),(3,lP 0 0),(4,lP 1 0),(8,lR 4),(10,lI (p:Int))],[(0,some (.box 39 [dI s.1.1, .dat (.sl 159 (.pr (.sl 3 .int) (.sl 3 .int))) s.1.2, .dat (.sl 145 (.pr .str .int)) s.2.1, .dat (.sl 61 (.pr .int .bool)) s.2.2.1,dS s.2.2.2])),(1,some (.box 98 [.dat (.sl 9 .str) r.1, .dat (.sl 226 (.pr .int (.pr .int .int))) r.2])),(4,some (.arr 5 .u8 us))]⟩) ⟨0,Jp r.1.length k,Nat.zero_le _,rfl,(by rw[Qkt (by omega) (by omega)]; rfl),(Qei _ _ (by omega)),rfl⟩ ?_ ?_
  · exact Wk.of [(0,0),(1,1),(4,3)] rfl ⟨rfl,rfl,rfl,rfl,rfl,trivial⟩ ⟨rfl,rfl,(Qy (by first | rfl | simp)),trivial⟩ rfl rfl
  rintro m_ s_ ⟨p,us,hk7,hm8,hA,hL,rfl⟩
  iterate 5 refine w_ ?_
  refine AL.fact (Qq (x:= .tmp 32) (Qa rfl)) fun hl9=> ?_
  iterate 3 refine w_ ?_
  cases hb10:(decide ((p:Int)≤(r.1.length:Int)))
  ·have hb10':=of_decide_eq_false hb10
   refine w_ ?_
   refine QB ?_
   refine (?_:AC _ _ _ _ _)
   iterate 2 refine w_ ?_
   refine lc (Y2 (ys:=us) (Ui (Qa rfl) rfl) QV Hm W9 rfl) ?_
   iterate 3 refine w_ ?_
   refine Qf ?_
   subst hO
   have e11:((⟨(us).toArray⟩:ByteArray):ByteArray)=((l5V r.1.length (QP s.2.2.1 r.2) sig).1):=by
    first | (rw[Qfd (us:=us) (by rw[hA,show r.1.length+1 - p=0 by omega]; rfl)]; done)
   have e12:(true:Bool)=((l5V r.1.length (QP s.2.2.1 r.2) sig).2):=by
    first | (rw[Qfd (us:=us) (by rw[hA,show r.1.length+1 - p=0 by omega]; rfl)]; done)
   exact Ql (QC rfl (Qd rfl) (Qd rfl)) (((congrArg (fun z_=>PV.tup [(false,[dS z_]),(false,[dB true])]) e11)).trans (congrArg (fun z_=>PV.tup [(false,[dS ((l5V r.1.length (QP s.2.2.1 r.2) sig).1)]),(false,[dB z_])]) e12)) rfl
  ·have hb10':=of_decide_eq_true hb10
   iterate 7 refine w_ ?_
   refine AL.fact (Qq (x:= .tmp 38) (Qa rfl)) fun hl13=> ?_
   iterate 4 refine w_ ?_
   refine Qx (fun m_ s_=>∃(i:Nat) (us2:List UInt8),i≤r.2.length∧m_=r.2.length - i∧(XS sig (QP s.2.2.1 r.2) (r.1.length+1) (List.replicate r.1.length 63)=Jk sig (QP s.2.2.1 r.2) (r.1.length - p) (YV sig ((QP s.2.2.1 r.2).drop i) us2))∧(us2.length=r.1.length)∧s_=⟨[(2,lI sig),(3,lP 0 0),(4,lP 1 0),(8,lR 5),(10,lI (p:Int)),(30,lI (p:Int)),(31,lP 1 0),(32,lf (.dat (.sl 9 .str) r.1)),(33,lI (r.1.length:Int)),(34,lB true),(37,lP 1 1),(38,lf (.dat (.sl 226 (.pr .int (.pr .int .int))) r.2)),(39,lI (r.2.length:Int)),(40,lI (i:Int))],[(0,some (.box 39 [dI s.1.1, .dat (.sl 159 (.pr (.sl 3 .int) (.sl 3 .int))) s.1.2, .dat (.sl 145 (.pr .str .int)) s.2.1, .dat (.sl 61 (.pr .int .bool)) s.2.2.1,dS s.2.2.2])),(1,some (.box 98 [.dat (.sl 9 .str) r.1, .dat (.sl 226 (.pr .int (.pr .int .int))) r.2])),(5,some (.arr 5 .u8 us2))]⟩) ⟨0,us,Nat.zero_le _,rfl,(by rw[hA,show r.1.length+1 - p=(r.1.length - p)+1 by omega]; exact Qly _ _),hL,rfl⟩ ?_ ?_
   · exact Wk.of [(0,0),(1,1),(5,4)] rfl ⟨rfl,rfl,rfl,rfl,rfl,rfl,rfl,rfl,rfl,rfl,rfl,rfl,rfl,rfl,trivial⟩ ⟨rfl,rfl,rfl,trivial⟩ rfl rfl
   rintro m_ s_ ⟨i,us2,hk14,hm15,hA2,hL2,rfl⟩
   iterate 4 refine w_ ?_
   cases hb16:(decide ((i:Int) < (r.2.length:Int)))
   ·have hb16':=of_decide_eq_false hb16
    refine w_ ?_
    refine QB ?_
    refine (?_:AC _ _ _ _ _)
    iterate 4 refine w_ ?_
    refine Qk<|QU ⟨p+1,us2,by omega,rfl,(by rw[hA2,Qkj (by rw[Qmj]; omega),show r.1.length+1 - (p+1)=r.1.length - p by omega]; rfl),hL2,rfl⟩ (by omega) ?_
    exact Wk.of [(0,0),(1,1),(4,5)] rfl ⟨rfl,rfl,rfl,rfl,rfl,trivial⟩ ⟨rfl,rfl,rfl,trivial⟩ rfl rfl
   ·have hb16':=of_decide_eq_true hb16
    iterate 5 refine w_ ?_
    obtain ⟨mv,hx18⟩:∃z,r.2[i]? =some z:=⟨_,List.getElem?_eq_getElem (by omega)⟩
    obtain ⟨⟨hm1,hm2⟩,⟨hm3,hm4⟩,hm5,hm6⟩:=hm _ (List.mem_of_getElem? hx18)
    refine lc (Qh (Qa rfl) (Qa rfl) Z6 Zr rfl (by omega) hx18) ?_
    refine w_ ?_
    refine lc (Qp 6 (.pr .int (.pr .int .int)) Yu rfl rfl (Fresh.of rfl) (nlr rfl))<|lc (Qe (Qa rfl) rfl (Qb rfl) rfl Zr rfl) ?_
    iterate 6 refine w_ ?_
    refine AL.fact (QA (x:= .tmp 47) (Qa rfl)) fun hi19=> ?_
    obtain ⟨lb,hx21⟩:∃z,s.2.2.1[(mv.2.1).toNat]? =some z:=⟨_,List.getElem?_eq_getElem (by omega)⟩
    have hla:=Qbj hx21
    refine lc (Qh (Qa rfl) (Qa rfl) X2 Yr rfl (by omega) hx21) ?_
    refine w_ ?_
    refine lc (Qp 7 (.pr .int .bool) JY rfl rfl (Fresh.of rfl) (nlr rfl))<|lc (Qe (Qa rfl) rfl (Qb rfl) rfl Yr rfl) ?_
    iterate 5 refine w_ ?_
    refine AL.fact (QA (x:= .tmp 51) (Qa rfl)) fun hi22=> ?_
    iterate 3 refine w_ ?_
    cases hb23:(!decide (lb.1=sig))
    ·have hb23':(lb.1=sig):=Zb hb23
     iterate 2 refine w_ ?_
     obtain ⟨c24,hc25⟩:∃z,(U5 (!lb.2))[(0:Int).toNat]? =some z:=by first | exact ⟨_,getElem?_pos _ _ (by omega)⟩ | exact ⟨_,rfl⟩
     obtain ⟨c26,hc27⟩:∃z,(U5 lb.2)[(0:Int).toNat]? =some z:=by first | exact ⟨_,getElem?_pos _ _ (by omega)⟩ | exact ⟨_,rfl⟩
     refine dw [io 95 (lP 7 1),io 96 (lB lb.2),io 97 (lB (!lb.2)),io 98 (lf (dS (U5 (!lb.2)))),io 99 (lf (.dat .u8 c24)),io 100 (lP 7 1),io 101 (lB lb.2),io 102 (lf (dS (U5 lb.2))),io 103 (lf (.dat .u8 c26)),io 15 (lf (.dat .u8 c24)),io 16 (lf (.dat .u8 c26))] [0,1,3,7,15,0,32,111,239,255,1023] mixed rfl (by kernel_rfl) ⟨dxf Qg1 rfl rfl rfl,dxl WW rfl rfl rfl rfl rfl,fun _ h_=>ac (Wn (h_.v rfl) rfl) rfl,fun _ h_=>ac (Qn (Jq (!lb.2)) Qcp ⟨_,_,rfl,(h_.w rfl),rfl⟩ rfl rfl) rfl,fun _ h_=>ac (Vo (h_.v rfl) (QM rfl) rfl W9 (by omega) hc25) rfl,dxf Qg1 rfl rfl rfl,dxl WW rfl rfl rfl rfl rfl,fun _ h_=>ac (Qn (Jq lb.2) Qcp ⟨_,_,rfl,(h_.w rfl),rfl⟩ rfl rfl) rfl,fun _ h_=>ac (Vo (h_.v rfl) (QM rfl) rfl W9 (by omega) hc27) rfl,dxt rfl rfl,dxt rfl rfl,⟨⟩⟩ ?_
     iterate 5 refine w_ ?_
     refine AL.fact (QA (x:= .tmp 106) (Qa rfl)) fun hi28=>lc (Qu (e:= .u8) (Qa rfl) rfl (Qa rfl) QV QS rfl (by omega) (by first | omega | (simp only[List.length_set]; omega))) ?_
     obtain ⟨cf,hx30⟩:∃z,us2[(mv.1).toNat]? =some z:=⟨_,List.getElem?_eq_getElem (by omega)⟩
     refine lc (QL (e:= .u8) (Qa rfl) rfl hx30 rfl QS rfl rfl)<|lc (YW (Qa rfl) (ZR 63 rfl) rfl) ?_
     refine w_ ?_
     cases hb31:(!decide (cf=63))
     ·have hb31':(cf=63):=Zb hb31
      iterate 12 refine w_ ?_
      refine lgy rfl rfl (Qu (e:= .u8) (Qa rfl) rfl (Qa rfl) QV QS rfl (by omega) (by first | omega | (simp only[List.length_set]; omega))) ?_
      obtain ⟨ct,hx33⟩:∃z,us2[(mv.2.2).toNat]? =some z:=⟨_,List.getElem?_eq_getElem (by omega)⟩
      refine lgy rfl rfl (QL (e:= .u8) (Qa rfl) rfl hx33 rfl QS rfl rfl)<|lgy rfl rfl (YW (Qa rfl) (ZR 63 rfl) rfl) ?_
      refine w_ ?_
      cases hb34:(!decide (ct=63))
      ·have hb34':(ct=63):=Zb hb34
       iterate 17 refine w_ ?_
       refine lc (Qu (e:= .u8) (Qa rfl) rfl (Qa rfl) QV QS rfl (by omega) (by first | omega | (simp only[List.length_set]; omega)))<|lc (QX (e:= .u8) (z':=c24) (Qa rfl) rfl hx30 rfl (Qb rfl) rfl QS rfl rfl) ?_
       iterate 5 refine w_ ?_
       refine AL.fact (QA (x:= .tmp 143) (Qa rfl)) fun hi35=> ?_
       refine w_ ?_
       refine lc (Qu (e:= .u8) (Qa rfl) rfl (Qa rfl) QV QS rfl (by omega) (by first | omega | (simp only[List.length_set]; omega))) ?_
       obtain ⟨x36,hx37⟩:∃z,(us2.set ((mv.1).toNat) c24)[(mv.2.2).toNat]? =some z:=⟨_,List.getElem?_eq_getElem (by first | omega | (simp only[List.length_set]; omega))⟩
       refine lc (QX (e:= .u8) (z':=c26) (Qa rfl) rfl hx37 rfl (Qb rfl) rfl QS rfl rfl)<|Qk ?_
       refine (?_:AC _ _ _ _ _)
       iterate 3 refine w_ ?_
       refine Qk<|QU ⟨i+1,((us2.set ((mv.1).toNat) c24).set ((mv.2.2).toNat) c26),by omega,rfl,hA2.trans (congrArg (Jk sig (QP s.2.2.1 r.2) (r.1.length - p)) (Wm (ZV hx18 hla) (by first | exact XB (cf:=cf) (ct:=ct) (by assumption) (by assumption) (by assumption) (by assumption) | exact Xn (cf:=cf) (ct:=ct) (by assumption) (by assumption) (by assumption) (by assumption) (by first | exact .inl (by assumption) | exact .inr (by assumption)) | exact Xv (cf:=cf) (ct:=ct) (by assumption) (by assumption) (by assumption) (by first | exact .inl (by assumption) | exact .inr (by assumption)) (by first | exact .inl (by assumption) | exact .inr (by assumption)) (by assumption) (by assumption)))),(by simp only[List.length_set]; exact hL2),rfl⟩ (by omega) ?_
       exact Wk.of [(0,0),(1,1),(5,5)] rfl ⟨rfl,rfl,rfl,rfl,rfl,rfl,rfl,rfl,rfl,rfl,rfl,rfl,rfl,rfl,trivial⟩ ⟨rfl,rfl,(Qy (by first | rfl | simp)),trivial⟩ rfl rfl
      ·have hb34':¬(ct=63):=Zk hb34
       iterate 3 refine w_ ?_
       refine lgy rfl rfl (Qu (e:= .u8) (Qa rfl) rfl (Qa rfl) QV QS rfl (by omega) (by first | omega | (simp only[List.length_set]; omega)))<|lgy rfl rfl (QL (e:= .u8) (Qa rfl) rfl hx33 rfl QS rfl rfl) ?_
       iterate 5 refine w_ ?_
       cases hb38:(!decide (ct=c26))
       ·have hb38':(ct=c26):=Zb hb38
        iterate 7 refine w_ ?_
        refine lc (Qu (e:= .u8) (Qa rfl) rfl (Qa rfl) QV QS rfl (by omega) (by first | omega | (simp only[List.length_set]; omega)))<|lc (QX (e:= .u8) (z':=c24) (Qa rfl) rfl hx30 rfl (Qb rfl) rfl QS rfl rfl) ?_
        iterate 5 refine w_ ?_
        refine AL.fact (QA (x:= .tmp 143) (Qa rfl)) fun hi39=> ?_
        refine w_ ?_
        refine lc (Qu (e:= .u8) (Qa rfl) rfl (Qa rfl) QV QS rfl (by omega) (by first | omega | (simp only[List.length_set]; omega))) ?_
        obtain ⟨x40,hx41⟩:∃z,(us2.set ((mv.1).toNat) c24)[(mv.2.2).toNat]? =some z:=⟨_,List.getElem?_eq_getElem (by first | omega | (simp only[List.length_set]; omega))⟩
        refine lc (QX (e:= .u8) (z':=c26) (Qa rfl) rfl hx41 rfl (Qb rfl) rfl QS rfl rfl)<|Qk ?_
        refine (?_:AC _ _ _ _ _)
        iterate 3 refine w_ ?_
        refine Qk<|QU ⟨i+1,((us2.set ((mv.1).toNat) c24).set ((mv.2.2).toNat) c26),by omega,rfl,hA2.trans (congrArg (Jk sig (QP s.2.2.1 r.2) (r.1.length - p)) (Wm (ZV hx18 hla) (by first | exact XB (cf:=cf) (ct:=ct) (by assumption) (by assumption) (by assumption) (by assumption) | exact Xn (cf:=cf) (ct:=ct) (by assumption) (by assumption) (by assumption) (by assumption) (by first | exact .inl (by assumption) | exact .inr (by assumption)) | exact Xv (cf:=cf) (ct:=ct) (by assumption) (by assumption) (by assumption) (by first | exact .inl (by assumption) | exact .inr (by assumption)) (by first | exact .inl (by assumption) | exact .inr (by assumption)) (by assumption) (by assumption)))),(by simp only[List.length_set]; exact hL2),rfl⟩ (by omega) ?_
        exact Wk.of [(0,0),(1,1),(5,5)] rfl ⟨rfl,rfl,rfl,rfl,rfl,rfl,rfl,rfl,rfl,rfl,rfl,rfl,rfl,rfl,trivial⟩ ⟨rfl,rfl,(Qy (by first | rfl | simp)),trivial⟩ rfl rfl
       ·have hb38':¬(ct=c26):=Zk hb38
        iterate 5 refine w_ ?_
        refine Qf ?_
        subst hO
        have e42:((⟨#[]⟩:ByteArray):ByteArray)=((l5V r.1.length (QP s.2.2.1 r.2) sig).1):=by
         (rw[Wx (by rw[hA2,Xm (ZV hx18 hla) (by first | exact Xu (cf:=cf) (ct:=ct) (by assumption) (by assumption) (by assumption) (by assumption) (by assumption) (by assumption) | exact YN (cf:=cf) (by assumption) (by assumption) (by assumption) (by assumption) (by assumption) | exact YL (ct:=ct) (by assumption) (by assumption) (by assumption) (by assumption) (by assumption))]; rfl)]; done)
        have e43:(false:Bool)=((l5V r.1.length (QP s.2.2.1 r.2) sig).2):=by
         (rw[Wx (by rw[hA2,Xm (ZV hx18 hla) (by first | exact Xu (cf:=cf) (ct:=ct) (by assumption) (by assumption) (by assumption) (by assumption) (by assumption) (by assumption) | exact YN (cf:=cf) (by assumption) (by assumption) (by assumption) (by assumption) (by assumption) | exact YL (ct:=ct) (by assumption) (by assumption) (by assumption) (by assumption) (by assumption))]; rfl)]; done)
        exact Ql (QC rfl (Qd rfl) (Qd rfl)) (((congrArg (fun z_=>PV.tup [(false,[dS z_]),(false,[dB false])]) e42)).trans (congrArg (fun z_=>PV.tup [(false,[dS ((l5V r.1.length (QP s.2.2.1 r.2) sig).1)]),(false,[dB z_])]) e43)) rfl
     ·have hb31':¬(cf=63):=Zk hb31
      iterate 3 refine w_ ?_
      refine lgy rfl rfl (Qu (e:= .u8) (Qa rfl) rfl (Qa rfl) QV QS rfl (by omega) (by first | omega | (simp only[List.length_set]; omega)))<|lgy rfl rfl (QL (e:= .u8) (Qa rfl) rfl hx30 rfl QS rfl rfl) ?_
      iterate 4 refine w_ ?_
      cases hb44:(!decide (cf=c24))
      ·have hb44':(cf=c24):=Zb hb44
       iterate 3 refine w_ ?_
       refine lgy rfl rfl (Qu (e:= .u8) (Qa rfl) rfl (Qa rfl) QV QS rfl (by omega) (by first | omega | (simp only[List.length_set]; omega))) ?_
       obtain ⟨ct,hx46⟩:∃z,us2[(mv.2.2).toNat]? =some z:=⟨_,List.getElem?_eq_getElem (by omega)⟩
       refine lgy rfl rfl (QL (e:= .u8) (Qa rfl) rfl hx46 rfl QS rfl rfl)<|lgy rfl rfl (YW (Qa rfl) (ZR 63 rfl) rfl) ?_
       refine w_ ?_
       cases hb47:(!decide (ct=63))
       ·have hb47':(ct=63):=Zb hb47
        iterate 17 refine w_ ?_
        refine lc (Qu (e:= .u8) (Qa rfl) rfl (Qa rfl) QV QS rfl (by omega) (by first | omega | (simp only[List.length_set]; omega)))<|lc (QX (e:= .u8) (z':=c24) (Qa rfl) rfl hx30 rfl (Qb rfl) rfl QS rfl rfl) ?_
        iterate 5 refine w_ ?_
        refine AL.fact (QA (x:= .tmp 143) (Qa rfl)) fun hi48=> ?_
        refine w_ ?_
        refine lc (Qu (e:= .u8) (Qa rfl) rfl (Qa rfl) QV QS rfl (by omega) (by first | omega | (simp only[List.length_set]; omega))) ?_
        obtain ⟨x49,hx50⟩:∃z,(us2.set ((mv.1).toNat) c24)[(mv.2.2).toNat]? =some z:=⟨_,List.getElem?_eq_getElem (by first | omega | (simp only[List.length_set]; omega))⟩
        refine lc (QX (e:= .u8) (z':=c26) (Qa rfl) rfl hx50 rfl (Qb rfl) rfl QS rfl rfl)<|Qk ?_
        refine (?_:AC _ _ _ _ _)
        iterate 3 refine w_ ?_
        refine Qk<|QU ⟨i+1,((us2.set ((mv.1).toNat) c24).set ((mv.2.2).toNat) c26),by omega,rfl,hA2.trans (congrArg (Jk sig (QP s.2.2.1 r.2) (r.1.length - p)) (Wm (ZV hx18 hla) (by first | exact XB (cf:=cf) (ct:=ct) (by assumption) (by assumption) (by assumption) (by assumption) | exact Xn (cf:=cf) (ct:=ct) (by assumption) (by assumption) (by assumption) (by assumption) (by first | exact .inl (by assumption) | exact .inr (by assumption)) | exact Xv (cf:=cf) (ct:=ct) (by assumption) (by assumption) (by assumption) (by first | exact .inl (by assumption) | exact .inr (by assumption)) (by first | exact .inl (by assumption) | exact .inr (by assumption)) (by assumption) (by assumption)))),(by simp only[List.length_set]; exact hL2),rfl⟩ (by omega) ?_
        exact Wk.of [(0,0),(1,1),(5,5)] rfl ⟨rfl,rfl,rfl,rfl,rfl,rfl,rfl,rfl,rfl,rfl,rfl,rfl,rfl,rfl,trivial⟩ ⟨rfl,rfl,(Qy (by first | rfl | simp)),trivial⟩ rfl rfl
       ·have hb47':¬(ct=63):=Zk hb47
        iterate 3 refine w_ ?_
        refine lgy rfl rfl (Qu (e:= .u8) (Qa rfl) rfl (Qa rfl) QV QS rfl (by omega) (by first | omega | (simp only[List.length_set]; omega)))<|lgy rfl rfl (QL (e:= .u8) (Qa rfl) rfl hx46 rfl QS rfl rfl) ?_
        iterate 5 refine w_ ?_
        cases hb51:(!decide (ct=c26))
        ·have hb51':(ct=c26):=Zb hb51
         iterate 7 refine w_ ?_
         refine lc (Qu (e:= .u8) (Qa rfl) rfl (Qa rfl) QV QS rfl (by omega) (by first | omega | (simp only[List.length_set]; omega)))<|lc (QX (e:= .u8) (z':=c24) (Qa rfl) rfl hx30 rfl (Qb rfl) rfl QS rfl rfl) ?_
         iterate 5 refine w_ ?_
         refine AL.fact (QA (x:= .tmp 143) (Qa rfl)) fun hi52=> ?_
         refine w_ ?_
         refine lc (Qu (e:= .u8) (Qa rfl) rfl (Qa rfl) QV QS rfl (by omega) (by first | omega | (simp only[List.length_set]; omega))) ?_
         obtain ⟨x53,hx54⟩:∃z,(us2.set ((mv.1).toNat) c24)[(mv.2.2).toNat]? =some z:=⟨_,List.getElem?_eq_getElem (by first | omega | (simp only[List.length_set]; omega))⟩
         refine lc (QX (e:= .u8) (z':=c26) (Qa rfl) rfl hx54 rfl (Qb rfl) rfl QS rfl rfl)<|Qk ?_
         refine (?_:AC _ _ _ _ _)
         iterate 3 refine w_ ?_
         refine Qk<|QU ⟨i+1,((us2.set ((mv.1).toNat) c24).set ((mv.2.2).toNat) c26),by omega,rfl,hA2.trans (congrArg (Jk sig (QP s.2.2.1 r.2) (r.1.length - p)) (Wm (ZV hx18 hla) (by first | exact XB (cf:=cf) (ct:=ct) (by assumption) (by assumption) (by assumption) (by assumption) | exact Xn (cf:=cf) (ct:=ct) (by assumption) (by assumption) (by assumption) (by assumption) (by first | exact .inl (by assumption) | exact .inr (by assumption)) | exact Xv (cf:=cf) (ct:=ct) (by assumption) (by assumption) (by assumption) (by first | exact .inl (by assumption) | exact .inr (by assumption)) (by first | exact .inl (by assumption) | exact .inr (by assumption)) (by assumption) (by assumption)))),(by simp only[List.length_set]; exact hL2),rfl⟩ (by omega) ?_
         exact Wk.of [(0,0),(1,1),(5,5)] rfl ⟨rfl,rfl,rfl,rfl,rfl,rfl,rfl,rfl,rfl,rfl,rfl,rfl,rfl,rfl,trivial⟩ ⟨rfl,rfl,(Qy (by first | rfl | simp)),trivial⟩ rfl rfl
        ·have hb51':¬(ct=c26):=Zk hb51
         iterate 5 refine w_ ?_
         refine Qf ?_
         subst hO
         have e55:((⟨#[]⟩:ByteArray):ByteArray)=((l5V r.1.length (QP s.2.2.1 r.2) sig).1):=by
          (rw[Wx (by rw[hA2,Xm (ZV hx18 hla) (by first | exact Xu (cf:=cf) (ct:=ct) (by assumption) (by assumption) (by assumption) (by assumption) (by assumption) (by assumption) | exact YN (cf:=cf) (by assumption) (by assumption) (by assumption) (by assumption) (by assumption) | exact YL (ct:=ct) (by assumption) (by assumption) (by assumption) (by assumption) (by assumption))]; rfl)]; done)
         have e56:(false:Bool)=((l5V r.1.length (QP s.2.2.1 r.2) sig).2):=by
          (rw[Wx (by rw[hA2,Xm (ZV hx18 hla) (by first | exact Xu (cf:=cf) (ct:=ct) (by assumption) (by assumption) (by assumption) (by assumption) (by assumption) (by assumption) | exact YN (cf:=cf) (by assumption) (by assumption) (by assumption) (by assumption) (by assumption) | exact YL (ct:=ct) (by assumption) (by assumption) (by assumption) (by assumption) (by assumption))]; rfl)]; done)
         exact Ql (QC rfl (Qd rfl) (Qd rfl)) (((congrArg (fun z_=>PV.tup [(false,[dS z_]),(false,[dB false])]) e55)).trans (congrArg (fun z_=>PV.tup [(false,[dS ((l5V r.1.length (QP s.2.2.1 r.2) sig).1)]),(false,[dB z_])]) e56)) rfl
      ·have hb44':¬(cf=c24):=Zk hb44
       iterate 7 refine w_ ?_
       refine Q8 rfl rfl rfl ?_ rfl
       refine Q8 rfl rfl rfl ?_ rfl
       refine Q8 rfl rfl rfl ?_ rfl
       refine Q8 rfl rfl rfl ?_ rfl
       refine Q8 rfl rfl rfl ?_ rfl
       refine Q8 rfl rfl rfl ?_ rfl
       refine Q8 rfl rfl rfl ?_ rfl
       iterate 8 refine w_ ?_
       refine Qf ?_
       subst hO
       have e57:((⟨#[]⟩:ByteArray):ByteArray)=((l5V r.1.length (QP s.2.2.1 r.2) sig).1):=by
        (rw[Wx (by rw[hA2,Xm (ZV hx18 hla) (by first | exact Xu (cf:=cf) (ct:=ct) (by assumption) (by assumption) (by assumption) (by assumption) (by assumption) (by assumption) | exact YN (cf:=cf) (by assumption) (by assumption) (by assumption) (by assumption) (by assumption) | exact YL (ct:=ct) (by assumption) (by assumption) (by assumption) (by assumption) (by assumption))]; rfl)]; done)
       have e58:(false:Bool)=((l5V r.1.length (QP s.2.2.1 r.2) sig).2):=by
        (rw[Wx (by rw[hA2,Xm (ZV hx18 hla) (by first | exact Xu (cf:=cf) (ct:=ct) (by assumption) (by assumption) (by assumption) (by assumption) (by assumption) (by assumption) | exact YN (cf:=cf) (by assumption) (by assumption) (by assumption) (by assumption) (by assumption) | exact YL (ct:=ct) (by assumption) (by assumption) (by assumption) (by assumption) (by assumption))]; rfl)]; done)
       exact Ql (QC rfl (Qd rfl) (Qd rfl)) (((congrArg (fun z_=>PV.tup [(false,[dS z_]),(false,[dB false])]) e57)).trans (congrArg (fun z_=>PV.tup [(false,[dS ((l5V r.1.length (QP s.2.2.1 r.2) sig).1)]),(false,[dB z_])]) e58)) rfl
    ·have hb23':¬(lb.1=sig):=Zk hb23
     iterate 5 refine w_ ?_
     refine AL.fact (QA (x:= .tmp 56) (Qa rfl)) fun hi59=>lc (Qu (e:= .u8) (Qa rfl) rfl (Qa rfl) QV QS rfl (by omega) (by first | omega | (simp only[List.length_set]; omega))) ?_
     obtain ⟨cf,hx61⟩:∃z,us2[(mv.1).toNat]? =some z:=⟨_,List.getElem?_eq_getElem (by omega)⟩
     refine lc (QL (e:= .u8) (Qa rfl) rfl hx61 rfl QS rfl rfl) ?_
     iterate 5 refine w_ ?_
     refine lc (Z7 (Qa rfl) (ZR 63 rfl) rfl) ?_
     refine w_ ?_
     cases hb62:(decide (cf=63))
     ·have hb62':=of_decide_eq_false hb62
      iterate 5 refine w_ ?_
      refine lc (YW (Qa rfl) (ZR 63 rfl) rfl) ?_
      refine w_ ?_
      have hb63:(!decide (cf=63))=true:=QmO (hb62)
      try rw[hb63]
      iterate 3 refine w_ ?_
      refine lgy rfl rfl (Qu (e:= .u8) (Qa rfl) rfl (Qa rfl) QV QS rfl (by omega) (by first | omega | (simp only[List.length_set]; omega))) ?_
      obtain ⟨ct,hx65⟩:∃z,us2[(mv.2.2).toNat]? =some z:=⟨_,List.getElem?_eq_getElem (by omega)⟩
      refine lgy rfl rfl (QL (e:= .u8) (Qa rfl) rfl hx65 rfl QS rfl rfl)<|lgy rfl rfl (YW (Qa rfl) (ZR 63 rfl) rfl) ?_
      iterate 2 refine w_ ?_
      cases hb66:(!decide (ct=63))
      ·have hb66':(ct=63):=Zb hb66
       iterate 16 refine w_ ?_
       refine lc (Qu (e:= .u8) (Qa rfl) rfl (Qa rfl) QV QS rfl (by omega) (by first | omega | (simp only[List.length_set]; omega)))<|lc (QX (e:= .u8) (z':=cf) (Qa rfl) rfl hx61 rfl (Qb rfl) rfl QS rfl rfl) ?_
       iterate 5 refine w_ ?_
       refine AL.fact (QA (x:= .tmp 92) (Qa rfl)) fun hi67=> ?_
       refine w_ ?_
       refine lc (Qu (e:= .u8) (Qa rfl) rfl (Qa rfl) QV QS rfl (by omega) (by first | omega | (simp only[List.length_set]; omega))) ?_
       obtain ⟨x68,hx69⟩:∃z,(us2.set ((mv.1).toNat) cf)[(mv.2.2).toNat]? =some z:=⟨_,List.getElem?_eq_getElem (by first | omega | (simp only[List.length_set]; omega))⟩
       refine lc (QX (e:= .u8) (z':=cf) (Qa rfl) rfl hx69 rfl (Qb rfl) rfl QS rfl rfl) ?_
       refine w_ ?_
       refine QB ?_
       refine (?_:AC _ _ _ _ _)
       iterate 3 refine w_ ?_
       refine Qk<|QU ⟨i+1,((us2.set ((mv.1).toNat) cf).set ((mv.2.2).toNat) cf),by omega,rfl,hA2.trans (congrArg (Jk sig (QP s.2.2.1 r.2) (r.1.length - p)) (Wm (ZV hx18 hla) (by first | exact XB (cf:=cf) (ct:=ct) (by assumption) (by assumption) (by assumption) (by assumption) | exact Xn (cf:=cf) (ct:=ct) (by assumption) (by assumption) (by assumption) (by assumption) (by first | exact .inl (by assumption) | exact .inr (by assumption)) | exact Xv (cf:=cf) (ct:=ct) (by assumption) (by assumption) (by assumption) (by first | exact .inl (by assumption) | exact .inr (by assumption)) (by first | exact .inl (by assumption) | exact .inr (by assumption)) (by assumption) (by assumption)))),(by simp only[List.length_set]; exact hL2),rfl⟩ (by omega) ?_
       exact Wk.of [(0,0),(1,1),(5,5)] rfl ⟨rfl,rfl,rfl,rfl,rfl,rfl,rfl,rfl,rfl,rfl,rfl,rfl,rfl,rfl,trivial⟩ ⟨rfl,rfl,(Qy (by first | rfl | simp)),trivial⟩ rfl rfl
      ·have hb66':¬(ct=63):=Zk hb66
       iterate 3 refine w_ ?_
       refine lgy rfl rfl (Qu (e:= .u8) (Qa rfl) rfl (Qa rfl) QV QS rfl (by omega) (by first | omega | (simp only[List.length_set]; omega)))<|lgy rfl rfl (QL (e:= .u8) (Qa rfl) rfl hx65 rfl QS rfl rfl) ?_
       iterate 4 refine w_ ?_
       cases hb70:(!decide (ct=cf))
       ·have hb70':(ct=cf):=Zb hb70
        iterate 7 refine w_ ?_
        refine lc (Qu (e:= .u8) (Qa rfl) rfl (Qa rfl) QV QS rfl (by omega) (by first | omega | (simp only[List.length_set]; omega)))<|lc (QX (e:= .u8) (z':=cf) (Qa rfl) rfl hx61 rfl (Qb rfl) rfl QS rfl rfl) ?_
        iterate 5 refine w_ ?_
        refine AL.fact (QA (x:= .tmp 92) (Qa rfl)) fun hi71=> ?_
        refine w_ ?_
        refine lc (Qu (e:= .u8) (Qa rfl) rfl (Qa rfl) QV QS rfl (by omega) (by first | omega | (simp only[List.length_set]; omega))) ?_
        obtain ⟨x72,hx73⟩:∃z,(us2.set ((mv.1).toNat) cf)[(mv.2.2).toNat]? =some z:=⟨_,List.getElem?_eq_getElem (by first | omega | (simp only[List.length_set]; omega))⟩
        refine lc (QX (e:= .u8) (z':=cf) (Qa rfl) rfl hx73 rfl (Qb rfl) rfl QS rfl rfl) ?_
        refine w_ ?_
        refine QB ?_
        refine (?_:AC _ _ _ _ _)
        iterate 3 refine w_ ?_
        refine Qk<|QU ⟨i+1,((us2.set ((mv.1).toNat) cf).set ((mv.2.2).toNat) cf),by omega,rfl,hA2.trans (congrArg (Jk sig (QP s.2.2.1 r.2) (r.1.length - p)) (Wm (ZV hx18 hla) (by first | exact XB (cf:=cf) (ct:=ct) (by assumption) (by assumption) (by assumption) (by assumption) | exact Xn (cf:=cf) (ct:=ct) (by assumption) (by assumption) (by assumption) (by assumption) (by first | exact .inl (by assumption) | exact .inr (by assumption)) | exact Xv (cf:=cf) (ct:=ct) (by assumption) (by assumption) (by assumption) (by first | exact .inl (by assumption) | exact .inr (by assumption)) (by first | exact .inl (by assumption) | exact .inr (by assumption)) (by assumption) (by assumption)))),(by simp only[List.length_set]; exact hL2),rfl⟩ (by omega) ?_
        exact Wk.of [(0,0),(1,1),(5,5)] rfl ⟨rfl,rfl,rfl,rfl,rfl,rfl,rfl,rfl,rfl,rfl,rfl,rfl,rfl,rfl,trivial⟩ ⟨rfl,rfl,(Qy (by first | rfl | simp)),trivial⟩ rfl rfl
       ·have hb70':¬(ct=cf):=Zk hb70
        iterate 5 refine w_ ?_
        refine Qf ?_
        subst hO
        have e74:((⟨#[]⟩:ByteArray):ByteArray)=((l5V r.1.length (QP s.2.2.1 r.2) sig).1):=by
         (rw[Wx (by rw[hA2,Xm (ZV hx18 hla) (by first | exact Xu (cf:=cf) (ct:=ct) (by assumption) (by assumption) (by assumption) (by assumption) (by assumption) (by assumption) | exact YN (cf:=cf) (by assumption) (by assumption) (by assumption) (by assumption) (by assumption) | exact YL (ct:=ct) (by assumption) (by assumption) (by assumption) (by assumption) (by assumption))]; rfl)]; done)
        have e75:(false:Bool)=((l5V r.1.length (QP s.2.2.1 r.2) sig).2):=by
         (rw[Wx (by rw[hA2,Xm (ZV hx18 hla) (by first | exact Xu (cf:=cf) (ct:=ct) (by assumption) (by assumption) (by assumption) (by assumption) (by assumption) (by assumption) | exact YN (cf:=cf) (by assumption) (by assumption) (by assumption) (by assumption) (by assumption) | exact YL (ct:=ct) (by assumption) (by assumption) (by assumption) (by assumption) (by assumption))]; rfl)]; done)
        exact Ql (QC rfl (Qd rfl) (Qd rfl)) (((congrArg (fun z_=>PV.tup [(false,[dS z_]),(false,[dB false])]) e74)).trans (congrArg (fun z_=>PV.tup [(false,[dS ((l5V r.1.length (QP s.2.2.1 r.2) sig).1)]),(false,[dB z_])]) e75)) rfl
     ·have hb62':=of_decide_eq_true hb62
      iterate 5 refine w_ ?_
      refine AL.fact (QA (x:= .tmp 63) (Qa rfl)) fun hi76=>lc (Qu (e:= .u8) (Qa rfl) rfl (Qa rfl) QV QS rfl (by omega) (by first | omega | (simp only[List.length_set]; omega))) ?_
      obtain ⟨ct,hx78⟩:∃z,us2[(mv.2.2).toNat]? =some z:=⟨_,List.getElem?_eq_getElem (by omega)⟩
      refine lc (QL (e:= .u8) (Qa rfl) rfl hx78 rfl QS rfl rfl) ?_
      iterate 5 refine w_ ?_
      refine lc (YW (Qa rfl) (ZR 63 rfl) rfl) ?_
      refine w_ ?_
      cases hb79:(!decide (ct=63))
      ·have hb79':(ct=63):=Zb hb79
       iterate 24 refine w_ ?_
       refine lc (Qu (e:= .u8) (Qa rfl) rfl (Qa rfl) QV QS rfl (by omega) (by first | omega | (simp only[List.length_set]; omega)))<|lc (QX (e:= .u8) (z':=ct) (Qa rfl) rfl hx61 rfl (Qb rfl) rfl QS rfl rfl) ?_
       iterate 6 refine w_ ?_
       refine lc (Qu (e:= .u8) (Qa rfl) rfl (Qa rfl) QV QS rfl (by omega) (by first | omega | (simp only[List.length_set]; omega))) ?_
       obtain ⟨x80,hx81⟩:∃z,(us2.set ((mv.1).toNat) ct)[(mv.2.2).toNat]? =some z:=⟨_,List.getElem?_eq_getElem (by first | omega | (simp only[List.length_set]; omega))⟩
       refine lc (QX (e:= .u8) (z':=ct) (Qa rfl) rfl hx81 rfl (Qb rfl) rfl QS rfl rfl) ?_
       refine w_ ?_
       refine QB ?_
       refine (?_:AC _ _ _ _ _)
       iterate 3 refine w_ ?_
       refine Qk<|QU ⟨i+1,((us2.set ((mv.1).toNat) ct).set ((mv.2.2).toNat) ct),by omega,rfl,hA2.trans (congrArg (Jk sig (QP s.2.2.1 r.2) (r.1.length - p)) (Wm (ZV hx18 hla) (by first | exact XB (cf:=cf) (ct:=ct) (by assumption) (by assumption) (by assumption) (by assumption) | exact Xn (cf:=cf) (ct:=ct) (by assumption) (by assumption) (by assumption) (by assumption) (by first | exact .inl (by assumption) | exact .inr (by assumption)) | exact Xv (cf:=cf) (ct:=ct) (by assumption) (by assumption) (by assumption) (by first | exact .inl (by assumption) | exact .inr (by assumption)) (by first | exact .inl (by assumption) | exact .inr (by assumption)) (by assumption) (by assumption)))),(by simp only[List.length_set]; exact hL2),rfl⟩ (by omega) ?_
       exact Wk.of [(0,0),(1,1),(5,5)] rfl ⟨rfl,rfl,rfl,rfl,rfl,rfl,rfl,rfl,rfl,rfl,rfl,rfl,rfl,rfl,trivial⟩ ⟨rfl,rfl,(Qy (by first | rfl | simp)),trivial⟩ rfl rfl
      ·have hb79':¬(ct=63):=Zk hb79
       iterate 3 refine w_ ?_
       refine lgy rfl rfl (Qu (e:= .u8) (Qa rfl) rfl (Qa rfl) QV QS rfl (by omega) (by first | omega | (simp only[List.length_set]; omega)))<|lgy rfl rfl (QL (e:= .u8) (Qa rfl) rfl hx78 rfl QS rfl rfl)<|lgy rfl rfl (YW (Qa rfl) (ZR 63 rfl) rfl) ?_
       iterate 2 refine w_ ?_
       have hb82:(!decide (ct=63))=true:=QmO (Qo7 hb79)
       try rw[hb82]
       iterate 3 refine w_ ?_
       refine lgy rfl rfl (Qu (e:= .u8) (Qa rfl) rfl (Qa rfl) QV QS rfl (by omega) (by first | omega | (simp only[List.length_set]; omega)))<|lgy rfl rfl (QL (e:= .u8) (Qa rfl) rfl hx78 rfl QS rfl rfl) ?_
       iterate 4 refine w_ ?_
       have hb83:(!decide (ct=ct))=false:=QmO (decide_eq_true rfl)
       have hb83':(ct=ct):=Zb hb83
       try rw[hb83]
       iterate 7 refine w_ ?_
       refine lc (Qu (e:= .u8) (Qa rfl) rfl (Qa rfl) QV QS rfl (by omega) (by first | omega | (simp only[List.length_set]; omega)))<|lc (QX (e:= .u8) (z':=ct) (Qa rfl) rfl hx61 rfl (Qb rfl) rfl QS rfl rfl) ?_
       iterate 6 refine w_ ?_
       refine lc (Qu (e:= .u8) (Qa rfl) rfl (Qa rfl) QV QS rfl (by omega) (by first | omega | (simp only[List.length_set]; omega))) ?_
       obtain ⟨x84,hx85⟩:∃z,(us2.set ((mv.1).toNat) ct)[(mv.2.2).toNat]? =some z:=⟨_,List.getElem?_eq_getElem (by first | omega | (simp only[List.length_set]; omega))⟩
       refine lc (QX (e:= .u8) (z':=ct) (Qa rfl) rfl hx85 rfl (Qb rfl) rfl QS rfl rfl) ?_
       refine w_ ?_
       refine QB ?_
       refine (?_:AC _ _ _ _ _)
       iterate 3 refine w_ ?_
       refine Qk<|QU ⟨i+1,((us2.set ((mv.1).toNat) ct).set ((mv.2.2).toNat) ct),by omega,rfl,hA2.trans (congrArg (Jk sig (QP s.2.2.1 r.2) (r.1.length - p)) (Wm (ZV hx18 hla) (by first | exact XB (cf:=cf) (ct:=ct) (by assumption) (by assumption) (by assumption) (by assumption) | exact Xn (cf:=cf) (ct:=ct) (by assumption) (by assumption) (by assumption) (by assumption) (by first | exact .inl (by assumption) | exact .inr (by assumption)) | exact Xv (cf:=cf) (ct:=ct) (by assumption) (by assumption) (by assumption) (by first | exact .inl (by assumption) | exact .inr (by assumption)) (by first | exact .inl (by assumption) | exact .inr (by assumption)) (by assumption) (by assumption)))),(by simp only[List.length_set]; exact hL2),rfl⟩ (by omega) ?_
       exact Wk.of [(0,0),(1,1),(5,5)] rfl ⟨rfl,rfl,rfl,rfl,rfl,rfl,rfl,rfl,rfl,rfl,rfl,rfl,rfl,rfl,trivial⟩ ⟨rfl,rfl,(Qy (by first | rfl | simp)),trivial⟩ rfl rfl
 ·have hb6':=of_decide_eq_true hb6
  iterate 11 refine w_ ?_
  refine lc (Qu (e:= .u8) (Qa rfl) rfl (Qa rfl) QV QS rfl (by omega) (by first | omega | (simp only[List.length_set]; omega))) ?_
  obtain ⟨x86,hx87⟩:∃z,(Jp r.1.length k)[k]? =some z:=⟨_,List.getElem?_eq_getElem (by omega)⟩
  refine lc (QX (e:= .u8) (z':=63) (Qa rfl) rfl hx87 rfl (Evl.ev (ZR 63 rfl)) rfl QS rfl rfl)<|Qk ?_
  refine (?_:AC _ _ _ _ _)
  iterate 3 refine w_ ?_
  refine Qk<|QU ⟨k+1,by omega,rfl,rfl⟩ (by omega) ?_
  exact Wk.of [(0,0),(1,1),(3,3)] rfl ⟨rfl,rfl,rfl,rfl,rfl,rfl,rfl,rfl,trivial⟩ ⟨rfl,rfl,(Qy (QkC (by omega))),trivial⟩ rfl rfl
theorem QaR (s:(Int×(List (List Int×List Int)))×(List (ByteArray×Int))×(List (Int×Bool))×ByteArray)(r:List ByteArray×(List (Int×Int×Int)))(hm:∀m∈r.2,MvOk r.1.length s.2.2.1.length m)(hl1:r.1.length≤1000000)(hl2:s.2.1.length≤1000000):FC Tryz.prog 226 [(true,[dI s.1.1, .dat (.sl 159 (.pr (.sl 3 .int) (.sl 3 .int))) s.1.2, .dat (.sl 145 (.pr .str .int)) s.2.1, .dat (.sl 61 (.pr .int .bool)) s.2.2.1,dS s.2.2.2]),(true,[.dat (.sl 9 .str) r.1, .dat (.sl 226 (.pr .int (.pr .int .int))) r.2])] [] 0 (UC 3 .int (XN r.1.length (QP s.2.2.1 r.2) s.2.1.length)):=by
 refine QN Tryz.func226 rfl rfl Tryz.ntmps226 fun O_ hO w0_ N0_ X_ h0_ f0_=> ?_
 refine AC.fact (QG (x:= .tmp 0) (i:=0) (Qb rfl) rfl) fun hi1=> ?_
 refine w_ ?_
 refine lc (Qw 0 (Qb rfl) rfl rfl (Fresh.of rfl) (nlr rfl))<|lc (Qw 1 (Qb rfl) rfl rfl (Fresh.of rfl) (nlr rfl)) ?_
 iterate 9 refine w_ ?_
 refine AL.fact (Qq (x:= .tmp 10) (Qa rfl)) fun hl2=> ?_
 iterate 4 refine w_ ?_
 refine AC.wk (Wk.nilS 2 5 3 .int rfl (Fresh.of rfl) (nlr rfl)) ?_
 refine Qx (fun m_ s_=>∃(k:Nat),k≤s.2.1.length∧m_=s.2.1.length - k∧s_=⟨[(2,lP 0 0),(3,lP 1 0),(4,lf (.val (.slice none 0 0))),(5,lR 3),(11,lI (s.2.1.length:Int)),(12,lI (k:Int))],[(0,some (.box 39 [dI s.1.1, .dat (.sl 159 (.pr (.sl 3 .int) (.sl 3 .int))) s.1.2, .dat (.sl 145 (.pr .str .int)) s.2.1, .dat (.sl 61 (.pr .int .bool)) s.2.2.1,dS s.2.2.2])),(1,some (.box 98 [.dat (.sl 9 .str) r.1, .dat (.sl 226 (.pr .int (.pr .int .int))) r.2])),(3,some (.arr 3 .int (XN r.1.length (QP s.2.2.1 r.2) k)))]⟩) ⟨0,Nat.zero_le _,rfl,rfl⟩ ?_ ?_
 · exact Wk.of [(0,0),(1,1),(3,2)] rfl ⟨rfl,rfl,rfl,rfl,rfl,rfl,trivial⟩ ⟨rfl,rfl,(Qy (by first | rfl | simp)),trivial⟩ rfl rfl
 rintro m_ s_ ⟨k,hk3,hm4,rfl⟩
 have hcl:=Qky r.1.length (QP s.2.2.1 r.2) k
 iterate 4 refine w_ ?_
 cases hb5:(decide ((k:Int) < (s.2.1.length:Int)))
 ·have hb5':=of_decide_eq_false hb5
  refine w_ ?_
  refine QB ?_
  refine (?_:AC _ _ _ _ _)
  iterate 4 refine w_ ?_
  refine Qf ?_
  subst hO
  refine ZU (e:= .int) (xs:=(XN r.1.length (QP s.2.2.1 r.2) k)) (Qm rfl (Qd rfl)) rfl ?_
  rw[show k=s.2.1.length by omega]
 ·have hb5':=of_decide_eq_true hb5
  iterate 12 refine w_ ?_
  refine lc (Qn (Uo s r (k:Int) hm hl1) QcQ ⟨_,_,rfl,(Qb rfl),⟨_,_,rfl,(Qb rfl),⟨_,_,rfl,(Qb rfl),rfl⟩⟩⟩ rfl rfl) ?_
  iterate 10 refine w_ ?_
  cases hb6:((l5V r.1.length (QP s.2.2.1 r.2) (k:Int)).2)
  ·iterate 4 refine w_ ?_
   refine lc (Qg 4 (e:= .int) QE QO Yf rfl ⟨_,_,rfl,(Qb rfl),rfl⟩ (List.all_eq_true.1 rfl) ⟨_,_,_,_,rfl,⟨rfl,rfl⟩,⟨rfl,rfl⟩,rfl⟩ (by decide) rfl rfl (Fresh.of rfl) (nlr rfl))<|lc (QQ 5 (Qa rfl) rfl (Qa rfl) rfl rfl QE VB (by first | omega | (simp only[List.length_append,List.length_map,List.length_take,List.length_cons,List.length_nil]; omega) | (simp only[List.length_append,List.length_drop,List.length_take,List.length_cons,List.length_nil]; omega)) rfl (Fresh.of rfl) (nlr rfl)) ?_
   refine w_ ?_
   refine Qk ?_
   refine (?_:AC _ _ _ _ _)
   iterate 3 refine w_ ?_
   refine Qk<|QU ⟨k+1,by omega,rfl,rfl⟩ (by omega) ?_
   exact Wk.of [(0,0),(1,1),(3,5)] rfl ⟨rfl,rfl,rfl,rfl,rfl,rfl,trivial⟩ ⟨rfl,rfl,(Qy (by first | exact Qet (by assumption) | exact QgY (by assumption))),trivial⟩ rfl rfl
  ·refine w_ ?_
   refine AC.skip ?_
   refine (?_:AC _ _ _ _ _)
   iterate 3 refine w_ ?_
   refine Qk<|QU ⟨k+1,by omega,rfl,rfl⟩ (by omega) ?_
   exact Wk.of [(0,0),(1,1),(3,3)] rfl ⟨rfl,rfl,rfl,rfl,rfl,rfl,trivial⟩ ⟨rfl,rfl,(Qy (by first | exact Qet (by assumption) | exact QgY (by assumption))),trivial⟩ rfl rfl
end Go.Proofs.YtnakmhfjafecpaaGreat
