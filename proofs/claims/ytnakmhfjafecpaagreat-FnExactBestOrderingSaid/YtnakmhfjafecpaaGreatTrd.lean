/- What each 'eq..' returns of equal data: true. -/
import Derived.Test.YtnakmhfjafecpaaGreatTo
import Derived.Test.YtnakmhfjafecpaaGreatOwn
import Derived.StillTailTactics
import Derived.Test.YtnakmhfjafecpaaGreatProg
import Derived.KernelRfl
set_option linter.unusedSimpArgs false
set_option linter.unusedVariables false
set_option linter.unusedSectionVars false
namespace Go.Proofs.YtnakmhfjafecpaaGreat
set_option maxHeartbeats 4000000
set_option maxRecDepth 100000
open Go.RowKit
def XM (w:World)(e:Ending)(w':World):Prop:=e= .returned (.bool true)∧Nw w w'
theorem QdE (v0 v1 u0 u1:Value)(x:Zc)(w:World)(hr:Rep ZL w [v0,v1] x)(hs:Rep ZL w [u0,u1] x):
    Calls Tryz.prog 119 #[.agg #[v0,v1], .agg #[u0,u1]] w (XM w):=by
  obtain ⟨x0,x1⟩:=x
  obtain ⟨r0,q0⟩:=hr.pr1 rfl
  have r1:=q0
  obtain ⟨rfl,hs0⟩:=r0.str_
  have hs0:x0.size≤9223372036854775807:=hs0
  obtain ⟨rfl,hi1a,hi1b⟩:=r1.int_
  obtain ⟨s0,p0⟩:=hs.pr1 rfl
  have s1:=p0
  obtain ⟨rfl, -⟩:=s0.str_
  obtain ⟨rfl, -⟩:=s1.int_
  go_enter Tryz.func119,Tryz.ntmps119
  go_wp2
  go_ret
  exact ⟨rfl,by (repeat (first | with_reducible exact Qs _ | with_reducible assumption | with_reducible apply Nw.alloc | with_reducible apply Nw.drew | with_reducible apply Nw.drewN | (with_reducible refine Qo ?_ ?_; focus (first | (simp; done) | (simp; omega))) | with_reducible refine Qz (by assumption) ?_))⟩
theorem Qc6 (v u:Value)(xs:List (Zc))(w:World)(hr:Rep (.sl 145 ZL) w [v] xs)(hs:Rep (.sl 145 ZL) w [u] xs):
    Calls Tryz.prog 60 #[v,u] w (XM w):=by
  obtain ⟨A,c,rfl,hl,hc⟩:=hr.slv
  obtain ⟨A',c',rfl,hl',hc'⟩:=hs.slv
  have hm:xs.length≤9223372036854775807:=by unfold maxLen at hc; omega
  go_enter Tryz.func60,Tryz.ntmps60
  go_wp2
  go_loopw [5] (fun i wr=>∃k:Nat,k≤xs.length∧i= .int .i64 k∧Nw w wr) (fun i _=>xs.length - (intOf i).toNat)
  case atStart=>exact ⟨0,Nat.zero_le _,rfl,Qs _⟩
  case round=>
    obtain ⟨k,hk,rfl,hq⟩:=hrel
    by_cases hlt:k < xs.length
    · obtain ⟨b, o, v0, v1, rfl, hx, c0, c1⟩ := (hr.nw hq).at2 rfl (List.getElem?_eq_getElem hlt)
      obtain ⟨b',o',u0,u1,rfl,hy,d0,d1⟩:=(hs.nw hq).at2 rfl (List.getElem?_eq_getElem hlt)
      have hi0:(0:Int)≤k:=by omega
      have hi1:(k:Int) < xs.length:=by omega
      go_wp2_with fail
      go_still_tail 8,(by kernel_rfl)
      change wpList _ _ _ _ _ wr.drew
      go_wp2_with (go_at_call 119; refine (QdE _ _ _ _ _ _ (by exact hx.drew) (by exact hy.drew)).mono ?_; rintro e w1 ⟨rfl,hq1⟩)
      go_roundw
      case rel=>exact ⟨k+1,by omega,by go_num,hq.drew.trans hq1⟩
      case measure=>simp[intOf]; omega
    · go_wp2
      go_ret
      exact ⟨rfl,hq⟩
theorem QgW (v u:Value)(xs:List (Int))(w:World)(hr:Rep (.sl 3 .int) w [v] xs)(hs:Rep (.sl 3 .int) w [u] xs):
    Calls Tryz.prog 58 #[v,u] w (XM w):=by
  obtain ⟨A,c,rfl,hl,hc⟩:=hr.slv
  obtain ⟨A',c',rfl,hl',hc'⟩:=hs.slv
  have hm:xs.length≤9223372036854775807:=by unfold maxLen at hc; omega
  go_enter Tryz.func58,Tryz.ntmps58
  go_wp2
  go_loopw [5] (fun i wr=>∃k:Nat,k≤xs.length∧i= .int .i64 k∧Nw w wr) (fun i _=>xs.length - (intOf i).toNat)
  case atStart=>exact ⟨0,Nat.zero_le _,rfl,Qs _⟩
  case round=>
    obtain ⟨k,hk,rfl,hq⟩:=hrel
    by_cases hlt:k < xs.length
    · obtain ⟨b, o, v0, rfl, hx, c0⟩ := (hr.nw hq).at1 rfl (List.getElem?_eq_getElem hlt)
      obtain ⟨b',o',u0,rfl,hy,d0⟩:=(hs.nw hq).at1 rfl (List.getElem?_eq_getElem hlt)
      obtain ⟨rfl, -⟩:=hx.int_
      obtain ⟨rfl, -⟩:=hy.int_
      have hi0:(0:Int)≤k:=by omega
      have hi1:(k:Int) < xs.length:=by omega
      go_wp2_with fail
      go_quiet (fail)
      go_wp2
      go_roundw
      case rel=>exact ⟨k+1,by omega,by go_num,hq.drewN _⟩
      case measure=>simp[intOf]; omega
    · go_wp2
      go_ret
      exact ⟨rfl,hq⟩
theorem J7 (v0 v1 u0 u1:Value)(x:QJ)(w:World)(hr:Rep QT w [v0,v1] x)(hs:Rep QT w [u0,u1] x):
    Calls Tryz.prog 194 #[.agg #[v0,v1], .agg #[u0,u1]] w (XM w):=by
  obtain ⟨x0,x1⟩:=x
  obtain ⟨r0,q0⟩:=hr.pr1 rfl
  have r1:=q0
  obtain ⟨s0,p0⟩:=hs.pr1 rfl
  have s1:=p0
  go_enter Tryz.func194,Tryz.ntmps194
  go_wp2_with (first | (go_at_call 58; refine (QgW _ _ _ _ (by first | exact r0.nw (by (repeat (first | with_reducible exact Qs _ | with_reducible assumption | with_reducible apply Nw.alloc | with_reducible apply Nw.drew | with_reducible apply Nw.drewN | (with_reducible refine Qo ?_ ?_; focus (first | (simp; done) | (simp; omega))) | with_reducible refine Qz (by assumption) ?_))) | exact r1.nw (by (repeat (first | with_reducible exact Qs _ | with_reducible assumption | with_reducible apply Nw.alloc | with_reducible apply Nw.drew | with_reducible apply Nw.drewN | (with_reducible refine Qo ?_ ?_; focus (first | (simp; done) | (simp; omega))) | with_reducible refine Qz (by assumption) ?_)))) (by first | exact s0.nw (by (repeat (first | with_reducible exact Qs _ | with_reducible assumption | with_reducible apply Nw.alloc | with_reducible apply Nw.drew | with_reducible apply Nw.drewN | (with_reducible refine Qo ?_ ?_; focus (first | (simp; done) | (simp; omega))) | with_reducible refine Qz (by assumption) ?_))) | exact s1.nw (by (repeat (first | with_reducible exact Qs _ | with_reducible assumption | with_reducible apply Nw.alloc | with_reducible apply Nw.drew | with_reducible apply Nw.drewN | (with_reducible refine Qo ?_ ?_; focus (first | (simp; done) | (simp; omega))) | with_reducible refine Qz (by assumption) ?_))))).mono ?_; rintro e w1 ⟨rfl,hq1⟩; obtain ⟨hc1,hf1⟩:=hq1.cells; have hz1:w.heap.size < w1.heap.size∧w.heap.size+1 < w1.heap.size:=(by (have hz2:=hq1.size; (try simp at hz2); omega)); obtain ⟨hz1,hz3⟩:=hz1; have hq1:Nw w w1:=(by (repeat (first | with_reducible exact Qs _ | with_reducible assumption | with_reducible apply Nw.alloc | with_reducible apply Nw.drew | with_reducible apply Nw.drewN | (with_reducible refine Qo ?_ ?_; focus (first | (simp; done) | (simp; omega))) | with_reducible refine Qz (by assumption) ?_)))))
  go_ret
  exact ⟨rfl,by (repeat (first | with_reducible exact Qs _ | with_reducible assumption | with_reducible apply Nw.alloc | with_reducible apply Nw.drew | with_reducible apply Nw.drewN | (with_reducible refine Qo ?_ ?_; focus (first | (simp; done) | (simp; omega))) | with_reducible refine Qz (by assumption) ?_))⟩
theorem JF (v u:Value)(xs:List (QJ))(w:World)(hr:Rep (.sl 159 QT) w [v] xs)(hs:Rep (.sl 159 QT) w [u] xs):
    Calls Tryz.prog 118 #[v,u] w (XM w):=by
  obtain ⟨A,c,rfl,hl,hc⟩:=hr.slv
  obtain ⟨A',c',rfl,hl',hc'⟩:=hs.slv
  have hm:xs.length≤9223372036854775807:=by unfold maxLen at hc; omega
  go_enter Tryz.func118,Tryz.ntmps118
  go_wp2
  go_loopw [5] (fun i wr=>∃k:Nat,k≤xs.length∧i= .int .i64 k∧Nw w wr) (fun i _=>xs.length - (intOf i).toNat)
  case atStart=>exact ⟨0,Nat.zero_le _,rfl,Qs _⟩
  case round=>
    obtain ⟨k,hk,rfl,hq⟩:=hrel
    by_cases hlt:k < xs.length
    · obtain ⟨b, o, v0, v1, rfl, hx, c0, c1⟩ := (hr.nw hq).at2 rfl (List.getElem?_eq_getElem hlt)
      obtain ⟨b',o',u0,u1,rfl,hy,d0,d1⟩:=(hs.nw hq).at2 rfl (List.getElem?_eq_getElem hlt)
      have hi0:(0:Int)≤k:=by omega
      have hi1:(k:Int) < xs.length:=by omega
      go_wp2_with fail
      go_still_tail 8,(by kernel_rfl)
      change wpList _ _ _ _ _ wr.drew
      go_wp2_with (go_at_call 194; refine (J7 _ _ _ _ _ _ (by exact hx.drew) (by exact hy.drew)).mono ?_; rintro e w1 ⟨rfl,hq1⟩)
      go_roundw
      case rel=>exact ⟨k+1,by omega,by go_num,hq.drew.trans hq1⟩
      case measure=>simp[intOf]; omega
    · go_wp2
      go_ret
      exact ⟨rfl,hq⟩
theorem Qiy (v0 v1 u0 u1:Value)(x:Y0)(w:World)(hr:Rep VK w [v0,v1] x)(hs:Rep VK w [u0,u1] x):
    Calls Tryz.prog 59 #[.agg #[v0,v1], .agg #[u0,u1]] w (XM w):=by
  obtain ⟨x0,x1⟩:=x
  obtain ⟨r0,q0⟩:=hr.pr1 rfl
  have r1:=q0
  obtain ⟨rfl,hi0a,hi0b⟩:=r0.int_
  obtain ⟨s0,p0⟩:=hs.pr1 rfl
  have s1:=p0
  obtain ⟨rfl, -⟩:=s0.int_
  go_enter Tryz.func59,Tryz.ntmps59
  go_wp2_with (first | (go_at_call 118; refine (JF _ _ _ _ (by first | exact r1.nw (by (repeat (first | with_reducible exact Qs _ | with_reducible assumption | with_reducible apply Nw.alloc | with_reducible apply Nw.drew | with_reducible apply Nw.drewN | (with_reducible refine Qo ?_ ?_; focus (first | (simp; done) | (simp; omega))) | with_reducible refine Qz (by assumption) ?_)))) (by first | exact s1.nw (by (repeat (first | with_reducible exact Qs _ | with_reducible assumption | with_reducible apply Nw.alloc | with_reducible apply Nw.drew | with_reducible apply Nw.drewN | (with_reducible refine Qo ?_ ?_; focus (first | (simp; done) | (simp; omega))) | with_reducible refine Qz (by assumption) ?_))))).mono ?_; rintro e w1 ⟨rfl,hq1⟩; obtain ⟨hc1,hf1⟩:=hq1.cells; have hz1:w.heap.size < w1.heap.size∧w.heap.size+1 < w1.heap.size:=(by (have hz2:=hq1.size; (try simp at hz2); omega)); obtain ⟨hz1,hz3⟩:=hz1; have hq1:Nw w w1:=(by (repeat (first | with_reducible exact Qs _ | with_reducible assumption | with_reducible apply Nw.alloc | with_reducible apply Nw.drew | with_reducible apply Nw.drewN | (with_reducible refine Qo ?_ ?_; focus (first | (simp; done) | (simp; omega))) | with_reducible refine Qz (by assumption) ?_)))))
  go_ret
  exact ⟨rfl,by (repeat (first | with_reducible exact Qs _ | with_reducible assumption | with_reducible apply Nw.alloc | with_reducible apply Nw.drew | with_reducible apply Nw.drewN | (with_reducible refine Qo ?_ ?_; focus (first | (simp; done) | (simp; omega))) | with_reducible refine Qz (by assumption) ?_))⟩
theorem QeT (v0 v1 u0 u1:Value)(x:Zn)(w:World)(hr:Rep Yl w [v0,v1] x)(hs:Rep Yl w [u0,u1] x):
    Calls Tryz.prog 84 #[.agg #[v0,v1], .agg #[u0,u1]] w (XM w):=by
  obtain ⟨x0,x1⟩:=x
  obtain ⟨r0,q0⟩:=hr.pr1 rfl
  have r1:=q0
  obtain ⟨rfl,hi0a,hi0b⟩:=r0.int_
  obtain rfl:=r1.bool_
  obtain ⟨s0,p0⟩:=hs.pr1 rfl
  have s1:=p0
  obtain ⟨rfl, -⟩:=s0.int_
  obtain rfl:=s1.bool_
  go_enter Tryz.func84,Tryz.ntmps84
  go_wp2
  go_ret
  exact ⟨rfl,by (repeat (first | with_reducible exact Qs _ | with_reducible assumption | with_reducible apply Nw.alloc | with_reducible apply Nw.drew | with_reducible apply Nw.drewN | (with_reducible refine Qo ?_ ?_; focus (first | (simp; done) | (simp; omega))) | with_reducible refine Qz (by assumption) ?_))⟩
theorem Qdl (v u:Value)(xs:List (Zn))(w:World)(hr:Rep (.sl 61 Yl) w [v] xs)(hs:Rep (.sl 61 Yl) w [u] xs):
    Calls Tryz.prog 61 #[v,u] w (XM w):=by
  obtain ⟨A,c,rfl,hl,hc⟩:=hr.slv
  obtain ⟨A',c',rfl,hl',hc'⟩:=hs.slv
  have hm:xs.length≤9223372036854775807:=by unfold maxLen at hc; omega
  go_enter Tryz.func61,Tryz.ntmps61
  go_wp2
  go_loopw [5] (fun i wr=>∃k:Nat,k≤xs.length∧i= .int .i64 k∧Nw w wr) (fun i _=>xs.length - (intOf i).toNat)
  case atStart=>exact ⟨0,Nat.zero_le _,rfl,Qs _⟩
  case round=>
    obtain ⟨k,hk,rfl,hq⟩:=hrel
    by_cases hlt:k < xs.length
    · obtain ⟨b, o, v0, v1, rfl, hx, c0, c1⟩ := (hr.nw hq).at2 rfl (List.getElem?_eq_getElem hlt)
      obtain ⟨b',o',u0,u1,rfl,hy,d0,d1⟩:=(hs.nw hq).at2 rfl (List.getElem?_eq_getElem hlt)
      have hi0:(0:Int)≤k:=by omega
      have hi1:(k:Int) < xs.length:=by omega
      go_wp2_with fail
      go_still_tail 8,(by kernel_rfl)
      change wpList _ _ _ _ _ wr.drew
      go_wp2_with (go_at_call 84; refine (QeT _ _ _ _ _ _ (by exact hx.drew) (by exact hy.drew)).mono ?_; rintro e w1 ⟨rfl,hq1⟩)
      go_roundw
      case rel=>exact ⟨k+1,by omega,by go_num,hq.drew.trans hq1⟩
      case measure=>simp[intOf]; omega
    · go_wp2
      go_ret
      exact ⟨rfl,hq⟩
theorem Qin (v0 v1 v2 v3 v4 u0 u1 u2 u3 u4:Value)(x:Q5)(w:World)(hr:Rep Y8 w [v0,v1,v2,v3,v4] x)(hs:Rep Y8 w [u0,u1,u2,u3,u4] x):
    Calls Tryz.prog 16 #[.agg #[v0,v1,v2,v3,v4], .agg #[u0,u1,u2,u3,u4]] w (XM w):=by
  obtain ⟨x0,x1,x2,x3⟩:=x
  obtain ⟨r0,q0⟩:=hr.pr2 rfl
  obtain ⟨r1,q1⟩:=q0.pr1 rfl
  obtain ⟨r2,q2⟩:=q1.pr1 rfl
  have r3:=q2
  obtain ⟨rfl,hs3⟩:=r3.str_
  have hs3:x3.size≤9223372036854775807:=hs3
  obtain ⟨s0,p0⟩:=hs.pr2 rfl
  obtain ⟨s1,p1⟩:=p0.pr1 rfl
  obtain ⟨s2,p2⟩:=p1.pr1 rfl
  have s3:=p2
  obtain ⟨rfl, -⟩:=s3.str_
  go_enter Tryz.func16,Tryz.ntmps16
  go_wp2_with (first | (go_at_call 59; refine (Qiy _ _ _ _ _ _ (by first | exact r0.nw (by (repeat (first | with_reducible exact Qs _ | with_reducible assumption | with_reducible apply Nw.alloc | with_reducible apply Nw.drew | with_reducible apply Nw.drewN | (with_reducible refine Qo ?_ ?_; focus (first | (simp; done) | (simp; omega))) | with_reducible refine Qz (by assumption) ?_)))) (by first | exact s0.nw (by (repeat (first | with_reducible exact Qs _ | with_reducible assumption | with_reducible apply Nw.alloc | with_reducible apply Nw.drew | with_reducible apply Nw.drewN | (with_reducible refine Qo ?_ ?_; focus (first | (simp; done) | (simp; omega))) | with_reducible refine Qz (by assumption) ?_))))).mono ?_; rintro e w1 ⟨rfl,hq1⟩; obtain ⟨hc1,hf1⟩:=hq1.cells; have hz1:w.heap.size < w1.heap.size∧w.heap.size+1 < w1.heap.size:=(by (have hz2:=hq1.size; (try simp at hz2); omega)); obtain ⟨hz1,hz3⟩:=hz1; have hq1:Nw w w1:=(by (repeat (first | with_reducible exact Qs _ | with_reducible assumption | with_reducible apply Nw.alloc | with_reducible apply Nw.drew | with_reducible apply Nw.drewN | (with_reducible refine Qo ?_ ?_; focus (first | (simp; done) | (simp; omega))) | with_reducible refine Qz (by assumption) ?_)))) | (go_at_call 60; refine (Qc6 _ _ _ _ (by first | exact r1.nw (by (repeat (first | with_reducible exact Qs _ | with_reducible assumption | with_reducible apply Nw.alloc | with_reducible apply Nw.drew | with_reducible apply Nw.drewN | (with_reducible refine Qo ?_ ?_; focus (first | (simp; done) | (simp; omega))) | with_reducible refine Qz (by assumption) ?_)))) (by first | exact s1.nw (by (repeat (first | with_reducible exact Qs _ | with_reducible assumption | with_reducible apply Nw.alloc | with_reducible apply Nw.drew | with_reducible apply Nw.drewN | (with_reducible refine Qo ?_ ?_; focus (first | (simp; done) | (simp; omega))) | with_reducible refine Qz (by assumption) ?_))))).mono ?_; rintro e w1 ⟨rfl,hq1⟩; obtain ⟨hc1,hf1⟩:=hq1.cells; have hz1:w.heap.size < w1.heap.size∧w.heap.size+1 < w1.heap.size:=(by (have hz2:=hq1.size; (try simp at hz2); omega)); obtain ⟨hz1,hz3⟩:=hz1; have hq1:Nw w w1:=(by (repeat (first | with_reducible exact Qs _ | with_reducible assumption | with_reducible apply Nw.alloc | with_reducible apply Nw.drew | with_reducible apply Nw.drewN | (with_reducible refine Qo ?_ ?_; focus (first | (simp; done) | (simp; omega))) | with_reducible refine Qz (by assumption) ?_)))) | (go_at_call 61; refine (Qdl _ _ _ _ (by first | exact r2.nw (by (repeat (first | with_reducible exact Qs _ | with_reducible assumption | with_reducible apply Nw.alloc | with_reducible apply Nw.drew | with_reducible apply Nw.drewN | (with_reducible refine Qo ?_ ?_; focus (first | (simp; done) | (simp; omega))) | with_reducible refine Qz (by assumption) ?_)))) (by first | exact s2.nw (by (repeat (first | with_reducible exact Qs _ | with_reducible assumption | with_reducible apply Nw.alloc | with_reducible apply Nw.drew | with_reducible apply Nw.drewN | (with_reducible refine Qo ?_ ?_; focus (first | (simp; done) | (simp; omega))) | with_reducible refine Qz (by assumption) ?_))))).mono ?_; rintro e w1 ⟨rfl,hq1⟩; obtain ⟨hc1,hf1⟩:=hq1.cells; have hz1:w.heap.size < w1.heap.size∧w.heap.size+1 < w1.heap.size:=(by (have hz2:=hq1.size; (try simp at hz2); omega)); obtain ⟨hz1,hz3⟩:=hz1; have hq1:Nw w w1:=(by (repeat (first | with_reducible exact Qs _ | with_reducible assumption | with_reducible apply Nw.alloc | with_reducible apply Nw.drew | with_reducible apply Nw.drewN | (with_reducible refine Qo ?_ ?_; focus (first | (simp; done) | (simp; omega))) | with_reducible refine Qz (by assumption) ?_)))))
  go_ret
  exact ⟨rfl,by (repeat (first | with_reducible exact Qs _ | with_reducible assumption | with_reducible apply Nw.alloc | with_reducible apply Nw.drew | with_reducible apply Nw.drewN | (with_reducible refine Qo ?_ ?_; focus (first | (simp; done) | (simp; omega))) | with_reducible refine Qz (by assumption) ?_))⟩
theorem QaQ (v0 v1 v2 u0 u1 u2:Value)(x:QD)(w:World)(hr:Rep XZ w [v0,v1,v2] x)(hs:Rep XZ w [u0,u1,u2] x):
    Calls Tryz.prog 45 #[.agg #[v0,v1,v2], .agg #[u0,u1,u2]] w (XM w):=by
  obtain ⟨x0,x1,x2⟩:=x
  obtain ⟨r0,q0⟩:=hr.pr1 rfl
  obtain ⟨r1,q1⟩:=q0.pr1 rfl
  have r2:=q1
  obtain ⟨rfl,hi0a,hi0b⟩:=r0.int_
  obtain ⟨rfl,hi1a,hi1b⟩:=r1.int_
  obtain rfl:=r2.bool_
  obtain ⟨s0,p0⟩:=hs.pr1 rfl
  obtain ⟨s1,p1⟩:=p0.pr1 rfl
  have s2:=p1
  obtain ⟨rfl, -⟩:=s0.int_
  obtain ⟨rfl, -⟩:=s1.int_
  obtain rfl:=s2.bool_
  go_enter Tryz.func45,Tryz.ntmps45
  go_wp2
  go_ret
  exact ⟨rfl,by (repeat (first | with_reducible exact Qs _ | with_reducible assumption | with_reducible apply Nw.alloc | with_reducible apply Nw.drew | with_reducible apply Nw.drewN | (with_reducible refine Qo ?_ ?_; focus (first | (simp; done) | (simp; omega))) | with_reducible refine Qz (by assumption) ?_))⟩
end Go.Proofs.YtnakmhfjafecpaaGreat
namespace Go.Proofs.YtnakmhfjafecpaaGreat
set_option maxHeartbeats 4000000
set_option maxRecDepth 100000
open Go.RowKit
theorem Jg (p:Zc→Prop)(xs:List (Zc))(v:Value)(F:Nat)(caps:Array Value)(w:World)(hr:Rep (.sl 145 ZL) w [v] xs)(hcf:Qt Tryz.prog F)
    (hF:∀(i:Nat) (x:Zc) (W:World) (v0 v1:Value),xs[i]? =some x→Nw w W→Rep ZL W [v0,v1] x→Calls Tryz.prog F (#[.agg #[v0,v1]]++caps) W (RetB (p x) W)):
    Calls Tryz.prog 272 #[v, .func (.func F) #[] caps] w (QhV p xs w):=by
  obtain ⟨A,c,rfl,hl,hc⟩:=hr.slv
  have hm:xs.length≤9223372036854775807:=by unfold maxLen at hc; omega
  have HF:=hid hF
  clear hF
  go_enter Tryz.func272,Tryz.ntmps272
  go_wp2
  go_loopw [8] (fun i wr=>∃k:Nat,k≤xs.length∧i= .int .i64 k∧(∀j x,j < k→xs[j]? =some x→¬p x)∧Nw w wr) (fun i _=>xs.length - (intOf i).toNat)
  case atStart=>exact ⟨0,Nat.zero_le _,rfl,fun j x h=>absurd h (by omega),Qs _⟩
  case round=>
    obtain ⟨k,hk,rfl,hno,hq⟩:=hrel
    have HN:=hid hno
    clear hno
    by_cases hlt:k < xs.length
    · obtain ⟨b, o, v0, v1, rfl, hx, c0, c1⟩ := (hr.nw hq).at2 rfl (List.getElem?_eq_getElem hlt)
      have hcf:=hcf
      unfold Qt at hcf
      have hcall:=HF.out k _ wr v0 v1 (List.getElem?_eq_getElem hlt) hq hx
      have HC:=hid hcall
      clear hcall
      go_wp2_with fail
      refine Calls.mono HC.out ?_
      rintro e w1 ⟨bb,rfl,hb,hq1⟩
      cases bb with
      | true=>
        have HP:=hid (hb.1 rfl)
        clear hb
        go_wp2
        go_ret
        exact ⟨_,rfl, .inr ⟨k,rfl,hlt,fun y hy=>by rw[List.getElem?_eq_getElem hlt] at hy; cases hy; exact HP.out,HN.out⟩,hq.trans hq1⟩
      | false=>
        have HP:=hid (fun hp=>absurd (hb.2 hp) (by simp):¬p xs[k])
        clear hb
        go_wp2
        go_roundw
        case rel=>exact ⟨k+1,by omega,by go_num,fun j y hj hy=>by
          by_cases e1:j=k
          · subst e1
            rw[List.getElem?_eq_getElem hlt] at hy
            cases hy
            exact HP.out
          · exact HN.out j y (by omega) hy,hq.trans hq1⟩
        case measure=>simp[intOf]; omega
    · go_wp2
      go_ret
      refine ⟨_,rfl, .inl ⟨rfl,fun x hx=> ?_⟩,hq⟩
      obtain ⟨j,hj,hjx⟩:=List.mem_iff_getElem.1 hx
      exact HN.out j x (by omega) (by rw[List.getElem?_eq_getElem hj,hjx])
theorem UQ (p:Zc→Prop)(xs:List (Zc))(v:Value)(F:Nat)(caps:Array Value)(w:World)(hr:Rep (.sl 145 ZL) w [v] xs)(hcf:Qt Tryz.prog F)
    (hF:∀(i:Nat) (x:Zc) (W:World) (v0 v1:Value),xs[i]? =some x→Nw w W→Rep ZL W [v0,v1] x→Calls Tryz.prog F (#[.agg #[v0,v1]]++caps) W (RetB (p x) W)):
    Calls Tryz.prog 222 #[v, .func (.func F) #[] caps] w (RetB (∃x∈xs,p x) w):=by
  have hcall:=Jg p xs v F caps w hr hcf hF
  obtain ⟨A,c,rfl,hl,hc⟩:=hr.slv
  have hm:xs.length≤9223372036854775807:=by unfold maxLen at hc; omega
  have HC:=hid hcall
  clear hcall hF
  go_enter Tryz.func222,Tryz.ntmps222
  go_wp2_with fail
  refine Calls.mono HC.out ?_
  rintro e w1 ⟨r,rfl,hi,hq1⟩
  have hrr:=hi.range hm
  have HI:=hid hi
  clear hi
  go_wp2
  go_ret
  exact RetB.of (by rw[← HI.out.any]; simp) hq1
theorem VT (p:QJ→Prop)(xs:List (QJ))(v:Value)(F:Nat)(caps:Array Value)(w:World)(hr:Rep (.sl 159 QT) w [v] xs)(hcf:Qt Tryz.prog F)
    (hF:∀(i:Nat) (x:QJ) (W:World) (v0 v1:Value),xs[i]? =some x→Nw w W→Rep QT W [v0,v1] x→Calls Tryz.prog F (#[.agg #[v0,v1]]++caps) W (RetB (p x) W)):
    Calls Tryz.prog 326 #[v, .func (.func F) #[] caps] w (QhV p xs w):=by
  obtain ⟨A,c,rfl,hl,hc⟩:=hr.slv
  have hm:xs.length≤9223372036854775807:=by unfold maxLen at hc; omega
  have HF:=hid hF
  clear hF
  go_enter Tryz.func326,Tryz.ntmps326
  go_wp2
  go_loopw [8] (fun i wr=>∃k:Nat,k≤xs.length∧i= .int .i64 k∧(∀j x,j < k→xs[j]? =some x→¬p x)∧Nw w wr) (fun i _=>xs.length - (intOf i).toNat)
  case atStart=>exact ⟨0,Nat.zero_le _,rfl,fun j x h=>absurd h (by omega),Qs _⟩
  case round=>
    obtain ⟨k,hk,rfl,hno,hq⟩:=hrel
    have HN:=hid hno
    clear hno
    by_cases hlt:k < xs.length
    · obtain ⟨b, o, v0, v1, rfl, hx, c0, c1⟩ := (hr.nw hq).at2 rfl (List.getElem?_eq_getElem hlt)
      have hcf:=hcf
      unfold Qt at hcf
      have hcall:=HF.out k _ wr v0 v1 (List.getElem?_eq_getElem hlt) hq hx
      have HC:=hid hcall
      clear hcall
      go_wp2_with fail
      refine Calls.mono HC.out ?_
      rintro e w1 ⟨bb,rfl,hb,hq1⟩
      cases bb with
      | true=>
        have HP:=hid (hb.1 rfl)
        clear hb
        go_wp2
        go_ret
        exact ⟨_,rfl, .inr ⟨k,rfl,hlt,fun y hy=>by rw[List.getElem?_eq_getElem hlt] at hy; cases hy; exact HP.out,HN.out⟩,hq.trans hq1⟩
      | false=>
        have HP:=hid (fun hp=>absurd (hb.2 hp) (by simp):¬p xs[k])
        clear hb
        go_wp2
        go_roundw
        case rel=>exact ⟨k+1,by omega,by go_num,fun j y hj hy=>by
          by_cases e1:j=k
          · subst e1
            rw[List.getElem?_eq_getElem hlt] at hy
            cases hy
            exact HP.out
          · exact HN.out j y (by omega) hy,hq.trans hq1⟩
        case measure=>simp[intOf]; omega
    · go_wp2
      go_ret
      refine ⟨_,rfl, .inl ⟨rfl,fun x hx=> ?_⟩,hq⟩
      obtain ⟨j,hj,hjx⟩:=List.mem_iff_getElem.1 hx
      exact HN.out j x (by omega) (by rw[List.getElem?_eq_getElem hj,hjx])
theorem W3 (p:QJ→Prop)(xs:List (QJ))(v:Value)(F:Nat)(caps:Array Value)(w:World)(hr:Rep (.sl 159 QT) w [v] xs)(hcf:Qt Tryz.prog F)
    (hF:∀(i:Nat) (x:QJ) (W:World) (v0 v1:Value),xs[i]? =some x→Nw w W→Rep QT W [v0,v1] x→Calls Tryz.prog F (#[.agg #[v0,v1]]++caps) W (RetB (p x) W)):
    Calls Tryz.prog 307 #[v, .func (.func F) #[] caps] w (RetB (∃x∈xs,p x) w):=by
  have hcall:=VT p xs v F caps w hr hcf hF
  obtain ⟨A,c,rfl,hl,hc⟩:=hr.slv
  have hm:xs.length≤9223372036854775807:=by unfold maxLen at hc; omega
  have HC:=hid hcall
  clear hcall hF
  go_enter Tryz.func307,Tryz.ntmps307
  go_wp2_with fail
  refine Calls.mono HC.out ?_
  rintro e w1 ⟨r,rfl,hi,hq1⟩
  have hrr:=hi.range hm
  have HI:=hid hi
  clear hi
  go_wp2
  go_ret
  exact RetB.of (by rw[← HI.out.any]; simp) hq1
theorem Jx (p:Zn→Prop)(xs:List (Zn))(v:Value)(F:Nat)(caps:Array Value)(w:World)(hr:Rep (.sl 61 Yl) w [v] xs)(hcf:Qt Tryz.prog F)
    (hF:∀(i:Nat) (x:Zn) (W:World) (v0 v1:Value),xs[i]? =some x→Nw w W→Rep Yl W [v0,v1] x→Calls Tryz.prog F (#[.agg #[v0,v1]]++caps) W (RetB (p x) W)):
    Calls Tryz.prog 289 #[v, .func (.func F) #[] caps] w (QhV p xs w):=by
  obtain ⟨A,c,rfl,hl,hc⟩:=hr.slv
  have hm:xs.length≤9223372036854775807:=by unfold maxLen at hc; omega
  have HF:=hid hF
  clear hF
  go_enter Tryz.func289,Tryz.ntmps289
  go_wp2
  go_loopw [8] (fun i wr=>∃k:Nat,k≤xs.length∧i= .int .i64 k∧(∀j x,j < k→xs[j]? =some x→¬p x)∧Nw w wr) (fun i _=>xs.length - (intOf i).toNat)
  case atStart=>exact ⟨0,Nat.zero_le _,rfl,fun j x h=>absurd h (by omega),Qs _⟩
  case round=>
    obtain ⟨k,hk,rfl,hno,hq⟩:=hrel
    have HN:=hid hno
    clear hno
    by_cases hlt:k < xs.length
    · obtain ⟨b, o, v0, v1, rfl, hx, c0, c1⟩ := (hr.nw hq).at2 rfl (List.getElem?_eq_getElem hlt)
      have hcf:=hcf
      unfold Qt at hcf
      have hcall:=HF.out k _ wr v0 v1 (List.getElem?_eq_getElem hlt) hq hx
      have HC:=hid hcall
      clear hcall
      go_wp2_with fail
      refine Calls.mono HC.out ?_
      rintro e w1 ⟨bb,rfl,hb,hq1⟩
      cases bb with
      | true=>
        have HP:=hid (hb.1 rfl)
        clear hb
        go_wp2
        go_ret
        exact ⟨_,rfl, .inr ⟨k,rfl,hlt,fun y hy=>by rw[List.getElem?_eq_getElem hlt] at hy; cases hy; exact HP.out,HN.out⟩,hq.trans hq1⟩
      | false=>
        have HP:=hid (fun hp=>absurd (hb.2 hp) (by simp):¬p xs[k])
        clear hb
        go_wp2
        go_roundw
        case rel=>exact ⟨k+1,by omega,by go_num,fun j y hj hy=>by
          by_cases e1:j=k
          · subst e1
            rw[List.getElem?_eq_getElem hlt] at hy
            cases hy
            exact HP.out
          · exact HN.out j y (by omega) hy,hq.trans hq1⟩
        case measure=>simp[intOf]; omega
    · go_wp2
      go_ret
      refine ⟨_,rfl, .inl ⟨rfl,fun x hx=> ?_⟩,hq⟩
      obtain ⟨j,hj,hjx⟩:=List.mem_iff_getElem.1 hx
      exact HN.out j x (by omega) (by rw[List.getElem?_eq_getElem hj,hjx])
theorem U1 (p:Zn→Prop)(xs:List (Zn))(v:Value)(F:Nat)(caps:Array Value)(w:World)(hr:Rep (.sl 61 Yl) w [v] xs)(hcf:Qt Tryz.prog F)
    (hF:∀(i:Nat) (x:Zn) (W:World) (v0 v1:Value),xs[i]? =some x→Nw w W→Rep Yl W [v0,v1] x→Calls Tryz.prog F (#[.agg #[v0,v1]]++caps) W (RetB (p x) W)):
    Calls Tryz.prog 252 #[v, .func (.func F) #[] caps] w (RetB (∃x∈xs,p x) w):=by
  have hcall:=Jx p xs v F caps w hr hcf hF
  obtain ⟨A,c,rfl,hl,hc⟩:=hr.slv
  have hm:xs.length≤9223372036854775807:=by unfold maxLen at hc; omega
  have HC:=hid hcall
  clear hcall hF
  go_enter Tryz.func252,Tryz.ntmps252
  go_wp2_with fail
  refine Calls.mono HC.out ?_
  rintro e w1 ⟨r,rfl,hi,hq1⟩
  have hrr:=hi.range hm
  have HI:=hid hi
  clear hi
  go_wp2
  go_ret
  exact RetB.of (by rw[← HI.out.any]; simp) hq1
end Go.Proofs.YtnakmhfjafecpaaGreat
namespace Go.Proofs.YtnakmhfjafecpaaGreat
set_option maxHeartbeats 4000000
set_option maxRecDepth 100000
open Go.RowKit
theorem Qlm {s t:ByteArray}(h:(s.toList==t.toList)=true):s=t:=by
  have h:s.toList=t.toList:=by simpa using h
  rw[ByteArray.toList_eq,ByteArray.toList_eq] at h
  cases s; cases t
  exact congrArg _ (Array.toList_inj.1 h)
theorem Qoy {s t:ByteArray}(h:(s.toList==t.toList)=false):s≠t:=by
  rintro rfl
  simp at h
theorem Qlx {s t:ByteArray}(h:s=t):(s.toList==t.toList)=true:=by subst h; simp
theorem Qlu {s t:ByteArray}(h:s≠t):(s.toList==t.toList)=false:=by
  cases e:(s.toList==t.toList) with
  | false=>rfl
  | true=>exact absurd (Qlm e) h
def YS (k c:Nat):Prop:=(97≤c∧c≤122)∨(k≠0∧48≤c∧c≤57)
def JO (s:ByteArray):Prop:=(∀k (h:k < s.size),YS k s[k].toNat)∧1≤s.size∧s.size≤6
def QlD (c:Nat):Prop:=c=48∨c=49∨c=45
def QoP (s:ByteArray):Prop:=∀k (h:k < s.size),QlD s[k].toNat
theorem XV (n lo hi:Int)(w:World):Calls Tryz.prog 154 #[.int .i64 n, .int .i64 lo, .int .i64 hi] w (RetB (lo≤n∧n≤hi) w):=by
  by_cases h1:lo≤n
  · by_cases h2 : n ≤ hi
    all_goals
      go_enter Tryz.func154,Tryz.ntmps154
      go_wp2
      go_ret
      exact RetB.of (by simp; omega) (Qs _)
  · go_enter Tryz.func154, Tryz.ntmps154
    go_wp2
    go_ret
    exact RetB.of (by simp; omega) (Qs _)
theorem V9 (n lo hi:Int)(w:World):Calls Tryz.prog 149 #[.int .i64 n, .int .i64 lo, .int .i64 hi] w (RetB (lo≤n∧n≤hi) w):=by
  by_cases h1:lo≤n
  · by_cases h2 : n ≤ hi
    all_goals
      go_enter Tryz.func149,Tryz.ntmps149
      go_wp2
      go_ret
      exact RetB.of (by simp; omega) (Qs _)
  · go_enter Tryz.func149, Tryz.ntmps149
    go_wp2
    go_ret
    exact RetB.of (by simp; omega) (Qs _)
theorem QdV {s:ByteArray}{k:Nat}(h:k < s.size)(hc:¬YS k s[k].toNat):¬JO s:=fun hn=>hc (hn.1 k h)
theorem Jh {s:ByteArray}{k:Nat}(h:k < s.size)(hy:∀j (h:j < s.size),j < k→YS j s[j].toNat)(hc:YS k s[k].toNat):∀j (h:j < s.size),j < k+1→YS j s[j].toNat:=by
  intro j hj hjk
  by_cases e:j=k
  · subst e; exact hc
  · exact hy j hj (by omega)
theorem Qhj (s:ByteArray)(w:World)(hs:s.size≤maxLen):Calls Tryz.prog 200 #[.string s] w (RetB (JO s) w):=by
  have hm:s.size≤9223372036854775807:=hs
  go_enter Tryz.func200,Tryz.ntmps200
  go_wp2
  go_loop [3] (fun i=>∃k:Nat,k≤s.size∧i= .int .i64 k∧∀j (h:j < s.size),j < k→YS j s[j].toNat) (fun i=>s.size - (intOf i).toNat)
  case atStart=>exact ⟨0,Nat.zero_le _,rfl,fun j h h'=>absurd h' (by omega)⟩
  case round=>
    obtain ⟨k,hk,rfl,hyes⟩:=hrel
    have HY:=hid hyes
    clear hyes
    by_cases hlt:k < s.size
    · rcases (by omega : s[k].toNat < 48 ∨ (48 ≤ s[k].toNat ∧ s[k].toNat ≤ 57) ∨ (58 ≤ s[k].toNat ∧ s[k].toNat ≤ 96) ∨ (97 ≤ s[k].toNat ∧ s[k].toNat ≤ 122) ∨ 123 ≤ s[k].toNat) with h1 | ⟨h1, h2⟩ | ⟨h1, h2⟩ | ⟨h1, h2⟩ | h1
      all_goals first | have d0:decide ((97:Int)≤(s[k].toNat:Int))=true:=decide_eq_true (by omega) | have d0:decide ((97:Int)≤(s[k].toNat:Int))=false:=decide_eq_false (by omega)
      all_goals first | have d1:decide ((s[k].toNat:Int)≤122)=true:=decide_eq_true (by omega) | have d1:decide ((s[k].toNat:Int)≤122)=false:=decide_eq_false (by omega)
      all_goals first | have d2:decide ((48:Int)≤(s[k].toNat:Int))=true:=decide_eq_true (by omega) | have d2:decide ((48:Int)≤(s[k].toNat:Int))=false:=decide_eq_false (by omega)
      all_goals first | have d3:decide ((s[k].toNat:Int)≤57)=true:=decide_eq_true (by omega) | have d3:decide ((s[k].toNat:Int)≤57)=false:=decide_eq_false (by omega)
      all_goals first | have d4:decide ((s[k].toNat:Int) < 48)=true:=decide_eq_true (by omega) | have d4:decide ((s[k].toNat:Int) < 48)=false:=decide_eq_false (by omega)
      all_goals first | have d5:decide ((57:Int) < (s[k].toNat:Int))=true:=decide_eq_true (by omega) | have d5:decide ((57:Int) < (s[k].toNat:Int))=false:=decide_eq_false (by omega)
      all_goals rcases Nat.eq_zero_or_pos k with rfl | hk0
      all_goals try have hk1:((k:Int)==0)=false:=by simp; omega
      all_goals go_wp2
      all_goals first
        | (go_ret
           exact RetB.no (QdV hlt (by unfold YS; omega)) (Qs _))
        | (go_round
           case rel=>exact ⟨_+1,by omega,by go_num,Jh hlt HY.out (by unfold YS; omega)⟩
           case measure=>simp[intOf]; omega)
    · have : k = s.size := by omega
      subst this
      go_wp2_with (go_at_call 149; refine (V9 _ _ _ _).mono ?_; rintro e w1 ⟨b,rfl,hb,hq1⟩)
      go_ret
      refine RetB.of (hb.trans ⟨fun h=>⟨fun j hj=>HY.out j hj hj,by omega,by omega⟩,fun h=>by have:=h.2; omega⟩) hq1
theorem Qix (s:ByteArray)(w:World)(hs:s.size≤maxLen):Calls Tryz.prog 221 #[.string s] w (RetB (JO s) w):=by
  have hm:s.size≤9223372036854775807:=hs
  go_enter Tryz.func221,Tryz.ntmps221
  go_wp2
  go_loopw [3] (fun i wr=>∃k:Nat,k≤s.size∧i= .int .i64 k∧(∀j (h:j < s.size),j < k→YS j s[j].toNat)∧Nw w wr) (fun i _=>s.size - (intOf i).toNat)
  case atStart=>exact ⟨0,Nat.zero_le _,rfl,fun j h h'=>absurd h' (by omega),Qs _⟩
  case round=>
    obtain ⟨k,hk,rfl,hyes,hq⟩:=hrel
    have HY:=hid hyes
    clear hyes
    by_cases hlt:k < s.size
    · have hi0 : (0 : Int) ≤ k := by omega
      have hi1:(k:Int) < s.size:=by omega
      rcases (by omega:s[k].toNat < 48∨(48≤s[k].toNat∧s[k].toNat≤57)∨(58≤s[k].toNat∧s[k].toNat≤96)∨(97≤s[k].toNat∧s[k].toNat≤122)∨123≤s[k].toNat) with h1 | ⟨h1,h2⟩ | ⟨h1,h2⟩ | ⟨h1,h2⟩ | h1
      all_goals first | have d0:decide ((97:Int)≤(s[k].toNat:Int))=true:=decide_eq_true (by omega) | have d0:decide ((97:Int)≤(s[k].toNat:Int))=false:=decide_eq_false (by omega)
      all_goals first | have d1:decide ((s[k].toNat:Int)≤122)=true:=decide_eq_true (by omega) | have d1:decide ((s[k].toNat:Int)≤122)=false:=decide_eq_false (by omega)
      all_goals first | have d2:decide ((48:Int)≤(s[k].toNat:Int))=true:=decide_eq_true (by omega) | have d2:decide ((48:Int)≤(s[k].toNat:Int))=false:=decide_eq_false (by omega)
      all_goals first | have d3:decide ((s[k].toNat:Int)≤57)=true:=decide_eq_true (by omega) | have d3:decide ((s[k].toNat:Int)≤57)=false:=decide_eq_false (by omega)
      all_goals first | have d4:decide ((s[k].toNat:Int) < 48)=true:=decide_eq_true (by omega) | have d4:decide ((s[k].toNat:Int) < 48)=false:=decide_eq_false (by omega)
      all_goals first | have d5:decide ((57:Int) < (s[k].toNat:Int))=true:=decide_eq_true (by omega) | have d5:decide ((57:Int) < (s[k].toNat:Int))=false:=decide_eq_false (by omega)
      all_goals rcases Nat.eq_zero_or_pos k with rfl | hk0
      all_goals try have hk1:((k:Int)==0)=false:=by simp; omega
      all_goals go_wp2_with fail
      all_goals go_quiet (fail)
      all_goals go_wp2
      all_goals first
        | (go_ret
           exact RetB.no (QdV hlt (by unfold YS; omega)) (hq.drewN _))
        | (go_roundw
           case rel=>exact ⟨_+1,by omega,by go_num,Jh hlt HY.out (by unfold YS; omega),hq.drewN _⟩
           case measure=>simp[intOf]; omega)
    · have : k = s.size := by omega
      subst this
      go_wp2_with (go_at_call 154; refine (XV _ _ _ _).mono ?_; rintro e w1 ⟨b,rfl,hb,hq1⟩)
      go_ret
      refine RetB.of (hb.trans ⟨fun h=>⟨fun j hj=>HY.out j hj hj,by omega,by omega⟩,fun h=>by have:=h.2; omega⟩) (hq.trans hq1)
theorem Ud {a b:Int}(h:a≠b):(a != b)=true:=by simpa using h
theorem K9 {a b:Int}(h:a=b):(a != b)=false:=by simpa using h
theorem VV {a b:Int}(h:a=b):(a==b)=true:=by simpa using h
theorem XD {a b:Int}(h:a≠b):(a==b)=false:=by simpa using h
end Go.Proofs.YtnakmhfjafecpaaGreat
namespace Go.Proofs.YtnakmhfjafecpaaGreat
set_option maxHeartbeats 4000000
set_option maxRecDepth 100000
open Go.RowKit
def SigOkAt (xs:List Zc)(k:Nat):Prop:=∀x,xs[k]? =some x→JO x.1∧(1≤x.2∧x.2≤3)∧∀j y,j < k→xs[j]? =some y→y.1≠x.1
def QbD (xs:List Zc):Prop:=(∀k,k < xs.length→SigOkAt xs k)∧1≤xs.length∧xs.length≤8
theorem SigOkAt.step {xs:List Zc}{k:Nat}(h:∀j,j < k→SigOkAt xs j)(hk:SigOkAt xs k):∀j,j < k+1→SigOkAt xs j:=by
  intro j hj
  by_cases e:j=k
  · subst e; exact hk
  · exact h j (by omega)
theorem Qdz (v:Value)(xs:List Zc)(w:World)(hr:Rep (.sl 145 ZL) w [v] xs):Calls Tryz.prog 148 #[v] w (RetB (QbD xs) w):=by
  obtain ⟨A,c,rfl,hl,hc⟩:=hr.slv
  have hm:xs.length≤9223372036854775807:=by unfold maxLen at hc; omega
  go_enter Tryz.func148,Tryz.ntmps148
  go_wp2
  go_loopw [9] (fun i wr=>∃k:Nat,k≤xs.length∧i= .int .i64 k∧(∀j,j < k→SigOkAt xs j)∧Nw w wr) (fun i _=>xs.length - (intOf i).toNat)
  case atStart=>exact ⟨0,Nat.zero_le _,rfl,fun j h=>absurd h (by omega),Qs _⟩
  case round=>
    obtain ⟨wo,rfl⟩:∃wo:World,wo=wr:=⟨_,rfl⟩
    obtain ⟨k,hk,rfl,hyes,hq⟩:=hrel
    have HY:=hid hyes
    clear hyes
    by_cases hlt:k < xs.length
    · obtain ⟨b, o, v0, v1, rfl, hx, c0, c1⟩ := (hr.nw hq).at2 rfl (List.getElem?_eq_getElem hlt)
      have HX:=hid (List.getElem?_eq_getElem hlt)
      generalize hxk:xs[k]=x at*
      clear hxk
      obtain ⟨s,n⟩:=x
      obtain ⟨r0,r1⟩:=hx.open2 rfl
      obtain ⟨rfl,hs⟩:=r0.str_
      obtain ⟨rfl, -⟩:=r1.int_
      have Hs:=hid hs
      clear hx r0 r1 hs
      go_wp2_with fail
      refine (Qhj s _ Hs.out).mono ?_
      rintro e w1 ⟨b1,rfl,hb1,hq1⟩
      obtain ⟨hc1,hf1⟩:=hq1.cells
      have hz1:wo.heap.size < w1.heap.size:=by (have hz2:=hq1.size; simp at hz2; omega)
      cases b1 with
      | false=>
        have HB1:=hid (RetB.not hb1)
        clear hb1
        go_wp2
        go_ret
        exact RetB.no (fun h=>HB1.out (h.1 k hlt _ HX.out).1) (by (repeat (first | with_reducible exact Qs _ | with_reducible assumption | with_reducible apply Nw.alloc | with_reducible apply Nw.drew | with_reducible apply Nw.drewN | (with_reducible refine Qo ?_ ?_; focus (first | (simp; done) | (simp; omega))) | with_reducible refine Qz (by assumption) ?_)))
      | true=>
        have HB1:=hid (hb1.1 rfl)
        clear hb1
        go_wp2_with fail
        refine (V9 n _ _ _).mono ?_
        rintro e w2 ⟨b2,rfl,hb2,hq2⟩
        obtain ⟨hc2,hf2⟩:=hq2.cells
        have hz3:wo.heap.size < w2.heap.size:=by (have hz2:=hq2.size; omega)
        cases b2 with
        | false=>
          have HB2:=hid (RetB.not hb2)
          clear hb2
          go_wp2
          go_ret
          exact RetB.no (fun h=>HB2.out (h.1 k hlt _ HX.out).2.1) (by (repeat (first | with_reducible exact Qs _ | with_reducible assumption | with_reducible apply Nw.alloc | with_reducible apply Nw.drew | with_reducible apply Nw.drewN | (with_reducible refine Qo ?_ ?_; focus (first | (simp; done) | (simp; omega))) | with_reducible refine Qz (by assumption) ?_)))
        | true=>
          have HB2:=hid (hb2.1 rfl)
          clear hb2
          have hbx:w2.cell? ⟨wo.heap.size,0,none⟩=some (.string s):=by go_simp
          have hN2:Nw w w2:=by (repeat (first | with_reducible exact Qs _ | with_reducible assumption | with_reducible apply Nw.alloc | with_reducible apply Nw.drew | with_reducible apply Nw.drewN | (with_reducible refine Qo ?_ ?_; focus (first | (simp; done) | (simp; omega))) | with_reducible refine Qz (by assumption) ?_))
          have hk9:k≤c:=by omega
          clear hc1 hf1 hc2 hf2 c0 c1 hq1 hq2
          go_wp2
          go_loopw [28] (fun i wi=>∃m:Nat,m≤k∧i= .int .i64 m∧(∀j y,j < m→xs[j]? =some y→y.1≠s)∧Nw w2 wi) (fun i _=>k - (intOf i).toNat)
          case atStart=>exact ⟨0,Nat.zero_le _,rfl,fun j y h=>absurd h (by omega),Qs _⟩
          case round=>
            obtain ⟨m,hm2,rfl,hno,hqi⟩:=hrel
            have HN:=hid hno
            clear hno
            obtain ⟨hci,hfi⟩:=hqi.cells
            have hzi:wo.heap.size < wr.heap.size:=by have:=hqi.size; omega
            by_cases hlm:m < k
            · obtain ⟨b', o', u0, u1, e', hy, d0, d1⟩ := ((hr.nw hN2).nw hqi).at2 rfl (List.getElem?_eq_getElem (show m < xs.length by omega))
              have HYm:=hid (List.getElem?_eq_getElem (show m < xs.length by omega))
              generalize hym:xs[m]=y at*
              clear hym
              obtain ⟨t,n'⟩:=y
              obtain ⟨s0,s1⟩:=hy.open2 rfl
              obtain ⟨rfl, -⟩:=s0.str_
              obtain ⟨rfl, -⟩:=s1.int_
              simp only[Option.some.injEq,Addr.mk.injEq,and_true] at e'
              obtain ⟨rfl,rfl⟩:=e'
              clear hy s0 s1
              go_wp2
              · rename_i he
                go_ret
                exact RetB.no (fun h=>(h.1 k hlt _ HX.out).2.2 m _ hlm HYm.out (Qlm he).symm) (by (repeat (first | with_reducible exact Qs _ | with_reducible assumption | with_reducible apply Nw.alloc | with_reducible apply Nw.drew | with_reducible apply Nw.drewN | (with_reducible refine Qo ?_ ?_; focus (first | (simp; done) | (simp; omega))) | with_reducible refine Qz (by assumption) ?_)))
              · go_roundw
                case rel=>
                  rename_i he
                  exact ⟨m+1,by omega,by go_num,fun j y hj hy=>by
                    by_cases e:j=m
                    · subst e
                      rw[HYm.out] at hy
                      cases hy
                      exact fun e=>Qoy he e.symm
                    · exact HN.out j y (by omega) hy,by (repeat (first | with_reducible exact Qs _ | with_reducible assumption | with_reducible apply Nw.alloc | with_reducible apply Nw.drew | with_reducible apply Nw.drewN | (with_reducible refine Qo ?_ ?_; focus (first | (simp; done) | (simp; omega))) | with_reducible refine Qz (by assumption) ?_))⟩
                case measure=>simp[intOf]; omega
            · go_wp2
              go_roundw
              case rel=>exact ⟨k+1,by omega,by go_num,SigOkAt.step HY.out (fun x hx=>by
                rw[HX.out] at hx
                cases hx
                exact ⟨HB1.out,HB2.out,fun j y hj hy=>HN.out j y (by omega) hy⟩),by (repeat (first | with_reducible exact Qs _ | with_reducible assumption | with_reducible apply Nw.alloc | with_reducible apply Nw.drew | with_reducible apply Nw.drewN | (with_reducible refine Qo ?_ ?_; focus (first | (simp; done) | (simp; omega))) | with_reducible refine Qz (by assumption) ?_))⟩
              case measure=>simp[intOf]; omega
    · have : k = xs.length := by omega
      subst this
      go_wp2_with (go_at_call 149; refine (V9 _ _ _ _).mono ?_; rintro e w1 ⟨b,rfl,hb,hq1⟩)
      go_ret
      exact RetB.of (hb.trans ⟨fun h=>⟨HY.out,by omega,by omega⟩,fun h=>by have:=h.2; omega⟩) (hq.trans hq1)
theorem JZ:Qt Tryz.prog 223:=fun args W=>Qj Tryz.func223 (by kernel_rfl) rfl args W
theorem QaX (v0 v1:Value)(x:Zc)(g:Nat)(s:ByteArray)(W:World)(hx:Rep ZL W [v0,v1] x)(hb:W.cell? ⟨g,0,none⟩=some (.string s)):
    Calls Tryz.prog 223 #[.agg #[v0,v1], .pointer (some ⟨g,0,none⟩)] W (RetB (x.1=s) W):=by
  obtain ⟨t,n⟩:=x
  obtain ⟨r0,r1⟩:=hx.open2 rfl
  obtain ⟨rfl, -⟩:=r0.str_
  obtain ⟨rfl, -⟩:=r1.int_
  have hg:g < W.heap.size:=World.block_lt_of_cell? W _ hb
  clear hx r0 r1
  by_cases h:t=s
  · have h2 := Qlx h
    have H:=hid h
    clear h
    go_enter Tryz.func223,Tryz.ntmps223
    go_wp2
    go_ret
    exact RetB.of (by simp only[h2,H.out]) ((Qs _).alloc _)
  · have h2 := Qlu h
    have H:=hid h
    clear h
    go_enter Tryz.func223,Tryz.ntmps223
    go_wp2
    go_ret
    exact RetB.of (by simp only[h2,H.out]; simp) ((Qs _).alloc _)
theorem QcJ (v:Value)(xs:List Zc)(w:World)(hr:Rep (.sl 145 ZL) w [v] xs):Calls Tryz.prog 153 #[v] w (RetB (QbD xs) w):=by
  obtain ⟨A,c,rfl,hl,hc⟩:=hr.slv
  have hm:xs.length≤9223372036854775807:=by unfold maxLen at hc; omega
  go_enter Tryz.func153,Tryz.ntmps153
  go_wp2
  go_loopw [7] (fun i wr=>∃k:Nat,k≤xs.length∧i= .int .i64 k∧(∀j,j < k→SigOkAt xs j)∧Nw w wr) (fun i _=>xs.length - (intOf i).toNat)
  case atStart=>exact ⟨0,Nat.zero_le _,rfl,fun j h=>absurd h (by omega),Qs _⟩
  case round=>
    obtain ⟨wo,rfl⟩:∃wo:World,wo=wr:=⟨_,rfl⟩
    obtain ⟨k,hk,rfl,hyes,hq⟩:=hrel
    have HY:=hid hyes
    clear hyes
    by_cases hlt:k < xs.length
    · obtain ⟨b, o, v0, v1, rfl, hx, c0, c1⟩ := (hr.nw hq).at2 rfl (List.getElem?_eq_getElem hlt)
      have HX:=hid (List.getElem?_eq_getElem hlt)
      generalize hxk:xs[k]=x at*
      clear hxk
      obtain ⟨s,n⟩:=x
      obtain ⟨r0,r1⟩:=hx.open2 rfl
      obtain ⟨rfl,hs⟩:=r0.str_
      obtain ⟨rfl, -⟩:=r1.int_
      have Hs:=hid hs
      clear hx r0 r1 hs
      go_wp2_with fail
      refine (Qix s _ Hs.out).mono ?_
      rintro e w1 ⟨b1,rfl,hb1,hq1⟩
      obtain ⟨hc1,hf1⟩:=hq1.cells
      have hz1:wo.heap.size < w1.heap.size:=by (have hz2:=hq1.size; simp at hz2; omega)
      cases b1 with
      | false=>
        have HB1:=hid (RetB.not hb1)
        clear hb1
        go_wp2
        go_ret
        exact RetB.no (fun h=>HB1.out (h.1 k hlt _ HX.out).1) (by (repeat (first | with_reducible exact Qs _ | with_reducible assumption | with_reducible apply Nw.alloc | with_reducible apply Nw.drew | with_reducible apply Nw.drewN | (with_reducible refine Qo ?_ ?_; focus (first | (simp; done) | (simp; omega))) | with_reducible refine Qz (by assumption) ?_)))
      | true=>
        have HB1:=hid (hb1.1 rfl)
        clear hb1
        go_wp2_with fail
        refine (XV n _ _ _).mono ?_
        rintro e w2 ⟨b2,rfl,hb2,hq2⟩
        obtain ⟨hc2,hf2⟩:=hq2.cells
        have hz3:wo.heap.size < w2.heap.size:=by (have hz2:=hq2.size; omega)
        cases b2 with
        | false=>
          have HB2:=hid (RetB.not hb2)
          clear hb2
          go_wp2
          go_ret
          exact RetB.no (fun h=>HB2.out (h.1 k hlt _ HX.out).2.1) (by (repeat (first | with_reducible exact Qs _ | with_reducible assumption | with_reducible apply Nw.alloc | with_reducible apply Nw.drew | with_reducible apply Nw.drewN | (with_reducible refine Qo ?_ ?_; focus (first | (simp; done) | (simp; omega))) | with_reducible refine Qz (by assumption) ?_)))
        | true=>
          have HB2:=hid (hb2.1 rfl)
          clear hb2
          have hbx:w2.cell? ⟨wo.heap.size,0,none⟩=some (.string s):=by go_simp
          have hN2:Nw w w2:=by (repeat (first | with_reducible exact Qs _ | with_reducible assumption | with_reducible apply Nw.alloc | with_reducible apply Nw.drew | with_reducible apply Nw.drewN | (with_reducible refine Qo ?_ ?_; focus (first | (simp; done) | (simp; omega))) | with_reducible refine Qz (by assumption) ?_))
          have hk9:k≤c:=by omega
          have HBX:=hid hbx
          clear hc1 hf1 hc2 hf2 c0 c1 hq1 hq2 hbx
          go_wp2_with fail
          refine (UQ (fun y=>y.1=s) (xs.take k) _ _ _ _ ((hr.nw hN2).cut hk c hk9 hc) JZ ?_).mono ?_
          · intro i y W u0 u1 hi hqW hy
            exact QaX u0 u1 y _ s W hy (by rw[(hqW.cells).1 _ _ hz3]; exact HBX.out)
          · rintro e w3 ⟨b3, rfl, hb3, hq3⟩
            cases b3 with
            | false=>
              have HB3:=hid (RetB.not hb3)
              clear hb3
              go_wp2
              go_roundw
              case rel=>exact ⟨k+1,by omega,by go_num,SigOkAt.step HY.out (fun x hx=>by
                rw[HX.out] at hx
                cases hx
                refine ⟨HB1.out,HB2.out,fun j y hj hy e=>HB3.out ⟨y, ?_,e⟩⟩
                exact List.mem_of_getElem? (i:=j) (by rw[List.getElem?_take,if_pos hj]; exact hy)),by (repeat (first | with_reducible exact Qs _ | with_reducible assumption | with_reducible apply Nw.alloc | with_reducible apply Nw.drew | with_reducible apply Nw.drewN | (with_reducible refine Qo ?_ ?_; focus (first | (simp; done) | (simp; omega))) | with_reducible refine Qz (by assumption) ?_))⟩
              case measure=>simp[intOf]; omega
            | true=>
              have HB3:=hid (hb3.1 rfl)
              clear hb3
              go_wp2
              go_ret
              refine RetB.no (fun h=> ?_) (by (repeat (first | with_reducible exact Qs _ | with_reducible assumption | with_reducible apply Nw.alloc | with_reducible apply Nw.drew | with_reducible apply Nw.drewN | (with_reducible refine Qo ?_ ?_; focus (first | (simp; done) | (simp; omega))) | with_reducible refine Qz (by assumption) ?_)))
              obtain ⟨y,hy,e⟩:=HB3.out
              obtain ⟨j,hj⟩:=List.mem_iff_getElem?.1 hy
              rw[List.getElem?_take] at hj
              split at hj
              · exact (h.1 k hlt _ HX.out).2.2 j y (by assumption) hj e
              · cases hj
    · have : k = xs.length := by omega
      subst this
      go_wp2_with (go_at_call 154; refine (XV _ _ _ _).mono ?_; rintro e w1 ⟨b,rfl,hb,hq1⟩)
      go_ret
      exact RetB.of (hb.trans ⟨fun h=>⟨HY.out,by omega,by omega⟩,fun h=>by have:=h.2; omega⟩) (hq.trans hq1)
end Go.Proofs.YtnakmhfjafecpaaGreat
namespace Go.Proofs.YtnakmhfjafecpaaGreat
set_option maxHeartbeats 4000000
set_option maxRecDepth 100000
open Go.RowKit
theorem Qdr (w:World)(g:Nat)(c:Array Value)(T:TypeId)(fr:Nat×Nat)(i:Nat)(h:w.heap[g]? =some (.cells c T fr)):w.cell? ⟨g,i,none⟩=c[i]? :=by
  simp only[World.cell?,h]; rfl
theorem Uw (w:World)(c1:Array Value)(T1:TypeId):∃W0,W0=w.alloc (.cells c1 T1)∧Nw w W0∧(∀i,W0.cell? ⟨w.heap.size,i,none⟩=c1[i]?)∧W0.heap.size=w.heap.size+1:=
  ⟨_,rfl,(Qs _).alloc _,fun i=>Qdr _ _ _ _ _ i (heap_alloc_new w _),by simp⟩
end Go.Proofs.YtnakmhfjafecpaaGreat
namespace Go.Proofs.YtnakmhfjafecpaaGreat
set_option maxHeartbeats 4000000
set_option maxRecDepth 100000
open Go.RowKit
attribute [local irreducible] TF
theorem KP {l:List Value}(h:l.length=3):∃a0 a1 a2,l=[a0,a1,a2]:=by
  match l,h with
  | [a0,a1,a2],_=>exact ⟨a0,a1,a2,rfl⟩
theorem WR {l:List Value}(h:l.length=5):∃a0 a1 a2 a3 a4,l=[a0,a1,a2,a3,a4]:=by
  match l,h with
  | [a0,a1,a2,a3,a4],_=>exact ⟨a0,a1,a2,a3,a4,rfl⟩
theorem QjZ:Trd Tryz.prog 153 Zp:=Trd.st Tryz.underlying153 (by kernel_rfl) (TF.cons _ rfl rfl (Trd.str (by kernel_rfl) (by kernel_rfl)) (Ja _ rfl rfl (Trd.int (by kernel_rfl) (by kernel_rfl))))
theorem Qdu:Trd Tryz.prog 222 QZ:=Trd.st Tryz.underlying222 (by kernel_rfl) (TF.cons _ rfl rfl (Trd.sl (by kernel_rfl) (by kernel_rfl) (Trd.int (by kernel_rfl) (by kernel_rfl))) (Ja _ rfl rfl (Trd.sl (by kernel_rfl) (by kernel_rfl) (Trd.int (by kernel_rfl) (by kernel_rfl)))))
theorem QoD:Trd Tryz.prog 24 Qdj:=Trd.st Tryz.underlying24 (by kernel_rfl) (TF.cons _ rfl rfl (Trd.int (by kernel_rfl) (by kernel_rfl)) (Ja _ rfl rfl (Trd.sl (by kernel_rfl) (by kernel_rfl) Qdu)))
theorem Qms:Trd Tryz.prog 51 Xk:=Trd.st Tryz.underlying51 (by kernel_rfl) (TF.cons _ rfl rfl (Trd.int (by kernel_rfl) (by kernel_rfl)) (Ja _ rfl rfl (Trd.bool (by kernel_rfl) (by kernel_rfl))))
theorem QmS:Trd Tryz.prog 28 UM:=Trd.st Tryz.underlying28 (by kernel_rfl) (TF.cons _ rfl rfl QoD (TF.cons _ rfl rfl (Trd.sl (by kernel_rfl) (by kernel_rfl) QjZ) (TF.cons _ rfl rfl (Trd.sl (by kernel_rfl) (by kernel_rfl) Qms) (Ja _ rfl rfl (Trd.str (by kernel_rfl) (by kernel_rfl))))))
theorem QgZ:Trd Tryz.prog 83 YZ:=Trd.st Tryz.underlying83 (by kernel_rfl) (TF.cons _ rfl rfl (Trd.int (by kernel_rfl) (by kernel_rfl)) (TF.cons _ rfl rfl (Trd.int (by kernel_rfl) (by kernel_rfl)) (Ja _ rfl rfl (Trd.bool (by kernel_rfl) (by kernel_rfl)))))
end Go.Proofs.YtnakmhfjafecpaaGreat
