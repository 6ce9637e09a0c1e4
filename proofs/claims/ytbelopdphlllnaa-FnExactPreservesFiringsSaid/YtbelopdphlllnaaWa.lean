/- Walks over abstract states: small words, copies. -/
import Derived.Test.YtbelopdphlllnaaFa
import Derived.Test.YtbelopdphlllnaaAh
namespace Go.Proofs.Ytbelopdphlllnaa
open Go.RowKit

set_option maxRecDepth 100000 in
set_option maxHeartbeats 4000000 in
theorem fc_impl_within (n : Int) (low : Int) (high : Int)  : FC Try.prog 58 [(false, [dI n]), (false, [dI low]), (false, [dI high])] [] 0 (Pure (lf (dB (decide (low ≤ n ∧ n ≤ high))))) := by
  obtain ⟨O_, hO⟩ : ∃ x : PV → Tab → Prop, x = Pure (lf (dB (decide (low ≤ n ∧ n ≤ high)))) := ⟨_, rfl⟩
  refine FC.O_of hO (FC.ren (FC.of Try.func58 rfl rfl fun A_ hn_ hk_ => ?_))
  obtain ⟨w0_, N0_, X_, n_, k0_, h0_, f0_⟩ := A_
  obtain rfl : n_ = 15 := hn_.trans Try.ntmps58
  obtain rfl : k0_ = 0 := hk_
  refine AC.fact (fact_int (x := .tmp 0) (Evl.tmp rfl)) fun hi1 => ?_
  refine AC.fact (fact_int (x := .tmp 1) (Evl.tmp rfl)) fun hi2 => ?_
  refine AC.fact (fact_int (x := .tmp 2) (Evl.tmp rfl)) fun hi3 => ?_
  refine AC.seq ?_
  refine AC.region ?_
  refine AL.cons rfl (Does.assignC Evl.bool rfl) ?_
  refine AL.nil ?_
  refine (?_ : AC _ _ _ _ _)
  refine AC.seq ?_
  refine AC.region ?_
  refine AL.cons rfl (Does.move rfl rfl) ?_
  refine AL.cons rfl (Does.move rfl rfl) ?_
  refine AL.cons rfl (Does.leq (Evl.tmp rfl) (Evl.tmp rfl) rfl) ?_
  refine AL.cons rfl (Does.move rfl rfl) ?_
  cases hb4 : (decide (low ≤ n))
  · have _h := hb4
    have hb4' : ¬ (low ≤ n) := of_decide_eq_false hb4
    refine AL.guard_no (b := true) rfl rfl rfl ?_ rfl
    refine AL.guard_no (b := true) rfl rfl rfl ?_ rfl
    refine AL.guard_no (b := true) rfl rfl rfl ?_ rfl
    refine AL.cons rfl (Does.pickF (Evl.tmp rfl) (Evl.ev Evl.bool) rfl) ?_
    refine AL.cons rfl (Does.assign rfl rfl) ?_
    refine AL.nil ?_
    refine (?_ : AC _ _ _ _ _)
    refine AC.ret ?_
    subst hO
    have e5 : (false : Bool) = decide (low ≤ n ∧ n ≤ high) := by
      first | rfl | (simp_all; done) | (rw [Bool.eq_iff_iff]; simp; omega) | (simp_all; omega) | (rw [Bool.eq_iff_iff]; simp_all; omega)
    exact fin_pure (Res.one rfl (Rs.tmp rfl)) ((congrArg (fun z_ => lf (dB z_)) e5)) rfl
  · have _h := hb4
    have hb4' : (low ≤ n) := of_decide_eq_true hb4
    refine AL.guard_yes rfl rfl rfl (Does.move rfl rfl) ?_
    refine AL.guard_yes rfl rfl rfl (Does.move rfl rfl) ?_
    refine AL.guard_yes rfl rfl rfl (Does.leq (Evl.tmp rfl) (Evl.tmp rfl) rfl) ?_
    refine AL.cons rfl (Does.pickT (Evl.tmp rfl) (Ev.tmp rfl) rfl) ?_
    refine AL.cons rfl (Does.assign rfl rfl) ?_
    refine AL.nil ?_
    refine (?_ : AC _ _ _ _ _)
    refine AC.ret ?_
    subst hO
    have e6 : (decide (n ≤ high) : Bool) = decide (low ≤ n ∧ n ≤ high) := by
      first | rfl | (simp_all; done) | (rw [Bool.eq_iff_iff]; simp; omega) | (simp_all; omega) | (rw [Bool.eq_iff_iff]; simp_all; omega)
    exact fin_pure (Res.one rfl (Rs.tmp rfl)) ((congrArg (fun z_ => lf (dB z_)) e6)) rfl

set_option maxRecDepth 100000 in
set_option maxHeartbeats 4000000 in
theorem fc_spec_l1In (n : Int) (lo : Int) (hi : Int)  : FC Try.prog 105 [(false, [dI n]), (false, [dI lo]), (false, [dI hi])] [] 0 (Pure (lf (dB (decide (lo ≤ n ∧ n ≤ hi))))) := by
  obtain ⟨O_, hO⟩ : ∃ x : PV → Tab → Prop, x = Pure (lf (dB (decide (lo ≤ n ∧ n ≤ hi)))) := ⟨_, rfl⟩
  refine FC.O_of hO (FC.ren (FC.of Try.func105 rfl rfl fun A_ hn_ hk_ => ?_))
  obtain ⟨w0_, N0_, X_, n_, k0_, h0_, f0_⟩ := A_
  obtain rfl : n_ = 15 := hn_.trans Try.ntmps105
  obtain rfl : k0_ = 0 := hk_
  refine AC.fact (fact_int (x := .tmp 0) (Evl.tmp rfl)) fun hi1 => ?_
  refine AC.fact (fact_int (x := .tmp 1) (Evl.tmp rfl)) fun hi2 => ?_
  refine AC.fact (fact_int (x := .tmp 2) (Evl.tmp rfl)) fun hi3 => ?_
  refine AC.seq ?_
  refine AC.region ?_
  refine AL.cons rfl (Does.assignC Evl.bool rfl) ?_
  refine AL.nil ?_
  refine (?_ : AC _ _ _ _ _)
  refine AC.seq ?_
  refine AC.region ?_
  refine AL.cons rfl (Does.move rfl rfl) ?_
  refine AL.cons rfl (Does.move rfl rfl) ?_
  refine AL.cons rfl (Does.geq (Evl.tmp rfl) (Evl.tmp rfl) rfl) ?_
  refine AL.cons rfl (Does.move rfl rfl) ?_
  cases hb4 : (decide (lo ≤ n))
  · have _h := hb4
    have hb4' : ¬ (lo ≤ n) := of_decide_eq_false hb4
    refine AL.guard_no (b := true) rfl rfl rfl ?_ rfl
    refine AL.guard_no (b := true) rfl rfl rfl ?_ rfl
    refine AL.guard_no (b := true) rfl rfl rfl ?_ rfl
    refine AL.cons rfl (Does.pickF (Evl.tmp rfl) (Evl.ev Evl.bool) rfl) ?_
    refine AL.cons rfl (Does.assign rfl rfl) ?_
    refine AL.nil ?_
    refine (?_ : AC _ _ _ _ _)
    refine AC.ret ?_
    subst hO
    have e5 : (false : Bool) = decide (lo ≤ n ∧ n ≤ hi) := by
      first | rfl | (simp_all; done) | (rw [Bool.eq_iff_iff]; simp; omega) | (simp_all; omega) | (rw [Bool.eq_iff_iff]; simp_all; omega)
    exact fin_pure (Res.one rfl (Rs.tmp rfl)) ((congrArg (fun z_ => lf (dB z_)) e5)) rfl
  · have _h := hb4
    have hb4' : (lo ≤ n) := of_decide_eq_true hb4
    refine AL.guard_yes rfl rfl rfl (Does.move rfl rfl) ?_
    refine AL.guard_yes rfl rfl rfl (Does.move rfl rfl) ?_
    refine AL.guard_yes rfl rfl rfl (Does.leq (Evl.tmp rfl) (Evl.tmp rfl) rfl) ?_
    refine AL.cons rfl (Does.pickT (Evl.tmp rfl) (Ev.tmp rfl) rfl) ?_
    refine AL.cons rfl (Does.assign rfl rfl) ?_
    refine AL.nil ?_
    refine (?_ : AC _ _ _ _ _)
    refine AC.ret ?_
    subst hO
    have e6 : (decide (n ≤ hi) : Bool) = decide (lo ≤ n ∧ n ≤ hi) := by
      first | rfl | (simp_all; done) | (rw [Bool.eq_iff_iff]; simp; omega) | (simp_all; omega) | (rw [Bool.eq_iff_iff]; simp_all; omega)
    exact fin_pure (Res.one rfl (Rs.tmp rfl)) ((congrArg (fun z_ => lf (dB z_)) e6)) rfl

theorem tot_sl {E : TypeId} {e : Ty} (xs : List e.Den) : Ty.tot (.sl E e) xs = xs.length + (xs.map e.tot).sum := rfl
def trBy (b : Int) (t : DTransition) : DTransition := (t.1.map fun x => x + b, t.2.map fun x => x + b)

end Go.Proofs.Ytbelopdphlllnaa
