/- Walks over abstract states: small words, copies. -/
import Derived.Test.YtbelopdphlllnaaFa
import Derived.Test.YtbelopdphlllnaaAh
namespace Go.Proofs.Ytbelopdphlllnaa
open Go.RowKit

set_option maxRecDepth 100000 in
set_option maxHeartbeats 4000000 in
theorem fc_impl_within (n : Int) (low : Int) (high : Int)  : FC Try.prog 58 [(false, [dI n]), (false, [dI low]), (false, [dI high])] [] 0 (Pure (lf (dB (decide (low ≤ n ∧ n ≤ high))))) := by
  obtain ⟨O_, hO⟩ : ∃ x : PV → Tab → Prop, x = Pure (lf (dB (decide (low ≤ n ∧ n ≤ high)))) := ⟨_, rfl⟩
  refine FC.O_of hO (FC.ren (FC.of Try.func58 rfl rfl fun A_ hn_ hk_ => ?_))
  obtain ⟨w0_, N0_, X_, n_, k0_, h0_, f0_⟩ := A_
  obtain rfl : n_ = 15 := hn_.trans Try.ntmps58
  obtain rfl : k0_ = 0 := hk_
  refine AC.fact (fact_int (x := .tmp 0) (Evl.tmp rfl)) fun hi1 => ?_
  refine AC.fact (fact_int (x := .tmp 1) (Evl.tmp rfl)) fun hi2 => ?_
  refine AC.fact (fact_int (x := .tmp 2) (Evl.tmp rfl)) fun hi3 => ?_
  refine AC.seq ?_
  refine AC.region ?_
  refine AL.cons rfl (Does.assignC Evl.bool rfl) ?_
  refine AL.nil ?_
  refine (?_ : AC _ _ _ _ _)
  refine AC.seq ?_
  refine AC.region ?_
  refine AL.cons rfl (Does.move rfl rfl) ?_
  refine AL.cons rfl (Does.move rfl rfl) ?_
  refine AL.cons rfl (Does.leq (Evl.tmp rfl) (Evl.tmp rfl) rfl) ?_
  refine AL.cons rfl (Does.move rfl rfl) ?_
  cases hb4 : (decide (low ≤ n))
  · have _h := hb4
    have hb4' : ¬ (low ≤ n) := of_decide_eq_false hb4
    refine AL.guard_no (b := true) rfl rfl rfl ?_ rfl
    refine AL.guard_no (b := true) rfl rfl rfl ?_ rfl
    refine AL.guard_no (b := true) rfl rfl rfl ?_ rfl
    refine AL.cons rfl (Does.pickF (Evl.tmp rfl) (Evl.ev Evl.bool) rfl) ?_
    refine AL.cons rfl (Does.assign rfl rfl) ?_
    refine AL.nil ?_
    refine (?_ : AC _ _ _ _ _)
    refine AC.ret ?_
    subst hO
    have e5 : (false : Bool) = decide (low ≤ n ∧ n ≤ high) := by
      first | rfl | (simp_all; done) | (rw [Bool.eq_iff_iff]; simp; omega) | (simp_all; omega) | (rw [Bool.eq_iff_iff]; simp_all; omega)
    exact fin_pure (Res.one rfl (Rs.tmp rfl)) ((congrArg (fun z_ => lf (dB z_)) e5)) rfl
  · have _h := hb4
    have hb4' : (low ≤ n) := of_decide_eq_true hb4
    refine AL.guard_yes rfl rfl rfl (Does.move rfl rfl) ?_
    refine AL.guard_yes rfl rfl rfl (Does.move rfl rfl) ?_
    refine AL.guard_yes rfl rfl rfl (Does.leq (Evl.tmp rfl) (Evl.tmp rfl) rfl) ?_
    refine AL.cons rfl (Does.pickT (Evl.tmp rfl) (Ev.tmp rfl) rfl) ?_
    refine AL.cons rfl (Does.assign rfl rfl) ?_
    refine AL.nil ?_
    refine (?_ : AC _ _ _ _ _)
    refine AC.ret ?_
    subst hO
    have e6 : (decide (n ≤ high) : Bool) = decide (low ≤ n ∧ n ≤ high) := by
      first | rfl | (simp_all; done) | (rw [Bool.eq_iff_iff]; simp; omega) | (simp_all; omega) | (rw [Bool.eq_iff_iff]; simp_all; omega)
    exact fin_pure (Res.one rfl (Rs.tmp rfl)) ((congrArg (fun z_ => lf (dB z_)) e6)) rfl

set_option maxRecDepth 100000 in
set_option maxHeartbeats 4000000 in
theorem fc_spec_l1In (n : Int) (lo : Int) (hi : Int)  : FC Try.prog 105 [(false, [dI n]), (false, [dI lo]), (false, [dI hi])] [] 0 (Pure (lf (dB (decide (lo ≤ n ∧ n ≤ hi))))) := by
  obtain ⟨O_, hO⟩ : ∃ x : PV → Tab → Prop, x = Pure (lf (dB (decide (lo ≤ n ∧ n ≤ hi)))) := ⟨_, rfl⟩
  refine FC.O_of hO (FC.ren (FC.of Try.func105 rfl rfl fun A_ hn_ hk_ => ?_))
  obtain ⟨w0_, N0_, X_, n_, k0_, h0_, f0_⟩ := A_
  obtain rfl : n_ = 15 := hn_.trans Try.ntmps105
  obtain rfl : k0_ = 0 := hk_
  refine AC.fact (fact_int (x := .tmp 0) (Evl.tmp rfl)) fun hi1 => ?_
  refine AC.fact (fact_int (x := .tmp 1) (Evl.tmp rfl)) fun hi2 => ?_
  refine AC.fact (fact_int (x := .tmp 2) (Evl.tmp rfl)) fun hi3 => ?_
  refine AC.seq ?_
  refine AC.region ?_
  refine AL.cons rfl (Does.assignC Evl.bool rfl) ?_
  refine AL.nil ?_
  refine (?_ : AC _ _ _ _ _)
  refine AC.seq ?_
  refine AC.region ?_
  refine AL.cons rfl (Does.move rfl rfl) ?_
  refine AL.cons rfl (Does.move rfl rfl) ?_
  refine AL.cons rfl (Does.geq (Evl.tmp rfl) (Evl.tmp rfl) rfl) ?_
  refine AL.cons rfl (Does.move rfl rfl) ?_
  cases hb4 : (decide (lo ≤ n))
  · have _h := hb4
    have hb4' : ¬ (lo ≤ n) := of_decide_eq_false hb4
    refine AL.guard_no (b := true) rfl rfl rfl ?_ rfl
    refine AL.guard_no (b := true) rfl rfl rfl ?_ rfl
    refine AL.guard_no (b := true) rfl rfl rfl ?_ rfl
    refine AL.cons rfl (Does.pickF (Evl.tmp rfl) (Evl.ev Evl.bool) rfl) ?_
    refine AL.cons rfl (Does.assign rfl rfl) ?_
    refine AL.nil ?_
    refine (?_ : AC _ _ _ _ _)
    refine AC.ret ?_
    subst hO
    have e5 : (false : Bool) = decide (lo ≤ n ∧ n ≤ hi) := by
      first | rfl | (simp_all; done) | (rw [Bool.eq_iff_iff]; simp; omega) | (simp_all; omega) | (rw [Bool.eq_iff_iff]; simp_all; omega)
    exact fin_pure (Res.one rfl (Rs.tmp rfl)) ((congrArg (fun z_ => lf (dB z_)) e5)) rfl
  · have _h := hb4
    have hb4' : (lo ≤ n) := of_decide_eq_true hb4
    refine AL.guard_yes rfl rfl rfl (Does.move rfl rfl) ?_
    refine AL.guard_yes rfl rfl rfl (Does.move rfl rfl) ?_
    refine AL.guard_yes rfl rfl rfl (Does.leq (Evl.tmp rfl) (Evl.tmp rfl) rfl) ?_
    refine AL.cons rfl (Does.pickT (Evl.tmp rfl) (Ev.tmp rfl) rfl) ?_
    refine AL.cons rfl (Does.assign rfl rfl) ?_
    refine AL.nil ?_
    refine (?_ : AC _ _ _ _ _)
    refine AC.ret ?_
    subst hO
    have e6 : (decide (n ≤ hi) : Bool) = decide (lo ≤ n ∧ n ≤ hi) := by
      first | rfl | (simp_all; done) | (rw [Bool.eq_iff_iff]; simp; omega) | (simp_all; omega) | (rw [Bool.eq_iff_iff]; simp_all; omega)
    exact fin_pure (Res.one rfl (Rs.tmp rfl)) ((congrArg (fun z_ => lf (dB z_)) e6)) rfl

set_option maxRecDepth 100000 in
set_option maxHeartbeats 4000000 in
theorem fc_impl_moved (l : List Int) (by_ : Int) (hl : l.length ≤ 2000000) (hb : ∀ x ∈ l, (-9223372036854775808 ≤ x ∧ x ≤ 9223372036854775807) → -9223372036854775808 ≤ x + by_ ∧ x + by_ ≤ 9223372036854775807) : FC Try.prog 210 [(false, [.dat (.sl 3 .int) l]), (false, [dI by_])] [] 0 (Own1 3 .int (l.map fun x => x + by_)) := by
  obtain ⟨O_, hO⟩ : ∃ x : PV → Tab → Prop, x = Own1 3 .int (l.map fun x => x + by_) := ⟨_, rfl⟩
  refine FC.O_of hO (FC.ren (FC.of Try.func210 rfl rfl fun A_ hn_ hk_ => ?_))
  obtain ⟨w0_, N0_, X_, n_, k0_, h0_, f0_⟩ := A_
  obtain rfl : n_ = 23 := hn_.trans Try.ntmps210
  obtain rfl : k0_ = 0 := hk_
  refine AC.fact (fact_int (x := .tmp 1) (Evl.tmp rfl)) fun hi1 => ?_
  refine AC.seq ?_
  refine AC.region ?_
  refine AL.cons rfl (Does.assignC Evl.val rfl) ?_
  refine AL.nil ?_
  refine (?_ : AC _ _ _ _ _)
  refine AC.seq ?_
  refine AC.region ?_
  refine AL.cons rfl (Does.buildSlice 0 (e := .int) und_72 tsh_3 zer_3 rfl rfl (List.all_eq_true.1 rfl) ⟨rfl, rfl⟩ (by decide) rfl rfl (Fresh.of rfl) (Nat.le_of_ble_eq_true rfl)) ?_
  refine AL.cons rfl (Does.assign rfl rfl) ?_
  refine AL.nil ?_
  refine (?_ : AC _ _ _ _ _)
  refine AC.seq ?_
  refine AC.seq ?_
  refine AC.region ?_
  refine AL.cons rfl (Does.move rfl rfl) ?_
  refine AL.fact (fact_len (x := .tmp 9) (Evl.tmp rfl)) fun hl2 => ?_
  refine AL.cons rfl (Does.len (Evl.tmp rfl) rfl und_72) ?_
  refine AL.cons rfl (Does.moveC (Evl.int rfl) rfl) ?_
  refine AL.nil ?_
  refine (?_ : AC _ _ _ _ _)
  refine AC.block ?_
  refine AC.wk (s' := ⟨[(1, lf (dI by_)), (4, lf (.val (.slice none 0 0))), (5, lf (.ref 1)), (9, lf (.dat (.sl 3 .int) l)), (10, lf (dI (l.length : Int))), (11, lf (dI (0 : Int)))], [(1, some (.arr 3 .int ((l.take 0).map fun x => x + by_)))]⟩) (Wk.of [(1, 0)] rfl ⟨rfl, rfl, rfl, rfl, rfl, rfl, trivial⟩ ⟨(show some (Ent.arr 3 .int ([])) = some (Ent.arr 3 .int ((l.take 0).map fun x => x + by_)) from congrArg (fun z => some (Ent.arr 3 .int z)) (by first | rfl | simp)), trivial⟩ rfl rfl) ?_
  refine AC.loop (fun m_ s_ => ∃ (k : Nat), k ≤ l.length ∧ m_ = l.length - k ∧ s_ = ⟨[(1, lf (dI by_)), (4, lf (.val (.slice none 0 0))), (5, lf (.ref 1)), (9, lf (.dat (.sl 3 .int) l)), (10, lf (dI (l.length : Int))), (11, lf (dI (k : Int)))], [(1, some (.arr 3 .int ((l.take k).map fun x => x + by_)))]⟩) (m := l.length - 0) ⟨0, Nat.zero_le _, rfl, rfl⟩ ?_
  rintro m_ s_ ⟨k, hk3, hm4, rfl⟩
  refine AC.seq ?_
  refine AC.region ?_
  refine AL.cons rfl (Does.lss (Evl.tmp rfl) (Evl.tmp rfl) rfl) ?_
  refine AL.nil ?_
  refine (?_ : AC _ _ _ _ _)
  refine AC.seq ?_
  cases hb5 : (decide ((k : Int) < (l.length : Int)))
  · have _h := hb5
    have hb5' : ¬ ((k : Int) < (l.length : Int)) := of_decide_eq_false hb5
    refine AC.condF (Evl.tmp rfl) ?_
    refine AC.exit ?_
    refine (?_ : AC _ _ _ _ _)
    refine AC.seq ?_
    refine AC.region ?_
    refine AL.cons rfl (Does.move rfl rfl) ?_
    refine AL.cons rfl (Does.assign rfl rfl) ?_
    refine AL.nil ?_
    refine (?_ : AC _ _ _ _ _)
    refine AC.ret ?_
    subst hO
    refine fin_own (e := .int) (xs := ((l.take k).map fun x => x + by_)) (Res.one rfl (Rs.tmp rfl)) rfl ?_
    rw [take_end (by omega)]
  · have _h := hb5
    have hb5' : ((k : Int) < (l.length : Int)) := of_decide_eq_true hb5
    refine AC.condT (Evl.tmp rfl) ?_
    refine AC.skip ?_
    refine (?_ : AC _ _ _ _ _)
    refine AC.seq ?_
    refine AC.block ?_
    refine AC.seq ?_
    refine AC.region ?_
    obtain ⟨x6, hx7⟩ : ∃ z, l[k]? = some z := ⟨_, List.getElem?_eq_getElem (by omega)⟩
    have hbx := hb x6 (List.mem_of_getElem? hx7)
    refine AL.cons rfl (Does.indexE (Evl.tmp rfl) (Evl.tmp rfl) und_72 tsh_3 rfl (by omega) hx7) ?_
    refine AL.cons rfl (Does.loadE (Evl.tmp rfl) tsh_3 rfl rfl) ?_
    refine AL.fact (fact_int (x := .tmp 14) (Evl.tmp rfl)) fun hi8 => ?_
    refine AL.cons rfl (Does.assign rfl rfl) ?_
    refine AL.nil ?_
    refine (?_ : AC _ _ _ _ _)
    refine AC.region ?_
    refine AL.cons rfl (Does.move rfl rfl) ?_
    refine AL.cons rfl (Does.move rfl rfl) ?_
    refine AL.cons rfl (Does.move rfl rfl) ?_
    refine AL.cons rfl (Does.add (Evl.tmp rfl) (Evl.tmp rfl) rfl (by first | omega | (have := hbx (by omega); omega))) ?_
    refine AL.cons rfl (Does.buildSlice 2 (e := .int) und_72 tsh_3 zer_3 rfl ⟨_, _, rfl, (Ev.tmp rfl), rfl⟩ (List.all_eq_true.1 rfl) ⟨_, _, _, _, rfl, ⟨rfl, rfl⟩, ⟨rfl, rfl⟩, rfl⟩ (by decide) rfl rfl (Fresh.of rfl) (Nat.le_of_ble_eq_true rfl)) ?_
    refine AL.cons rfl (Does.append 3 (Evl.tmp rfl) rfl (Evl.tmp rfl) rfl rfl und_72 elb_3 (by simp only [List.length_append, List.length_map, List.length_take, List.length_cons, List.length_nil]; omega) rfl (Fresh.of rfl) (Nat.le_of_ble_eq_true rfl)) ?_
    refine AL.cons rfl (Does.assign rfl rfl) ?_
    refine AL.nil ?_
    refine (?_ : AC _ _ _ _ _)
    refine AC.region ?_
    refine AL.cons rfl (Does.add (Evl.tmp rfl) (Evl.int rfl) rfl (by first | omega | (have := hbx (by omega); omega))) ?_
    refine AL.cons rfl (Does.move rfl rfl) ?_
    refine AL.nil ?_
    exact loop_end (l.length - (k + 1)) ⟨[(1, lf (dI by_)), (4, lf (.val (.slice none 0 0))), (5, lf (.ref 1)), (9, lf (.dat (.sl 3 .int) l)), (10, lf (dI (l.length : Int))), (11, lf (dI ((k + 1) : Int)))], [(1, some (.arr 3 .int ((l.take (k + 1)).map fun x => x + by_)))]⟩ (by omega) (Wk.of [(1, 3)] rfl ⟨rfl, rfl, rfl, rfl, rfl, rfl, trivial⟩ ⟨(show some (Ent.arr 3 .int (((l.take k).map fun x => x + by_) ++ ([x6 + by_]))) = some (Ent.arr 3 .int ((l.take (k + 1)).map fun x => x + by_)) from congrArg (fun z => some (Ent.arr 3 .int z)) (by rw [take_snoc hx7]; simp)), trivial⟩ rfl rfl) ⟨k + 1, by omega, rfl, rfl⟩

set_option maxRecDepth 100000 in
set_option maxHeartbeats 4000000 in
theorem fc_spec_l1Own (l : List Int) (hl : l.length ≤ 2000000) : FC Try.prog 163 [(false, [.dat (.sl 3 .int) l])] [] 0 (Own1 3 .int l) := by
  obtain ⟨O_, hO⟩ : ∃ x : PV → Tab → Prop, x = Own1 3 .int l := ⟨_, rfl⟩
  refine FC.O_of hO (FC.ren (FC.of Try.func163 rfl rfl fun A_ hn_ hk_ => ?_))
  obtain ⟨w0_, N0_, X_, n_, k0_, h0_, f0_⟩ := A_
  obtain rfl : n_ = 6 := hn_.trans Try.ntmps163
  obtain rfl : k0_ = 0 := hk_
  refine AC.seq ?_
  refine AC.region ?_
  refine AL.cons rfl (Does.assignC Evl.val rfl) ?_
  refine AL.nil ?_
  refine (?_ : AC _ _ _ _ _)
  refine AC.seq ?_
  refine AC.region ?_
  refine AL.cons rfl (Does.buildSlice 0 (e := .int) und_72 tsh_3 zer_3 rfl rfl (List.all_eq_true.1 rfl) ⟨rfl, rfl⟩ (by decide) rfl rfl (Fresh.of rfl) (Nat.le_of_ble_eq_true rfl)) ?_
  refine AL.cons rfl (Does.move rfl rfl) ?_
  refine AL.cons rfl (Does.appendF 1 (Evl.tmp rfl) rfl (Evl.rep (Evl.tmp rfl)) rfl und_72 elb_3 (by simp only [List.length_append, List.length_map, List.length_take, List.length_cons, List.length_nil]; omega) rfl (Fresh.of rfl) (Nat.le_of_ble_eq_true rfl)) ?_
  refine AL.cons rfl (Does.assign rfl rfl) ?_
  refine AL.nil ?_
  refine (?_ : AC _ _ _ _ _)
  refine AC.ret ?_
  subst hO
  refine fin_own (e := .int) (xs := (([]) ++ l)) (Res.one rfl (Rs.tmp rfl)) rfl ?_
  first | rfl | simp | (simp; done)

theorem tot_sl {E : TypeId} {e : Ty} (xs : List e.Den) : Ty.tot (.sl E e) xs = xs.length + (xs.map e.tot).sum := rfl
theorem sum_mem {α : Type _} (f : α → Nat) {xs : List α} {x : α} (h : x ∈ xs) : f x ≤ (xs.map f).sum := by
  induction xs with
  | nil => cases h
  | cons y ys ih =>
    simp only [List.map_cons, List.sum_cons]
    rcases List.mem_cons.1 h with rfl | h
    · omega
    · have := ih h; omega
theorem net_len {n : DNet} (hz : Ty.tot tNet n ≤ 2000000) : n.2.length ≤ 2000000 := by
  have : Ty.tot tNet n = 0 + (n.2.length + (n.2.map (Ty.tot tTransition)).sum) := rfl
  omega
theorem stg_parts {s : DSTG} (hz : Ty.tot tSTG s ≤ 2000000) : Ty.tot tNet s.1 ≤ 2000000 ∧ s.2.1.length ≤ 2000000 ∧ s.2.2.1.length ≤ 2000000 := by
  have : Ty.tot tSTG s = Ty.tot tNet s.1 + ((s.2.1.length + (s.2.1.map (Ty.tot tSignal)).sum) + ((s.2.2.1.length + (s.2.2.1.map (Ty.tot tLabel)).sum) + s.2.2.2.size)) := rfl
  omega
theorem net_parts {n : DNet} (hz : Ty.tot tNet n ≤ 2000000) : ∀ t ∈ n.2, t.1.length ≤ 2000000 ∧ t.2.length ≤ 2000000 := fun t ht => by
  have h1 : Ty.tot tNet n = 0 + (n.2.length + (n.2.map (Ty.tot tTransition)).sum) := rfl
  have h2 := sum_mem (Ty.tot tTransition) ht
  have h3 : Ty.tot tTransition t = (t.1.length + (t.1.map (Ty.tot .int)).sum) + (t.2.length + (t.2.map (Ty.tot .int)).sum) := rfl
  omega

set_option maxRecDepth 100000 in
set_option maxHeartbeats 4000000 in
theorem fc_spec_l1OwnN (n : Int × (List (List Int × List Int))) (hz : Ty.tot tNet n ≤ 2000000) : FC Try.prog 122 [(true, [dI n.1, .dat (.sl 146 (.pr (.sl 3 .int) (.sl 3 .int))) n.2])] [] 0 (Is (ag [dI n.1, .ref 0]) [(0, some (.arr 146 (.pr (.sl 3 .int) (.sl 3 .int)) n.2))]) := by
  have hm := net_len hz
  have hp := net_parts hz
  obtain ⟨O_, hO⟩ : ∃ x : PV → Tab → Prop, x = Is (ag [dI n.1, .ref 0]) [(0, some (.arr 146 (.pr (.sl 3 .int) (.sl 3 .int)) n.2))] := ⟨_, rfl⟩
  refine FC.O_of hO (FC.ren (FC.of Try.func122 rfl rfl fun A_ hn_ hk_ => ?_))
  obtain ⟨w0_, N0_, X_, n_, k0_, h0_, f0_⟩ := A_
  obtain rfl : n_ = 30 := hn_.trans Try.ntmps122
  obtain rfl : k0_ = 0 := hk_
  refine AC.fact (fact_ag (x := .tmp 0) (i := 0) (Ev.tmp rfl) rfl) fun hi1 => ?_
  refine AC.seq ?_
  refine AC.region ?_
  refine AL.cons rfl (Does.box 0 (Ev.tmp rfl) rfl rfl (Fresh.of rfl) (Nat.le_of_ble_eq_true rfl)) ?_
  refine AL.cons rfl (Does.alloc 1 (.pr .int (.sl 146 (.pr (.sl 3 .int) (.sl 3 .int)))) zer_47 rfl rfl (Fresh.of rfl) (Nat.le_of_ble_eq_true rfl)) ?_
  refine AL.nil ?_
  refine (?_ : AC _ _ _ _ _)
  refine AC.seq ?_
  refine AC.region ?_
  refine AL.cons rfl (Does.fieldP (Evl.tmp rfl) fld_47_0 rfl rfl) ?_
  refine AL.cons rfl (Does.loadP (Evl.tmp rfl) rfl tsh_3 rfl rfl) ?_
  refine AL.cons rfl (Does.build bld_47 ⟨_, _, rfl, (Ev.tmp rfl), rfl⟩ (List.all_eq_true.1 rfl) rfl rfl) ?_
  refine AL.cons rfl (Does.alloc 2 (.pr .int (.sl 146 (.pr (.sl 3 .int) (.sl 3 .int)))) zer_47 rfl rfl (Fresh.of rfl) (Nat.le_of_ble_eq_true rfl)) ?_
  refine AL.cons rfl (Does.storeP (Evl.tmp rfl) rfl (Ev.tmp rfl) rfl tsh_47 rfl) ?_
  refine AL.nil ?_
  refine (?_ : AC _ _ _ _ _)
  refine AC.seq ?_
  refine AC.seq ?_
  refine AC.region ?_
  refine AL.cons rfl (Does.fieldP (Evl.tmp rfl) fld_47_1 rfl rfl) ?_
  refine AL.cons rfl (Does.loadP (Evl.tmp rfl) rfl tsh_45 rfl rfl) ?_
  refine AL.fact (fact_len (x := .tmp 10) (Evl.tmp rfl)) fun hl2 => ?_
  refine AL.cons rfl (Does.len (Evl.tmp rfl) rfl und_45) ?_
  refine AL.cons rfl (Does.moveC (Evl.int rfl) rfl) ?_
  refine AL.nil ?_
  refine (?_ : AC _ _ _ _ _)
  refine AC.block ?_
  refine AC.wk (Wk.nilC 3 (p := 2) (off := 1) 146 (.pr (.sl 3 .int) (.sl 3 .int)) rfl rfl (Fresh.of rfl) (Nat.le_of_ble_eq_true rfl)) ?_
  refine AC.wk (s' := ⟨[(2, lf (.ptr 1 0)), (3, lf (.ptr 2 0)), (10, lf (.dat (.sl 146 (.pr (.sl 3 .int) (.sl 3 .int))) n.2)), (11, lf (dI (n.2.length : Int))), (12, lf (dI (0 : Int)))], [(1, some (.box 47 [dI 0, .val (.slice none 0 0)])), (2, some (.box 47 [dI n.1, .ref 4])), (4, some (.arr 146 (.pr (.sl 3 .int) (.sl 3 .int)) (n.2.take 0)))]⟩) (Wk.of [(1, 1), (2, 2), (4, 3)] rfl ⟨rfl, rfl, rfl, rfl, rfl, trivial⟩ ⟨rfl, rfl, (show some (Ent.arr 146 (.pr (.sl 3 .int) (.sl 3 .int)) ([])) = some (Ent.arr 146 (.pr (.sl 3 .int) (.sl 3 .int)) (n.2.take 0)) from congrArg (fun z => some (Ent.arr 146 (.pr (.sl 3 .int) (.sl 3 .int)) z)) (by first | rfl | simp)), trivial⟩ rfl rfl) ?_
  refine AC.loop (fun m_ s_ => ∃ (k : Nat), k ≤ n.2.length ∧ m_ = n.2.length - k ∧ s_ = ⟨[(2, lf (.ptr 1 0)), (3, lf (.ptr 2 0)), (10, lf (.dat (.sl 146 (.pr (.sl 3 .int) (.sl 3 .int))) n.2)), (11, lf (dI (n.2.length : Int))), (12, lf (dI (k : Int)))], [(1, some (.box 47 [dI 0, .val (.slice none 0 0)])), (2, some (.box 47 [dI n.1, .ref 4])), (4, some (.arr 146 (.pr (.sl 3 .int) (.sl 3 .int)) (n.2.take k)))]⟩) (m := n.2.length - 0) ⟨0, Nat.zero_le _, rfl, rfl⟩ ?_
  rintro m_ s_ ⟨k, hk3, hm4, rfl⟩
  refine AC.seq ?_
  refine AC.region ?_
  refine AL.cons rfl (Does.lss (Evl.tmp rfl) (Evl.tmp rfl) rfl) ?_
  refine AL.nil ?_
  refine (?_ : AC _ _ _ _ _)
  refine AC.seq ?_
  cases hb5 : (decide ((k : Int) < (n.2.length : Int)))
  · have _h := hb5
    have hb5' : ¬ ((k : Int) < (n.2.length : Int)) := of_decide_eq_false hb5
    refine AC.condF (Evl.tmp rfl) ?_
    refine AC.exit ?_
    refine (?_ : AC _ _ _ _ _)
    refine AC.seq ?_
    refine AC.region ?_
    refine AL.cons rfl (Does.loadPA (Evl.tmp rfl) rfl tsh_47 rfl rfl) ?_
    refine AL.cons rfl (Does.storeP (Evl.tmp rfl) rfl (Ev.tmp rfl) rfl tsh_47 rfl) ?_
    refine AL.nil ?_
    refine (?_ : AC _ _ _ _ _)
    refine AC.ret ?_
    subst hO
    exact fin_is (ag [dI n.1, .ref 0]) [(0, some (.arr 146 (.pr (.sl 3 .int) (.sl 3 .int)) n.2))] [(0, 4)] (Res.one rfl (Rs.cell rfl rfl tsh_47 rfl)) (show ag [dI n.1, .ref 4] = ag [dI n.1, .ref 4] by rfl) ⟨(show some (Ent.arr 146 (.pr (.sl 3 .int) (.sl 3 .int)) (n.2.take k)) = some (Ent.arr 146 (.pr (.sl 3 .int) (.sl 3 .int)) n.2) from congrArg (fun z => some (Ent.arr 146 (.pr (.sl 3 .int) (.sl 3 .int)) z)) (by rw [take_end (by omega)])), trivial⟩ rfl rfl
  · have _h := hb5
    have hb5' : ((k : Int) < (n.2.length : Int)) := of_decide_eq_true hb5
    refine AC.condT (Evl.tmp rfl) ?_
    refine AC.skip ?_
    refine (?_ : AC _ _ _ _ _)
    refine AC.seq ?_
    refine AC.block ?_
    refine AC.seq ?_
    refine AC.region ?_
    obtain ⟨x6, hx7⟩ : ∃ z, n.2[k]? = some z := ⟨_, List.getElem?_eq_getElem (by omega)⟩
    refine AL.cons rfl (Does.indexE (Evl.tmp rfl) (Evl.tmp rfl) und_45 tsh_146 rfl (by omega) hx7) ?_
    refine AL.cons rfl (Does.loadEA (Evl.tmp rfl) tsh_146 rfl rfl) ?_
    refine AL.cons rfl (Does.alloc 5 (.pr (.sl 3 .int) (.sl 3 .int)) zer_146 rfl rfl (Fresh.of rfl) (Nat.le_of_ble_eq_true rfl)) ?_
    refine AL.cons rfl (Does.storeP (Evl.tmp rfl) rfl (Ev.tmp rfl) rfl tsh_146 rfl) ?_
    refine AL.nil ?_
    refine (?_ : AC _ _ _ _ _)
    refine AC.drawL [⟨some 16, lf (.ptr 2 1), []⟩, ⟨some 17, lf (.ref 4), []⟩, ⟨some 18, lf (.ptr 5 0), []⟩, ⟨some 19, lf (.dat (.sl 3 .int) x6.1), []⟩, ⟨some 20, lf (.ref 6), [(6, some (.arr 3 .int x6.1))]⟩, ⟨some 21, lf (.ptr 5 1), []⟩, ⟨some 22, lf (.dat (.sl 3 .int) x6.2), []⟩, ⟨some 23, lf (.ref 7), [(7, some (.arr 3 .int x6.2))]⟩, ⟨some 24, ag [.ref 6, .ref 7], []⟩, ⟨some 25, lf (.ref 8), [(8, some (.arr 146 (.pr (.sl 3 .int) (.sl 3 .int)) ([(x6.1, x6.2)]))), (6, none), (7, none)]⟩, ⟨some 26, lf (.ref 9), [(9, some (.arr 146 (.pr (.sl 3 .int) (.sl 3 .int)) ((n.2.take k) ++ ([(x6.1, x6.2)])))), (4, none), (8, none)]⟩, ⟨some 27, lf (.ptr 2 1), []⟩, ⟨none, lf (.val undef), [(2, some (.box 47 [dI n.1, .ref 9]))]⟩] [[], [0], [], [2], [2, 3], [], [5], [2, 3, 4, 5, 6], [2, 3, 4, 5, 6, 7], [2, 3, 4, 5, 6, 7, 8], [0, 1, 2, 3, 4, 5, 6, 7, 8, 9], [0, 1, 2, 3, 4, 5, 6, 7, 8, 9, 10], [0, 1, 2, 3, 4, 5, 6, 7, 8, 9, 10, 11]] mixed rfl (by kernel_rfl) ?_ ?_
    · refine ⟨fun s_ hs => Acts.of1 rfl (Does.fieldP (Evl.tmp (hs.tm 3 rfl)) fld_47_1 (by rw [hs.en 2 rfl]; rfl) rfl) rfl, fun s_ hs => Acts.of1 rfl (Does.loadP (Evl.tmp (hs.tm 16 rfl)) (hs.en 2 rfl) tsh_45 rfl rfl) rfl, fun s_ hs => Acts.of1 rfl (Does.fieldP (Evl.tmp (hs.tm 5 rfl)) fld_146_0 (by rw [hs.en 5 rfl]; rfl) rfl) rfl, fun s_ hs => Acts.of1 rfl (Does.loadP (Evl.tmp (hs.tm 18 rfl)) (hs.en 5 rfl) tsh_72 rfl rfl) rfl, fun s_ hs => Acts.of1 rfl (Does.callO 6 (fc_spec_l1Own x6.1 (by have := hp _ (List.mem_of_getElem? ‹_›); omega)) enters_163 ⟨_, _, rfl, (Ev.tmp (hs.tm 19 rfl)), rfl⟩ rfl (hs.fr 6 rfl) (Nat.le_of_ble_eq_true rfl)) rfl, fun s_ hs => Acts.of1 rfl (Does.fieldP (Evl.tmp (hs.tm 5 rfl)) fld_146_1 (by rw [hs.en 5 rfl]; rfl) rfl) rfl, fun s_ hs => Acts.of1 rfl (Does.loadP (Evl.tmp (hs.tm 21 rfl)) (hs.en 5 rfl) tsh_72 rfl rfl) rfl, fun s_ hs => Acts.of1 rfl (Does.callO 7 (fc_spec_l1Own x6.2 (by have := hp _ (List.mem_of_getElem? ‹_›); omega)) enters_163 ⟨_, _, rfl, (Ev.tmp (hs.tm 22 rfl)), rfl⟩ rfl (hs.fr 7 rfl) (Nat.le_of_ble_eq_true rfl)) rfl, fun s_ hs => Acts.of1 rfl (Does.build bld_146 ⟨_, _, rfl, (Ev.tmp (hs.tm 20 rfl)), ⟨_, _, rfl, (Ev.tmp (hs.tm 23 rfl)), rfl⟩⟩ (List.all_eq_true.1 (by simp only [okLVs, okLV, List.all_cons, List.all_nil]; rw [hs.en 6 rfl, hs.en 7 rfl]; rfl)) rfl rfl) rfl, fun s_ hs => Acts.of1 rfl (Does.buildSlice 8 (e := (.pr (.sl 3 .int) (.sl 3 .int))) und_45 tsh_146 zer_146 rfl ⟨_, _, rfl, (Ev.tmp (hs.tm 24 rfl)), rfl⟩ (List.all_eq_true.1 (by simp only [okLVs, okLV, List.all_cons, List.all_nil]; rw [hs.en 6 rfl, hs.en 7 rfl]; rfl)) ⟨_, _, _, _, rfl, ⟨_, _, _, _, _, _, rfl, rfl, (.inl ⟨_, rfl, (hs.en 6 rfl), rfl⟩), (.inl ⟨_, rfl, (hs.en 7 rfl), rfl⟩), rfl⟩, ⟨rfl, rfl⟩, rfl⟩ (by decide) rfl rfl (hs.fr 8 rfl) (Nat.le_of_ble_eq_true rfl)) rfl, fun s_ hs => Acts.of1 rfl (Does.append 9 (Evl.tmp (hs.tm 17 rfl)) (hs.en 4 rfl) (Evl.tmp (hs.tm 25 rfl)) (hs.en 8 rfl) rfl und_45 elb_146 (by simp only [List.length_append, List.length_map, List.length_take, List.length_cons, List.length_nil]; omega) rfl (hs.fr 9 rfl) (Nat.le_of_ble_eq_true rfl)) rfl, fun s_ hs => Acts.of1 rfl (Does.fieldP (Evl.tmp (hs.tm 3 rfl)) fld_47_1 (by rw [hs.en 2 rfl]; rfl) rfl) rfl, fun s_ hs => Acts.of1 rfl (Does.storeP (Evl.tmp (hs.tm 27 rfl)) (hs.en 2 rfl) (Ev.tmp (hs.tm 26 rfl)) (by simp only [okLVs, okLV, List.all_cons, List.all_nil]; rw [hs.en 9 rfl]; rfl) tsh_45 rfl) rfl, trivial⟩
    skip
    refine (?_ : AC _ _ _ _ _)
    refine AC.region ?_
    refine AL.cons rfl (Does.add (Evl.tmp rfl) (Evl.int rfl) rfl (by omega)) ?_
    refine AL.cons rfl (Does.move rfl rfl) ?_
    refine AL.nil ?_
    exact loop_end (n.2.length - (k + 1)) ⟨[(2, lf (.ptr 1 0)), (3, lf (.ptr 2 0)), (10, lf (.dat (.sl 146 (.pr (.sl 3 .int) (.sl 3 .int))) n.2)), (11, lf (dI (n.2.length : Int))), (12, lf (dI ((k + 1) : Int)))], [(1, some (.box 47 [dI 0, .val (.slice none 0 0)])), (2, some (.box 47 [dI n.1, .ref 4])), (4, some (.arr 146 (.pr (.sl 3 .int) (.sl 3 .int)) (n.2.take (k + 1))))]⟩ (by omega) (Wk.of [(1, 1), (2, 2), (4, 9)] rfl ⟨rfl, rfl, rfl, rfl, rfl, trivial⟩ ⟨rfl, rfl, (show some (Ent.arr 146 (.pr (.sl 3 .int) (.sl 3 .int)) ((n.2.take k) ++ ([(x6.1, x6.2)]))) = some (Ent.arr 146 (.pr (.sl 3 .int) (.sl 3 .int)) (n.2.take (k + 1))) from congrArg (fun z => some (Ent.arr 146 (.pr (.sl 3 .int) (.sl 3 .int)) z)) (by rw [take_snoc hx7])), trivial⟩ rfl rfl) ⟨k + 1, by omega, rfl, rfl⟩

set_option maxRecDepth 100000 in
set_option maxHeartbeats 4000000 in
theorem fc_spec_l2Own (s : (Int × (List (List Int × List Int))) × (List (ByteArray × Int)) × (List (Int × Bool)) × ByteArray) (hz : Ty.tot tSTG s ≤ 2000000) : FC Try.prog 70 [(true, [dI s.1.1, .dat (.sl 146 (.pr (.sl 3 .int) (.sl 3 .int))) s.1.2, .dat (.sl 129 (.pr .str .int)) s.2.1, .dat (.sl 131 (.pr .int .bool)) s.2.2.1, dS s.2.2.2])] [] 0 (Is (ag [dI s.1.1, .ref 0, .ref 1, .ref 2, dS s.2.2.2]) [(0, some (.arr 146 (.pr (.sl 3 .int) (.sl 3 .int)) s.1.2)), (1, some (.arr 129 (.pr .str .int) s.2.1)), (2, some (.arr 131 (.pr .int .bool) s.2.2.1))]) := by
  obtain ⟨hz1, hz2, hz3⟩ := stg_parts hz
  obtain ⟨O_, hO⟩ : ∃ x : PV → Tab → Prop, x = Is (ag [dI s.1.1, .ref 0, .ref 1, .ref 2, dS s.2.2.2]) [(0, some (.arr 146 (.pr (.sl 3 .int) (.sl 3 .int)) s.1.2)), (1, some (.arr 129 (.pr .str .int) s.2.1)), (2, some (.arr 131 (.pr .int .bool) s.2.2.1))] := ⟨_, rfl⟩
  refine FC.O_of hO (FC.ren (FC.of Try.func70 rfl rfl fun A_ hn_ hk_ => ?_))
  obtain ⟨w0_, N0_, X_, n_, k0_, h0_, f0_⟩ := A_
  obtain rfl : n_ = 17 := hn_.trans Try.ntmps70
  obtain rfl : k0_ = 0 := hk_
  refine AC.fact (fact_ag (x := .tmp 0) (i := 0) (Ev.tmp rfl) rfl) fun hi1 => ?_
  refine AC.seq ?_
  refine AC.region ?_
  refine AL.cons rfl (Does.box 0 (Ev.tmp rfl) rfl rfl (Fresh.of rfl) (Nat.le_of_ble_eq_true rfl)) ?_
  refine AL.cons rfl (Does.alloc 1 (.pr (.pr .int (.sl 146 (.pr (.sl 3 .int) (.sl 3 .int)))) (.pr (.sl 129 (.pr .str .int)) (.pr (.sl 131 (.pr .int .bool)) .str))) zer_50 rfl rfl (Fresh.of rfl) (Nat.le_of_ble_eq_true rfl)) ?_
  refine AL.nil ?_
  refine (?_ : AC _ _ _ _ _)
  refine AC.seq ?_
  refine AC.drawL [⟨some 3, lf (.ptr 0 0), []⟩, ⟨some 4, ag [dI s.1.1, .dat (.sl 146 (.pr (.sl 3 .int) (.sl 3 .int))) s.1.2], []⟩, ⟨some 5, ag [dI s.1.1, .ref 2], [(2, some (.arr 146 (.pr (.sl 3 .int) (.sl 3 .int)) s.1.2))]⟩, ⟨some 6, lf (.ref 3), [(3, some (.arr 129 (.pr .str .int) ([])))]⟩, ⟨some 7, lf (.ptr 0 2), []⟩, ⟨some 8, lf (.dat (.sl 129 (.pr .str .int)) s.2.1), []⟩, ⟨some 9, lf (.ref 4), [(4, some (.arr 129 (.pr .str .int) (([]) ++ s.2.1))), (3, none)]⟩, ⟨some 10, lf (.ref 5), [(5, some (.arr 131 (.pr .int .bool) ([])))]⟩, ⟨some 11, lf (.ptr 0 3), []⟩, ⟨some 12, lf (.dat (.sl 131 (.pr .int .bool)) s.2.2.1), []⟩, ⟨some 13, lf (.ref 6), [(6, some (.arr 131 (.pr .int .bool) (([]) ++ s.2.2.1))), (5, none)]⟩, ⟨some 14, lf (.ptr 0 4), []⟩, ⟨some 15, lf (dS s.2.2.2), []⟩, ⟨some 16, ag [dI s.1.1, .ref 2, .ref 4, .ref 6, dS s.2.2.2], []⟩, ⟨none, lf (.val undef), [(1, some (.box 50 [dI s.1.1, .ref 2, .ref 4, .ref 6, dS s.2.2.2]))]⟩] [[], [0], [0, 1], [], [], [4], [0, 1, 2, 3, 4, 5], [], [], [8], [0, 1, 2, 3, 4, 5, 6, 7, 8, 9], [], [11], [0, 1, 2, 3, 4, 5, 6, 7, 8, 9, 10, 11, 12], [0, 1, 2, 3, 4, 5, 6, 7, 8, 9, 10, 11, 12, 13]] mixed rfl (by kernel_rfl) ?_ ?_
  · refine ⟨fun s_ hs => Acts.of1 rfl (Does.fieldP (Evl.tmp (hs.tm 1 rfl)) fld_50_0 (by rw [hs.en 0 rfl]; rfl) rfl) rfl, fun s_ hs => Acts.of1 rfl (Does.loadPA (Evl.tmp (hs.tm 3 rfl)) (hs.en 0 rfl) tsh_47 rfl rfl) rfl, fun s_ hs => Acts.of1 rfl (Does.callG 2 (fc_spec_l1OwnN s.1 hz1) enters_122 ⟨_, _, rfl, (Ev.tmp (hs.tm 4 rfl)), rfl⟩ rfl rfl ⟨(hs.fr 2 rfl), trivial⟩ (Nat.le_of_ble_eq_true rfl)) rfl, fun s_ hs => Acts.of1 rfl (Does.buildSlice 3 (e := (.pr .str .int)) und_29 tsh_129 zer_129 rfl rfl (List.all_eq_true.1 rfl) ⟨rfl, rfl⟩ (by decide) rfl rfl (hs.fr 3 rfl) (Nat.le_of_ble_eq_true rfl)) rfl, fun s_ hs => Acts.of1 rfl (Does.fieldP (Evl.tmp (hs.tm 1 rfl)) fld_50_1 (by rw [hs.en 0 rfl]; rfl) rfl) rfl, fun s_ hs => Acts.of1 rfl (Does.loadP (Evl.tmp (hs.tm 7 rfl)) (hs.en 0 rfl) tsh_29 rfl rfl) rfl, fun s_ hs => Acts.of1 rfl (Does.appendF 4 (Evl.tmp (hs.tm 6 rfl)) (hs.en 3 rfl) (Evl.rep (Evl.tmp (hs.tm 8 rfl))) rfl und_29 elb_129 (by simp only [List.length_nil]; omega) rfl (hs.fr 4 rfl) (Nat.le_of_ble_eq_true rfl)) rfl, fun s_ hs => Acts.of1 rfl (Does.buildSlice 5 (e := (.pr .int .bool)) und_48 tsh_131 zer_131 rfl rfl (List.all_eq_true.1 rfl) ⟨rfl, rfl⟩ (by decide) rfl rfl (hs.fr 5 rfl) (Nat.le_of_ble_eq_true rfl)) rfl, fun s_ hs => Acts.of1 rfl (Does.fieldP (Evl.tmp (hs.tm 1 rfl)) fld_50_2 (by rw [hs.en 0 rfl]; rfl) rfl) rfl, fun s_ hs => Acts.of1 rfl (Does.loadP (Evl.tmp (hs.tm 11 rfl)) (hs.en 0 rfl) tsh_48 rfl rfl) rfl, fun s_ hs => Acts.of1 rfl (Does.appendF 6 (Evl.tmp (hs.tm 10 rfl)) (hs.en 5 rfl) (Evl.rep (Evl.tmp (hs.tm 12 rfl))) rfl und_48 elb_131 (by simp only [List.length_nil]; omega) rfl (hs.fr 6 rfl) (Nat.le_of_ble_eq_true rfl)) rfl, fun s_ hs => Acts.of1 rfl (Does.fieldP (Evl.tmp (hs.tm 1 rfl)) fld_50_3 (by rw [hs.en 0 rfl]; rfl) rfl) rfl, fun s_ hs => Acts.of1 rfl (Does.loadP (Evl.tmp (hs.tm 14 rfl)) (hs.en 0 rfl) tsh_9 rfl rfl) rfl, fun s_ hs => Acts.of1 rfl (Does.build bld_50 ⟨_, _, rfl, (Ev.tmp (hs.tm 5 rfl)), ⟨_, _, rfl, (Ev.tmp (hs.tm 9 rfl)), ⟨_, _, rfl, (Ev.tmp (hs.tm 13 rfl)), ⟨_, _, rfl, (Ev.tmp (hs.tm 15 rfl)), rfl⟩⟩⟩⟩ (List.all_eq_true.1 (by simp only [okLVs, okLV, List.all_cons, List.all_nil]; rw [hs.en 2 rfl, hs.en 4 rfl, hs.en 6 rfl]; rfl)) rfl rfl) rfl, fun s_ hs => Acts.of1 rfl (Does.storeP (Evl.tmp (hs.tm 2 rfl)) (hs.en 1 rfl) (Ev.tmp (hs.tm 16 rfl)) (by simp only [okLVs, okLV, List.all_cons, List.all_nil]; rw [hs.en 2 rfl, hs.en 4 rfl, hs.en 6 rfl]; rfl) tsh_50 rfl) rfl, trivial⟩
  refine (?_ : AC _ _ _ _ _)
  refine AC.wk (s' := _) (Wk.refl _ _) ?_
  refine AC.ret ?_
  subst hO
  exact fin_is (ag [dI s.1.1, .ref 0, .ref 1, .ref 2, dS s.2.2.2]) [(0, some (.arr 146 (.pr (.sl 3 .int) (.sl 3 .int)) s.1.2)), (1, some (.arr 129 (.pr .str .int) s.2.1)), (2, some (.arr 131 (.pr .int .bool) s.2.2.1))] [(0, 2), (1, 4), (2, 6)] (Res.one rfl (Rs.cell rfl rfl tsh_50 rfl)) (show ag [dI s.1.1, .ref 2, .ref 4, .ref 6, dS s.2.2.2] = ag [dI s.1.1, .ref 2, .ref 4, .ref 6, dS s.2.2.2] by rfl) ⟨rfl, (show some (Ent.arr 129 (.pr .str .int) (([]) ++ s.2.1)) = some (Ent.arr 129 (.pr .str .int) s.2.1) from congrArg (fun z => some (Ent.arr 129 (.pr .str .int) z)) (by rfl)), (show some (Ent.arr 131 (.pr .int .bool) (([]) ++ s.2.2.1)) = some (Ent.arr 131 (.pr .int .bool) s.2.2.1) from congrArg (fun z => some (Ent.arr 131 (.pr .int .bool) z)) (by rfl)), trivial⟩ rfl rfl

def trBy (b : Int) (t : DTransition) : DTransition := (t.1.map fun x => x + b, t.2.map fun x => x + b)

set_option maxRecDepth 100000 in
set_option maxHeartbeats 4000000 in
theorem fc_impl_unionNets (a : Int × (List (List Int × List Int))) (b : Int × (List (List Int × List Int))) (hz : Ty.tot tNet a ≤ 2000000) (hz2 : Ty.tot tNet b ≤ 2000000) (hs : -9223372036854775808 ≤ a.1 + b.1 ∧ a.1 + b.1 ≤ 9223372036854775807) (hb : ∀ t ∈ b.2, (∀ x ∈ t.1, -9223372036854775808 ≤ x + a.1 ∧ x + a.1 ≤ 9223372036854775807) ∧ ∀ x ∈ t.2, -9223372036854775808 ≤ x + a.1 ∧ x + a.1 ≤ 9223372036854775807) : FC Try.prog 164 [(true, [dI a.1, .dat (.sl 146 (.pr (.sl 3 .int) (.sl 3 .int))) a.2]), (true, [dI b.1, .dat (.sl 146 (.pr (.sl 3 .int) (.sl 3 .int))) b.2])] [] 0 (Is (ag [dI (a.1 + b.1), .ref 0]) [(0, some (.arr 146 (.pr (.sl 3 .int) (.sl 3 .int)) (a.2 ++ b.2.map (trBy a.1))))]) := by
  have hm := net_len hz
  have hp := net_parts hz
  have hm2 := net_len hz2
  have hp2 := net_parts hz2
  obtain ⟨O_, hO⟩ : ∃ x : PV → Tab → Prop, x = Is (ag [dI (a.1 + b.1), .ref 0]) [(0, some (.arr 146 (.pr (.sl 3 .int) (.sl 3 .int)) (a.2 ++ b.2.map (trBy a.1))))] := ⟨_, rfl⟩
  refine FC.O_of hO (FC.ren (FC.of Try.func164 rfl rfl fun A_ hn_ hk_ => ?_))
  obtain ⟨w0_, N0_, X_, n_, k0_, h0_, f0_⟩ := A_
  obtain rfl : n_ = 61 := hn_.trans Try.ntmps164
  obtain rfl : k0_ = 0 := hk_
  refine AC.fact (fact_ag (x := .tmp 0) (i := 0) (Ev.tmp rfl) rfl) fun hi1 => ?_
  refine AC.fact (fact_ag (x := .tmp 1) (i := 0) (Ev.tmp rfl) rfl) fun hi2 => ?_
  refine AC.seq ?_
  refine AC.region ?_
  refine AL.cons rfl (Does.box 0 (Ev.tmp rfl) rfl rfl (Fresh.of rfl) (Nat.le_of_ble_eq_true rfl)) ?_
  refine AL.cons rfl (Does.box 1 (Ev.tmp rfl) rfl rfl (Fresh.of rfl) (Nat.le_of_ble_eq_true rfl)) ?_
  refine AL.cons rfl (Does.alloc 2 (.pr .int (.sl 146 (.pr (.sl 3 .int) (.sl 3 .int)))) zer_47 rfl rfl (Fresh.of rfl) (Nat.le_of_ble_eq_true rfl)) ?_
  refine AL.nil ?_
  refine (?_ : AC _ _ _ _ _)
  refine AC.seq ?_
  refine AC.region ?_
  refine AL.cons rfl (Does.fieldP (Evl.tmp rfl) fld_47_0 rfl rfl) ?_
  refine AL.cons rfl (Does.loadP (Evl.tmp rfl) rfl tsh_3 rfl rfl) ?_
  refine AL.cons rfl (Does.fieldP (Evl.tmp rfl) fld_47_0 rfl rfl) ?_
  refine AL.cons rfl (Does.loadP (Evl.tmp rfl) rfl tsh_3 rfl rfl) ?_
  refine AL.cons rfl (Does.add (Evl.tmp rfl) (Evl.tmp rfl) rfl (by omega)) ?_
  refine AL.cons rfl (Does.build bld_47 ⟨_, _, rfl, (Ev.tmp rfl), rfl⟩ (List.all_eq_true.1 rfl) rfl rfl) ?_
  refine AL.cons rfl (Does.alloc 3 (.pr .int (.sl 146 (.pr (.sl 3 .int) (.sl 3 .int)))) zer_47 rfl rfl (Fresh.of rfl) (Nat.le_of_ble_eq_true rfl)) ?_
  refine AL.cons rfl (Does.storeP (Evl.tmp rfl) rfl (Ev.tmp rfl) rfl tsh_47 rfl) ?_
  refine AL.nil ?_
  refine (?_ : AC _ _ _ _ _)
  refine AC.seq ?_
  refine AC.seq ?_
  refine AC.region ?_
  refine AL.cons rfl (Does.fieldP (Evl.tmp rfl) fld_47_1 rfl rfl) ?_
  refine AL.cons rfl (Does.loadP (Evl.tmp rfl) rfl tsh_45 rfl rfl) ?_
  refine AL.fact (fact_len (x := .tmp 17) (Evl.tmp rfl)) fun hl3 => ?_
  refine AL.cons rfl (Does.len (Evl.tmp rfl) rfl und_45) ?_
  refine AL.cons rfl (Does.moveC (Evl.int rfl) rfl) ?_
  refine AL.nil ?_
  refine (?_ : AC _ _ _ _ _)
  refine AC.block ?_
  refine AC.wk (Wk.nilC 4 (p := 3) (off := 1) 146 (.pr (.sl 3 .int) (.sl 3 .int)) rfl rfl (Fresh.of rfl) (Nat.le_of_ble_eq_true rfl)) ?_
  refine AC.wk (s' := ⟨[(2, lf (.ptr 0 0)), (3, lf (.ptr 1 0)), (4, lf (.ptr 2 0)), (5, lf (.ptr 3 0)), (17, lf (.dat (.sl 146 (.pr (.sl 3 .int) (.sl 3 .int))) a.2)), (18, lf (dI (a.2.length : Int))), (19, lf (dI (0 : Int)))], [(0, some (.box 47 [dI a.1, .dat (.sl 146 (.pr (.sl 3 .int) (.sl 3 .int))) a.2])), (1, some (.box 47 [dI b.1, .dat (.sl 146 (.pr (.sl 3 .int) (.sl 3 .int))) b.2])), (2, some (.box 47 [dI 0, .val (.slice none 0 0)])), (3, some (.box 47 [dI (a.1 + b.1), .ref 5])), (5, some (.arr 146 (.pr (.sl 3 .int) (.sl 3 .int)) (a.2.take 0)))]⟩) (Wk.of [(0, 0), (1, 1), (2, 2), (3, 3), (5, 4)] rfl ⟨rfl, rfl, rfl, rfl, rfl, rfl, rfl, trivial⟩ ⟨rfl, rfl, rfl, rfl, (show some (Ent.arr 146 (.pr (.sl 3 .int) (.sl 3 .int)) ([])) = some (Ent.arr 146 (.pr (.sl 3 .int) (.sl 3 .int)) (a.2.take 0)) from congrArg (fun z => some (Ent.arr 146 (.pr (.sl 3 .int) (.sl 3 .int)) z)) (by first | rfl | simp)), trivial⟩ rfl rfl) ?_
  refine AC.loop (fun m_ s_ => ∃ (k : Nat), k ≤ a.2.length ∧ m_ = a.2.length - k ∧ s_ = ⟨[(2, lf (.ptr 0 0)), (3, lf (.ptr 1 0)), (4, lf (.ptr 2 0)), (5, lf (.ptr 3 0)), (17, lf (.dat (.sl 146 (.pr (.sl 3 .int) (.sl 3 .int))) a.2)), (18, lf (dI (a.2.length : Int))), (19, lf (dI (k : Int)))], [(0, some (.box 47 [dI a.1, .dat (.sl 146 (.pr (.sl 3 .int) (.sl 3 .int))) a.2])), (1, some (.box 47 [dI b.1, .dat (.sl 146 (.pr (.sl 3 .int) (.sl 3 .int))) b.2])), (2, some (.box 47 [dI 0, .val (.slice none 0 0)])), (3, some (.box 47 [dI (a.1 + b.1), .ref 5])), (5, some (.arr 146 (.pr (.sl 3 .int) (.sl 3 .int)) (a.2.take k)))]⟩) (m := a.2.length - 0) ⟨0, Nat.zero_le _, rfl, rfl⟩ ?_
  rintro m_ s_ ⟨k, hk4, hm5, rfl⟩
  refine AC.seq ?_
  refine AC.region ?_
  refine AL.cons rfl (Does.lss (Evl.tmp rfl) (Evl.tmp rfl) rfl) ?_
  refine AL.nil ?_
  refine (?_ : AC _ _ _ _ _)
  refine AC.seq ?_
  cases hb6 : (decide ((k : Int) < (a.2.length : Int)))
  · have _h := hb6
    have hb6' : ¬ ((k : Int) < (a.2.length : Int)) := of_decide_eq_false hb6
    refine AC.condF (Evl.tmp rfl) ?_
    refine AC.exit ?_
    refine (?_ : AC _ _ _ _ _)
    refine AC.seq ?_
    refine AC.seq ?_
    refine AC.region ?_
    refine AL.cons rfl (Does.fieldP (Evl.tmp rfl) fld_47_1 rfl rfl) ?_
    refine AL.cons rfl (Does.loadP (Evl.tmp rfl) rfl tsh_45 rfl rfl) ?_
    refine AL.fact (fact_len (x := .tmp 37) (Evl.tmp rfl)) fun hl7 => ?_
    refine AL.cons rfl (Does.len (Evl.tmp rfl) rfl und_45) ?_
    refine AL.cons rfl (Does.moveC (Evl.int rfl) rfl) ?_
    refine AL.nil ?_
    refine (?_ : AC _ _ _ _ _)
    refine AC.block ?_
    refine AC.wk (s' := ⟨[(2, lf (.ptr 0 0)), (4, lf (.ptr 2 0)), (5, lf (.ptr 3 0)), (37, lf (.dat (.sl 146 (.pr (.sl 3 .int) (.sl 3 .int))) b.2)), (38, lf (dI (b.2.length : Int))), (39, lf (dI (0 : Int)))], [(0, some (.box 47 [dI a.1, .dat (.sl 146 (.pr (.sl 3 .int) (.sl 3 .int))) a.2])), (2, some (.box 47 [dI 0, .val (.slice none 0 0)])), (3, some (.box 47 [dI (a.1 + b.1), .ref 6])), (6, some (.arr 146 (.pr (.sl 3 .int) (.sl 3 .int)) (a.2 ++ (b.2.take 0).map (trBy a.1))))]⟩) (Wk.of [(0, 0), (2, 2), (3, 3), (6, 5)] rfl ⟨rfl, rfl, rfl, rfl, rfl, rfl, trivial⟩ ⟨rfl, rfl, rfl, (show some (Ent.arr 146 (.pr (.sl 3 .int) (.sl 3 .int)) (a.2.take k)) = some (Ent.arr 146 (.pr (.sl 3 .int) (.sl 3 .int)) (a.2 ++ (b.2.take 0).map (trBy a.1))) from congrArg (fun z => some (Ent.arr 146 (.pr (.sl 3 .int) (.sl 3 .int)) z)) (by rw [take_end (by omega)]; simp)), trivial⟩ rfl rfl) ?_
    refine AC.loop (fun m_ s_ => ∃ (k : Nat), k ≤ b.2.length ∧ m_ = b.2.length - k ∧ s_ = ⟨[(2, lf (.ptr 0 0)), (4, lf (.ptr 2 0)), (5, lf (.ptr 3 0)), (37, lf (.dat (.sl 146 (.pr (.sl 3 .int) (.sl 3 .int))) b.2)), (38, lf (dI (b.2.length : Int))), (39, lf (dI (k : Int)))], [(0, some (.box 47 [dI a.1, .dat (.sl 146 (.pr (.sl 3 .int) (.sl 3 .int))) a.2])), (2, some (.box 47 [dI 0, .val (.slice none 0 0)])), (3, some (.box 47 [dI (a.1 + b.1), .ref 6])), (6, some (.arr 146 (.pr (.sl 3 .int) (.sl 3 .int)) (a.2 ++ (b.2.take k).map (trBy a.1))))]⟩) (m := b.2.length - 0) ⟨0, Nat.zero_le _, rfl, rfl⟩ ?_
    rintro m_ s_ ⟨k, hk8, hm9, rfl⟩
    refine AC.seq ?_
    refine AC.region ?_
    refine AL.cons rfl (Does.lss (Evl.tmp rfl) (Evl.tmp rfl) rfl) ?_
    refine AL.nil ?_
    refine (?_ : AC _ _ _ _ _)
    refine AC.seq ?_
    cases hb10 : (decide ((k : Int) < (b.2.length : Int)))
    · have _h := hb10
      have hb10' : ¬ ((k : Int) < (b.2.length : Int)) := of_decide_eq_false hb10
      refine AC.condF (Evl.tmp rfl) ?_
      refine AC.exit ?_
      refine (?_ : AC _ _ _ _ _)
      refine AC.seq ?_
      refine AC.region ?_
      refine AL.cons rfl (Does.loadPA (Evl.tmp rfl) rfl tsh_47 rfl rfl) ?_
      refine AL.cons rfl (Does.storeP (Evl.tmp rfl) rfl (Ev.tmp rfl) rfl tsh_47 rfl) ?_
      refine AL.nil ?_
      refine (?_ : AC _ _ _ _ _)
      refine AC.ret ?_
      subst hO
      exact fin_is (ag [dI (a.1 + b.1), .ref 0]) [(0, some (.arr 146 (.pr (.sl 3 .int) (.sl 3 .int)) (a.2 ++ b.2.map (trBy a.1))))] [(0, 6)] (Res.one rfl (Rs.cell rfl rfl tsh_47 rfl)) (show ag [dI (a.1 + b.1), .ref 6] = ag [dI (a.1 + b.1), .ref 6] by rfl) ⟨(show some (Ent.arr 146 (.pr (.sl 3 .int) (.sl 3 .int)) (a.2 ++ (b.2.take k).map (trBy a.1))) = some (Ent.arr 146 (.pr (.sl 3 .int) (.sl 3 .int)) (a.2 ++ b.2.map (trBy a.1))) from congrArg (fun z => some (Ent.arr 146 (.pr (.sl 3 .int) (.sl 3 .int)) z)) (by rw [take_end (by omega)])), trivial⟩ rfl rfl
    · have _h := hb10
      have hb10' : ((k : Int) < (b.2.length : Int)) := of_decide_eq_true hb10
      refine AC.condT (Evl.tmp rfl) ?_
      refine AC.skip ?_
      refine (?_ : AC _ _ _ _ _)
      refine AC.seq ?_
      refine AC.block ?_
      refine AC.seq ?_
      refine AC.region ?_
      obtain ⟨x11, hx12⟩ : ∃ z, b.2[k]? = some z := ⟨_, List.getElem?_eq_getElem (by omega)⟩
      refine AL.cons rfl (Does.indexE (Evl.tmp rfl) (Evl.tmp rfl) und_45 tsh_146 rfl (by omega) hx12) ?_
      refine AL.cons rfl (Does.loadEA (Evl.tmp rfl) tsh_146 rfl rfl) ?_
      refine AL.cons rfl (Does.alloc 7 (.pr (.sl 3 .int) (.sl 3 .int)) zer_146 rfl rfl (Fresh.of rfl) (Nat.le_of_ble_eq_true rfl)) ?_
      refine AL.cons rfl (Does.storeP (Evl.tmp rfl) rfl (Ev.tmp rfl) rfl tsh_146 rfl) ?_
      refine AL.nil ?_
      refine (?_ : AC _ _ _ _ _)
      refine AC.drawL [⟨some 43, lf (.ptr 3 1), []⟩, ⟨some 44, lf (.ref 6), []⟩, ⟨some 45, lf (.ptr 7 0), []⟩, ⟨some 46, lf (.dat (.sl 3 .int) x11.1), []⟩, ⟨some 47, lf (.ptr 0 0), []⟩, ⟨some 48, lf (dI a.1), []⟩, ⟨some 49, lf (.ref 8), [(8, some (.arr 3 .int (x11.1.map fun x => x + a.1)))]⟩, ⟨some 50, lf (.ptr 7 1), []⟩, ⟨some 51, lf (.dat (.sl 3 .int) x11.2), []⟩, ⟨some 52, lf (.ptr 0 0), []⟩, ⟨some 53, lf (dI a.1), []⟩, ⟨some 54, lf (.ref 9), [(9, some (.arr 3 .int (x11.2.map fun x => x + a.1)))]⟩, ⟨some 55, ag [.ref 8, .ref 9], []⟩, ⟨some 56, lf (.ref 10), [(10, some (.arr 146 (.pr (.sl 3 .int) (.sl 3 .int)) ([(x11.1.map fun x => x + a.1, x11.2.map fun x => x + a.1)]))), (8, none), (9, none)]⟩, ⟨some 57, lf (.ref 11), [(11, some (.arr 146 (.pr (.sl 3 .int) (.sl 3 .int)) ((a.2 ++ (b.2.take k).map (trBy a.1)) ++ ([(x11.1.map fun x => x + a.1, x11.2.map fun x => x + a.1)])))), (6, none), (10, none)]⟩, ⟨some 58, lf (.ptr 3 1), []⟩, ⟨none, lf (.val undef), [(3, some (.box 47 [dI (a.1 + b.1), .ref 11]))]⟩] [[], [0], [], [2], [], [4], [2, 3, 4, 5], [], [7], [], [9], [2, 3, 4, 5, 6, 7, 8, 9, 10], [2, 3, 4, 5, 6, 7, 8, 9, 10, 11], [2, 3, 4, 5, 6, 7, 8, 9, 10, 11, 12], [0, 1, 2, 3, 4, 5, 6, 7, 8, 9, 10, 11, 12, 13], [0, 1, 2, 3, 4, 5, 6, 7, 8, 9, 10, 11, 12, 13, 14], [0, 1, 2, 3, 4, 5, 6, 7, 8, 9, 10, 11, 12, 13, 14, 15]] mixed rfl (by kernel_rfl) ?_ ?_
      · refine ⟨fun s_ hs => Acts.of1 rfl (Does.fieldP (Evl.tmp (hs.tm 5 rfl)) fld_47_1 (by rw [hs.en 3 rfl]; rfl) rfl) rfl, fun s_ hs => Acts.of1 rfl (Does.loadP (Evl.tmp (hs.tm 43 rfl)) (hs.en 3 rfl) tsh_45 rfl rfl) rfl, fun s_ hs => Acts.of1 rfl (Does.fieldP (Evl.tmp (hs.tm 9 rfl)) fld_146_0 (by rw [hs.en 7 rfl]; rfl) rfl) rfl, fun s_ hs => Acts.of1 rfl (Does.loadP (Evl.tmp (hs.tm 45 rfl)) (hs.en 7 rfl) tsh_72 rfl rfl) rfl, fun s_ hs => Acts.of1 rfl (Does.fieldP (Evl.tmp (hs.tm 2 rfl)) fld_47_0 (by rw [hs.en 0 rfl]; rfl) rfl) rfl, fun s_ hs => Acts.of1 rfl (Does.loadP (Evl.tmp (hs.tm 47 rfl)) (hs.en 0 rfl) tsh_3 rfl rfl) rfl, fun s_ hs => Acts.of1 rfl (Does.callO 8 (fc_impl_moved x11.1 a.1 (hp2 _ (List.mem_of_getElem? hx12)).1 (fun x hx _ => (hb _ (List.mem_of_getElem? hx12)).1 x hx)) enters_210 ⟨_, _, rfl, (Ev.tmp (hs.tm 46 rfl)), ⟨_, _, rfl, (Ev.tmp (hs.tm 48 rfl)), rfl⟩⟩ rfl (hs.fr 8 rfl) (Nat.le_of_ble_eq_true rfl)) rfl, fun s_ hs => Acts.of1 rfl (Does.fieldP (Evl.tmp (hs.tm 9 rfl)) fld_146_1 (by rw [hs.en 7 rfl]; rfl) rfl) rfl, fun s_ hs => Acts.of1 rfl (Does.loadP (Evl.tmp (hs.tm 50 rfl)) (hs.en 7 rfl) tsh_72 rfl rfl) rfl, fun s_ hs => Acts.of1 rfl (Does.fieldP (Evl.tmp (hs.tm 2 rfl)) fld_47_0 (by rw [hs.en 0 rfl]; rfl) rfl) rfl, fun s_ hs => Acts.of1 rfl (Does.loadP (Evl.tmp (hs.tm 52 rfl)) (hs.en 0 rfl) tsh_3 rfl rfl) rfl, fun s_ hs => Acts.of1 rfl (Does.callO 9 (fc_impl_moved x11.2 a.1 (hp2 _ (List.mem_of_getElem? hx12)).2 (fun x hx _ => (hb _ (List.mem_of_getElem? hx12)).2 x hx)) enters_210 ⟨_, _, rfl, (Ev.tmp (hs.tm 51 rfl)), ⟨_, _, rfl, (Ev.tmp (hs.tm 53 rfl)), rfl⟩⟩ rfl (hs.fr 9 rfl) (Nat.le_of_ble_eq_true rfl)) rfl, fun s_ hs => Acts.of1 rfl (Does.build bld_146 ⟨_, _, rfl, (Ev.tmp (hs.tm 49 rfl)), ⟨_, _, rfl, (Ev.tmp (hs.tm 54 rfl)), rfl⟩⟩ (List.all_eq_true.1 (by simp only [okLVs, okLV, List.all_cons, List.all_nil]; rw [hs.en 8 rfl, hs.en 9 rfl]; rfl)) rfl rfl) rfl, fun s_ hs => Acts.of1 rfl (Does.buildSlice 10 (e := (.pr (.sl 3 .int) (.sl 3 .int))) und_45 tsh_146 zer_146 rfl ⟨_, _, rfl, (Ev.tmp (hs.tm 55 rfl)), rfl⟩ (List.all_eq_true.1 (by simp only [okLVs, okLV, List.all_cons, List.all_nil]; rw [hs.en 8 rfl, hs.en 9 rfl]; rfl)) ⟨_, _, _, _, rfl, ⟨_, _, _, _, _, _, rfl, rfl, (.inl ⟨_, rfl, (hs.en 8 rfl), rfl⟩), (.inl ⟨_, rfl, (hs.en 9 rfl), rfl⟩), rfl⟩, ⟨rfl, rfl⟩, rfl⟩ (by decide) rfl rfl (hs.fr 10 rfl) (Nat.le_of_ble_eq_true rfl)) rfl, fun s_ hs => Acts.of1 rfl (Does.append 11 (Evl.tmp (hs.tm 44 rfl)) (hs.en 6 rfl) (Evl.tmp (hs.tm 56 rfl)) (hs.en 10 rfl) rfl und_45 elb_146 (by simp only [List.length_append, List.length_map, List.length_take, List.length_cons, List.length_nil]; omega) rfl (hs.fr 11 rfl) (Nat.le_of_ble_eq_true rfl)) rfl, fun s_ hs => Acts.of1 rfl (Does.fieldP (Evl.tmp (hs.tm 5 rfl)) fld_47_1 (by rw [hs.en 3 rfl]; rfl) rfl) rfl, fun s_ hs => Acts.of1 rfl (Does.storeP (Evl.tmp (hs.tm 58 rfl)) (hs.en 3 rfl) (Ev.tmp (hs.tm 57 rfl)) (by simp only [okLVs, okLV, List.all_cons, List.all_nil]; rw [hs.en 11 rfl]; rfl) tsh_45 rfl) rfl, trivial⟩
      skip
      refine (?_ : AC _ _ _ _ _)
      refine AC.region ?_
      refine AL.cons rfl (Does.add (Evl.tmp rfl) (Evl.int rfl) rfl (by omega)) ?_
      refine AL.cons rfl (Does.move rfl rfl) ?_
      refine AL.nil ?_
      exact loop_end (b.2.length - (k + 1)) ⟨[(2, lf (.ptr 0 0)), (4, lf (.ptr 2 0)), (5, lf (.ptr 3 0)), (37, lf (.dat (.sl 146 (.pr (.sl 3 .int) (.sl 3 .int))) b.2)), (38, lf (dI (b.2.length : Int))), (39, lf (dI ((k + 1) : Int)))], [(0, some (.box 47 [dI a.1, .dat (.sl 146 (.pr (.sl 3 .int) (.sl 3 .int))) a.2])), (2, some (.box 47 [dI 0, .val (.slice none 0 0)])), (3, some (.box 47 [dI (a.1 + b.1), .ref 6])), (6, some (.arr 146 (.pr (.sl 3 .int) (.sl 3 .int)) (a.2 ++ (b.2.take (k + 1)).map (trBy a.1))))]⟩ (by omega) (Wk.of [(0, 0), (2, 2), (3, 3), (6, 11)] rfl ⟨rfl, rfl, rfl, rfl, rfl, rfl, trivial⟩ ⟨rfl, rfl, rfl, (show some (Ent.arr 146 (.pr (.sl 3 .int) (.sl 3 .int)) ((a.2 ++ (b.2.take k).map (trBy a.1)) ++ ([(x11.1.map fun x => x + a.1, x11.2.map fun x => x + a.1)]))) = some (Ent.arr 146 (.pr (.sl 3 .int) (.sl 3 .int)) (a.2 ++ (b.2.take (k + 1)).map (trBy a.1))) from congrArg (fun z => some (Ent.arr 146 (.pr (.sl 3 .int) (.sl 3 .int)) z)) (by rw [take_snoc hx12]; simp [trBy])), trivial⟩ rfl rfl) ⟨k + 1, by omega, rfl, rfl⟩
  · have _h := hb6
    have hb6' : ((k : Int) < (a.2.length : Int)) := of_decide_eq_true hb6
    refine AC.condT (Evl.tmp rfl) ?_
    refine AC.skip ?_
    refine (?_ : AC _ _ _ _ _)
    refine AC.seq ?_
    refine AC.block ?_
    refine AC.seq ?_
    refine AC.region ?_
    obtain ⟨x13, hx14⟩ : ∃ z, a.2[k]? = some z := ⟨_, List.getElem?_eq_getElem (by omega)⟩
    refine AL.cons rfl (Does.indexE (Evl.tmp rfl) (Evl.tmp rfl) und_45 tsh_146 rfl (by omega) hx14) ?_
    refine AL.cons rfl (Does.loadEA (Evl.tmp rfl) tsh_146 rfl rfl) ?_
    refine AL.cons rfl (Does.alloc 12 (.pr (.sl 3 .int) (.sl 3 .int)) zer_146 rfl rfl (Fresh.of rfl) (Nat.le_of_ble_eq_true rfl)) ?_
    refine AL.cons rfl (Does.storeP (Evl.tmp rfl) rfl (Ev.tmp rfl) rfl tsh_146 rfl) ?_
    refine AL.nil ?_
    refine (?_ : AC _ _ _ _ _)
    refine AC.drawL [⟨some 23, lf (.ptr 3 1), []⟩, ⟨some 24, lf (.ref 5), []⟩, ⟨some 25, lf (.ptr 12 0), []⟩, ⟨some 26, lf (.dat (.sl 3 .int) x13.1), []⟩, ⟨some 27, lf (.ref 13), [(13, some (.arr 3 .int (x13.1.map fun x => x + 0)))]⟩, ⟨some 28, lf (.ptr 12 1), []⟩, ⟨some 29, lf (.dat (.sl 3 .int) x13.2), []⟩, ⟨some 30, lf (.ref 14), [(14, some (.arr 3 .int (x13.2.map fun x => x + 0)))]⟩, ⟨some 31, ag [.ref 13, .ref 14], []⟩, ⟨some 32, lf (.ref 15), [(15, some (.arr 146 (.pr (.sl 3 .int) (.sl 3 .int)) ([(x13.1.map fun x => x + 0, x13.2.map fun x => x + 0)]))), (13, none), (14, none)]⟩, ⟨some 33, lf (.ref 16), [(16, some (.arr 146 (.pr (.sl 3 .int) (.sl 3 .int)) ((a.2.take k) ++ ([(x13.1.map fun x => x + 0, x13.2.map fun x => x + 0)])))), (5, none), (15, none)]⟩, ⟨some 34, lf (.ptr 3 1), []⟩, ⟨none, lf (.val undef), [(3, some (.box 47 [dI (a.1 + b.1), .ref 16]))]⟩] [[], [0], [], [2], [2, 3], [], [5], [2, 3, 4, 5, 6], [2, 3, 4, 5, 6, 7], [2, 3, 4, 5, 6, 7, 8], [0, 1, 2, 3, 4, 5, 6, 7, 8, 9], [0, 1, 2, 3, 4, 5, 6, 7, 8, 9, 10], [0, 1, 2, 3, 4, 5, 6, 7, 8, 9, 10, 11]] mixed rfl (by kernel_rfl) ?_ ?_
    · refine ⟨fun s_ hs => Acts.of1 rfl (Does.fieldP (Evl.tmp (hs.tm 5 rfl)) fld_47_1 (by rw [hs.en 3 rfl]; rfl) rfl) rfl, fun s_ hs => Acts.of1 rfl (Does.loadP (Evl.tmp (hs.tm 23 rfl)) (hs.en 3 rfl) tsh_45 rfl rfl) rfl, fun s_ hs => Acts.of1 rfl (Does.fieldP (Evl.tmp (hs.tm 7 rfl)) fld_146_0 (by rw [hs.en 12 rfl]; rfl) rfl) rfl, fun s_ hs => Acts.of1 rfl (Does.loadP (Evl.tmp (hs.tm 25 rfl)) (hs.en 12 rfl) tsh_72 rfl rfl) rfl, fun s_ hs => Acts.of1 rfl (Does.callO 13 (fc_impl_moved x13.1 0 (hp _ (List.mem_of_getElem? hx14)).1 (fun x _ h => by simpa using h)) enters_210 ⟨_, _, rfl, (Ev.tmp (hs.tm 26 rfl)), ⟨_, _, rfl, (Evl.ev (Evl.int rfl)), rfl⟩⟩ rfl (hs.fr 13 rfl) (Nat.le_of_ble_eq_true rfl)) rfl, fun s_ hs => Acts.of1 rfl (Does.fieldP (Evl.tmp (hs.tm 7 rfl)) fld_146_1 (by rw [hs.en 12 rfl]; rfl) rfl) rfl, fun s_ hs => Acts.of1 rfl (Does.loadP (Evl.tmp (hs.tm 28 rfl)) (hs.en 12 rfl) tsh_72 rfl rfl) rfl, fun s_ hs => Acts.of1 rfl (Does.callO 14 (fc_impl_moved x13.2 0 (hp _ (List.mem_of_getElem? hx14)).2 (fun x _ h => by simpa using h)) enters_210 ⟨_, _, rfl, (Ev.tmp (hs.tm 29 rfl)), ⟨_, _, rfl, (Evl.ev (Evl.int rfl)), rfl⟩⟩ rfl (hs.fr 14 rfl) (Nat.le_of_ble_eq_true rfl)) rfl, fun s_ hs => Acts.of1 rfl (Does.build bld_146 ⟨_, _, rfl, (Ev.tmp (hs.tm 27 rfl)), ⟨_, _, rfl, (Ev.tmp (hs.tm 30 rfl)), rfl⟩⟩ (List.all_eq_true.1 (by simp only [okLVs, okLV, List.all_cons, List.all_nil]; rw [hs.en 13 rfl, hs.en 14 rfl]; rfl)) rfl rfl) rfl, fun s_ hs => Acts.of1 rfl (Does.buildSlice 15 (e := (.pr (.sl 3 .int) (.sl 3 .int))) und_45 tsh_146 zer_146 rfl ⟨_, _, rfl, (Ev.tmp (hs.tm 31 rfl)), rfl⟩ (List.all_eq_true.1 (by simp only [okLVs, okLV, List.all_cons, List.all_nil]; rw [hs.en 13 rfl, hs.en 14 rfl]; rfl)) ⟨_, _, _, _, rfl, ⟨_, _, _, _, _, _, rfl, rfl, (.inl ⟨_, rfl, (hs.en 13 rfl), rfl⟩), (.inl ⟨_, rfl, (hs.en 14 rfl), rfl⟩), rfl⟩, ⟨rfl, rfl⟩, rfl⟩ (by decide) rfl rfl (hs.fr 15 rfl) (Nat.le_of_ble_eq_true rfl)) rfl, fun s_ hs => Acts.of1 rfl (Does.append 16 (Evl.tmp (hs.tm 24 rfl)) (hs.en 5 rfl) (Evl.tmp (hs.tm 32 rfl)) (hs.en 15 rfl) rfl und_45 elb_146 (by simp only [List.length_append, List.length_map, List.length_take, List.length_cons, List.length_nil]; omega) rfl (hs.fr 16 rfl) (Nat.le_of_ble_eq_true rfl)) rfl, fun s_ hs => Acts.of1 rfl (Does.fieldP (Evl.tmp (hs.tm 5 rfl)) fld_47_1 (by rw [hs.en 3 rfl]; rfl) rfl) rfl, fun s_ hs => Acts.of1 rfl (Does.storeP (Evl.tmp (hs.tm 34 rfl)) (hs.en 3 rfl) (Ev.tmp (hs.tm 33 rfl)) (by simp only [okLVs, okLV, List.all_cons, List.all_nil]; rw [hs.en 16 rfl]; rfl) tsh_45 rfl) rfl, trivial⟩
    skip
    refine (?_ : AC _ _ _ _ _)
    refine AC.region ?_
    refine AL.cons rfl (Does.add (Evl.tmp rfl) (Evl.int rfl) rfl (by omega)) ?_
    refine AL.cons rfl (Does.move rfl rfl) ?_
    refine AL.nil ?_
    exact loop_end (a.2.length - (k + 1)) ⟨[(2, lf (.ptr 0 0)), (3, lf (.ptr 1 0)), (4, lf (.ptr 2 0)), (5, lf (.ptr 3 0)), (17, lf (.dat (.sl 146 (.pr (.sl 3 .int) (.sl 3 .int))) a.2)), (18, lf (dI (a.2.length : Int))), (19, lf (dI ((k + 1) : Int)))], [(0, some (.box 47 [dI a.1, .dat (.sl 146 (.pr (.sl 3 .int) (.sl 3 .int))) a.2])), (1, some (.box 47 [dI b.1, .dat (.sl 146 (.pr (.sl 3 .int) (.sl 3 .int))) b.2])), (2, some (.box 47 [dI 0, .val (.slice none 0 0)])), (3, some (.box 47 [dI (a.1 + b.1), .ref 5])), (5, some (.arr 146 (.pr (.sl 3 .int) (.sl 3 .int)) (a.2.take (k + 1))))]⟩ (by omega) (Wk.of [(0, 0), (1, 1), (2, 2), (3, 3), (5, 16)] rfl ⟨rfl, rfl, rfl, rfl, rfl, rfl, rfl, trivial⟩ ⟨rfl, rfl, rfl, rfl, (show some (Ent.arr 146 (.pr (.sl 3 .int) (.sl 3 .int)) ((a.2.take k) ++ ([(x13.1.map fun x => x + 0, x13.2.map fun x => x + 0)]))) = some (Ent.arr 146 (.pr (.sl 3 .int) (.sl 3 .int)) (a.2.take (k + 1))) from congrArg (fun z => some (Ent.arr 146 (.pr (.sl 3 .int) (.sl 3 .int)) z)) (by rw [take_snoc hx14]; simp)), trivial⟩ rfl rfl) ⟨k + 1, by omega, rfl, rfl⟩

set_option maxRecDepth 100000 in
set_option maxHeartbeats 4000000 in
theorem fc_impl_copyNet (n : Int × (List (List Int × List Int))) (hz : Ty.tot tNet n ≤ 2000000) : FC Try.prog 123 [(true, [dI n.1, .dat (.sl 146 (.pr (.sl 3 .int) (.sl 3 .int))) n.2])] [] 0 (Is (ag [dI n.1, .ref 0]) [(0, some (.arr 146 (.pr (.sl 3 .int) (.sl 3 .int)) n.2))]) := by
  obtain ⟨O_, hO⟩ : ∃ x : PV → Tab → Prop, x = Is (ag [dI n.1, .ref 0]) [(0, some (.arr 146 (.pr (.sl 3 .int) (.sl 3 .int)) n.2))] := ⟨_, rfl⟩
  refine FC.O_of hO (FC.ren (FC.of Try.func123 rfl rfl fun A_ hn_ hk_ => ?_))
  obtain ⟨w0_, N0_, X_, n_, k0_, h0_, f0_⟩ := A_
  obtain rfl : n_ = 6 := hn_.trans Try.ntmps123
  obtain rfl : k0_ = 0 := hk_
  refine AC.fact (fact_ag (x := .tmp 0) (i := 0) (Ev.tmp rfl) rfl) fun hi1 => ?_
  refine AC.seq ?_
  refine AC.region ?_
  refine AL.cons rfl (Does.box 0 (Ev.tmp rfl) rfl rfl (Fresh.of rfl) (Nat.le_of_ble_eq_true rfl)) ?_
  refine AL.cons rfl (Does.alloc 1 (.pr .int (.sl 146 (.pr (.sl 3 .int) (.sl 3 .int)))) zer_47 rfl rfl (Fresh.of rfl) (Nat.le_of_ble_eq_true rfl)) ?_
  refine AL.nil ?_
  refine (?_ : AC _ _ _ _ _)
  refine AC.seq ?_
  refine AC.region ?_
  refine AL.cons rfl (Does.loadPA (Evl.tmp rfl) rfl tsh_47 rfl rfl) ?_
  refine AL.cons rfl (Does.build bld_47 rfl (List.all_eq_true.1 rfl) rfl rfl) ?_
  refine AL.cons rfl (Does.callG 2 (fc_impl_unionNets n (0, ([] : ((.sl 146 (.pr (.sl 3 .int) (.sl 3 .int))) : Ty).Den)) hz (by decide) (by simpa using hi1) (by simp)) enters_164 ⟨_, _, rfl, (Ev.tmp rfl), ⟨_, _, rfl, (Ev.nils (Ev.tmp rfl) ⟨_, _, rfl, .inl rfl, ⟨_, _, rfl, .inr ⟨_, _, rfl, rfl⟩, rfl⟩⟩), rfl⟩⟩ rfl rfl ⟨Fresh.of rfl, trivial⟩ (Nat.le_of_ble_eq_true rfl)) ?_
  refine AL.cons rfl (Does.storeP (Evl.tmp rfl) rfl (Ev.tmp rfl) rfl tsh_47 rfl) ?_
  refine AL.nil ?_
  refine (?_ : AC _ _ _ _ _)
  refine AC.ret ?_
  subst hO
  have e2 : (n.1 + (0, ([] : ((.sl 146 (.pr (.sl 3 .int) (.sl 3 .int))) : Ty).Den)).1 : Int) = n.1 := by
    simp
  exact fin_is (ag [dI n.1, .ref 0]) [(0, some (.arr 146 (.pr (.sl 3 .int) (.sl 3 .int)) n.2))] [(0, 2)] (Res.one rfl (Rs.cell rfl rfl tsh_47 rfl)) (show ag [dI (n.1 + (0, ([] : ((.sl 146 (.pr (.sl 3 .int) (.sl 3 .int))) : Ty).Den)).1), .ref 2] = ag [dI n.1, .ref 2] by exact (congrArg (fun z_ => ag [dI z_, .ref 2]) e2)) ⟨(show some (Ent.arr 146 (.pr (.sl 3 .int) (.sl 3 .int)) (n.2 ++ (0, ([] : ((.sl 146 (.pr (.sl 3 .int) (.sl 3 .int))) : Ty).Den)).2.map (trBy n.1))) = some (Ent.arr 146 (.pr (.sl 3 .int) (.sl 3 .int)) n.2) from congrArg (fun z => some (Ent.arr 146 (.pr (.sl 3 .int) (.sl 3 .int)) z)) (by simp)), trivial⟩ rfl rfl

set_option maxRecDepth 100000 in
set_option maxHeartbeats 4000000 in
theorem fc_impl_copySTG (s : (Int × (List (List Int × List Int))) × (List (ByteArray × Int)) × (List (Int × Bool)) × ByteArray) (hz : Ty.tot tSTG s ≤ 2000000) : FC Try.prog 71 [(true, [dI s.1.1, .dat (.sl 146 (.pr (.sl 3 .int) (.sl 3 .int))) s.1.2, .dat (.sl 129 (.pr .str .int)) s.2.1, .dat (.sl 131 (.pr .int .bool)) s.2.2.1, dS s.2.2.2])] [] 0 (Is (ag [dI s.1.1, .ref 0, .ref 1, .ref 2, dS s.2.2.2]) [(0, some (.arr 146 (.pr (.sl 3 .int) (.sl 3 .int)) s.1.2)), (1, some (.arr 129 (.pr .str .int) s.2.1)), (2, some (.arr 131 (.pr .int .bool) s.2.2.1))]) := by
  obtain ⟨hz1, hz2, hz3⟩ := stg_parts hz
  obtain ⟨O_, hO⟩ : ∃ x : PV → Tab → Prop, x = Is (ag [dI s.1.1, .ref 0, .ref 1, .ref 2, dS s.2.2.2]) [(0, some (.arr 146 (.pr (.sl 3 .int) (.sl 3 .int)) s.1.2)), (1, some (.arr 129 (.pr .str .int) s.2.1)), (2, some (.arr 131 (.pr .int .bool) s.2.2.1))] := ⟨_, rfl⟩
  refine FC.O_of hO (FC.ren (FC.of Try.func71 rfl rfl fun A_ hn_ hk_ => ?_))
  obtain ⟨w0_, N0_, X_, n_, k0_, h0_, f0_⟩ := A_
  obtain rfl : n_ = 17 := hn_.trans Try.ntmps71
  obtain rfl : k0_ = 0 := hk_
  refine AC.fact (fact_ag (x := .tmp 0) (i := 0) (Ev.tmp rfl) rfl) fun hi1 => ?_
  refine AC.seq ?_
  refine AC.region ?_
  refine AL.cons rfl (Does.box 0 (Ev.tmp rfl) rfl rfl (Fresh.of rfl) (Nat.le_of_ble_eq_true rfl)) ?_
  refine AL.cons rfl (Does.alloc 1 (.pr (.pr .int (.sl 146 (.pr (.sl 3 .int) (.sl 3 .int)))) (.pr (.sl 129 (.pr .str .int)) (.pr (.sl 131 (.pr .int .bool)) .str))) zer_50 rfl rfl (Fresh.of rfl) (Nat.le_of_ble_eq_true rfl)) ?_
  refine AL.nil ?_
  refine (?_ : AC _ _ _ _ _)
  refine AC.seq ?_
  refine AC.drawL [⟨some 3, lf (.ptr 0 0), []⟩, ⟨some 4, ag [dI s.1.1, .dat (.sl 146 (.pr (.sl 3 .int) (.sl 3 .int))) s.1.2], []⟩, ⟨some 5, ag [dI s.1.1, .ref 2], [(2, some (.arr 146 (.pr (.sl 3 .int) (.sl 3 .int)) s.1.2))]⟩, ⟨some 6, lf (.ref 3), [(3, some (.arr 129 (.pr .str .int) ([])))]⟩, ⟨some 7, lf (.ptr 0 2), []⟩, ⟨some 8, lf (.dat (.sl 129 (.pr .str .int)) s.2.1), []⟩, ⟨some 9, lf (.ref 4), [(4, some (.arr 129 (.pr .str .int) (([]) ++ s.2.1))), (3, none)]⟩, ⟨some 10, lf (.ref 5), [(5, some (.arr 131 (.pr .int .bool) ([])))]⟩, ⟨some 11, lf (.ptr 0 3), []⟩, ⟨some 12, lf (.dat (.sl 131 (.pr .int .bool)) s.2.2.1), []⟩, ⟨some 13, lf (.ref 6), [(6, some (.arr 131 (.pr .int .bool) (([]) ++ s.2.2.1))), (5, none)]⟩, ⟨some 14, lf (.ptr 0 4), []⟩, ⟨some 15, lf (dS s.2.2.2), []⟩, ⟨some 16, ag [dI s.1.1, .ref 2, .ref 4, .ref 6, dS s.2.2.2], []⟩, ⟨none, lf (.val undef), [(1, some (.box 50 [dI s.1.1, .ref 2, .ref 4, .ref 6, dS s.2.2.2]))]⟩] [[], [0], [0, 1], [], [], [4], [0, 1, 2, 3, 4, 5], [], [], [8], [0, 1, 2, 3, 4, 5, 6, 7, 8, 9], [], [11], [0, 1, 2, 3, 4, 5, 6, 7, 8, 9, 10, 11, 12], [0, 1, 2, 3, 4, 5, 6, 7, 8, 9, 10, 11, 12, 13]] mixed rfl (by kernel_rfl) ?_ ?_
  · refine ⟨fun s_ hs => Acts.of1 rfl (Does.fieldP (Evl.tmp (hs.tm 1 rfl)) fld_50_0 (by rw [hs.en 0 rfl]; rfl) rfl) rfl, fun s_ hs => Acts.of1 rfl (Does.loadPA (Evl.tmp (hs.tm 3 rfl)) (hs.en 0 rfl) tsh_47 rfl rfl) rfl, fun s_ hs => Acts.of1 rfl (Does.callG 2 (fc_impl_copyNet s.1 hz1) enters_123 ⟨_, _, rfl, (Ev.tmp (hs.tm 4 rfl)), rfl⟩ rfl rfl ⟨(hs.fr 2 rfl), trivial⟩ (Nat.le_of_ble_eq_true rfl)) rfl, fun s_ hs => Acts.of1 rfl (Does.buildSlice 3 (e := (.pr .str .int)) und_29 tsh_129 zer_129 rfl rfl (List.all_eq_true.1 rfl) ⟨rfl, rfl⟩ (by decide) rfl rfl (hs.fr 3 rfl) (Nat.le_of_ble_eq_true rfl)) rfl, fun s_ hs => Acts.of1 rfl (Does.fieldP (Evl.tmp (hs.tm 1 rfl)) fld_50_1 (by rw [hs.en 0 rfl]; rfl) rfl) rfl, fun s_ hs => Acts.of1 rfl (Does.loadP (Evl.tmp (hs.tm 7 rfl)) (hs.en 0 rfl) tsh_29 rfl rfl) rfl, fun s_ hs => Acts.of1 rfl (Does.appendF 4 (Evl.tmp (hs.tm 6 rfl)) (hs.en 3 rfl) (Evl.rep (Evl.tmp (hs.tm 8 rfl))) rfl und_29 elb_129 (by simp only [List.length_nil]; omega) rfl (hs.fr 4 rfl) (Nat.le_of_ble_eq_true rfl)) rfl, fun s_ hs => Acts.of1 rfl (Does.buildSlice 5 (e := (.pr .int .bool)) und_48 tsh_131 zer_131 rfl rfl (List.all_eq_true.1 rfl) ⟨rfl, rfl⟩ (by decide) rfl rfl (hs.fr 5 rfl) (Nat.le_of_ble_eq_true rfl)) rfl, fun s_ hs => Acts.of1 rfl (Does.fieldP (Evl.tmp (hs.tm 1 rfl)) fld_50_2 (by rw [hs.en 0 rfl]; rfl) rfl) rfl, fun s_ hs => Acts.of1 rfl (Does.loadP (Evl.tmp (hs.tm 11 rfl)) (hs.en 0 rfl) tsh_48 rfl rfl) rfl, fun s_ hs => Acts.of1 rfl (Does.appendF 6 (Evl.tmp (hs.tm 10 rfl)) (hs.en 5 rfl) (Evl.rep (Evl.tmp (hs.tm 12 rfl))) rfl und_48 elb_131 (by simp only [List.length_nil]; omega) rfl (hs.fr 6 rfl) (Nat.le_of_ble_eq_true rfl)) rfl, fun s_ hs => Acts.of1 rfl (Does.fieldP (Evl.tmp (hs.tm 1 rfl)) fld_50_3 (by rw [hs.en 0 rfl]; rfl) rfl) rfl, fun s_ hs => Acts.of1 rfl (Does.loadP (Evl.tmp (hs.tm 14 rfl)) (hs.en 0 rfl) tsh_9 rfl rfl) rfl, fun s_ hs => Acts.of1 rfl (Does.build bld_50 ⟨_, _, rfl, (Ev.tmp (hs.tm 5 rfl)), ⟨_, _, rfl, (Ev.tmp (hs.tm 9 rfl)), ⟨_, _, rfl, (Ev.tmp (hs.tm 13 rfl)), ⟨_, _, rfl, (Ev.tmp (hs.tm 15 rfl)), rfl⟩⟩⟩⟩ (List.all_eq_true.1 (by simp only [okLVs, okLV, List.all_cons, List.all_nil]; rw [hs.en 2 rfl, hs.en 4 rfl, hs.en 6 rfl]; rfl)) rfl rfl) rfl, fun s_ hs => Acts.of1 rfl (Does.storeP (Evl.tmp (hs.tm 2 rfl)) (hs.en 1 rfl) (Ev.tmp (hs.tm 16 rfl)) (by simp only [okLVs, okLV, List.all_cons, List.all_nil]; rw [hs.en 2 rfl, hs.en 4 rfl, hs.en 6 rfl]; rfl) tsh_50 rfl) rfl, trivial⟩
  refine (?_ : AC _ _ _ _ _)
  refine AC.wk (s' := _) (Wk.refl _ _) ?_
  refine AC.ret ?_
  subst hO
  exact fin_is (ag [dI s.1.1, .ref 0, .ref 1, .ref 2, dS s.2.2.2]) [(0, some (.arr 146 (.pr (.sl 3 .int) (.sl 3 .int)) s.1.2)), (1, some (.arr 129 (.pr .str .int) s.2.1)), (2, some (.arr 131 (.pr .int .bool) s.2.2.1))] [(0, 2), (1, 4), (2, 6)] (Res.one rfl (Rs.cell rfl rfl tsh_50 rfl)) (show ag [dI s.1.1, .ref 2, .ref 4, .ref 6, dS s.2.2.2] = ag [dI s.1.1, .ref 2, .ref 4, .ref 6, dS s.2.2.2] by rfl) ⟨rfl, (show some (Ent.arr 129 (.pr .str .int) (([]) ++ s.2.1)) = some (Ent.arr 129 (.pr .str .int) s.2.1) from congrArg (fun z => some (Ent.arr 129 (.pr .str .int) z)) (by rfl)), (show some (Ent.arr 131 (.pr .int .bool) (([]) ++ s.2.2.1)) = some (Ent.arr 131 (.pr .int .bool) s.2.2.1) from congrArg (fun z => some (Ent.arr 131 (.pr .int .bool) z)) (by rfl)), trivial⟩ rfl rfl

end Go.Proofs.Ytbelopdphlllnaa
