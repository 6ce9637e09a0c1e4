/- laws.FnExactAddOrdering walked. -/
import Derived.Test.YtbelopdphlllnaaWh
namespace Go.Proofs.Ytbelopdphlllnaa
open Go.RowKit

theorem sum_le {α : Type _} (f g : α → Nat) (xs : List α) (h : ∀ x ∈ xs, f x ≤ g x) : (xs.map f).sum ≤ (xs.map g).sum := by
  induction xs with
  | nil => exact Nat.le_refl _
  | cons x xs ih =>
    simp only [List.map_cons, List.sum_cons]
    have := h x (List.mem_cons_self ..)
    have := ih fun y hy => h y (List.mem_cons_of_mem _ hy)
    omega
theorem sum_modify {α : Type _} (g : α → Nat) (f : α → α) (c : Nat) (h : ∀ x, g (f x) ≤ g x + c) (xs : List α) (i : Nat) : ((xs.modify i f).map g).sum ≤ (xs.map g).sum + c := by
  induction xs generalizing i with
  | nil => simp
  | cons x xs ih =>
    cases i with
    | zero => simp only [List.modify_zero_cons, List.map_cons, List.sum_cons]; have := h x; omega
    | succ i => simp only [List.modify_succ_cons, List.map_cons, List.sum_cons]; have := ih i; omega
theorem tot_tr (t : DTransition) : Ty.tot tTransition t = cT t := by
  have : Ty.tot tTransition t = (t.1.length + (t.1.map (Ty.tot .int)).sum) + (t.2.length + (t.2.map (Ty.tot .int)).sum) := rfl
  rw [this, map_zero_sum t.1 (Ty.tot .int) (fun _ => rfl), map_zero_sum t.2 (Ty.tot .int) (fun _ => rfl)]
  simp [cT]
theorem tot_net (n : DNet) : Ty.tot tNet n = n.2.length + tsum n.2 := by
  have : Ty.tot tNet n = 0 + (n.2.length + (n.2.map (Ty.tot tTransition)).sum) := rfl
  rw [this, List.map_congr_left (g := cT) fun t _ => tot_tr t, tsum]
  omega
theorem tot_stg (s : DSTG) : Ty.tot tSTG s = Ty.tot tNet s.1 + ((s.2.1.length + (s.2.1.map (Ty.tot tSignal)).sum) + ((s.2.2.1.length + (s.2.2.1.map (Ty.tot tLabel)).sum) + s.2.2.2.size)) := rfl
theorem mark_ok {s : DSTG} (h : Ty.tot tSTG s ≤ 100000000) : (0 ≤ (1 : Int) ∧ (1 : Int) + tsum s.1.2 + 2 * s.2.1.length + 2 * s.2.2.1.length ≤ 1000000000) ∧ s.1.2.length ≤ 1000000000 := by
  rw [tot_stg, tot_net] at h
  omega
theorem mSTG_cnt (s : DSTG) (k : Int) : (mSTG s k).2 = k + tsum s.1.2 + 2 * s.2.1.length + 2 * s.2.2.1.length := by
  simp only [mSTG, mL_sum, mS_sum, mT_sum]
theorem addOrd_tot (s : DSTG) (o : DOrdering) : Ty.tot tSTG (addOrd s o) ≤ Ty.tot tSTG s + 3 := by
  rw [tot_stg, tot_stg, tot_net, tot_net]
  have h1 : tsum (addOrd s o).1.2 ≤ tsum s.1.2 + 2 := by
    show ((addT s.1.2 o.1.toNat o.2.1.toNat s.1.1).map cT).sum ≤ _
    unfold addT
    refine Nat.le_trans (sum_modify cT _ 1 (fun t => ?_) _ _) ?_
    · simp [cT]; omega
    · have := sum_modify cT (fun t : DTransition => (t.1, t.2 ++ [s.1.1])) 1 (fun t => by simp [cT]; omega) s.1.2 o.1.toNat
      unfold tsum; omega
  have h2 : (addOrd s o).1.2.length = s.1.2.length := by simp [addOrd, addT]
  have h3 : (addOrd s o).2.2.2.size = s.2.2.2.size + 1 := by
    show (s.2.2.2 ++ bitS o.2.2).size = _
    rw [ByteArray.size_append]
    rfl
  have h4 : (addOrd s o).2.1 = s.2.1 := rfl
  have h5 : (addOrd s o).2.2.1 = s.2.2.1 := rfl
  rw [h2, h3, h4, h5]
  omega
theorem addV_tot (s : DSTG) (o : DOrdering) [Decidable (StgOk s)] [Decidable (StgOk (addOrd s o))] : Ty.tot tSTG (addV s o).1 ≤ Ty.tot tSTG s + 3 := by
  have hz : Ty.tot tSTG zeroSTG = 0 := rfl
  unfold addV
  split
  · unfold stgIfV
    split
    · exact addOrd_tot s o
    · show Ty.tot tSTG zeroSTG ≤ _; omega
  · show Ty.tot tSTG zeroSTG ≤ _; omega

set_option maxRecDepth 100000 in
set_option maxHeartbeats 4000000 in
theorem fc_laws_FnExactAddOrdering (aS : (Int × (List (List Int × List Int))) × (List (ByteArray × Int)) × (List (Int × Bool)) × ByteArray) (aO : Int × Int × Bool)  : FC Try.prog 4 [(true, [dI aS.1.1, .dat (.sl 201 (.pr (.sl 3 .int) (.sl 3 .int))) aS.1.2, .dat (.sl 133 (.pr .str .int)) aS.2.1, .dat (.sl 149 (.pr .int .bool)) aS.2.2.1, dS aS.2.2.2]), (true, [dI aO.1, dI aO.2.1, dB aO.2.2])] [] 0 (Pure (lf (dB true))) := by
  classical
  have hs := szv_spec 1048576 (Ty.tot lSTG aS)
  have ht : Ty.tot tSTG aS = Ty.tot lSTG aS := rfl
  have ha := addV_tot aS aO
  have hc := mSTG_cnt aS 1
  have hc2 := mSTG_cnt (addV aS aO).1 1
  have hto : Ty.tot lOrdering aO ≤ 1048576 := by have : Ty.tot lOrdering aO = 0 + (0 + 0) := rfl; omega
  obtain ⟨O_, hO⟩ : ∃ x : PV → Tab → Prop, x = Pure (lf (dB true)) := ⟨_, rfl⟩
  refine FC.O_of hO (FC.ren (FC.of Try.func4 rfl rfl fun A_ hn_ hk_ => ?_))
  obtain ⟨w0_, N0_, X_, n_, k0_, h0_, f0_⟩ := A_
  obtain rfl : n_ = 104 := hn_.trans Try.ntmps4
  obtain rfl : k0_ = 0 := hk_
  refine AC.fact (fact_ag (x := .tmp 0) (i := 0) (Ev.tmp rfl) rfl) fun hi1 => ?_
  refine AC.fact (fact_ag (x := .tmp 1) (i := 0) (Ev.tmp rfl) rfl) fun hi2 => ?_
  refine AC.fact (fact_ag (x := .tmp 1) (i := 1) (Ev.tmp rfl) rfl) fun hi3 => ?_
  refine AC.seq ?_
  refine AC.region ?_
  refine AL.cons rfl (Does.box 0 (Ev.tmp rfl) rfl rfl (Fresh.of rfl) (Nat.le_of_ble_eq_true rfl)) ?_
  refine AL.cons rfl (Does.box 1 (Ev.tmp rfl) rfl rfl (Fresh.of rfl) (Nat.le_of_ble_eq_true rfl)) ?_
  refine AL.cons rfl (Does.assignC Evl.bool rfl) ?_
  refine AL.nil ?_
  refine (?_ : AC _ _ _ _ _)
  refine AC.seq ?_
  refine AC.region ?_
  refine AL.cons rfl (Does.assignC (Evl.int rfl) rfl) ?_
  refine AL.nil ?_
  refine (?_ : AC _ _ _ _ _)
  refine AC.seq ?_
  refine AC.region ?_
  refine AL.cons rfl (Does.loadPA (Evl.tmp rfl) rfl tsh_41 rfl rfl) ?_
  refine AL.cons rfl (Does.move rfl rfl) ?_
  refine AL.cons rfl (Does.call (fc_szSTG aS 1048576 (by omega) (by omega)) enters_14 ⟨_, _, rfl, (Ev.tmp rfl), ⟨_, _, rfl, (Ev.tmp rfl), rfl⟩⟩ rfl rfl) ?_
  refine AL.cons rfl (Does.assign rfl rfl) ?_
  refine AL.nil ?_
  refine (?_ : AC _ _ _ _ _)
  refine AC.seq ?_
  refine AC.seq ?_
  refine AC.region ?_
  refine AL.cons rfl (Does.move rfl rfl) ?_
  refine AL.cons rfl (Does.lss (Evl.tmp rfl) (Evl.int rfl) rfl) ?_
  refine AL.nil ?_
  refine (?_ : AC _ _ _ _ _)
  cases hb4 : (decide ((szv 1048576 (Ty.tot lSTG aS)) < 0))
  · have _h := hb4
    have hb4' : ¬ ((szv 1048576 (Ty.tot lSTG aS)) < 0) := of_decide_eq_false hb4
    refine AC.condF (Evl.tmp rfl) ?_
    refine AC.skip ?_
    refine (?_ : AC _ _ _ _ _)
    refine AC.seq ?_
    refine AC.drawL [⟨some 22, ag [dI aS.1.1, .dat (.sl 201 (.pr (.sl 3 .int) (.sl 3 .int))) aS.1.2, .dat (.sl 133 (.pr .str .int)) aS.2.1, .dat (.sl 149 (.pr .int .bool)) aS.2.2.1, dS aS.2.2.2], []⟩, ⟨some 23, ag [dI aS.1.1, .ref 2, .ref 3, .ref 4, dS aS.2.2.2], [(2, some (.arr 146 (.pr (.sl 3 .int) (.sl 3 .int)) aS.1.2)), (3, some (.arr 129 (.pr .str .int) aS.2.1)), (4, some (.arr 131 (.pr .int .bool) aS.2.2.1))]⟩, ⟨some 24, ag [dI aO.1, dI aO.2.1, dB aO.2.2], []⟩, ⟨some 25, ag [dI aO.1, dI aO.2.1, dB aO.2.2], []⟩, ⟨some 26, PV.tup [(true, [dI ((((addV aS aO).1).1).1), .ref 5, .ref 6, .ref 7, dS (((addV aS aO).1).2.2.2)]), (false, [dB ((addV aS aO).2)])], [(5, some (.arr 146 (.pr (.sl 3 .int) (.sl 3 .int)) ((((addV aS aO).1).1).2))), (6, some (.arr 129 (.pr .str .int) (((addV aS aO).1).2.1))), (7, some (.arr 131 (.pr .int .bool) (((addV aS aO).1).2.2.1)))]⟩, ⟨some 21, PV.tup [(true, [dI ((((addV aS aO).1).1).1), .ref 5, .ref 6, .ref 7, dS (((addV aS aO).1).2.2.2)]), (false, [dB ((addV aS aO).2)])], []⟩, ⟨some 27, ag [dI ((((addV aS aO).1).1).1), .ref 5, .ref 6, .ref 7, dS (((addV aS aO).1).2.2.2)], []⟩, ⟨some 28, lf (dB ((addV aS aO).2)), []⟩, ⟨some 6, lf (.ptr 8 0), [(8, some (.box 50 [dI 0, .val (.slice none 0 0), .val (.slice none 0 0), .val (.slice none 0 0), dS ByteArray.empty]))]⟩, ⟨none, lf (.val undef), [(8, some (.box 50 [dI ((((addV aS aO).1).1).1), .ref 5, .ref 6, .ref 7, dS (((addV aS aO).1).2.2.2)]))]⟩, ⟨some 7, lf (dB ((addV aS aO).2)), []⟩] [[], [0], [], [0, 1, 2], [0, 1, 2, 3], [0, 1, 2, 3, 4], [0, 1, 2, 3, 4, 5], [0, 1, 2, 3, 4, 5], [], [0, 1, 2, 3, 4, 5, 6, 8], [0, 1, 2, 3, 4, 5, 6, 7, 8, 9]] mixed rfl (by kernel_rfl) ?_ ?_
    · refine ⟨fun s_ hs => Acts.of1 rfl (Does.loadPA (Evl.tmp (hs.tm 2 rfl)) (hs.en 0 rfl) tsh_41 rfl rfl) rfl, fun s_ hs => Acts.of1 rfl (Does.callG 2 (fc_toSTG aS (by omega)) enters_16 ⟨_, _, rfl, (Ev.tmp (hs.tm 22 rfl)), rfl⟩ rfl rfl ⟨(hs.fr 2 rfl), (hs.fr 3 rfl), (hs.fr 4 rfl), trivial⟩ (Nat.le_of_ble_eq_true rfl)) rfl, fun s_ hs => Acts.of1 rfl (Does.loadPA (Evl.tmp (hs.tm 3 rfl)) (hs.en 1 rfl) tsh_43 rfl rfl) rfl, fun s_ hs => Acts.of1 rfl (Does.call (fc_toOrdering aO hto) enters_17 ⟨_, _, rfl, (Ev.tmp (hs.tm 24 rfl)), rfl⟩ rfl rfl) rfl, fun s_ hs => Acts.of1 rfl (Does.callGB 5 (fc_spec_AddOrdering aS aO (by omega)) enters_15 ⟨_, _, rfl, (Ev.ob (Ev.tmp (hs.tm 23 rfl)) ⟨_, _, rfl, .inl rfl, ⟨_, _, rfl, .inr ⟨_, _, _, _, rfl, (hs.en 2 rfl), rfl⟩, ⟨_, _, rfl, .inr ⟨_, _, _, _, rfl, (hs.en 3 rfl), rfl⟩, ⟨_, _, rfl, .inr ⟨_, _, _, _, rfl, (hs.en 4 rfl), rfl⟩, ⟨_, _, rfl, .inl rfl, rfl⟩⟩⟩⟩⟩), ⟨_, _, rfl, (Ev.b (Ev.tmp (hs.tm 25 rfl))), rfl⟩⟩ rfl rfl rfl ⟨(hs.fr 5 rfl), (hs.fr 6 rfl), (hs.fr 7 rfl), trivial⟩ (Nat.le_of_ble_eq_true rfl)) rfl, fun s_ hs => Acts.of1 rfl (Does.move (hs.tm 26 rfl) rfl) rfl, fun s_ hs => Acts.of1 rfl (Does.extract (hs.tm 21 rfl) rfl rfl) rfl, fun s_ hs => Acts.of1 rfl (Does.extract (hs.tm 21 rfl) rfl rfl) rfl, fun s_ hs => Acts.of1 rfl (Does.alloc 8 (.pr (.pr .int (.sl 146 (.pr (.sl 3 .int) (.sl 3 .int)))) (.pr (.sl 129 (.pr .str .int)) (.pr (.sl 131 (.pr .int .bool)) .str))) zer_50 rfl rfl (hs.fr 8 rfl) (Nat.le_of_ble_eq_true rfl)) rfl, fun s_ hs => Acts.of1 rfl (Does.storeP (Evl.tmp (hs.tm 6 rfl)) (hs.en 8 rfl) (Ev.tmp (hs.tm 27 rfl)) (by simp only [okLVs, okLV, List.all_cons, List.all_nil]; rw [hs.en 5 rfl, hs.en 6 rfl, hs.en 7 rfl]; rfl) tsh_50 rfl) rfl, fun s_ hs => Acts.of1 rfl (Does.assign (hs.tm 28 rfl) rfl) rfl, trivial⟩
    refine (?_ : AC _ _ _ _ _)
    refine AC.wk (s' := _) (Wk.refl _ _) ?_
    refine AC.seq ?_
    refine AC.region ?_
    refine AL.cons rfl (Does.loadPA (Evl.tmp rfl) rfl tsh_41 rfl rfl) ?_
    refine AL.cons rfl (Does.callG 9 (fc_toSTG aS (by omega)) enters_16 ⟨_, _, rfl, (Ev.tmp rfl), rfl⟩ rfl rfl ⟨Fresh.of rfl, Fresh.of rfl, Fresh.of rfl, trivial⟩ (Nat.le_of_ble_eq_true rfl)) ?_
    refine AL.cons rfl (Does.alloc 12 (.pr (.pr .int (.sl 146 (.pr (.sl 3 .int) (.sl 3 .int)))) (.pr (.sl 129 (.pr .str .int)) (.pr (.sl 131 (.pr .int .bool)) .str))) zer_50 rfl rfl (Fresh.of rfl) (Nat.le_of_ble_eq_true rfl)) ?_
    refine AL.cons rfl (Does.storeP (Evl.tmp rfl) rfl (Ev.tmp rfl) rfl tsh_50 rfl) ?_
    refine AL.nil ?_
    refine (?_ : AC _ _ _ _ _)
    refine AC.seq ?_
    refine AC.drawL [⟨some 32, ag [dI aS.1.1, .ref 9, .ref 10, .ref 11, dS aS.2.2.2], []⟩, ⟨some 33, ag [dI aO.1, dI aO.2.1, dB aO.2.2], []⟩, ⟨some 34, ag [dI aO.1, dI aO.2.1, dB aO.2.2], []⟩, ⟨some 35, PV.tup [(true, [dI ((((addV aS aO).1).1).1), .ref 13, .ref 14, .ref 15, dS (((addV aS aO).1).2.2.2)]), (false, [dB ((addV aS aO).2)])], [(13, some (.arr 146 (.pr (.sl 3 .int) (.sl 3 .int)) ((((addV aS aO).1).1).2))), (14, some (.arr 129 (.pr .str .int) (((addV aS aO).1).2.1))), (15, some (.arr 131 (.pr .int .bool) (((addV aS aO).1).2.2.1)))]⟩, ⟨some 31, PV.tup [(true, [dI ((((addV aS aO).1).1).1), .ref 13, .ref 14, .ref 15, dS (((addV aS aO).1).2.2.2)]), (false, [dB ((addV aS aO).2)])], []⟩, ⟨some 36, ag [dI ((((addV aS aO).1).1).1), .ref 13, .ref 14, .ref 15, dS (((addV aS aO).1).2.2.2)], []⟩, ⟨some 37, lf (dB ((addV aS aO).2)), []⟩, ⟨some 9, lf (.ptr 16 0), [(16, some (.box 50 [dI 0, .val (.slice none 0 0), .val (.slice none 0 0), .val (.slice none 0 0), dS ByteArray.empty]))]⟩, ⟨none, lf (.val undef), [(16, some (.box 50 [dI ((((addV aS aO).1).1).1), .ref 13, .ref 14, .ref 15, dS (((addV aS aO).1).2.2.2)]))]⟩, ⟨some 10, lf (dB ((addV aS aO).2)), []⟩] [[], [], [1], [0, 1, 2], [0, 1, 2, 3], [0, 1, 2, 3, 4], [0, 1, 2, 3, 4], [], [0, 1, 2, 3, 4, 5, 7], [0, 1, 2, 3, 4, 5, 6, 7, 8]] mixed rfl (by kernel_rfl) ?_ ?_
    · refine ⟨fun s_ hs => Acts.of1 rfl (Does.loadPA (Evl.tmp (hs.tm 8 rfl)) (hs.en 12 rfl) tsh_50 rfl rfl) rfl, fun s_ hs => Acts.of1 rfl (Does.loadPA (Evl.tmp (hs.tm 3 rfl)) (hs.en 1 rfl) tsh_43 rfl rfl) rfl, fun s_ hs => Acts.of1 rfl (Does.call (fc_toOrdering aO hto) enters_17 ⟨_, _, rfl, (Ev.tmp (hs.tm 33 rfl)), rfl⟩ rfl rfl) rfl, fun s_ hs => Acts.of1 rfl (Does.callGB 13 (fc_impl_AddOrdering aS aO (by omega)) enters_18 ⟨_, _, rfl, (Ev.ob (Ev.tmp (hs.tm 32 rfl)) ⟨_, _, rfl, .inl rfl, ⟨_, _, rfl, .inr ⟨_, _, _, _, rfl, (hs.en 9 rfl), rfl⟩, ⟨_, _, rfl, .inr ⟨_, _, _, _, rfl, (hs.en 10 rfl), rfl⟩, ⟨_, _, rfl, .inr ⟨_, _, _, _, rfl, (hs.en 11 rfl), rfl⟩, ⟨_, _, rfl, .inl rfl, rfl⟩⟩⟩⟩⟩), ⟨_, _, rfl, (Ev.b (Ev.tmp (hs.tm 34 rfl))), rfl⟩⟩ rfl rfl rfl ⟨(hs.fr 13 rfl), (hs.fr 14 rfl), (hs.fr 15 rfl), trivial⟩ (Nat.le_of_ble_eq_true rfl)) rfl, fun s_ hs => Acts.of1 rfl (Does.move (hs.tm 35 rfl) rfl) rfl, fun s_ hs => Acts.of1 rfl (Does.extract (hs.tm 31 rfl) rfl rfl) rfl, fun s_ hs => Acts.of1 rfl (Does.extract (hs.tm 31 rfl) rfl rfl) rfl, fun s_ hs => Acts.of1 rfl (Does.alloc 16 (.pr (.pr .int (.sl 146 (.pr (.sl 3 .int) (.sl 3 .int)))) (.pr (.sl 129 (.pr .str .int)) (.pr (.sl 131 (.pr .int .bool)) .str))) zer_50 rfl rfl (hs.fr 16 rfl) (Nat.le_of_ble_eq_true rfl)) rfl, fun s_ hs => Acts.of1 rfl (Does.storeP (Evl.tmp (hs.tm 9 rfl)) (hs.en 16 rfl) (Ev.tmp (hs.tm 36 rfl)) (by simp only [okLVs, okLV, List.all_cons, List.all_nil]; rw [hs.en 13 rfl, hs.en 14 rfl, hs.en 15 rfl]; rfl) tsh_50 rfl) rfl, fun s_ hs => Acts.of1 rfl (Does.assign (hs.tm 37 rfl) rfl) rfl, trivial⟩
    refine (?_ : AC _ _ _ _ _)
    refine AC.wk (s' := _) (Wk.refl _ _) ?_
    refine AC.seq ?_
    refine AC.seq ?_
    refine AC.region ?_
    refine AL.cons rfl (Does.loadPA (Evl.tmp rfl) rfl tsh_50 rfl rfl) ?_
    refine AL.cons rfl (Does.loadPA (Evl.tmp rfl) rfl tsh_50 rfl rfl) ?_
    refine AL.cons rfl (Does.callB (fc_eqSTG ((addV aS aO).1) ((addV aS aO).1) rfl) enters_19 ⟨_, _, rfl, (Ev.ob (Ev.tmp rfl) ⟨_, _, rfl, .inl rfl, ⟨_, _, rfl, .inr ⟨_, _, _, _, rfl, rfl, rfl⟩, ⟨_, _, rfl, .inr ⟨_, _, _, _, rfl, rfl, rfl⟩, ⟨_, _, rfl, .inr ⟨_, _, _, _, rfl, rfl, rfl⟩, ⟨_, _, rfl, .inl rfl, rfl⟩⟩⟩⟩⟩), ⟨_, _, rfl, (Ev.ob (Ev.tmp rfl) ⟨_, _, rfl, .inl rfl, ⟨_, _, rfl, .inr ⟨_, _, _, _, rfl, rfl, rfl⟩, ⟨_, _, rfl, .inr ⟨_, _, _, _, rfl, rfl, rfl⟩, ⟨_, _, rfl, .inr ⟨_, _, _, _, rfl, rfl, rfl⟩, ⟨_, _, rfl, .inl rfl, rfl⟩⟩⟩⟩⟩), rfl⟩⟩ rfl rfl rfl) ?_
    refine AL.cons rfl (Does.not (Evl.tmp rfl) rfl) ?_
    refine AL.cons rfl (Does.move rfl rfl) ?_
    refine AL.guard_yes rfl rfl rfl (Does.move rfl rfl) ?_
    refine AL.guard_yes rfl rfl rfl (Does.move rfl rfl) ?_
    refine AL.guard_yes rfl rfl rfl (Does.neqB (Evl.tmp rfl) (Evl.tmp rfl) rfl und_4) ?_
    refine AL.cons rfl (Does.pickF (Evl.tmp rfl) (Ev.tmp rfl) rfl) ?_
    refine AL.nil ?_
    refine (?_ : AC _ _ _ _ _)
    cases hb5 : (((addV aS aO).2) == ((addV aS aO).2))
    · have _h := hb5
      refine AC.condT (Evl.tmp rfl) ?_
      refine AC.seq ?_
      refine AC.region ?_
      refine AL.cons rfl (Does.assignC Evl.bool rfl) ?_
      refine AL.nil ?_
      refine (?_ : AC _ _ _ _ _)
      refine AC.ret ?_
      subst hO
      have e6 : (false : Bool) = true := by
        exfalso; first | omega | (revert _h; simp; done)
      exact fin_pure (Res.one rfl (Rs.tmp rfl)) ((congrArg (fun z_ => lf (dB z_)) e6)) rfl
    · have _h := hb5
      refine AC.condF (Evl.tmp rfl) ?_
      refine AC.skip ?_
      refine (?_ : AC _ _ _ _ _)
      refine AC.seq ?_
      refine AC.seq ?_
      refine AC.drawL [⟨some 47, ag [dI aS.1.1, .ref 9, .ref 10, .ref 11, dS aS.2.2.2], []⟩, ⟨some 48, ag [dI aS.1.1, .dat (.sl 201 (.pr (.sl 3 .int) (.sl 3 .int))) aS.1.2, .dat (.sl 133 (.pr .str .int)) aS.2.1, .dat (.sl 149 (.pr .int .bool)) aS.2.2.1, dS aS.2.2.2], []⟩, ⟨some 49, ag [dI aS.1.1, .ref 17, .ref 18, .ref 19, dS aS.2.2.2], [(17, some (.arr 146 (.pr (.sl 3 .int) (.sl 3 .int)) aS.1.2)), (18, some (.arr 129 (.pr .str .int) aS.2.1)), (19, some (.arr 131 (.pr .int .bool) aS.2.2.1))]⟩, ⟨some 50, lf (dB true), []⟩, ⟨some 51, lf (dB (!true)), []⟩] [[], [], [1], [0, 1, 2], [0, 1, 2, 3]] mixed rfl (by kernel_rfl) ?_ ?_
      · refine ⟨fun s_ hs => Acts.of1 rfl (Does.loadPA (Evl.tmp (hs.tm 8 rfl)) (hs.en 12 rfl) tsh_50 rfl rfl) rfl, fun s_ hs => Acts.of1 rfl (Does.loadPA (Evl.tmp (hs.tm 2 rfl)) (hs.en 0 rfl) tsh_41 rfl rfl) rfl, fun s_ hs => Acts.of1 rfl (Does.callG 17 (fc_toSTG aS (by omega)) enters_16 ⟨_, _, rfl, (Ev.tmp (hs.tm 48 rfl)), rfl⟩ rfl rfl ⟨(hs.fr 17 rfl), (hs.fr 18 rfl), (hs.fr 19 rfl), trivial⟩ (Nat.le_of_ble_eq_true rfl)) rfl, fun s_ hs => Acts.of1 rfl (Does.callB (fc_eqSTG aS aS rfl) enters_19 ⟨_, _, rfl, (Ev.ob (Ev.tmp (hs.tm 47 rfl)) ⟨_, _, rfl, .inl rfl, ⟨_, _, rfl, .inr ⟨_, _, _, _, rfl, (hs.en 9 rfl), rfl⟩, ⟨_, _, rfl, .inr ⟨_, _, _, _, rfl, (hs.en 10 rfl), rfl⟩, ⟨_, _, rfl, .inr ⟨_, _, _, _, rfl, (hs.en 11 rfl), rfl⟩, ⟨_, _, rfl, .inl rfl, rfl⟩⟩⟩⟩⟩), ⟨_, _, rfl, (Ev.ob (Ev.tmp (hs.tm 49 rfl)) ⟨_, _, rfl, .inl rfl, ⟨_, _, rfl, .inr ⟨_, _, _, _, rfl, (hs.en 17 rfl), rfl⟩, ⟨_, _, rfl, .inr ⟨_, _, _, _, rfl, (hs.en 18 rfl), rfl⟩, ⟨_, _, rfl, .inr ⟨_, _, _, _, rfl, (hs.en 19 rfl), rfl⟩, ⟨_, _, rfl, .inl rfl, rfl⟩⟩⟩⟩⟩), rfl⟩⟩ rfl rfl rfl) rfl, fun s_ hs => Acts.of1 rfl (Does.not (Evl.tmp (hs.tm 50 rfl)) rfl) rfl, trivial⟩
      refine (?_ : AC _ _ _ _ _)
      refine AC.wk (s' := _) (Wk.refl _ _) ?_
      refine AC.condF (Evl.tmp rfl) ?_
      refine AC.skip ?_
      refine (?_ : AC _ _ _ _ _)
      refine AC.seq ?_
      refine AC.region ?_
      refine AL.cons rfl (Does.assignC (Evl.int rfl) rfl) ?_
      refine AL.nil ?_
      refine (?_ : AC _ _ _ _ _)
      refine AC.seq ?_
      refine AC.region ?_
      refine AL.cons rfl (Does.loadPA (Evl.tmp rfl) rfl tsh_50 rfl rfl) ?_
      refine AL.cons rfl (Does.move rfl rfl) ?_
      refine AL.cons rfl (Does.callP 20 [(0, 9), (1, 10), (2, 11)] (fc_laws_markSTG aS 1 (mark_ok (by omega))) enters_20 ⟨_, _, rfl, (Ev.tmp rfl), ⟨_, _, rfl, (Ev.tmp rfl), rfl⟩⟩ ⟨rfl, rfl, rfl, trivial⟩ rfl ⟨trivial, trivial, trivial, trivial⟩ (Nat.le_of_ble_eq_true rfl)) ?_
      refine AL.cons rfl (Does.assign rfl rfl) ?_
      refine AL.nil ?_
      refine (?_ : AC _ _ _ _ _)
      refine AC.seq ?_
      refine AC.seq ?_
      refine AC.region ?_
      refine AL.cons rfl (Does.move rfl rfl) ?_
      refine AL.cons rfl (Does.lss (Evl.tmp rfl) (Evl.int rfl) rfl) ?_
      refine AL.cons rfl (Does.move rfl rfl) ?_
      cases hb7 : (decide (((mSTG aS 1).2) < 0))
      · have _h := hb7
        have hb7' : ¬ (((mSTG aS 1).2) < 0) := of_decide_eq_false hb7
        refine AL.guard_yes rfl rfl rfl (Does.loadPA (Evl.tmp rfl) rfl tsh_50 rfl rfl) ?_
        refine AL.guard_yes rfl rfl rfl (Does.loadPA (Evl.tmp rfl) rfl tsh_50 rfl rfl) ?_
        refine AL.guard_yes rfl rfl rfl (Does.callB (fc_eqSTG ((addV aS aO).1) ((addV aS aO).1) rfl) enters_19 ⟨_, _, rfl, (Ev.ob (Ev.tmp rfl) ⟨_, _, rfl, .inl rfl, ⟨_, _, rfl, .inr ⟨_, _, _, _, rfl, rfl, rfl⟩, ⟨_, _, rfl, .inr ⟨_, _, _, _, rfl, rfl, rfl⟩, ⟨_, _, rfl, .inr ⟨_, _, _, _, rfl, rfl, rfl⟩, ⟨_, _, rfl, .inl rfl, rfl⟩⟩⟩⟩⟩), ⟨_, _, rfl, (Ev.ob (Ev.tmp rfl) ⟨_, _, rfl, .inl rfl, ⟨_, _, rfl, .inr ⟨_, _, _, _, rfl, rfl, rfl⟩, ⟨_, _, rfl, .inr ⟨_, _, _, _, rfl, rfl, rfl⟩, ⟨_, _, rfl, .inr ⟨_, _, _, _, rfl, rfl, rfl⟩, ⟨_, _, rfl, .inl rfl, rfl⟩⟩⟩⟩⟩), rfl⟩⟩ rfl rfl rfl) ?_
        refine AL.guard_yes rfl rfl rfl (Does.not (Evl.tmp rfl) rfl) ?_
        refine AL.cons rfl (Does.pickF (Evl.tmp rfl) (Ev.tmp rfl) rfl) ?_
        refine AL.cons rfl (Does.move rfl rfl) ?_
        refine AL.guard_yes rfl rfl rfl (Does.move rfl rfl) ?_
        refine AL.guard_yes rfl rfl rfl (Does.move rfl rfl) ?_
        refine AL.guard_yes rfl rfl rfl (Does.neqB (Evl.tmp rfl) (Evl.tmp rfl) rfl und_4) ?_
        refine AL.cons rfl (Does.pickF (Evl.tmp rfl) (Ev.tmp rfl) rfl) ?_
        refine AL.nil ?_
        refine (?_ : AC _ _ _ _ _)
        cases hb8 : (((addV aS aO).2) == ((addV aS aO).2))
        · have _h := hb8
          refine AC.condT (Evl.tmp rfl) ?_
          refine AC.seq ?_
          refine AC.region ?_
          refine AL.cons rfl (Does.assignC Evl.bool rfl) ?_
          refine AL.nil ?_
          refine (?_ : AC _ _ _ _ _)
          refine AC.ret ?_
          subst hO
          have e9 : (false : Bool) = true := by
            exfalso; first | omega | (revert _h; simp; done)
          exact fin_pure (Res.one rfl (Rs.tmp rfl)) ((congrArg (fun z_ => lf (dB z_)) e9)) rfl
        · have _h := hb8
          refine AC.condF (Evl.tmp rfl) ?_
          refine AC.skip ?_
          refine (?_ : AC _ _ _ _ _)
          refine AC.seq ?_
          refine AC.region ?_
          refine AL.cons rfl (Does.assignC (Evl.int rfl) rfl) ?_
          refine AL.nil ?_
          refine (?_ : AC _ _ _ _ _)
          refine AC.seq ?_
          refine AC.region ?_
          refine AL.cons rfl (Does.loadPA (Evl.tmp rfl) rfl tsh_50 rfl rfl) ?_
          refine AL.cons rfl (Does.move rfl rfl) ?_
          refine AL.cons rfl (Does.callP 23 [(0, 13), (1, 14), (2, 15)] (fc_laws_markSTG ((addV aS aO).1) 1 (mark_ok (by omega))) enters_20 ⟨_, _, rfl, (Ev.tmp rfl), ⟨_, _, rfl, (Ev.tmp rfl), rfl⟩⟩ ⟨rfl, rfl, rfl, trivial⟩ rfl ⟨trivial, trivial, trivial, trivial⟩ (Nat.le_of_ble_eq_true rfl)) ?_
          refine AL.cons rfl (Does.assign rfl rfl) ?_
          refine AL.nil ?_
          refine (?_ : AC _ _ _ _ _)
          refine AC.seq ?_
          refine AC.region ?_
          refine AL.cons rfl (Does.assignC (Evl.int rfl) rfl) ?_
          refine AL.nil ?_
          refine (?_ : AC _ _ _ _ _)
          refine AC.seq ?_
          refine AC.region ?_
          refine AL.cons rfl (Does.loadPA (Evl.tmp rfl) rfl tsh_50 rfl rfl) ?_
          refine AL.cons rfl (Does.move rfl rfl) ?_
          refine AL.cons rfl (Does.callB (fc_laws_heldSTG (((((addV aS aO).1).1).1, (mSTG ((addV aS aO).1) 1).1.1.2), (mSTG ((addV aS aO).1) 1).1.2.1, (mSTG ((addV aS aO).1) 1).1.2.2.1, ((addV aS aO).1).2.2.2) 1 (addV aS aO).1 rfl (mark_ok (s := (addV aS aO).1) (by omega))) enters_21 ⟨_, _, rfl, (Ev.ob (Ev.tmp rfl) ⟨_, _, rfl, .inl rfl, ⟨_, _, rfl, .inr ⟨_, _, _, _, rfl, rfl, rfl⟩, ⟨_, _, rfl, .inr ⟨_, _, _, _, rfl, rfl, rfl⟩, ⟨_, _, rfl, .inr ⟨_, _, _, _, rfl, rfl, rfl⟩, ⟨_, _, rfl, .inl rfl, rfl⟩⟩⟩⟩⟩), ⟨_, _, rfl, (Ev.b (Ev.tmp rfl)), rfl⟩⟩ rfl rfl rfl) ?_
          refine AL.cons rfl (Does.assign rfl rfl) ?_
          refine AL.nil ?_
          refine (?_ : AC _ _ _ _ _)
          refine AC.seq ?_
          refine AC.seq ?_
          refine AC.region ?_
          refine AL.cons rfl (Does.move rfl rfl) ?_
          refine AL.cons rfl (Does.lss (Evl.tmp rfl) (Evl.int rfl) rfl) ?_
          refine AL.nil ?_
          refine (?_ : AC _ _ _ _ _)
          cases hb10 : (decide (((mSTG ((addV aS aO).1) 1).2) < 0))
          · have _h := hb10
            have hb10' : ¬ (((mSTG ((addV aS aO).1) 1).2) < 0) := of_decide_eq_false hb10
            refine AC.condF (Evl.tmp rfl) ?_
            refine AC.skip ?_
            refine (?_ : AC _ _ _ _ _)
            refine AC.seq ?_
            refine AC.seq ?_
            refine AC.region ?_
            refine AL.cons rfl (Does.move rfl rfl) ?_
            refine AL.cons rfl (Does.move rfl rfl) ?_
            refine AL.cons rfl (Does.neq (Evl.tmp rfl) (Evl.tmp rfl) rfl) ?_
            refine AL.nil ?_
            refine (?_ : AC _ _ _ _ _)
            cases hb11 : (!decide (((mSTG ((addV aS aO).1) 1).2) = ((mSTG ((addV aS aO).1) 1).2)))
            · have _h := hb11
              have hb11' : (((mSTG ((addV aS aO).1) 1).2) = ((mSTG ((addV aS aO).1) 1).2)) := nd_false hb11
              refine AC.condF (Evl.tmp rfl) ?_
              refine AC.skip ?_
              refine (?_ : AC _ _ _ _ _)
              refine AC.seq ?_
              refine AC.drawL [⟨some 80, ag [dI aS.1.1, .dat (.sl 201 (.pr (.sl 3 .int) (.sl 3 .int))) aS.1.2, .dat (.sl 133 (.pr .str .int)) aS.2.1, .dat (.sl 149 (.pr .int .bool)) aS.2.2.1, dS aS.2.2.2], []⟩, ⟨some 81, ag [dI aS.1.1, .ref 26, .ref 27, .ref 28, dS aS.2.2.2], [(26, some (.arr 146 (.pr (.sl 3 .int) (.sl 3 .int)) aS.1.2)), (27, some (.arr 129 (.pr .str .int) aS.2.1)), (28, some (.arr 131 (.pr .int .bool) aS.2.2.1))]⟩, ⟨some 82, ag [dI aO.1, dI aO.2.1, dB aO.2.2], []⟩, ⟨some 83, ag [dI aO.1, dI aO.2.1, dB aO.2.2], []⟩, ⟨some 84, PV.tup [(true, [dI ((((addV aS aO).1).1).1), .ref 29, .ref 30, .ref 31, dS (((addV aS aO).1).2.2.2)]), (false, [dB ((addV aS aO).2)])], [(29, some (.arr 146 (.pr (.sl 3 .int) (.sl 3 .int)) ((((addV aS aO).1).1).2))), (30, some (.arr 129 (.pr .str .int) (((addV aS aO).1).2.1))), (31, some (.arr 131 (.pr .int .bool) (((addV aS aO).1).2.2.1)))]⟩, ⟨some 79, PV.tup [(true, [dI ((((addV aS aO).1).1).1), .ref 29, .ref 30, .ref 31, dS (((addV aS aO).1).2.2.2)]), (false, [dB ((addV aS aO).2)])], []⟩, ⟨some 85, ag [dI ((((addV aS aO).1).1).1), .ref 29, .ref 30, .ref 31, dS (((addV aS aO).1).2.2.2)], []⟩, ⟨some 86, lf (dB ((addV aS aO).2)), []⟩, ⟨some 14, lf (.ptr 32 0), [(32, some (.box 50 [dI 0, .val (.slice none 0 0), .val (.slice none 0 0), .val (.slice none 0 0), dS ByteArray.empty]))]⟩, ⟨none, lf (.val undef), [(32, some (.box 50 [dI ((((addV aS aO).1).1).1), .ref 29, .ref 30, .ref 31, dS (((addV aS aO).1).2.2.2)]))]⟩, ⟨some 15, lf (dB ((addV aS aO).2)), []⟩] [[], [0], [], [0, 1, 2], [0, 1, 2, 3], [0, 1, 2, 3, 4], [0, 1, 2, 3, 4, 5], [0, 1, 2, 3, 4, 5], [], [0, 1, 2, 3, 4, 5, 6, 8], [0, 1, 2, 3, 4, 5, 6, 7, 8, 9]] mixed rfl (by kernel_rfl) ?_ ?_
              · refine ⟨fun s_ hs => Acts.of1 rfl (Does.loadPA (Evl.tmp (hs.tm 2 rfl)) (hs.en 0 rfl) tsh_41 rfl rfl) rfl, fun s_ hs => Acts.of1 rfl (Does.callG 26 (fc_toSTG aS (by omega)) enters_16 ⟨_, _, rfl, (Ev.tmp (hs.tm 80 rfl)), rfl⟩ rfl rfl ⟨(hs.fr 26 rfl), (hs.fr 27 rfl), (hs.fr 28 rfl), trivial⟩ (Nat.le_of_ble_eq_true rfl)) rfl, fun s_ hs => Acts.of1 rfl (Does.loadPA (Evl.tmp (hs.tm 3 rfl)) (hs.en 1 rfl) tsh_43 rfl rfl) rfl, fun s_ hs => Acts.of1 rfl (Does.call (fc_toOrdering aO hto) enters_17 ⟨_, _, rfl, (Ev.tmp (hs.tm 82 rfl)), rfl⟩ rfl rfl) rfl, fun s_ hs => Acts.of1 rfl (Does.callGB 29 (fc_impl_AddOrdering aS aO (by omega)) enters_18 ⟨_, _, rfl, (Ev.ob (Ev.tmp (hs.tm 81 rfl)) ⟨_, _, rfl, .inl rfl, ⟨_, _, rfl, .inr ⟨_, _, _, _, rfl, (hs.en 26 rfl), rfl⟩, ⟨_, _, rfl, .inr ⟨_, _, _, _, rfl, (hs.en 27 rfl), rfl⟩, ⟨_, _, rfl, .inr ⟨_, _, _, _, rfl, (hs.en 28 rfl), rfl⟩, ⟨_, _, rfl, .inl rfl, rfl⟩⟩⟩⟩⟩), ⟨_, _, rfl, (Ev.b (Ev.tmp (hs.tm 83 rfl))), rfl⟩⟩ rfl rfl rfl ⟨(hs.fr 29 rfl), (hs.fr 30 rfl), (hs.fr 31 rfl), trivial⟩ (Nat.le_of_ble_eq_true rfl)) rfl, fun s_ hs => Acts.of1 rfl (Does.move (hs.tm 84 rfl) rfl) rfl, fun s_ hs => Acts.of1 rfl (Does.extract (hs.tm 79 rfl) rfl rfl) rfl, fun s_ hs => Acts.of1 rfl (Does.extract (hs.tm 79 rfl) rfl rfl) rfl, fun s_ hs => Acts.of1 rfl (Does.alloc 32 (.pr (.pr .int (.sl 146 (.pr (.sl 3 .int) (.sl 3 .int)))) (.pr (.sl 129 (.pr .str .int)) (.pr (.sl 131 (.pr .int .bool)) .str))) zer_50 rfl rfl (hs.fr 32 rfl) (Nat.le_of_ble_eq_true rfl)) rfl, fun s_ hs => Acts.of1 rfl (Does.storeP (Evl.tmp (hs.tm 14 rfl)) (hs.en 32 rfl) (Ev.tmp (hs.tm 85 rfl)) (by simp only [okLVs, okLV, List.all_cons, List.all_nil]; rw [hs.en 29 rfl, hs.en 30 rfl, hs.en 31 rfl]; rfl) tsh_50 rfl) rfl, fun s_ hs => Acts.of1 rfl (Does.assign (hs.tm 86 rfl) rfl) rfl, trivial⟩
              refine (?_ : AC _ _ _ _ _)
              refine AC.wk (s' := _) (Wk.refl _ _) ?_
              refine AC.seq ?_
              refine AC.seq ?_
              refine AC.region ?_
              refine AL.cons rfl (Does.loadPA (Evl.tmp rfl) rfl tsh_50 rfl rfl) ?_
              refine AL.cons rfl (Does.loadPA (Evl.tmp rfl) rfl tsh_50 rfl rfl) ?_
              refine AL.cons rfl (Does.callB (fc_eqSTG ((addV aS aO).1) ((addV aS aO).1) rfl) enters_19 ⟨_, _, rfl, (Ev.ob (Ev.tmp rfl) ⟨_, _, rfl, .inl rfl, ⟨_, _, rfl, .inr ⟨_, _, _, _, rfl, rfl, rfl⟩, ⟨_, _, rfl, .inr ⟨_, _, _, _, rfl, rfl, rfl⟩, ⟨_, _, rfl, .inr ⟨_, _, _, _, rfl, rfl, rfl⟩, ⟨_, _, rfl, .inl rfl, rfl⟩⟩⟩⟩⟩), ⟨_, _, rfl, (Ev.ob (Ev.tmp rfl) ⟨_, _, rfl, .inl rfl, ⟨_, _, rfl, .inr ⟨_, _, _, _, rfl, rfl, rfl⟩, ⟨_, _, rfl, .inr ⟨_, _, _, _, rfl, rfl, rfl⟩, ⟨_, _, rfl, .inr ⟨_, _, _, _, rfl, rfl, rfl⟩, ⟨_, _, rfl, .inl rfl, rfl⟩⟩⟩⟩⟩), rfl⟩⟩ rfl rfl rfl) ?_
              refine AL.cons rfl (Does.not (Evl.tmp rfl) rfl) ?_
              refine AL.cons rfl (Does.move rfl rfl) ?_
              refine AL.guard_yes rfl rfl rfl (Does.move rfl rfl) ?_
              refine AL.guard_yes rfl rfl rfl (Does.move rfl rfl) ?_
              refine AL.guard_yes rfl rfl rfl (Does.neqB (Evl.tmp rfl) (Evl.tmp rfl) rfl und_4) ?_
              refine AL.cons rfl (Does.pickF (Evl.tmp rfl) (Ev.tmp rfl) rfl) ?_
              refine AL.nil ?_
              refine (?_ : AC _ _ _ _ _)
              cases hb12 : (((addV aS aO).2) == ((addV aS aO).2))
              · have _h := hb12
                refine AC.condT (Evl.tmp rfl) ?_
                refine AC.seq ?_
                refine AC.region ?_
                refine AL.cons rfl (Does.assignC Evl.bool rfl) ?_
                refine AL.nil ?_
                refine (?_ : AC _ _ _ _ _)
                refine AC.ret ?_
                subst hO
                have e13 : (false : Bool) = true := by
                  exfalso; first | omega | (revert _h; simp; done)
                exact fin_pure (Res.one rfl (Rs.tmp rfl)) ((congrArg (fun z_ => lf (dB z_)) e13)) rfl
              · have _h := hb12
                refine AC.condF (Evl.tmp rfl) ?_
                refine AC.skip ?_
                refine (?_ : AC _ _ _ _ _)
                refine AC.seq ?_
                refine AC.region ?_
                refine AL.cons rfl (Does.assignC (Evl.int rfl) rfl) ?_
                refine AL.nil ?_
                refine (?_ : AC _ _ _ _ _)
                refine AC.seq ?_
                refine AC.region ?_
                refine AL.cons rfl (Does.loadPA (Evl.tmp rfl) rfl tsh_50 rfl rfl) ?_
                refine AL.cons rfl (Does.move rfl rfl) ?_
                refine AL.cons rfl (Does.callB (fc_laws_heldSTG (((((addV aS aO).1).1).1, (mSTG ((addV aS aO).1) 1).1.1.2), (mSTG ((addV aS aO).1) 1).1.2.1, (mSTG ((addV aS aO).1) 1).1.2.2.1, ((addV aS aO).1).2.2.2) 1 (addV aS aO).1 rfl (mark_ok (s := (addV aS aO).1) (by omega))) enters_21 ⟨_, _, rfl, (Ev.ob (Ev.tmp rfl) ⟨_, _, rfl, .inl rfl, ⟨_, _, rfl, .inr ⟨_, _, _, _, rfl, rfl, rfl⟩, ⟨_, _, rfl, .inr ⟨_, _, _, _, rfl, rfl, rfl⟩, ⟨_, _, rfl, .inr ⟨_, _, _, _, rfl, rfl, rfl⟩, ⟨_, _, rfl, .inl rfl, rfl⟩⟩⟩⟩⟩), ⟨_, _, rfl, (Ev.b (Ev.tmp rfl)), rfl⟩⟩ rfl rfl rfl) ?_
                refine AL.cons rfl (Does.assign rfl rfl) ?_
                refine AL.nil ?_
                refine (?_ : AC _ _ _ _ _)
                refine AC.seq ?_
                refine AC.seq ?_
                refine AC.region ?_
                refine AL.cons rfl (Does.move rfl rfl) ?_
                refine AL.cons rfl (Does.lss (Evl.tmp rfl) (Evl.int rfl) rfl) ?_
                refine AL.nil ?_
                refine (?_ : AC _ _ _ _ _)
                cases hb14 : (decide (((mSTG ((addV aS aO).1) 1).2) < 0))
                · have _h := hb14
                  have hb14' : ¬ (((mSTG ((addV aS aO).1) 1).2) < 0) := of_decide_eq_false hb14
                  refine AC.condF (Evl.tmp rfl) ?_
                  refine AC.skip ?_
                  refine (?_ : AC _ _ _ _ _)
                  refine AC.seq ?_
                  refine AC.seq ?_
                  refine AC.region ?_
                  refine AL.cons rfl (Does.move rfl rfl) ?_
                  refine AL.cons rfl (Does.move rfl rfl) ?_
                  refine AL.cons rfl (Does.neq (Evl.tmp rfl) (Evl.tmp rfl) rfl) ?_
                  refine AL.nil ?_
                  refine (?_ : AC _ _ _ _ _)
                  cases hb15 : (!decide (((mSTG ((addV aS aO).1) 1).2) = ((mSTG ((addV aS aO).1) 1).2)))
                  · have _h := hb15
                    have hb15' : (((mSTG ((addV aS aO).1) 1).2) = ((mSTG ((addV aS aO).1) 1).2)) := nd_false hb15
                    refine AC.condF (Evl.tmp rfl) ?_
                    refine AC.skip ?_
                    refine (?_ : AC _ _ _ _ _)
                    refine AC.seq ?_
                    refine AC.region ?_
                    refine AL.cons rfl (Does.assignC Evl.bool rfl) ?_
                    refine AL.nil ?_
                    refine (?_ : AC _ _ _ _ _)
                    refine AC.ret ?_
                    subst hO
                    exact fin_pure (Res.one rfl (Rs.tmp rfl)) rfl rfl
                  · have _h := hb15
                    have hb15' : ¬ (((mSTG ((addV aS aO).1) 1).2) = ((mSTG ((addV aS aO).1) 1).2)) := nd_true hb15
                    refine AC.condT (Evl.tmp rfl) ?_
                    refine AC.seq ?_
                    refine AC.region ?_
                    refine AL.cons rfl (Does.assignC Evl.bool rfl) ?_
                    refine AL.nil ?_
                    refine (?_ : AC _ _ _ _ _)
                    refine AC.ret ?_
                    subst hO
                    have e16 : (false : Bool) = true := by
                      exfalso; first | omega | (revert _h; simp; done)
                    exact fin_pure (Res.one rfl (Rs.tmp rfl)) ((congrArg (fun z_ => lf (dB z_)) e16)) rfl
                · have _h := hb14
                  have hb14' : (((mSTG ((addV aS aO).1) 1).2) < 0) := of_decide_eq_true hb14
                  refine AC.condT (Evl.tmp rfl) ?_
                  refine AC.seq ?_
                  refine AC.region ?_
                  refine AL.cons rfl (Does.assignC Evl.bool rfl) ?_
                  refine AL.nil ?_
                  refine (?_ : AC _ _ _ _ _)
                  refine AC.ret ?_
                  subst hO
                  have e17 : (false : Bool) = true := by
                    exfalso; first | omega | (revert _h; simp; done)
                  exact fin_pure (Res.one rfl (Rs.tmp rfl)) ((congrArg (fun z_ => lf (dB z_)) e17)) rfl
            · have _h := hb11
              have hb11' : ¬ (((mSTG ((addV aS aO).1) 1).2) = ((mSTG ((addV aS aO).1) 1).2)) := nd_true hb11
              refine AC.condT (Evl.tmp rfl) ?_
              refine AC.seq ?_
              refine AC.region ?_
              refine AL.cons rfl (Does.assignC Evl.bool rfl) ?_
              refine AL.nil ?_
              refine (?_ : AC _ _ _ _ _)
              refine AC.ret ?_
              subst hO
              have e18 : (false : Bool) = true := by
                exfalso; first | omega | (revert _h; simp; done)
              exact fin_pure (Res.one rfl (Rs.tmp rfl)) ((congrArg (fun z_ => lf (dB z_)) e18)) rfl
          · have _h := hb10
            have hb10' : (((mSTG ((addV aS aO).1) 1).2) < 0) := of_decide_eq_true hb10
            refine AC.condT (Evl.tmp rfl) ?_
            refine AC.seq ?_
            refine AC.region ?_
            refine AL.cons rfl (Does.assignC Evl.bool rfl) ?_
            refine AL.nil ?_
            refine (?_ : AC _ _ _ _ _)
            refine AC.ret ?_
            subst hO
            have e19 : (false : Bool) = true := by
              exfalso; first | omega | (revert _h; simp; done)
            exact fin_pure (Res.one rfl (Rs.tmp rfl)) ((congrArg (fun z_ => lf (dB z_)) e19)) rfl
      · have _h := hb7
        have hb7' : (((mSTG aS 1).2) < 0) := of_decide_eq_true hb7
        refine AL.guard_no (b := false) rfl rfl rfl ?_ rfl
        refine AL.guard_no (b := false) rfl rfl rfl ?_ rfl
        refine AL.guard_no (b := false) rfl rfl rfl ?_ rfl
        refine AL.guard_no (b := false) rfl rfl rfl ?_ rfl
        refine AL.cons rfl (Does.pickT (Evl.tmp rfl) (Evl.ev Evl.bool) rfl) ?_
        refine AL.cons rfl (Does.move rfl rfl) ?_
        refine AL.guard_no (b := false) rfl rfl rfl ?_ rfl
        refine AL.guard_no (b := false) rfl rfl rfl ?_ rfl
        refine AL.guard_no (b := false) rfl rfl rfl ?_ rfl
        refine AL.cons rfl (Does.pickT (Evl.tmp rfl) (Evl.ev Evl.bool) rfl) ?_
        refine AL.nil ?_
        refine (?_ : AC _ _ _ _ _)
        refine AC.condT (Evl.tmp rfl) ?_
        refine AC.seq ?_
        refine AC.region ?_
        refine AL.cons rfl (Does.assignC Evl.bool rfl) ?_
        refine AL.nil ?_
        refine (?_ : AC _ _ _ _ _)
        refine AC.ret ?_
        subst hO
        have e20 : (false : Bool) = true := by
          exfalso; first | omega | (revert _h; simp; done)
        exact fin_pure (Res.one rfl (Rs.tmp rfl)) ((congrArg (fun z_ => lf (dB z_)) e20)) rfl
  · have _h := hb4
    have hb4' : ((szv 1048576 (Ty.tot lSTG aS)) < 0) := of_decide_eq_true hb4
    refine AC.condT (Evl.tmp rfl) ?_
    refine AC.seq ?_
    refine AC.region ?_
    refine AL.cons rfl (Does.assignC Evl.bool rfl) ?_
    refine AL.nil ?_
    refine (?_ : AC _ _ _ _ _)
    refine AC.ret ?_
    subst hO
    exact fin_pure (Res.one rfl (Rs.tmp rfl)) rfl rfl

end Go.Proofs.Ytbelopdphlllnaa
