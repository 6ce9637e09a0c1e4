/- laws.FnExactPreservesFirings walked. -/
import Derived.Test.YtbelopdphlllnaaWt
import Derived.Test.YtbelopdphlllnaaWh
namespace Go.Proofs.Ytbelopdphlllnaa
open Go.RowKit

set_option maxRecDepth 100000 in
set_option maxHeartbeats 4000000 in
theorem fc_laws_FnExactPreservesFirings (aA : (Int × (List (List Int × List Int))) × (List (ByteArray × Int)) × (List (Int × Bool)) × ByteArray) (aB : (Int × (List (List Int × List Int))) × (List (ByteArray × Int)) × (List (Int × Bool)) × ByteArray)  : FC Try.prog 8 [(true, [dI aA.1.1, .dat (.sl 201 (.pr (.sl 3 .int) (.sl 3 .int))) aA.1.2, .dat (.sl 133 (.pr .str .int)) aA.2.1, .dat (.sl 149 (.pr .int .bool)) aA.2.2.1, dS aA.2.2.2]), (true, [dI aB.1.1, .dat (.sl 201 (.pr (.sl 3 .int) (.sl 3 .int))) aB.1.2, .dat (.sl 133 (.pr .str .int)) aB.2.1, .dat (.sl 149 (.pr .int .bool)) aB.2.2.1, dS aB.2.2.2])] [] 0 (Pure (lf (dB true))) := by
  classical
  have hs := szv_spec 1048576 (Ty.tot lSTG aA)
  have hs2 := szv_spec (szv 1048576 (Ty.tot lSTG aA)) (Ty.tot lSTG aB)
  obtain ⟨O_, hO⟩ : ∃ x : PV → Tab → Prop, x = Pure (lf (dB true)) := ⟨_, rfl⟩
  refine FC.O_of hO (FC.ren (FC.of Try.func8 rfl rfl fun A_ hn_ hk_ => ?_))
  obtain ⟨w0_, N0_, X_, n_, k0_, h0_, f0_⟩ := A_
  obtain rfl : n_ = 58 := hn_.trans Try.ntmps8
  obtain rfl : k0_ = 0 := hk_
  refine AC.fact (fact_ag (x := .tmp 0) (i := 0) (Ev.tmp rfl) rfl) fun hi1 => ?_
  refine AC.fact (fact_ag (x := .tmp 1) (i := 0) (Ev.tmp rfl) rfl) fun hi2 => ?_
  refine AC.seq ?_
  refine AC.region ?_
  refine AL.cons rfl (Does.box 0 (Ev.tmp rfl) rfl rfl (Fresh.of rfl) (Nat.le_of_ble_eq_true rfl)) ?_
  refine AL.cons rfl (Does.box 1 (Ev.tmp rfl) rfl rfl (Fresh.of rfl) (Nat.le_of_ble_eq_true rfl)) ?_
  refine AL.cons rfl (Does.assignC Evl.bool rfl) ?_
  refine AL.nil ?_
  refine (?_ : AC _ _ _ _ _)
  refine AC.seq ?_
  refine AC.region ?_
  refine AL.cons rfl (Does.assignC (Evl.int rfl) rfl) ?_
  refine AL.nil ?_
  refine (?_ : AC _ _ _ _ _)
  refine AC.seq ?_
  refine AC.region ?_
  refine AL.cons rfl (Does.loadPA (Evl.tmp rfl) rfl tsh_41 rfl rfl) ?_
  refine AL.cons rfl (Does.move rfl rfl) ?_
  refine AL.cons rfl (Does.call (fc_szSTG aA 1048576 (by omega) (by omega)) enters_14 ⟨_, _, rfl, (Ev.tmp rfl), ⟨_, _, rfl, (Ev.tmp rfl), rfl⟩⟩ rfl rfl) ?_
  refine AL.cons rfl (Does.assign rfl rfl) ?_
  refine AL.nil ?_
  refine (?_ : AC _ _ _ _ _)
  refine AC.seq ?_
  refine AC.seq ?_
  refine AC.region ?_
  refine AL.cons rfl (Does.move rfl rfl) ?_
  refine AL.cons rfl (Does.lss (Evl.tmp rfl) (Evl.int rfl) rfl) ?_
  refine AL.nil ?_
  refine (?_ : AC _ _ _ _ _)
  cases hb3 : (decide ((szv 1048576 (Ty.tot lSTG aA)) < 0))
  · have _h := hb3
    have hb3' : ¬ ((szv 1048576 (Ty.tot lSTG aA)) < 0) := of_decide_eq_false hb3
    refine AC.condF (Evl.tmp rfl) ?_
    refine AC.skip ?_
    refine (?_ : AC _ _ _ _ _)
    refine AC.seq ?_
    refine AC.region ?_
    refine AL.cons rfl (Does.loadPA (Evl.tmp rfl) rfl tsh_41 rfl rfl) ?_
    refine AL.cons rfl (Does.move rfl rfl) ?_
    refine AL.cons rfl (Does.call (fc_szSTG aB (szv 1048576 (Ty.tot lSTG aA)) (by omega) (by omega)) enters_14 ⟨_, _, rfl, (Ev.tmp rfl), ⟨_, _, rfl, (Ev.tmp rfl), rfl⟩⟩ rfl rfl) ?_
    refine AL.cons rfl (Does.assign rfl rfl) ?_
    refine AL.nil ?_
    refine (?_ : AC _ _ _ _ _)
    refine AC.seq ?_
    refine AC.seq ?_
    refine AC.region ?_
    refine AL.cons rfl (Does.move rfl rfl) ?_
    refine AL.cons rfl (Does.lss (Evl.tmp rfl) (Evl.int rfl) rfl) ?_
    refine AL.nil ?_
    refine (?_ : AC _ _ _ _ _)
    cases hb4 : (decide ((szv (szv 1048576 (Ty.tot lSTG aA)) (Ty.tot lSTG aB)) < 0))
    · have _h := hb4
      have hb4' : ¬ ((szv (szv 1048576 (Ty.tot lSTG aA)) (Ty.tot lSTG aB)) < 0) := of_decide_eq_false hb4
      refine AC.condF (Evl.tmp rfl) ?_
      refine AC.skip ?_
      refine (?_ : AC _ _ _ _ _)
      refine AC.seq ?_
      refine AC.drawL [⟨some 23, ag [dI aA.1.1, .dat (.sl 201 (.pr (.sl 3 .int) (.sl 3 .int))) aA.1.2, .dat (.sl 133 (.pr .str .int)) aA.2.1, .dat (.sl 149 (.pr .int .bool)) aA.2.2.1, dS aA.2.2.2], []⟩, ⟨some 24, ag [dI aA.1.1, .ref 2, .ref 3, .ref 4, dS aA.2.2.2], [(2, some (.arr 146 (.pr (.sl 3 .int) (.sl 3 .int)) aA.1.2)), (3, some (.arr 129 (.pr .str .int) aA.2.1)), (4, some (.arr 131 (.pr .int .bool) aA.2.2.1))]⟩, ⟨some 25, ag [dI aB.1.1, .dat (.sl 201 (.pr (.sl 3 .int) (.sl 3 .int))) aB.1.2, .dat (.sl 133 (.pr .str .int)) aB.2.1, .dat (.sl 149 (.pr .int .bool)) aB.2.2.1, dS aB.2.2.2], []⟩, ⟨some 26, ag [dI aB.1.1, .ref 5, .ref 6, .ref 7, dS aB.2.2.2], [(5, some (.arr 146 (.pr (.sl 3 .int) (.sl 3 .int)) aB.1.2)), (6, some (.arr 129 (.pr .str .int) aB.2.1)), (7, some (.arr 131 (.pr .int .bool) aB.2.2.1))]⟩, ⟨some 27, PV.tup [(false, [dB ((pfV aA aB).1)]), (false, [dB ((pfV aA aB).2)])], []⟩, ⟨some 22, PV.tup [(false, [dB ((pfV aA aB).1)]), (false, [dB ((pfV aA aB).2)])], []⟩, ⟨some 28, lf (dB ((pfV aA aB).1)), []⟩, ⟨some 29, lf (dB ((pfV aA aB).2)), []⟩, ⟨some 6, lf (dB ((pfV aA aB).1)), []⟩, ⟨some 7, lf (dB ((pfV aA aB).2)), []⟩] [[], [0], [], [0, 1, 2], [0, 1, 2, 3], [0, 1, 2, 3, 4], [0, 1, 2, 3, 4, 5], [0, 1, 2, 3, 4, 5], [0, 1, 2, 3, 4, 5, 6], [0, 1, 2, 3, 4, 5, 6, 7, 8]] mixed rfl (by kernel_rfl) ?_ ?_
      · refine ⟨fun s_ hs => Acts.of1 rfl (Does.loadPA (Evl.tmp (hs.tm 2 rfl)) (hs.en 0 rfl) tsh_41 rfl rfl) rfl, fun s_ hs => Acts.of1 rfl (Does.callG 2 (fc_toSTG aA (by omega)) enters_16 ⟨_, _, rfl, (Ev.tmp (hs.tm 23 rfl)), rfl⟩ rfl rfl ⟨(hs.fr 2 rfl), (hs.fr 3 rfl), (hs.fr 4 rfl), trivial⟩ (Nat.le_of_ble_eq_true rfl)) rfl, fun s_ hs => Acts.of1 rfl (Does.loadPA (Evl.tmp (hs.tm 3 rfl)) (hs.en 1 rfl) tsh_41 rfl rfl) rfl, fun s_ hs => Acts.of1 rfl (Does.callG 5 (fc_toSTG aB (by omega)) enters_16 ⟨_, _, rfl, (Ev.tmp (hs.tm 25 rfl)), rfl⟩ rfl rfl ⟨(hs.fr 5 rfl), (hs.fr 6 rfl), (hs.fr 7 rfl), trivial⟩ (Nat.le_of_ble_eq_true rfl)) rfl, fun s_ hs => Acts.of1 rfl (Does.callB (fc_spec_PreservesFirings aA aB) enters_40 ⟨_, _, rfl, (Ev.ob (Ev.tmp (hs.tm 24 rfl)) ⟨_, _, rfl, .inl rfl, ⟨_, _, rfl, .inr ⟨_, _, _, _, rfl, (hs.en 2 rfl), rfl⟩, ⟨_, _, rfl, .inr ⟨_, _, _, _, rfl, (hs.en 3 rfl), rfl⟩, ⟨_, _, rfl, .inr ⟨_, _, _, _, rfl, (hs.en 4 rfl), rfl⟩, ⟨_, _, rfl, .inl rfl, rfl⟩⟩⟩⟩⟩), ⟨_, _, rfl, (Ev.ob (Ev.tmp (hs.tm 26 rfl)) ⟨_, _, rfl, .inl rfl, ⟨_, _, rfl, .inr ⟨_, _, _, _, rfl, (hs.en 5 rfl), rfl⟩, ⟨_, _, rfl, .inr ⟨_, _, _, _, rfl, (hs.en 6 rfl), rfl⟩, ⟨_, _, rfl, .inr ⟨_, _, _, _, rfl, (hs.en 7 rfl), rfl⟩, ⟨_, _, rfl, .inl rfl, rfl⟩⟩⟩⟩⟩), rfl⟩⟩ rfl rfl rfl) rfl, fun s_ hs => Acts.of1 rfl (Does.move (hs.tm 27 rfl) rfl) rfl, fun s_ hs => Acts.of1 rfl (Does.extract (hs.tm 22 rfl) rfl rfl) rfl, fun s_ hs => Acts.of1 rfl (Does.extract (hs.tm 22 rfl) rfl rfl) rfl, fun s_ hs => Acts.of1 rfl (Does.assign (hs.tm 28 rfl) rfl) rfl, fun s_ hs => Acts.of1 rfl (Does.assign (hs.tm 29 rfl) rfl) rfl, trivial⟩
      refine (?_ : AC _ _ _ _ _)
      refine AC.wk (s' := _) (Wk.refl _ _) ?_
      refine AC.seq ?_
      refine AC.region ?_
      refine AL.cons rfl (Does.loadPA (Evl.tmp rfl) rfl tsh_41 rfl rfl) ?_
      refine AL.cons rfl (Does.callG 8 (fc_toSTG aA (by omega)) enters_16 ⟨_, _, rfl, (Ev.tmp rfl), rfl⟩ rfl rfl ⟨Fresh.of rfl, Fresh.of rfl, Fresh.of rfl, trivial⟩ (Nat.le_of_ble_eq_true rfl)) ?_
      refine AL.cons rfl (Does.alloc 11 (.pr (.pr .int (.sl 146 (.pr (.sl 3 .int) (.sl 3 .int)))) (.pr (.sl 129 (.pr .str .int)) (.pr (.sl 131 (.pr .int .bool)) .str))) zer_50 rfl rfl (Fresh.of rfl) (Nat.le_of_ble_eq_true rfl)) ?_
      refine AL.cons rfl (Does.storeP (Evl.tmp rfl) rfl (Ev.tmp rfl) rfl tsh_50 rfl) ?_
      refine AL.nil ?_
      refine (?_ : AC _ _ _ _ _)
      refine AC.seq ?_
      refine AC.region ?_
      refine AL.cons rfl (Does.loadPA (Evl.tmp rfl) rfl tsh_41 rfl rfl) ?_
      refine AL.cons rfl (Does.callG 12 (fc_toSTG aB (by omega)) enters_16 ⟨_, _, rfl, (Ev.tmp rfl), rfl⟩ rfl rfl ⟨Fresh.of rfl, Fresh.of rfl, Fresh.of rfl, trivial⟩ (Nat.le_of_ble_eq_true rfl)) ?_
      refine AL.cons rfl (Does.alloc 15 (.pr (.pr .int (.sl 146 (.pr (.sl 3 .int) (.sl 3 .int)))) (.pr (.sl 129 (.pr .str .int)) (.pr (.sl 131 (.pr .int .bool)) .str))) zer_50 rfl rfl (Fresh.of rfl) (Nat.le_of_ble_eq_true rfl)) ?_
      refine AL.cons rfl (Does.storeP (Evl.tmp rfl) rfl (Ev.tmp rfl) rfl tsh_50 rfl) ?_
      refine AL.nil ?_
      refine (?_ : AC _ _ _ _ _)
      refine AC.seq ?_
      refine AC.region ?_
      refine AL.cons rfl (Does.loadPA (Evl.tmp rfl) rfl tsh_50 rfl rfl) ?_
      refine AL.cons rfl (Does.loadPA (Evl.tmp rfl) rfl tsh_50 rfl rfl) ?_
      refine AL.cons rfl (Does.callB (fc_impl_PreservesFirings aA aB) enters_41 ⟨_, _, rfl, (Ev.ob (Ev.tmp rfl) ⟨_, _, rfl, .inl rfl, ⟨_, _, rfl, .inr ⟨_, _, _, _, rfl, rfl, rfl⟩, ⟨_, _, rfl, .inr ⟨_, _, _, _, rfl, rfl, rfl⟩, ⟨_, _, rfl, .inr ⟨_, _, _, _, rfl, rfl, rfl⟩, ⟨_, _, rfl, .inl rfl, rfl⟩⟩⟩⟩⟩), ⟨_, _, rfl, (Ev.ob (Ev.tmp rfl) ⟨_, _, rfl, .inl rfl, ⟨_, _, rfl, .inr ⟨_, _, _, _, rfl, rfl, rfl⟩, ⟨_, _, rfl, .inr ⟨_, _, _, _, rfl, rfl, rfl⟩, ⟨_, _, rfl, .inr ⟨_, _, _, _, rfl, rfl, rfl⟩, ⟨_, _, rfl, .inl rfl, rfl⟩⟩⟩⟩⟩), rfl⟩⟩ rfl rfl rfl) ?_
      refine AL.cons rfl (Does.move rfl rfl) ?_
      refine AL.cons rfl (Does.extract rfl rfl rfl) ?_
      refine AL.cons rfl (Does.extract rfl rfl rfl) ?_
      refine AL.cons rfl (Does.assign rfl rfl) ?_
      refine AL.cons rfl (Does.assign rfl rfl) ?_
      refine AL.nil ?_
      refine (?_ : AC _ _ _ _ _)
      refine AC.seq ?_
      refine AC.seq ?_
      refine AC.region ?_
      refine AL.cons rfl (Does.move rfl rfl) ?_
      refine AL.cons rfl (Does.move rfl rfl) ?_
      refine AL.cons rfl (Does.neqB (Evl.tmp rfl) (Evl.tmp rfl) rfl und_4) ?_
      refine AL.cons rfl (Does.move rfl rfl) ?_
      cases hb5 : (((pfV aA aB).1) == ((pfV aA aB).1))
      · have _h := hb5
        refine AL.guard_no (b := false) rfl rfl rfl ?_ rfl
        refine AL.guard_no (b := false) rfl rfl rfl ?_ rfl
        refine AL.guard_no (b := false) rfl rfl rfl ?_ rfl
        refine AL.cons rfl (Does.pickT (Evl.tmp rfl) (Evl.ev Evl.bool) rfl) ?_
        refine AL.nil ?_
        refine (?_ : AC _ _ _ _ _)
        refine AC.condT (Evl.tmp rfl) ?_
        refine AC.seq ?_
        refine AC.region ?_
        refine AL.cons rfl (Does.assignC Evl.bool rfl) ?_
        refine AL.nil ?_
        refine (?_ : AC _ _ _ _ _)
        refine AC.ret ?_
        subst hO
        have e6 : (false : Bool) = true := by
          exfalso; first | omega | (revert _h; simp; done)
        exact fin_pure (Res.one rfl (Rs.tmp rfl)) ((congrArg (fun z_ => lf (dB z_)) e6)) rfl
      · have _h := hb5
        refine AL.guard_yes rfl rfl rfl (Does.move rfl rfl) ?_
        refine AL.guard_yes rfl rfl rfl (Does.move rfl rfl) ?_
        refine AL.guard_yes rfl rfl rfl (Does.neqB (Evl.tmp rfl) (Evl.tmp rfl) rfl und_4) ?_
        refine AL.cons rfl (Does.pickF (Evl.tmp rfl) (Ev.tmp rfl) rfl) ?_
        refine AL.nil ?_
        refine (?_ : AC _ _ _ _ _)
        cases hb7 : (((pfV aA aB).2) == ((pfV aA aB).2))
        · have _h := hb7
          refine AC.condT (Evl.tmp rfl) ?_
          refine AC.seq ?_
          refine AC.region ?_
          refine AL.cons rfl (Does.assignC Evl.bool rfl) ?_
          refine AL.nil ?_
          refine (?_ : AC _ _ _ _ _)
          refine AC.ret ?_
          subst hO
          have e8 : (false : Bool) = true := by
            exfalso; first | omega | (revert _h; simp; done)
          exact fin_pure (Res.one rfl (Rs.tmp rfl)) ((congrArg (fun z_ => lf (dB z_)) e8)) rfl
        · have _h := hb7
          refine AC.condF (Evl.tmp rfl) ?_
          refine AC.skip ?_
          refine (?_ : AC _ _ _ _ _)
          refine AC.seq ?_
          refine AC.seq ?_
          refine AC.drawL [⟨some 48, ag [dI aA.1.1, .ref 8, .ref 9, .ref 10, dS aA.2.2.2], []⟩, ⟨some 49, ag [dI aA.1.1, .dat (.sl 201 (.pr (.sl 3 .int) (.sl 3 .int))) aA.1.2, .dat (.sl 133 (.pr .str .int)) aA.2.1, .dat (.sl 149 (.pr .int .bool)) aA.2.2.1, dS aA.2.2.2], []⟩, ⟨some 50, ag [dI aA.1.1, .ref 16, .ref 17, .ref 18, dS aA.2.2.2], [(16, some (.arr 146 (.pr (.sl 3 .int) (.sl 3 .int)) aA.1.2)), (17, some (.arr 129 (.pr .str .int) aA.2.1)), (18, some (.arr 131 (.pr .int .bool) aA.2.2.1))]⟩, ⟨some 51, lf (dB true), []⟩, ⟨some 52, lf (dB (!true)), []⟩] [[], [], [1], [0, 1, 2], [0, 1, 2, 3]] mixed rfl (by kernel_rfl) ?_ ?_
          · refine ⟨fun s_ hs => Acts.of1 rfl (Does.loadPA (Evl.tmp (hs.tm 8 rfl)) (hs.en 11 rfl) tsh_50 rfl rfl) rfl, fun s_ hs => Acts.of1 rfl (Does.loadPA (Evl.tmp (hs.tm 2 rfl)) (hs.en 0 rfl) tsh_41 rfl rfl) rfl, fun s_ hs => Acts.of1 rfl (Does.callG 16 (fc_toSTG aA (by omega)) enters_16 ⟨_, _, rfl, (Ev.tmp (hs.tm 49 rfl)), rfl⟩ rfl rfl ⟨(hs.fr 16 rfl), (hs.fr 17 rfl), (hs.fr 18 rfl), trivial⟩ (Nat.le_of_ble_eq_true rfl)) rfl, fun s_ hs => Acts.of1 rfl (Does.callB (fc_eqSTG aA aA rfl) enters_19 ⟨_, _, rfl, (Ev.ob (Ev.tmp (hs.tm 48 rfl)) ⟨_, _, rfl, .inl rfl, ⟨_, _, rfl, .inr ⟨_, _, _, _, rfl, (hs.en 8 rfl), rfl⟩, ⟨_, _, rfl, .inr ⟨_, _, _, _, rfl, (hs.en 9 rfl), rfl⟩, ⟨_, _, rfl, .inr ⟨_, _, _, _, rfl, (hs.en 10 rfl), rfl⟩, ⟨_, _, rfl, .inl rfl, rfl⟩⟩⟩⟩⟩), ⟨_, _, rfl, (Ev.ob (Ev.tmp (hs.tm 50 rfl)) ⟨_, _, rfl, .inl rfl, ⟨_, _, rfl, .inr ⟨_, _, _, _, rfl, (hs.en 16 rfl), rfl⟩, ⟨_, _, rfl, .inr ⟨_, _, _, _, rfl, (hs.en 17 rfl), rfl⟩, ⟨_, _, rfl, .inr ⟨_, _, _, _, rfl, (hs.en 18 rfl), rfl⟩, ⟨_, _, rfl, .inl rfl, rfl⟩⟩⟩⟩⟩), rfl⟩⟩ rfl rfl rfl) rfl, fun s_ hs => Acts.of1 rfl (Does.not (Evl.tmp (hs.tm 51 rfl)) rfl) rfl, trivial⟩
          refine (?_ : AC _ _ _ _ _)
          refine AC.wk (s' := _) (Wk.refl _ _) ?_
          refine AC.condF (Evl.tmp rfl) ?_
          refine AC.skip ?_
          refine (?_ : AC _ _ _ _ _)
          refine AC.seq ?_
          refine AC.seq ?_
          refine AC.drawL [⟨some 53, ag [dI aB.1.1, .ref 12, .ref 13, .ref 14, dS aB.2.2.2], []⟩, ⟨some 54, ag [dI aB.1.1, .dat (.sl 201 (.pr (.sl 3 .int) (.sl 3 .int))) aB.1.2, .dat (.sl 133 (.pr .str .int)) aB.2.1, .dat (.sl 149 (.pr .int .bool)) aB.2.2.1, dS aB.2.2.2], []⟩, ⟨some 55, ag [dI aB.1.1, .ref 19, .ref 20, .ref 21, dS aB.2.2.2], [(19, some (.arr 146 (.pr (.sl 3 .int) (.sl 3 .int)) aB.1.2)), (20, some (.arr 129 (.pr .str .int) aB.2.1)), (21, some (.arr 131 (.pr .int .bool) aB.2.2.1))]⟩, ⟨some 56, lf (dB true), []⟩, ⟨some 57, lf (dB (!true)), []⟩] [[], [], [1], [0, 1, 2], [0, 1, 2, 3]] mixed rfl (by kernel_rfl) ?_ ?_
          · refine ⟨fun s_ hs => Acts.of1 rfl (Does.loadPA (Evl.tmp (hs.tm 9 rfl)) (hs.en 15 rfl) tsh_50 rfl rfl) rfl, fun s_ hs => Acts.of1 rfl (Does.loadPA (Evl.tmp (hs.tm 3 rfl)) (hs.en 1 rfl) tsh_41 rfl rfl) rfl, fun s_ hs => Acts.of1 rfl (Does.callG 19 (fc_toSTG aB (by omega)) enters_16 ⟨_, _, rfl, (Ev.tmp (hs.tm 54 rfl)), rfl⟩ rfl rfl ⟨(hs.fr 19 rfl), (hs.fr 20 rfl), (hs.fr 21 rfl), trivial⟩ (Nat.le_of_ble_eq_true rfl)) rfl, fun s_ hs => Acts.of1 rfl (Does.callB (fc_eqSTG aB aB rfl) enters_19 ⟨_, _, rfl, (Ev.ob (Ev.tmp (hs.tm 53 rfl)) ⟨_, _, rfl, .inl rfl, ⟨_, _, rfl, .inr ⟨_, _, _, _, rfl, (hs.en 12 rfl), rfl⟩, ⟨_, _, rfl, .inr ⟨_, _, _, _, rfl, (hs.en 13 rfl), rfl⟩, ⟨_, _, rfl, .inr ⟨_, _, _, _, rfl, (hs.en 14 rfl), rfl⟩, ⟨_, _, rfl, .inl rfl, rfl⟩⟩⟩⟩⟩), ⟨_, _, rfl, (Ev.ob (Ev.tmp (hs.tm 55 rfl)) ⟨_, _, rfl, .inl rfl, ⟨_, _, rfl, .inr ⟨_, _, _, _, rfl, (hs.en 19 rfl), rfl⟩, ⟨_, _, rfl, .inr ⟨_, _, _, _, rfl, (hs.en 20 rfl), rfl⟩, ⟨_, _, rfl, .inr ⟨_, _, _, _, rfl, (hs.en 21 rfl), rfl⟩, ⟨_, _, rfl, .inl rfl, rfl⟩⟩⟩⟩⟩), rfl⟩⟩ rfl rfl rfl) rfl, fun s_ hs => Acts.of1 rfl (Does.not (Evl.tmp (hs.tm 56 rfl)) rfl) rfl, trivial⟩
          refine (?_ : AC _ _ _ _ _)
          refine AC.wk (s' := _) (Wk.refl _ _) ?_
          refine AC.condF (Evl.tmp rfl) ?_
          refine AC.skip ?_
          refine (?_ : AC _ _ _ _ _)
          refine AC.seq ?_
          refine AC.region ?_
          refine AL.cons rfl (Does.assignC Evl.bool rfl) ?_
          refine AL.nil ?_
          refine (?_ : AC _ _ _ _ _)
          refine AC.ret ?_
          subst hO
          exact fin_pure (Res.one rfl (Rs.tmp rfl)) rfl rfl
    · have _h := hb4
      have hb4' : ((szv (szv 1048576 (Ty.tot lSTG aA)) (Ty.tot lSTG aB)) < 0) := of_decide_eq_true hb4
      refine AC.condT (Evl.tmp rfl) ?_
      refine AC.seq ?_
      refine AC.region ?_
      refine AL.cons rfl (Does.assignC Evl.bool rfl) ?_
      refine AL.nil ?_
      refine (?_ : AC _ _ _ _ _)
      refine AC.ret ?_
      subst hO
      exact fin_pure (Res.one rfl (Rs.tmp rfl)) rfl rfl
  · have _h := hb3
    have hb3' : ((szv 1048576 (Ty.tot lSTG aA)) < 0) := of_decide_eq_true hb3
    refine AC.condT (Evl.tmp rfl) ?_
    refine AC.seq ?_
    refine AC.region ?_
    refine AL.cons rfl (Does.assignC Evl.bool rfl) ?_
    refine AL.nil ?_
    refine (?_ : AC _ _ _ _ _)
    refine AC.ret ?_
    subst hO
    exact fin_pure (Res.one rfl (Rs.tmp rfl)) rfl rfl

end Go.Proofs.Ytbelopdphlllnaa
