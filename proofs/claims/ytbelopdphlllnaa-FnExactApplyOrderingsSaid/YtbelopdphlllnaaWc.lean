/- Walks over abstract states: orderings added, the two functions. -/
import Derived.Test.YtbelopdphlllnaaWb
namespace Go.Proofs.Ytbelopdphlllnaa
open Go.RowKit

/-- What an ordering must be. -/
def OrdOk (s : DSTG) (o : DOrdering) : Prop := StgOk s ∧ (0 ≤ o.1 ∧ o.1 < s.1.2.length) ∧ (0 ≤ o.2.1 ∧ o.2.1 < s.1.2.length) ∧ o.1 ≠ o.2.1
instance (s : DSTG) (o : DOrdering) [Decidable (StgOk s)] : Decidable (OrdOk s o) := inferInstanceAs (Decidable (_ ∧ _))
def addV (s : DSTG) (o : DOrdering) [Decidable (StgOk s)] [Decidable (StgOk (addOrd s o))] : DSTG × Bool := if OrdOk s o then stgIfV (addOrd s o) else (zeroSTG, false)
def l26V (s : DSTG) (o : DOrdering) [Decidable (StgOk s)] [Decidable (StgOk (addOrd s o))] : DSTG × Bool := if OrdOk s o then (addOrd s o, decide (StgOk (addOrd s o))) else (zeroSTG, false)
theorem stg_labels {s : DSTG} (h : StgOk s) : s.1.2.length = s.2.2.1.length := h.len.symm
theorem stg_places {s : DSTG} (h : StgOk s) : 1 ≤ s.1.1 ∧ s.1.1 ≤ 30 := h.net.1
section
variable {s : DSTG} {o : DOrdering} [Decidable (StgOk s)] [Decidable (StgOk (addOrd s o))]
theorem addV_no (h : ¬ OrdOk s o) : addV s o = (zeroSTG, false) := if_neg h
theorem addV_yes (h : OrdOk s o) : addV s o = stgIfV (addOrd s o) := if_pos h
theorem l26V_no (h : ¬ OrdOk s o) : l26V s o = (zeroSTG, false) := if_neg h
theorem l26V_yes (h : OrdOk s o) : l26V s o = (addOrd s o, decide (StgOk (addOrd s o))) := if_pos h
end
theorem l26_1 {s : DSTG} {o : DOrdering} (h : o.2.2 = true) : (((s.1.1 + 1, addT s.1.2 o.1.toNat o.2.1.toNat s.1.1), s.2.1, s.2.2.1, s.2.2.2 ++ (⟨#[49]⟩ : ByteArray)) : DSTG) = addOrd s o := by simp [addOrd, bitS, h]
theorem l26_0 {s : DSTG} {o : DOrdering} (h : o.2.2 = false) : (((s.1.1 + 1, addT s.1.2 o.1.toNat o.2.1.toNat s.1.1), s.2.1, s.2.2.1, s.2.2.2 ++ (⟨#[48]⟩ : ByteArray)) : DSTG) = addOrd s o := by simp [addOrd, bitS, h]
theorem l26d1 {s : DSTG} {o : DOrdering} (h : o.2.2 = true) [Decidable (StgOk (((s.1.1 + 1, addT s.1.2 o.1.toNat o.2.1.toNat s.1.1), s.2.1, s.2.2.1, s.2.2.2 ++ (⟨#[49]⟩ : ByteArray)) : DSTG))] [Decidable (StgOk (addOrd s o))] : decide (StgOk (((s.1.1 + 1, addT s.1.2 o.1.toNat o.2.1.toNat s.1.1), s.2.1, s.2.2.1, s.2.2.2 ++ (⟨#[49]⟩ : ByteArray)) : DSTG)) = decide (StgOk (addOrd s o)) := decide_eq_decide.2 (by rw [l26_1 h])
theorem l26d0 {s : DSTG} {o : DOrdering} (h : o.2.2 = false) [Decidable (StgOk (((s.1.1 + 1, addT s.1.2 o.1.toNat o.2.1.toNat s.1.1), s.2.1, s.2.2.1, s.2.2.2 ++ (⟨#[48]⟩ : ByteArray)) : DSTG))] [Decidable (StgOk (addOrd s o))] : decide (StgOk (((s.1.1 + 1, addT s.1.2 o.1.toNat o.2.1.toNat s.1.1), s.2.1, s.2.2.1, s.2.2.2 ++ (⟨#[48]⟩ : ByteArray)) : DSTG)) = decide (StgOk (addOrd s o)) := decide_eq_decide.2 (by rw [l26_0 h])

set_option maxRecDepth 100000 in
set_option maxHeartbeats 4000000 in
theorem fc_impl_AddOrdering (s : (Int × (List (List Int × List Int))) × (List (ByteArray × Int)) × (List (Int × Bool)) × ByteArray) (o : Int × Int × Bool) [Decidable (StgOk s)] [Decidable (StgOk (addOrd s o))] (hz : Ty.tot tSTG s ≤ 2000000) : FC Try.prog 18 [(true, [dI s.1.1, .dat (.sl 146 (.pr (.sl 3 .int) (.sl 3 .int))) s.1.2, .dat (.sl 129 (.pr .str .int)) s.2.1, .dat (.sl 131 (.pr .int .bool)) s.2.2.1, dS s.2.2.2]), (true, [dI o.1, dI o.2.1, dB o.2.2])] [] 0 (Is (PV.tup [(true, [dI ((((addV s o).1).1).1), .ref 0, .ref 1, .ref 2, dS (((addV s o).1).2.2.2)]), (false, [dB ((addV s o).2)])]) [(0, some (.arr 146 (.pr (.sl 3 .int) (.sl 3 .int)) ((((addV s o).1).1).2))), (1, some (.arr 129 (.pr .str .int) (((addV s o).1).2.1))), (2, some (.arr 131 (.pr .int .bool) (((addV s o).1).2.2.1)))]) := by
  obtain ⟨O_, hO⟩ : ∃ x : PV → Tab → Prop, x = Is (PV.tup [(true, [dI ((((addV s o).1).1).1), .ref 0, .ref 1, .ref 2, dS (((addV s o).1).2.2.2)]), (false, [dB ((addV s o).2)])]) [(0, some (.arr 146 (.pr (.sl 3 .int) (.sl 3 .int)) ((((addV s o).1).1).2))), (1, some (.arr 129 (.pr .str .int) (((addV s o).1).2.1))), (2, some (.arr 131 (.pr .int .bool) (((addV s o).1).2.2.1)))] := ⟨_, rfl⟩
  refine FC.O_of hO (FC.ren (FC.of Try.func18 rfl rfl fun A_ hn_ hk_ => ?_))
  obtain ⟨w0_, N0_, X_, n_, k0_, h0_, f0_⟩ := A_
  obtain rfl : n_ = 42 := hn_.trans Try.ntmps18
  obtain rfl : k0_ = 0 := hk_
  refine AC.fact (fact_ag (x := .tmp 0) (i := 0) (Ev.tmp rfl) rfl) fun hi1 => ?_
  refine AC.fact (fact_ag (x := .tmp 1) (i := 0) (Ev.tmp rfl) rfl) fun hi2 => ?_
  refine AC.fact (fact_ag (x := .tmp 1) (i := 1) (Ev.tmp rfl) rfl) fun hi3 => ?_
  refine AC.seq ?_
  refine AC.region ?_
  refine AL.cons rfl (Does.box 0 (Ev.tmp rfl) rfl rfl (Fresh.of rfl) (Nat.le_of_ble_eq_true rfl)) ?_
  refine AL.cons rfl (Does.box 1 (Ev.tmp rfl) rfl rfl (Fresh.of rfl) (Nat.le_of_ble_eq_true rfl)) ?_
  refine AL.cons rfl (Does.alloc 2 (.pr (.pr .int (.sl 146 (.pr (.sl 3 .int) (.sl 3 .int)))) (.pr (.sl 129 (.pr .str .int)) (.pr (.sl 131 (.pr .int .bool)) .str))) zer_50 rfl rfl (Fresh.of rfl) (Nat.le_of_ble_eq_true rfl)) ?_
  refine AL.cons rfl (Does.assignC Evl.bool rfl) ?_
  refine AL.nil ?_
  refine (?_ : AC _ _ _ _ _)
  refine AC.seq ?_
  refine AC.region ?_
  refine AL.cons rfl (Does.fieldP (Evl.tmp rfl) fld_50_2 rfl rfl) ?_
  refine AL.cons rfl (Does.loadP (Evl.tmp rfl) rfl tsh_48 rfl rfl) ?_
  refine AL.fact (fact_len (x := .tmp 8) (Evl.tmp rfl)) fun hl4 => ?_
  refine AL.cons rfl (Does.len (Evl.tmp rfl) rfl und_48) ?_
  refine AL.cons rfl (Does.sub (Evl.tmp rfl) (Evl.int rfl) rfl (by omega)) ?_
  refine AL.cons rfl (Does.assign rfl rfl) ?_
  refine AL.nil ?_
  refine (?_ : AC _ _ _ _ _)
  refine AC.seq ?_
  refine AC.seq ?_
  refine AC.region ?_
  refine AL.cons rfl (Does.loadPA (Evl.tmp rfl) rfl tsh_50 rfl rfl) ?_
  refine AL.cons rfl (Does.call (fc_impl_IsValidSTG s) enters_57 ⟨_, _, rfl, (Ev.tmp rfl), rfl⟩ rfl rfl) ?_
  refine AL.cons rfl (Does.not (Evl.tmp rfl) rfl) ?_
  refine AL.cons rfl (Does.move rfl rfl) ?_
  cases hb5 : (decide (StgOk s))
  · have _h := hb5
    have hb5' : ¬ (StgOk s) := of_decide_eq_false hb5
    refine AL.guard_no (b := false) rfl rfl rfl ?_ rfl
    refine AL.guard_no (b := false) rfl rfl rfl ?_ rfl
    refine AL.guard_no (b := false) rfl rfl rfl ?_ rfl
    refine AL.guard_no (b := false) rfl rfl rfl ?_ rfl
    refine AL.guard_no (b := false) rfl rfl rfl ?_ rfl
    refine AL.cons rfl (Does.pickT (Evl.tmp rfl) (Evl.ev Evl.bool) rfl) ?_
    refine AL.cons rfl (Does.move rfl rfl) ?_
    refine AL.guard_no (b := false) rfl rfl rfl ?_ rfl
    refine AL.guard_no (b := false) rfl rfl rfl ?_ rfl
    refine AL.guard_no (b := false) rfl rfl rfl ?_ rfl
    refine AL.guard_no (b := false) rfl rfl rfl ?_ rfl
    refine AL.guard_no (b := false) rfl rfl rfl ?_ rfl
    refine AL.cons rfl (Does.pickT (Evl.tmp rfl) (Evl.ev Evl.bool) rfl) ?_
    refine AL.cons rfl (Does.move rfl rfl) ?_
    refine AL.guard_no (b := false) rfl rfl rfl ?_ rfl
    refine AL.guard_no (b := false) rfl rfl rfl ?_ rfl
    refine AL.guard_no (b := false) rfl rfl rfl ?_ rfl
    refine AL.guard_no (b := false) rfl rfl rfl ?_ rfl
    refine AL.guard_no (b := false) rfl rfl rfl ?_ rfl
    refine AL.cons rfl (Does.pickT (Evl.tmp rfl) (Evl.ev Evl.bool) rfl) ?_
    refine AL.nil ?_
    refine (?_ : AC _ _ _ _ _)
    refine AC.condT (Evl.tmp rfl) ?_
    refine AC.seq ?_
    refine AC.region ?_
    refine AL.cons rfl (Does.build bld_50 rfl (List.all_eq_true.1 rfl) rfl rfl) ?_
    refine AL.cons rfl (Does.storeP (Evl.tmp rfl) rfl (Ev.tmp rfl) rfl tsh_50 rfl) ?_
    refine AL.cons rfl (Does.assignC Evl.bool rfl) ?_
    refine AL.nil ?_
    refine (?_ : AC _ _ _ _ _)
    refine AC.wk (Wk.nilC 3 (p := 2) (off := 1) 146 (.pr (.sl 3 .int) (.sl 3 .int)) rfl rfl (Fresh.of rfl) (Nat.le_of_ble_eq_true rfl)) ?_
    refine AC.wk (Wk.nilC 4 (p := 2) (off := 2) 129 (.pr .str .int) rfl rfl (Fresh.of rfl) (Nat.le_of_ble_eq_true rfl)) ?_
    refine AC.wk (Wk.nilC 5 (p := 2) (off := 3) 131 (.pr .int .bool) rfl rfl (Fresh.of rfl) (Nat.le_of_ble_eq_true rfl)) ?_
    refine AC.ret ?_
    subst hO
    have e6 : (0 : Int) = (((addV s o).1).1).1 := by
      first | (rw [addV_no (fun ⟨a1, ⟨a2, a3⟩, ⟨a4, a5⟩, a6⟩ => by have := stg_labels a1; first | exact absurd a1 (by assumption) | exact absurd (by assumption) a6 | omega)]; done) | (rw [addV_no (fun ⟨a1, ⟨a2, a3⟩, ⟨a4, a5⟩, a6⟩ => by have := stg_labels a1; first | exact absurd a1 (by assumption) | exact absurd (by assumption) a6 | omega)]; rfl) | (rw [addV_yes ⟨‹StgOk s›, by have := stg_labels ‹StgOk s›; omega, by have := stg_labels ‹StgOk s›; omega, by omega⟩])
    have e7 : (ByteArray.empty : ByteArray) = ((addV s o).1).2.2.2 := by
      first | (rw [addV_no (fun ⟨a1, ⟨a2, a3⟩, ⟨a4, a5⟩, a6⟩ => by have := stg_labels a1; first | exact absurd a1 (by assumption) | exact absurd (by assumption) a6 | omega)]; done) | (rw [addV_no (fun ⟨a1, ⟨a2, a3⟩, ⟨a4, a5⟩, a6⟩ => by have := stg_labels a1; first | exact absurd a1 (by assumption) | exact absurd (by assumption) a6 | omega)]; rfl) | (rw [addV_yes ⟨‹StgOk s›, by have := stg_labels ‹StgOk s›; omega, by have := stg_labels ‹StgOk s›; omega, by omega⟩])
    have e8 : (false : Bool) = (addV s o).2 := by
      first | (rw [addV_no (fun ⟨a1, ⟨a2, a3⟩, ⟨a4, a5⟩, a6⟩ => by have := stg_labels a1; first | exact absurd a1 (by assumption) | exact absurd (by assumption) a6 | omega)]; done) | (rw [addV_no (fun ⟨a1, ⟨a2, a3⟩, ⟨a4, a5⟩, a6⟩ => by have := stg_labels a1; first | exact absurd a1 (by assumption) | exact absurd (by assumption) a6 | omega)]; rfl) | (rw [addV_yes ⟨‹StgOk s›, by have := stg_labels ‹StgOk s›; omega, by have := stg_labels ‹StgOk s›; omega, by omega⟩])
    exact fin_is (PV.tup [(true, [dI ((((addV s o).1).1).1), .ref 0, .ref 1, .ref 2, dS (((addV s o).1).2.2.2)]), (false, [dB ((addV s o).2)])]) [(0, some (.arr 146 (.pr (.sl 3 .int) (.sl 3 .int)) ((((addV s o).1).1).2))), (1, some (.arr 129 (.pr .str .int) (((addV s o).1).2.1))), (2, some (.arr 131 (.pr .int .bool) (((addV s o).1).2.2.1)))] [(0, 3), (1, 4), (2, 5)] (Res.two rfl (Rs.cell rfl rfl tsh_50 rfl) (Rs.tmp rfl)) (show PV.tup [(true, [dI 0, .ref 3, .ref 4, .ref 5, dS ByteArray.empty]), (false, [dB false])] = PV.tup [(true, [dI ((((addV s o).1).1).1), .ref 3, .ref 4, .ref 5, dS (((addV s o).1).2.2.2)]), (false, [dB ((addV s o).2)])] by exact (((congrArg (fun z_ => PV.tup [(true, [dI z_, .ref 3, .ref 4, .ref 5, dS ByteArray.empty]), (false, [dB false])]) e6)).trans (congrArg (fun z_ => PV.tup [(true, [dI ((((addV s o).1).1).1), .ref 3, .ref 4, .ref 5, dS z_]), (false, [dB false])]) e7)).trans (congrArg (fun z_ => PV.tup [(true, [dI ((((addV s o).1).1).1), .ref 3, .ref 4, .ref 5, dS (((addV s o).1).2.2.2)]), (false, [dB z_])]) e8)) ⟨(show some (Ent.arr 146 (.pr (.sl 3 .int) (.sl 3 .int)) ([])) = some (Ent.arr 146 (.pr (.sl 3 .int) (.sl 3 .int)) ((((addV s o).1).1).2)) from congrArg (fun z => some (Ent.arr 146 (.pr (.sl 3 .int) (.sl 3 .int)) z)) (by first | (rw [addV_no (fun ⟨a1, ⟨a2, a3⟩, ⟨a4, a5⟩, a6⟩ => by have := stg_labels a1; first | exact absurd a1 (by assumption) | exact absurd (by assumption) a6 | omega)]; done) | (rw [addV_no (fun ⟨a1, ⟨a2, a3⟩, ⟨a4, a5⟩, a6⟩ => by have := stg_labels a1; first | exact absurd a1 (by assumption) | exact absurd (by assumption) a6 | omega)]; rfl) | (rw [addV_yes ⟨‹StgOk s›, by have := stg_labels ‹StgOk s›; omega, by have := stg_labels ‹StgOk s›; omega, by omega⟩]))), (show some (Ent.arr 129 (.pr .str .int) ([])) = some (Ent.arr 129 (.pr .str .int) (((addV s o).1).2.1)) from congrArg (fun z => some (Ent.arr 129 (.pr .str .int) z)) (by first | (rw [addV_no (fun ⟨a1, ⟨a2, a3⟩, ⟨a4, a5⟩, a6⟩ => by have := stg_labels a1; first | exact absurd a1 (by assumption) | exact absurd (by assumption) a6 | omega)]; done) | (rw [addV_no (fun ⟨a1, ⟨a2, a3⟩, ⟨a4, a5⟩, a6⟩ => by have := stg_labels a1; first | exact absurd a1 (by assumption) | exact absurd (by assumption) a6 | omega)]; rfl) | (rw [addV_yes ⟨‹StgOk s›, by have := stg_labels ‹StgOk s›; omega, by have := stg_labels ‹StgOk s›; omega, by omega⟩]))), (show some (Ent.arr 131 (.pr .int .bool) ([])) = some (Ent.arr 131 (.pr .int .bool) (((addV s o).1).2.2.1)) from congrArg (fun z => some (Ent.arr 131 (.pr .int .bool) z)) (by first | (rw [addV_no (fun ⟨a1, ⟨a2, a3⟩, ⟨a4, a5⟩, a6⟩ => by have := stg_labels a1; first | exact absurd a1 (by assumption) | exact absurd (by assumption) a6 | omega)]; done) | (rw [addV_no (fun ⟨a1, ⟨a2, a3⟩, ⟨a4, a5⟩, a6⟩ => by have := stg_labels a1; first | exact absurd a1 (by assumption) | exact absurd (by assumption) a6 | omega)]; rfl) | (rw [addV_yes ⟨‹StgOk s›, by have := stg_labels ‹StgOk s›; omega, by have := stg_labels ‹StgOk s›; omega, by omega⟩]))), trivial⟩ rfl rfl
  · have _h := hb5
    have hb5' : (StgOk s) := of_decide_eq_true hb5
    refine AL.guard_yes rfl rfl rfl (Does.fieldP (Evl.tmp rfl) fld_54_0 rfl rfl) ?_
    refine AL.guard_yes rfl rfl rfl (Does.loadP (Evl.tmp rfl) rfl tsh_3 rfl rfl) ?_
    refine AL.guard_yes rfl rfl rfl (Does.move rfl rfl) ?_
    refine AL.guard_yes rfl rfl rfl (Does.call (fc_impl_within o.1 0 ((s.2.2.1.length : Int) - 1)) enters_58 ⟨_, _, rfl, (Ev.tmp rfl), ⟨_, _, rfl, (Evl.ev (Evl.int rfl)), ⟨_, _, rfl, (Ev.tmp rfl), rfl⟩⟩⟩ rfl rfl) ?_
    refine AL.guard_yes rfl rfl rfl (Does.not (Evl.tmp rfl) rfl) ?_
    refine AL.cons rfl (Does.pickF (Evl.tmp rfl) (Ev.tmp rfl) rfl) ?_
    refine AL.cons rfl (Does.move rfl rfl) ?_
    cases hb9 : (decide (0 ≤ o.1 ∧ o.1 ≤ ((s.2.2.1.length : Int) - 1)))
    · have _h := hb9
      have hb9' : ¬ (0 ≤ o.1 ∧ o.1 ≤ ((s.2.2.1.length : Int) - 1)) := of_decide_eq_false hb9
      refine AL.guard_no (b := false) rfl rfl rfl ?_ rfl
      refine AL.guard_no (b := false) rfl rfl rfl ?_ rfl
      refine AL.guard_no (b := false) rfl rfl rfl ?_ rfl
      refine AL.guard_no (b := false) rfl rfl rfl ?_ rfl
      refine AL.guard_no (b := false) rfl rfl rfl ?_ rfl
      refine AL.cons rfl (Does.pickT (Evl.tmp rfl) (Evl.ev Evl.bool) rfl) ?_
      refine AL.cons rfl (Does.move rfl rfl) ?_
      refine AL.guard_no (b := false) rfl rfl rfl ?_ rfl
      refine AL.guard_no (b := false) rfl rfl rfl ?_ rfl
      refine AL.guard_no (b := false) rfl rfl rfl ?_ rfl
      refine AL.guard_no (b := false) rfl rfl rfl ?_ rfl
      refine AL.guard_no (b := false) rfl rfl rfl ?_ rfl
      refine AL.cons rfl (Does.pickT (Evl.tmp rfl) (Evl.ev Evl.bool) rfl) ?_
      refine AL.nil ?_
      refine (?_ : AC _ _ _ _ _)
      refine AC.condT (Evl.tmp rfl) ?_
      refine AC.seq ?_
      refine AC.region ?_
      refine AL.cons rfl (Does.build bld_50 rfl (List.all_eq_true.1 rfl) rfl rfl) ?_
      refine AL.cons rfl (Does.storeP (Evl.tmp rfl) rfl (Ev.tmp rfl) rfl tsh_50 rfl) ?_
      refine AL.cons rfl (Does.assignC Evl.bool rfl) ?_
      refine AL.nil ?_
      refine (?_ : AC _ _ _ _ _)
      refine AC.wk (Wk.nilC 6 (p := 2) (off := 1) 146 (.pr (.sl 3 .int) (.sl 3 .int)) rfl rfl (Fresh.of rfl) (Nat.le_of_ble_eq_true rfl)) ?_
      refine AC.wk (Wk.nilC 7 (p := 2) (off := 2) 129 (.pr .str .int) rfl rfl (Fresh.of rfl) (Nat.le_of_ble_eq_true rfl)) ?_
      refine AC.wk (Wk.nilC 8 (p := 2) (off := 3) 131 (.pr .int .bool) rfl rfl (Fresh.of rfl) (Nat.le_of_ble_eq_true rfl)) ?_
      refine AC.ret ?_
      subst hO
      have e10 : (0 : Int) = (((addV s o).1).1).1 := by
        first | (rw [addV_no (fun ⟨a1, ⟨a2, a3⟩, ⟨a4, a5⟩, a6⟩ => by have := stg_labels a1; first | exact absurd a1 (by assumption) | exact absurd (by assumption) a6 | omega)]; done) | (rw [addV_no (fun ⟨a1, ⟨a2, a3⟩, ⟨a4, a5⟩, a6⟩ => by have := stg_labels a1; first | exact absurd a1 (by assumption) | exact absurd (by assumption) a6 | omega)]; rfl) | (rw [addV_yes ⟨‹StgOk s›, by have := stg_labels ‹StgOk s›; omega, by have := stg_labels ‹StgOk s›; omega, by omega⟩])
      have e11 : (ByteArray.empty : ByteArray) = ((addV s o).1).2.2.2 := by
        first | (rw [addV_no (fun ⟨a1, ⟨a2, a3⟩, ⟨a4, a5⟩, a6⟩ => by have := stg_labels a1; first | exact absurd a1 (by assumption) | exact absurd (by assumption) a6 | omega)]; done) | (rw [addV_no (fun ⟨a1, ⟨a2, a3⟩, ⟨a4, a5⟩, a6⟩ => by have := stg_labels a1; first | exact absurd a1 (by assumption) | exact absurd (by assumption) a6 | omega)]; rfl) | (rw [addV_yes ⟨‹StgOk s›, by have := stg_labels ‹StgOk s›; omega, by have := stg_labels ‹StgOk s›; omega, by omega⟩])
      have e12 : (false : Bool) = (addV s o).2 := by
        first | (rw [addV_no (fun ⟨a1, ⟨a2, a3⟩, ⟨a4, a5⟩, a6⟩ => by have := stg_labels a1; first | exact absurd a1 (by assumption) | exact absurd (by assumption) a6 | omega)]; done) | (rw [addV_no (fun ⟨a1, ⟨a2, a3⟩, ⟨a4, a5⟩, a6⟩ => by have := stg_labels a1; first | exact absurd a1 (by assumption) | exact absurd (by assumption) a6 | omega)]; rfl) | (rw [addV_yes ⟨‹StgOk s›, by have := stg_labels ‹StgOk s›; omega, by have := stg_labels ‹StgOk s›; omega, by omega⟩])
      exact fin_is (PV.tup [(true, [dI ((((addV s o).1).1).1), .ref 0, .ref 1, .ref 2, dS (((addV s o).1).2.2.2)]), (false, [dB ((addV s o).2)])]) [(0, some (.arr 146 (.pr (.sl 3 .int) (.sl 3 .int)) ((((addV s o).1).1).2))), (1, some (.arr 129 (.pr .str .int) (((addV s o).1).2.1))), (2, some (.arr 131 (.pr .int .bool) (((addV s o).1).2.2.1)))] [(0, 6), (1, 7), (2, 8)] (Res.two rfl (Rs.cell rfl rfl tsh_50 rfl) (Rs.tmp rfl)) (show PV.tup [(true, [dI 0, .ref 6, .ref 7, .ref 8, dS ByteArray.empty]), (false, [dB false])] = PV.tup [(true, [dI ((((addV s o).1).1).1), .ref 6, .ref 7, .ref 8, dS (((addV s o).1).2.2.2)]), (false, [dB ((addV s o).2)])] by exact (((congrArg (fun z_ => PV.tup [(true, [dI z_, .ref 6, .ref 7, .ref 8, dS ByteArray.empty]), (false, [dB false])]) e10)).trans (congrArg (fun z_ => PV.tup [(true, [dI ((((addV s o).1).1).1), .ref 6, .ref 7, .ref 8, dS z_]), (false, [dB false])]) e11)).trans (congrArg (fun z_ => PV.tup [(true, [dI ((((addV s o).1).1).1), .ref 6, .ref 7, .ref 8, dS (((addV s o).1).2.2.2)]), (false, [dB z_])]) e12)) ⟨(show some (Ent.arr 146 (.pr (.sl 3 .int) (.sl 3 .int)) ([])) = some (Ent.arr 146 (.pr (.sl 3 .int) (.sl 3 .int)) ((((addV s o).1).1).2)) from congrArg (fun z => some (Ent.arr 146 (.pr (.sl 3 .int) (.sl 3 .int)) z)) (by first | (rw [addV_no (fun ⟨a1, ⟨a2, a3⟩, ⟨a4, a5⟩, a6⟩ => by have := stg_labels a1; first | exact absurd a1 (by assumption) | exact absurd (by assumption) a6 | omega)]; done) | (rw [addV_no (fun ⟨a1, ⟨a2, a3⟩, ⟨a4, a5⟩, a6⟩ => by have := stg_labels a1; first | exact absurd a1 (by assumption) | exact absurd (by assumption) a6 | omega)]; rfl) | (rw [addV_yes ⟨‹StgOk s›, by have := stg_labels ‹StgOk s›; omega, by have := stg_labels ‹StgOk s›; omega, by omega⟩]))), (show some (Ent.arr 129 (.pr .str .int) ([])) = some (Ent.arr 129 (.pr .str .int) (((addV s o).1).2.1)) from congrArg (fun z => some (Ent.arr 129 (.pr .str .int) z)) (by first | (rw [addV_no (fun ⟨a1, ⟨a2, a3⟩, ⟨a4, a5⟩, a6⟩ => by have := stg_labels a1; first | exact absurd a1 (by assumption) | exact absurd (by assumption) a6 | omega)]; done) | (rw [addV_no (fun ⟨a1, ⟨a2, a3⟩, ⟨a4, a5⟩, a6⟩ => by have := stg_labels a1; first | exact absurd a1 (by assumption) | exact absurd (by assumption) a6 | omega)]; rfl) | (rw [addV_yes ⟨‹StgOk s›, by have := stg_labels ‹StgOk s›; omega, by have := stg_labels ‹StgOk s›; omega, by omega⟩]))), (show some (Ent.arr 131 (.pr .int .bool) ([])) = some (Ent.arr 131 (.pr .int .bool) (((addV s o).1).2.2.1)) from congrArg (fun z => some (Ent.arr 131 (.pr .int .bool) z)) (by first | (rw [addV_no (fun ⟨a1, ⟨a2, a3⟩, ⟨a4, a5⟩, a6⟩ => by have := stg_labels a1; first | exact absurd a1 (by assumption) | exact absurd (by assumption) a6 | omega)]; done) | (rw [addV_no (fun ⟨a1, ⟨a2, a3⟩, ⟨a4, a5⟩, a6⟩ => by have := stg_labels a1; first | exact absurd a1 (by assumption) | exact absurd (by assumption) a6 | omega)]; rfl) | (rw [addV_yes ⟨‹StgOk s›, by have := stg_labels ‹StgOk s›; omega, by have := stg_labels ‹StgOk s›; omega, by omega⟩]))), trivial⟩ rfl rfl
    · have _h := hb9
      have hb9' : (0 ≤ o.1 ∧ o.1 ≤ ((s.2.2.1.length : Int) - 1)) := of_decide_eq_true hb9
      refine AL.guard_yes rfl rfl rfl (Does.fieldP (Evl.tmp rfl) fld_54_1 rfl rfl) ?_
      refine AL.guard_yes rfl rfl rfl (Does.loadP (Evl.tmp rfl) rfl tsh_3 rfl rfl) ?_
      refine AL.guard_yes rfl rfl rfl (Does.move rfl rfl) ?_
      refine AL.guard_yes rfl rfl rfl (Does.call (fc_impl_within o.2.1 0 ((s.2.2.1.length : Int) - 1)) enters_58 ⟨_, _, rfl, (Ev.tmp rfl), ⟨_, _, rfl, (Evl.ev (Evl.int rfl)), ⟨_, _, rfl, (Ev.tmp rfl), rfl⟩⟩⟩ rfl rfl) ?_
      refine AL.guard_yes rfl rfl rfl (Does.not (Evl.tmp rfl) rfl) ?_
      refine AL.cons rfl (Does.pickF (Evl.tmp rfl) (Ev.tmp rfl) rfl) ?_
      refine AL.cons rfl (Does.move rfl rfl) ?_
      cases hb13 : (decide (0 ≤ o.2.1 ∧ o.2.1 ≤ ((s.2.2.1.length : Int) - 1)))
      · have _h := hb13
        have hb13' : ¬ (0 ≤ o.2.1 ∧ o.2.1 ≤ ((s.2.2.1.length : Int) - 1)) := of_decide_eq_false hb13
        refine AL.guard_no (b := false) rfl rfl rfl ?_ rfl
        refine AL.guard_no (b := false) rfl rfl rfl ?_ rfl
        refine AL.guard_no (b := false) rfl rfl rfl ?_ rfl
        refine AL.guard_no (b := false) rfl rfl rfl ?_ rfl
        refine AL.guard_no (b := false) rfl rfl rfl ?_ rfl
        refine AL.cons rfl (Does.pickT (Evl.tmp rfl) (Evl.ev Evl.bool) rfl) ?_
        refine AL.nil ?_
        refine (?_ : AC _ _ _ _ _)
        refine AC.condT (Evl.tmp rfl) ?_
        refine AC.seq ?_
        refine AC.region ?_
        refine AL.cons rfl (Does.build bld_50 rfl (List.all_eq_true.1 rfl) rfl rfl) ?_
        refine AL.cons rfl (Does.storeP (Evl.tmp rfl) rfl (Ev.tmp rfl) rfl tsh_50 rfl) ?_
        refine AL.cons rfl (Does.assignC Evl.bool rfl) ?_
        refine AL.nil ?_
        refine (?_ : AC _ _ _ _ _)
        refine AC.wk (Wk.nilC 9 (p := 2) (off := 1) 146 (.pr (.sl 3 .int) (.sl 3 .int)) rfl rfl (Fresh.of rfl) (Nat.le_of_ble_eq_true rfl)) ?_
        refine AC.wk (Wk.nilC 10 (p := 2) (off := 2) 129 (.pr .str .int) rfl rfl (Fresh.of rfl) (Nat.le_of_ble_eq_true rfl)) ?_
        refine AC.wk (Wk.nilC 11 (p := 2) (off := 3) 131 (.pr .int .bool) rfl rfl (Fresh.of rfl) (Nat.le_of_ble_eq_true rfl)) ?_
        refine AC.ret ?_
        subst hO
        have e14 : (0 : Int) = (((addV s o).1).1).1 := by
          first | (rw [addV_no (fun ⟨a1, ⟨a2, a3⟩, ⟨a4, a5⟩, a6⟩ => by have := stg_labels a1; first | exact absurd a1 (by assumption) | exact absurd (by assumption) a6 | omega)]; done) | (rw [addV_no (fun ⟨a1, ⟨a2, a3⟩, ⟨a4, a5⟩, a6⟩ => by have := stg_labels a1; first | exact absurd a1 (by assumption) | exact absurd (by assumption) a6 | omega)]; rfl) | (rw [addV_yes ⟨‹StgOk s›, by have := stg_labels ‹StgOk s›; omega, by have := stg_labels ‹StgOk s›; omega, by omega⟩])
        have e15 : (ByteArray.empty : ByteArray) = ((addV s o).1).2.2.2 := by
          first | (rw [addV_no (fun ⟨a1, ⟨a2, a3⟩, ⟨a4, a5⟩, a6⟩ => by have := stg_labels a1; first | exact absurd a1 (by assumption) | exact absurd (by assumption) a6 | omega)]; done) | (rw [addV_no (fun ⟨a1, ⟨a2, a3⟩, ⟨a4, a5⟩, a6⟩ => by have := stg_labels a1; first | exact absurd a1 (by assumption) | exact absurd (by assumption) a6 | omega)]; rfl) | (rw [addV_yes ⟨‹StgOk s›, by have := stg_labels ‹StgOk s›; omega, by have := stg_labels ‹StgOk s›; omega, by omega⟩])
        have e16 : (false : Bool) = (addV s o).2 := by
          first | (rw [addV_no (fun ⟨a1, ⟨a2, a3⟩, ⟨a4, a5⟩, a6⟩ => by have := stg_labels a1; first | exact absurd a1 (by assumption) | exact absurd (by assumption) a6 | omega)]; done) | (rw [addV_no (fun ⟨a1, ⟨a2, a3⟩, ⟨a4, a5⟩, a6⟩ => by have := stg_labels a1; first | exact absurd a1 (by assumption) | exact absurd (by assumption) a6 | omega)]; rfl) | (rw [addV_yes ⟨‹StgOk s›, by have := stg_labels ‹StgOk s›; omega, by have := stg_labels ‹StgOk s›; omega, by omega⟩])
        exact fin_is (PV.tup [(true, [dI ((((addV s o).1).1).1), .ref 0, .ref 1, .ref 2, dS (((addV s o).1).2.2.2)]), (false, [dB ((addV s o).2)])]) [(0, some (.arr 146 (.pr (.sl 3 .int) (.sl 3 .int)) ((((addV s o).1).1).2))), (1, some (.arr 129 (.pr .str .int) (((addV s o).1).2.1))), (2, some (.arr 131 (.pr .int .bool) (((addV s o).1).2.2.1)))] [(0, 9), (1, 10), (2, 11)] (Res.two rfl (Rs.cell rfl rfl tsh_50 rfl) (Rs.tmp rfl)) (show PV.tup [(true, [dI 0, .ref 9, .ref 10, .ref 11, dS ByteArray.empty]), (false, [dB false])] = PV.tup [(true, [dI ((((addV s o).1).1).1), .ref 9, .ref 10, .ref 11, dS (((addV s o).1).2.2.2)]), (false, [dB ((addV s o).2)])] by exact (((congrArg (fun z_ => PV.tup [(true, [dI z_, .ref 9, .ref 10, .ref 11, dS ByteArray.empty]), (false, [dB false])]) e14)).trans (congrArg (fun z_ => PV.tup [(true, [dI ((((addV s o).1).1).1), .ref 9, .ref 10, .ref 11, dS z_]), (false, [dB false])]) e15)).trans (congrArg (fun z_ => PV.tup [(true, [dI ((((addV s o).1).1).1), .ref 9, .ref 10, .ref 11, dS (((addV s o).1).2.2.2)]), (false, [dB z_])]) e16)) ⟨(show some (Ent.arr 146 (.pr (.sl 3 .int) (.sl 3 .int)) ([])) = some (Ent.arr 146 (.pr (.sl 3 .int) (.sl 3 .int)) ((((addV s o).1).1).2)) from congrArg (fun z => some (Ent.arr 146 (.pr (.sl 3 .int) (.sl 3 .int)) z)) (by first | (rw [addV_no (fun ⟨a1, ⟨a2, a3⟩, ⟨a4, a5⟩, a6⟩ => by have := stg_labels a1; first | exact absurd a1 (by assumption) | exact absurd (by assumption) a6 | omega)]; done) | (rw [addV_no (fun ⟨a1, ⟨a2, a3⟩, ⟨a4, a5⟩, a6⟩ => by have := stg_labels a1; first | exact absurd a1 (by assumption) | exact absurd (by assumption) a6 | omega)]; rfl) | (rw [addV_yes ⟨‹StgOk s›, by have := stg_labels ‹StgOk s›; omega, by have := stg_labels ‹StgOk s›; omega, by omega⟩]))), (show some (Ent.arr 129 (.pr .str .int) ([])) = some (Ent.arr 129 (.pr .str .int) (((addV s o).1).2.1)) from congrArg (fun z => some (Ent.arr 129 (.pr .str .int) z)) (by first | (rw [addV_no (fun ⟨a1, ⟨a2, a3⟩, ⟨a4, a5⟩, a6⟩ => by have := stg_labels a1; first | exact absurd a1 (by assumption) | exact absurd (by assumption) a6 | omega)]; done) | (rw [addV_no (fun ⟨a1, ⟨a2, a3⟩, ⟨a4, a5⟩, a6⟩ => by have := stg_labels a1; first | exact absurd a1 (by assumption) | exact absurd (by assumption) a6 | omega)]; rfl) | (rw [addV_yes ⟨‹StgOk s›, by have := stg_labels ‹StgOk s›; omega, by have := stg_labels ‹StgOk s›; omega, by omega⟩]))), (show some (Ent.arr 131 (.pr .int .bool) ([])) = some (Ent.arr 131 (.pr .int .bool) (((addV s o).1).2.2.1)) from congrArg (fun z => some (Ent.arr 131 (.pr .int .bool) z)) (by first | (rw [addV_no (fun ⟨a1, ⟨a2, a3⟩, ⟨a4, a5⟩, a6⟩ => by have := stg_labels a1; first | exact absurd a1 (by assumption) | exact absurd (by assumption) a6 | omega)]; done) | (rw [addV_no (fun ⟨a1, ⟨a2, a3⟩, ⟨a4, a5⟩, a6⟩ => by have := stg_labels a1; first | exact absurd a1 (by assumption) | exact absurd (by assumption) a6 | omega)]; rfl) | (rw [addV_yes ⟨‹StgOk s›, by have := stg_labels ‹StgOk s›; omega, by have := stg_labels ‹StgOk s›; omega, by omega⟩]))), trivial⟩ rfl rfl
      · have _h := hb13
        have hb13' : (0 ≤ o.2.1 ∧ o.2.1 ≤ ((s.2.2.1.length : Int) - 1)) := of_decide_eq_true hb13
        refine AL.guard_yes rfl rfl rfl (Does.fieldP (Evl.tmp rfl) fld_54_0 rfl rfl) ?_
        refine AL.guard_yes rfl rfl rfl (Does.loadP (Evl.tmp rfl) rfl tsh_3 rfl rfl) ?_
        refine AL.guard_yes rfl rfl rfl (Does.fieldP (Evl.tmp rfl) fld_54_1 rfl rfl) ?_
        refine AL.guard_yes rfl rfl rfl (Does.loadP (Evl.tmp rfl) rfl tsh_3 rfl rfl) ?_
        refine AL.guard_yes rfl rfl rfl (Does.eql (Evl.tmp rfl) (Evl.tmp rfl) rfl) ?_
        refine AL.cons rfl (Does.pickF (Evl.tmp rfl) (Ev.tmp rfl) rfl) ?_
        refine AL.nil ?_
        refine (?_ : AC _ _ _ _ _)
        cases hb17 : (decide (o.1 = o.2.1))
        · have _h := hb17
          have hb17' : ¬ (o.1 = o.2.1) := of_decide_eq_false hb17
          refine AC.condF (Evl.tmp rfl) ?_
          refine AC.skip ?_
          refine (?_ : AC _ _ _ _ _)
          refine AC.seq ?_
          refine AC.region ?_
          refine AL.cons rfl (Does.loadPA (Evl.tmp rfl) rfl tsh_50 rfl rfl) ?_
          refine AL.cons rfl (Does.loadPA (Evl.tmp rfl) rfl tsh_54 rfl rfl) ?_
          refine AL.cons rfl (Does.callG 12 (fc_impl_ordered s o hz (by have := stg_labels ‹StgOk s›; omega) (by have := stg_labels ‹StgOk s›; omega) (by omega) (stg_places ‹StgOk s›)) enters_60 ⟨_, _, rfl, (Ev.tmp rfl), ⟨_, _, rfl, (Ev.tmp rfl), rfl⟩⟩ rfl rfl ⟨Fresh.of rfl, Fresh.of rfl, Fresh.of rfl, trivial⟩ (Nat.le_of_ble_eq_true rfl)) ?_
          refine AL.cons rfl (Does.callP 15 [(0, 12), (1, 13), (2, 14)] (fc_impl_stgIf (addOrd s o)) enters_59 ⟨_, _, rfl, (Ev.tmp rfl), rfl⟩ ⟨rfl, rfl, rfl, trivial⟩ rfl ⟨(Fresh.of rfl), (Fresh.of rfl), (Fresh.of rfl), trivial⟩ (Nat.le_of_ble_eq_true rfl)) ?_
          refine AL.cons rfl (Does.extract rfl rfl rfl) ?_
          refine AL.cons rfl (Does.extract rfl rfl rfl) ?_
          refine AL.cons rfl (Does.storeP (Evl.tmp rfl) rfl (Ev.tmp rfl) rfl tsh_50 rfl) ?_
          refine AL.cons rfl (Does.assign rfl rfl) ?_
          refine AL.nil ?_
          refine (?_ : AC _ _ _ _ _)
          refine AC.ret ?_
          subst hO
          have e18 : ((((stgIfV (addOrd s o)).1).1).1 : Int) = (((addV s o).1).1).1 := by
            first | (rw [addV_no (fun ⟨a1, ⟨a2, a3⟩, ⟨a4, a5⟩, a6⟩ => by have := stg_labels a1; first | exact absurd a1 (by assumption) | exact absurd (by assumption) a6 | omega)]; done) | (rw [addV_no (fun ⟨a1, ⟨a2, a3⟩, ⟨a4, a5⟩, a6⟩ => by have := stg_labels a1; first | exact absurd a1 (by assumption) | exact absurd (by assumption) a6 | omega)]; rfl) | (rw [addV_yes ⟨‹StgOk s›, by have := stg_labels ‹StgOk s›; omega, by have := stg_labels ‹StgOk s›; omega, by omega⟩])
          have e19 : (((stgIfV (addOrd s o)).1).2.2.2 : ByteArray) = ((addV s o).1).2.2.2 := by
            first | (rw [addV_no (fun ⟨a1, ⟨a2, a3⟩, ⟨a4, a5⟩, a6⟩ => by have := stg_labels a1; first | exact absurd a1 (by assumption) | exact absurd (by assumption) a6 | omega)]; done) | (rw [addV_no (fun ⟨a1, ⟨a2, a3⟩, ⟨a4, a5⟩, a6⟩ => by have := stg_labels a1; first | exact absurd a1 (by assumption) | exact absurd (by assumption) a6 | omega)]; rfl) | (rw [addV_yes ⟨‹StgOk s›, by have := stg_labels ‹StgOk s›; omega, by have := stg_labels ‹StgOk s›; omega, by omega⟩])
          have e20 : ((stgIfV (addOrd s o)).2 : Bool) = (addV s o).2 := by
            first | (rw [addV_no (fun ⟨a1, ⟨a2, a3⟩, ⟨a4, a5⟩, a6⟩ => by have := stg_labels a1; first | exact absurd a1 (by assumption) | exact absurd (by assumption) a6 | omega)]; done) | (rw [addV_no (fun ⟨a1, ⟨a2, a3⟩, ⟨a4, a5⟩, a6⟩ => by have := stg_labels a1; first | exact absurd a1 (by assumption) | exact absurd (by assumption) a6 | omega)]; rfl) | (rw [addV_yes ⟨‹StgOk s›, by have := stg_labels ‹StgOk s›; omega, by have := stg_labels ‹StgOk s›; omega, by omega⟩])
          exact fin_is (PV.tup [(true, [dI ((((addV s o).1).1).1), .ref 0, .ref 1, .ref 2, dS (((addV s o).1).2.2.2)]), (false, [dB ((addV s o).2)])]) [(0, some (.arr 146 (.pr (.sl 3 .int) (.sl 3 .int)) ((((addV s o).1).1).2))), (1, some (.arr 129 (.pr .str .int) (((addV s o).1).2.1))), (2, some (.arr 131 (.pr .int .bool) (((addV s o).1).2.2.1)))] [(0, 15), (1, 16), (2, 17)] (Res.two rfl (Rs.cell rfl rfl tsh_50 rfl) (Rs.tmp rfl)) (show PV.tup [(true, [dI ((((stgIfV (addOrd s o)).1).1).1), .ref 15, .ref 16, .ref 17, dS (((stgIfV (addOrd s o)).1).2.2.2)]), (false, [dB ((stgIfV (addOrd s o)).2)])] = PV.tup [(true, [dI ((((addV s o).1).1).1), .ref 15, .ref 16, .ref 17, dS (((addV s o).1).2.2.2)]), (false, [dB ((addV s o).2)])] by exact (((congrArg (fun z_ => PV.tup [(true, [dI z_, .ref 15, .ref 16, .ref 17, dS (((stgIfV (addOrd s o)).1).2.2.2)]), (false, [dB ((stgIfV (addOrd s o)).2)])]) e18)).trans (congrArg (fun z_ => PV.tup [(true, [dI ((((addV s o).1).1).1), .ref 15, .ref 16, .ref 17, dS z_]), (false, [dB ((stgIfV (addOrd s o)).2)])]) e19)).trans (congrArg (fun z_ => PV.tup [(true, [dI ((((addV s o).1).1).1), .ref 15, .ref 16, .ref 17, dS (((addV s o).1).2.2.2)]), (false, [dB z_])]) e20)) ⟨(show some (Ent.arr 146 (.pr (.sl 3 .int) (.sl 3 .int)) ((((stgIfV (addOrd s o)).1).1).2)) = some (Ent.arr 146 (.pr (.sl 3 .int) (.sl 3 .int)) ((((addV s o).1).1).2)) from congrArg (fun z => some (Ent.arr 146 (.pr (.sl 3 .int) (.sl 3 .int)) z)) (by first | (rw [addV_no (fun ⟨a1, ⟨a2, a3⟩, ⟨a4, a5⟩, a6⟩ => by have := stg_labels a1; first | exact absurd a1 (by assumption) | exact absurd (by assumption) a6 | omega)]; done) | (rw [addV_no (fun ⟨a1, ⟨a2, a3⟩, ⟨a4, a5⟩, a6⟩ => by have := stg_labels a1; first | exact absurd a1 (by assumption) | exact absurd (by assumption) a6 | omega)]; rfl) | (rw [addV_yes ⟨‹StgOk s›, by have := stg_labels ‹StgOk s›; omega, by have := stg_labels ‹StgOk s›; omega, by omega⟩]))), (show some (Ent.arr 129 (.pr .str .int) (((stgIfV (addOrd s o)).1).2.1)) = some (Ent.arr 129 (.pr .str .int) (((addV s o).1).2.1)) from congrArg (fun z => some (Ent.arr 129 (.pr .str .int) z)) (by first | (rw [addV_no (fun ⟨a1, ⟨a2, a3⟩, ⟨a4, a5⟩, a6⟩ => by have := stg_labels a1; first | exact absurd a1 (by assumption) | exact absurd (by assumption) a6 | omega)]; done) | (rw [addV_no (fun ⟨a1, ⟨a2, a3⟩, ⟨a4, a5⟩, a6⟩ => by have := stg_labels a1; first | exact absurd a1 (by assumption) | exact absurd (by assumption) a6 | omega)]; rfl) | (rw [addV_yes ⟨‹StgOk s›, by have := stg_labels ‹StgOk s›; omega, by have := stg_labels ‹StgOk s›; omega, by omega⟩]))), (show some (Ent.arr 131 (.pr .int .bool) (((stgIfV (addOrd s o)).1).2.2.1)) = some (Ent.arr 131 (.pr .int .bool) (((addV s o).1).2.2.1)) from congrArg (fun z => some (Ent.arr 131 (.pr .int .bool) z)) (by first | (rw [addV_no (fun ⟨a1, ⟨a2, a3⟩, ⟨a4, a5⟩, a6⟩ => by have := stg_labels a1; first | exact absurd a1 (by assumption) | exact absurd (by assumption) a6 | omega)]; done) | (rw [addV_no (fun ⟨a1, ⟨a2, a3⟩, ⟨a4, a5⟩, a6⟩ => by have := stg_labels a1; first | exact absurd a1 (by assumption) | exact absurd (by assumption) a6 | omega)]; rfl) | (rw [addV_yes ⟨‹StgOk s›, by have := stg_labels ‹StgOk s›; omega, by have := stg_labels ‹StgOk s›; omega, by omega⟩]))), trivial⟩ rfl rfl
        · have _h := hb17
          have hb17' : (o.1 = o.2.1) := of_decide_eq_true hb17
          refine AC.condT (Evl.tmp rfl) ?_
          refine AC.seq ?_
          refine AC.region ?_
          refine AL.cons rfl (Does.build bld_50 rfl (List.all_eq_true.1 rfl) rfl rfl) ?_
          refine AL.cons rfl (Does.storeP (Evl.tmp rfl) rfl (Ev.tmp rfl) rfl tsh_50 rfl) ?_
          refine AL.cons rfl (Does.assignC Evl.bool rfl) ?_
          refine AL.nil ?_
          refine (?_ : AC _ _ _ _ _)
          refine AC.wk (Wk.nilC 18 (p := 2) (off := 1) 146 (.pr (.sl 3 .int) (.sl 3 .int)) rfl rfl (Fresh.of rfl) (Nat.le_of_ble_eq_true rfl)) ?_
          refine AC.wk (Wk.nilC 19 (p := 2) (off := 2) 129 (.pr .str .int) rfl rfl (Fresh.of rfl) (Nat.le_of_ble_eq_true rfl)) ?_
          refine AC.wk (Wk.nilC 20 (p := 2) (off := 3) 131 (.pr .int .bool) rfl rfl (Fresh.of rfl) (Nat.le_of_ble_eq_true rfl)) ?_
          refine AC.ret ?_
          subst hO
          have e21 : (0 : Int) = (((addV s o).1).1).1 := by
            first | (rw [addV_no (fun ⟨a1, ⟨a2, a3⟩, ⟨a4, a5⟩, a6⟩ => by have := stg_labels a1; first | exact absurd a1 (by assumption) | exact absurd (by assumption) a6 | omega)]; done) | (rw [addV_no (fun ⟨a1, ⟨a2, a3⟩, ⟨a4, a5⟩, a6⟩ => by have := stg_labels a1; first | exact absurd a1 (by assumption) | exact absurd (by assumption) a6 | omega)]; rfl) | (rw [addV_yes ⟨‹StgOk s›, by have := stg_labels ‹StgOk s›; omega, by have := stg_labels ‹StgOk s›; omega, by omega⟩])
          have e22 : (ByteArray.empty : ByteArray) = ((addV s o).1).2.2.2 := by
            first | (rw [addV_no (fun ⟨a1, ⟨a2, a3⟩, ⟨a4, a5⟩, a6⟩ => by have := stg_labels a1; first | exact absurd a1 (by assumption) | exact absurd (by assumption) a6 | omega)]; done) | (rw [addV_no (fun ⟨a1, ⟨a2, a3⟩, ⟨a4, a5⟩, a6⟩ => by have := stg_labels a1; first | exact absurd a1 (by assumption) | exact absurd (by assumption) a6 | omega)]; rfl) | (rw [addV_yes ⟨‹StgOk s›, by have := stg_labels ‹StgOk s›; omega, by have := stg_labels ‹StgOk s›; omega, by omega⟩])
          have e23 : (false : Bool) = (addV s o).2 := by
            first | (rw [addV_no (fun ⟨a1, ⟨a2, a3⟩, ⟨a4, a5⟩, a6⟩ => by have := stg_labels a1; first | exact absurd a1 (by assumption) | exact absurd (by assumption) a6 | omega)]; done) | (rw [addV_no (fun ⟨a1, ⟨a2, a3⟩, ⟨a4, a5⟩, a6⟩ => by have := stg_labels a1; first | exact absurd a1 (by assumption) | exact absurd (by assumption) a6 | omega)]; rfl) | (rw [addV_yes ⟨‹StgOk s›, by have := stg_labels ‹StgOk s›; omega, by have := stg_labels ‹StgOk s›; omega, by omega⟩])
          exact fin_is (PV.tup [(true, [dI ((((addV s o).1).1).1), .ref 0, .ref 1, .ref 2, dS (((addV s o).1).2.2.2)]), (false, [dB ((addV s o).2)])]) [(0, some (.arr 146 (.pr (.sl 3 .int) (.sl 3 .int)) ((((addV s o).1).1).2))), (1, some (.arr 129 (.pr .str .int) (((addV s o).1).2.1))), (2, some (.arr 131 (.pr .int .bool) (((addV s o).1).2.2.1)))] [(0, 18), (1, 19), (2, 20)] (Res.two rfl (Rs.cell rfl rfl tsh_50 rfl) (Rs.tmp rfl)) (show PV.tup [(true, [dI 0, .ref 18, .ref 19, .ref 20, dS ByteArray.empty]), (false, [dB false])] = PV.tup [(true, [dI ((((addV s o).1).1).1), .ref 18, .ref 19, .ref 20, dS (((addV s o).1).2.2.2)]), (false, [dB ((addV s o).2)])] by exact (((congrArg (fun z_ => PV.tup [(true, [dI z_, .ref 18, .ref 19, .ref 20, dS ByteArray.empty]), (false, [dB false])]) e21)).trans (congrArg (fun z_ => PV.tup [(true, [dI ((((addV s o).1).1).1), .ref 18, .ref 19, .ref 20, dS z_]), (false, [dB false])]) e22)).trans (congrArg (fun z_ => PV.tup [(true, [dI ((((addV s o).1).1).1), .ref 18, .ref 19, .ref 20, dS (((addV s o).1).2.2.2)]), (false, [dB z_])]) e23)) ⟨(show some (Ent.arr 146 (.pr (.sl 3 .int) (.sl 3 .int)) ([])) = some (Ent.arr 146 (.pr (.sl 3 .int) (.sl 3 .int)) ((((addV s o).1).1).2)) from congrArg (fun z => some (Ent.arr 146 (.pr (.sl 3 .int) (.sl 3 .int)) z)) (by first | (rw [addV_no (fun ⟨a1, ⟨a2, a3⟩, ⟨a4, a5⟩, a6⟩ => by have := stg_labels a1; first | exact absurd a1 (by assumption) | exact absurd (by assumption) a6 | omega)]; done) | (rw [addV_no (fun ⟨a1, ⟨a2, a3⟩, ⟨a4, a5⟩, a6⟩ => by have := stg_labels a1; first | exact absurd a1 (by assumption) | exact absurd (by assumption) a6 | omega)]; rfl) | (rw [addV_yes ⟨‹StgOk s›, by have := stg_labels ‹StgOk s›; omega, by have := stg_labels ‹StgOk s›; omega, by omega⟩]))), (show some (Ent.arr 129 (.pr .str .int) ([])) = some (Ent.arr 129 (.pr .str .int) (((addV s o).1).2.1)) from congrArg (fun z => some (Ent.arr 129 (.pr .str .int) z)) (by first | (rw [addV_no (fun ⟨a1, ⟨a2, a3⟩, ⟨a4, a5⟩, a6⟩ => by have := stg_labels a1; first | exact absurd a1 (by assumption) | exact absurd (by assumption) a6 | omega)]; done) | (rw [addV_no (fun ⟨a1, ⟨a2, a3⟩, ⟨a4, a5⟩, a6⟩ => by have := stg_labels a1; first | exact absurd a1 (by assumption) | exact absurd (by assumption) a6 | omega)]; rfl) | (rw [addV_yes ⟨‹StgOk s›, by have := stg_labels ‹StgOk s›; omega, by have := stg_labels ‹StgOk s›; omega, by omega⟩]))), (show some (Ent.arr 131 (.pr .int .bool) ([])) = some (Ent.arr 131 (.pr .int .bool) (((addV s o).1).2.2.1)) from congrArg (fun z => some (Ent.arr 131 (.pr .int .bool) z)) (by first | (rw [addV_no (fun ⟨a1, ⟨a2, a3⟩, ⟨a4, a5⟩, a6⟩ => by have := stg_labels a1; first | exact absurd a1 (by assumption) | exact absurd (by assumption) a6 | omega)]; done) | (rw [addV_no (fun ⟨a1, ⟨a2, a3⟩, ⟨a4, a5⟩, a6⟩ => by have := stg_labels a1; first | exact absurd a1 (by assumption) | exact absurd (by assumption) a6 | omega)]; rfl) | (rw [addV_yes ⟨‹StgOk s›, by have := stg_labels ‹StgOk s›; omega, by have := stg_labels ‹StgOk s›; omega, by omega⟩]))), trivial⟩ rfl rfl

theorem set6b {α : Type _} {c : List α} {p q : Nat} (h : p ≠ q) (a a' x b b' y : α) : ((((((c.set p a).set p a').set p x).set q b).set q b').set q y) = (c.set p x).set q y := by
  apply List.ext_getElem?
  intro i
  simp only [List.getElem?_set, List.length_set]
  split <;> split <;> simp_all

set_option maxRecDepth 100000 in
set_option maxHeartbeats 4000000 in
theorem fc_spec_l26Add (s : (Int × (List (List Int × List Int))) × (List (ByteArray × Int)) × (List (Int × Bool)) × ByteArray) (o : Int × Int × Bool) [Decidable (StgOk s)] [Decidable (StgOk (addOrd s o))] (hz : Ty.tot tSTG s ≤ 2000000) : FC Try.prog 54 [(true, [dI s.1.1, .dat (.sl 146 (.pr (.sl 3 .int) (.sl 3 .int))) s.1.2, .dat (.sl 129 (.pr .str .int)) s.2.1, .dat (.sl 131 (.pr .int .bool)) s.2.2.1, dS s.2.2.2]), (true, [dI o.1, dI o.2.1, dB o.2.2])] [] 0 (Is (PV.tup [(true, [dI ((((l26V s o).1).1).1), .ref 0, .ref 1, .ref 2, dS (((l26V s o).1).2.2.2)]), (false, [dB ((l26V s o).2)])]) [(0, some (.arr 146 (.pr (.sl 3 .int) (.sl 3 .int)) ((((l26V s o).1).1).2))), (1, some (.arr 129 (.pr .str .int) (((l26V s o).1).2.1))), (2, some (.arr 131 (.pr .int .bool) (((l26V s o).1).2.2.1)))]) := by
  classical
  obtain ⟨O_, hO⟩ : ∃ x : PV → Tab → Prop, x = Is (PV.tup [(true, [dI ((((l26V s o).1).1).1), .ref 0, .ref 1, .ref 2, dS (((l26V s o).1).2.2.2)]), (false, [dB ((l26V s o).2)])]) [(0, some (.arr 146 (.pr (.sl 3 .int) (.sl 3 .int)) ((((l26V s o).1).1).2))), (1, some (.arr 129 (.pr .str .int) (((l26V s o).1).2.1))), (2, some (.arr 131 (.pr .int .bool) (((l26V s o).1).2.2.1)))] := ⟨_, rfl⟩
  refine FC.O_of hO (FC.ren (FC.of Try.func54 rfl rfl fun A_ hn_ hk_ => ?_))
  obtain ⟨w0_, N0_, X_, n_, k0_, h0_, f0_⟩ := A_
  obtain rfl : n_ = 100 := hn_.trans Try.ntmps54
  obtain rfl : k0_ = 0 := hk_
  refine AC.fact (fact_ag (x := .tmp 0) (i := 0) (Ev.tmp rfl) rfl) fun hi1 => ?_
  refine AC.fact (fact_ag (x := .tmp 1) (i := 0) (Ev.tmp rfl) rfl) fun hi2 => ?_
  refine AC.fact (fact_ag (x := .tmp 1) (i := 1) (Ev.tmp rfl) rfl) fun hi3 => ?_
  refine AC.seq ?_
  refine AC.region ?_
  refine AL.cons rfl (Does.box 0 (Ev.tmp rfl) rfl rfl (Fresh.of rfl) (Nat.le_of_ble_eq_true rfl)) ?_
  refine AL.cons rfl (Does.box 1 (Ev.tmp rfl) rfl rfl (Fresh.of rfl) (Nat.le_of_ble_eq_true rfl)) ?_
  refine AL.cons rfl (Does.alloc 2 (.pr (.pr .int (.sl 146 (.pr (.sl 3 .int) (.sl 3 .int)))) (.pr (.sl 129 (.pr .str .int)) (.pr (.sl 131 (.pr .int .bool)) .str))) zer_50 rfl rfl (Fresh.of rfl) (Nat.le_of_ble_eq_true rfl)) ?_
  refine AL.cons rfl (Does.assignC Evl.bool rfl) ?_
  refine AL.nil ?_
  refine (?_ : AC _ _ _ _ _)
  refine AC.seq ?_
  refine AC.region ?_
  refine AL.cons rfl (Does.fieldP (Evl.tmp rfl) fld_50_0 rfl rfl) ?_
  refine AL.cons rfl (Does.fieldP (Evl.tmp rfl) fld_47_1 rfl rfl) ?_
  refine AL.cons rfl (Does.loadP (Evl.tmp rfl) rfl tsh_45 rfl rfl) ?_
  refine AL.fact (fact_len (x := .tmp 11) (Evl.tmp rfl)) fun hl4 => ?_
  refine AL.cons rfl (Does.len (Evl.tmp rfl) rfl und_45) ?_
  refine AL.cons rfl (Does.assign rfl rfl) ?_
  refine AL.nil ?_
  refine (?_ : AC _ _ _ _ _)
  refine AC.seq ?_
  refine AC.seq ?_
  refine AC.region ?_
  refine AL.cons rfl (Does.loadPA (Evl.tmp rfl) rfl tsh_50 rfl rfl) ?_
  refine AL.cons rfl (Does.call (fc_spec_l2Good s) enters_69 ⟨_, _, rfl, (Ev.tmp rfl), rfl⟩ rfl rfl) ?_
  refine AL.cons rfl (Does.not (Evl.tmp rfl) rfl) ?_
  refine AL.cons rfl (Does.move rfl rfl) ?_
  cases hb5 : (decide (StgOk s))
  · have _h := hb5
    have hb5' : ¬ (StgOk s) := of_decide_eq_false hb5
    refine AL.guard_no (b := false) rfl rfl rfl ?_ rfl
    refine AL.guard_no (b := false) rfl rfl rfl ?_ rfl
    refine AL.guard_no (b := false) rfl rfl rfl ?_ rfl
    refine AL.guard_no (b := false) rfl rfl rfl ?_ rfl
    refine AL.guard_no (b := false) rfl rfl rfl ?_ rfl
    refine AL.guard_no (b := false) rfl rfl rfl ?_ rfl
    refine AL.cons rfl (Does.pickT (Evl.tmp rfl) (Evl.ev Evl.bool) rfl) ?_
    refine AL.cons rfl (Does.move rfl rfl) ?_
    refine AL.guard_no (b := false) rfl rfl rfl ?_ rfl
    refine AL.guard_no (b := false) rfl rfl rfl ?_ rfl
    refine AL.guard_no (b := false) rfl rfl rfl ?_ rfl
    refine AL.guard_no (b := false) rfl rfl rfl ?_ rfl
    refine AL.guard_no (b := false) rfl rfl rfl ?_ rfl
    refine AL.guard_no (b := false) rfl rfl rfl ?_ rfl
    refine AL.cons rfl (Does.pickT (Evl.tmp rfl) (Evl.ev Evl.bool) rfl) ?_
    refine AL.cons rfl (Does.move rfl rfl) ?_
    refine AL.guard_no (b := false) rfl rfl rfl ?_ rfl
    refine AL.guard_no (b := false) rfl rfl rfl ?_ rfl
    refine AL.guard_no (b := false) rfl rfl rfl ?_ rfl
    refine AL.guard_no (b := false) rfl rfl rfl ?_ rfl
    refine AL.guard_no (b := false) rfl rfl rfl ?_ rfl
    refine AL.cons rfl (Does.pickT (Evl.tmp rfl) (Evl.ev Evl.bool) rfl) ?_
    refine AL.nil ?_
    refine (?_ : AC _ _ _ _ _)
    refine AC.condT (Evl.tmp rfl) ?_
    refine AC.seq ?_
    refine AC.region ?_
    refine AL.cons rfl (Does.build bld_50 rfl (List.all_eq_true.1 rfl) rfl rfl) ?_
    refine AL.cons rfl (Does.storeP (Evl.tmp rfl) rfl (Ev.tmp rfl) rfl tsh_50 rfl) ?_
    refine AL.cons rfl (Does.assignC Evl.bool rfl) ?_
    refine AL.nil ?_
    refine (?_ : AC _ _ _ _ _)
    refine AC.wk (Wk.nilC 3 (p := 2) (off := 1) 146 (.pr (.sl 3 .int) (.sl 3 .int)) rfl rfl (Fresh.of rfl) (Nat.le_of_ble_eq_true rfl)) ?_
    refine AC.wk (Wk.nilC 4 (p := 2) (off := 2) 129 (.pr .str .int) rfl rfl (Fresh.of rfl) (Nat.le_of_ble_eq_true rfl)) ?_
    refine AC.wk (Wk.nilC 5 (p := 2) (off := 3) 131 (.pr .int .bool) rfl rfl (Fresh.of rfl) (Nat.le_of_ble_eq_true rfl)) ?_
    refine AC.ret ?_
    subst hO
    have e6 : (0 : Int) = (((l26V s o).1).1).1 := by
      first | (rw [l26V_no (fun ⟨a1, ⟨a2, a3⟩, ⟨a4, a5⟩, a6⟩ => by have := stg_labels a1; first | exact absurd a1 (by assumption) | exact absurd (by assumption) a6 | omega)]; done) | (rw [l26V_no (fun ⟨a1, ⟨a2, a3⟩, ⟨a4, a5⟩, a6⟩ => by have := stg_labels a1; first | exact absurd a1 (by assumption) | exact absurd (by assumption) a6 | omega)]; rfl) | (rw [l26V_yes ⟨‹StgOk s›, by omega, by omega, by omega⟩]; first | done | rfl | exact congrArg (fun z => z.2.2.2) (l26_1 (s := s) (o := o) (by assumption)) | exact congrArg (fun z => z.2.2.2) (l26_0 (s := s) (o := o) (by assumption)) | exact l26d1 (by assumption) | exact l26d0 (by assumption))
    have e7 : (ByteArray.empty : ByteArray) = ((l26V s o).1).2.2.2 := by
      first | (rw [l26V_no (fun ⟨a1, ⟨a2, a3⟩, ⟨a4, a5⟩, a6⟩ => by have := stg_labels a1; first | exact absurd a1 (by assumption) | exact absurd (by assumption) a6 | omega)]; done) | (rw [l26V_no (fun ⟨a1, ⟨a2, a3⟩, ⟨a4, a5⟩, a6⟩ => by have := stg_labels a1; first | exact absurd a1 (by assumption) | exact absurd (by assumption) a6 | omega)]; rfl) | (rw [l26V_yes ⟨‹StgOk s›, by omega, by omega, by omega⟩]; first | done | rfl | exact congrArg (fun z => z.2.2.2) (l26_1 (s := s) (o := o) (by assumption)) | exact congrArg (fun z => z.2.2.2) (l26_0 (s := s) (o := o) (by assumption)) | exact l26d1 (by assumption) | exact l26d0 (by assumption))
    have e8 : (false : Bool) = (l26V s o).2 := by
      first | (rw [l26V_no (fun ⟨a1, ⟨a2, a3⟩, ⟨a4, a5⟩, a6⟩ => by have := stg_labels a1; first | exact absurd a1 (by assumption) | exact absurd (by assumption) a6 | omega)]; done) | (rw [l26V_no (fun ⟨a1, ⟨a2, a3⟩, ⟨a4, a5⟩, a6⟩ => by have := stg_labels a1; first | exact absurd a1 (by assumption) | exact absurd (by assumption) a6 | omega)]; rfl) | (rw [l26V_yes ⟨‹StgOk s›, by omega, by omega, by omega⟩]; first | done | rfl | exact congrArg (fun z => z.2.2.2) (l26_1 (s := s) (o := o) (by assumption)) | exact congrArg (fun z => z.2.2.2) (l26_0 (s := s) (o := o) (by assumption)) | exact l26d1 (by assumption) | exact l26d0 (by assumption))
    exact fin_is (PV.tup [(true, [dI ((((l26V s o).1).1).1), .ref 0, .ref 1, .ref 2, dS (((l26V s o).1).2.2.2)]), (false, [dB ((l26V s o).2)])]) [(0, some (.arr 146 (.pr (.sl 3 .int) (.sl 3 .int)) ((((l26V s o).1).1).2))), (1, some (.arr 129 (.pr .str .int) (((l26V s o).1).2.1))), (2, some (.arr 131 (.pr .int .bool) (((l26V s o).1).2.2.1)))] [(0, 3), (1, 4), (2, 5)] (Res.two rfl (Rs.cell rfl rfl tsh_50 rfl) (Rs.tmp rfl)) (show PV.tup [(true, [dI 0, .ref 3, .ref 4, .ref 5, dS ByteArray.empty]), (false, [dB false])] = PV.tup [(true, [dI ((((l26V s o).1).1).1), .ref 3, .ref 4, .ref 5, dS (((l26V s o).1).2.2.2)]), (false, [dB ((l26V s o).2)])] by exact (((congrArg (fun z_ => PV.tup [(true, [dI z_, .ref 3, .ref 4, .ref 5, dS ByteArray.empty]), (false, [dB false])]) e6)).trans (congrArg (fun z_ => PV.tup [(true, [dI ((((l26V s o).1).1).1), .ref 3, .ref 4, .ref 5, dS z_]), (false, [dB false])]) e7)).trans (congrArg (fun z_ => PV.tup [(true, [dI ((((l26V s o).1).1).1), .ref 3, .ref 4, .ref 5, dS (((l26V s o).1).2.2.2)]), (false, [dB z_])]) e8)) ⟨(show some (Ent.arr 146 (.pr (.sl 3 .int) (.sl 3 .int)) ([])) = some (Ent.arr 146 (.pr (.sl 3 .int) (.sl 3 .int)) ((((l26V s o).1).1).2)) from congrArg (fun z => some (Ent.arr 146 (.pr (.sl 3 .int) (.sl 3 .int)) z)) (by first | (rw [l26V_no (fun ⟨a1, ⟨a2, a3⟩, ⟨a4, a5⟩, a6⟩ => by have := stg_labels a1; first | exact absurd a1 (by assumption) | exact absurd (by assumption) a6 | omega)]; done) | (rw [l26V_no (fun ⟨a1, ⟨a2, a3⟩, ⟨a4, a5⟩, a6⟩ => by have := stg_labels a1; first | exact absurd a1 (by assumption) | exact absurd (by assumption) a6 | omega)]; rfl) | (rw [l26V_yes ⟨‹StgOk s›, by omega, by omega, by omega⟩]; first | done | rfl | exact congrArg (fun z => z.2.2.2) (l26_1 (s := s) (o := o) (by assumption)) | exact congrArg (fun z => z.2.2.2) (l26_0 (s := s) (o := o) (by assumption)) | exact l26d1 (by assumption) | exact l26d0 (by assumption)))), (show some (Ent.arr 129 (.pr .str .int) ([])) = some (Ent.arr 129 (.pr .str .int) (((l26V s o).1).2.1)) from congrArg (fun z => some (Ent.arr 129 (.pr .str .int) z)) (by first | (rw [l26V_no (fun ⟨a1, ⟨a2, a3⟩, ⟨a4, a5⟩, a6⟩ => by have := stg_labels a1; first | exact absurd a1 (by assumption) | exact absurd (by assumption) a6 | omega)]; done) | (rw [l26V_no (fun ⟨a1, ⟨a2, a3⟩, ⟨a4, a5⟩, a6⟩ => by have := stg_labels a1; first | exact absurd a1 (by assumption) | exact absurd (by assumption) a6 | omega)]; rfl) | (rw [l26V_yes ⟨‹StgOk s›, by omega, by omega, by omega⟩]; first | done | rfl | exact congrArg (fun z => z.2.2.2) (l26_1 (s := s) (o := o) (by assumption)) | exact congrArg (fun z => z.2.2.2) (l26_0 (s := s) (o := o) (by assumption)) | exact l26d1 (by assumption) | exact l26d0 (by assumption)))), (show some (Ent.arr 131 (.pr .int .bool) ([])) = some (Ent.arr 131 (.pr .int .bool) (((l26V s o).1).2.2.1)) from congrArg (fun z => some (Ent.arr 131 (.pr .int .bool) z)) (by first | (rw [l26V_no (fun ⟨a1, ⟨a2, a3⟩, ⟨a4, a5⟩, a6⟩ => by have := stg_labels a1; first | exact absurd a1 (by assumption) | exact absurd (by assumption) a6 | omega)]; done) | (rw [l26V_no (fun ⟨a1, ⟨a2, a3⟩, ⟨a4, a5⟩, a6⟩ => by have := stg_labels a1; first | exact absurd a1 (by assumption) | exact absurd (by assumption) a6 | omega)]; rfl) | (rw [l26V_yes ⟨‹StgOk s›, by omega, by omega, by omega⟩]; first | done | rfl | exact congrArg (fun z => z.2.2.2) (l26_1 (s := s) (o := o) (by assumption)) | exact congrArg (fun z => z.2.2.2) (l26_0 (s := s) (o := o) (by assumption)) | exact l26d1 (by assumption) | exact l26d0 (by assumption)))), trivial⟩ rfl rfl
  · have _h := hb5
    have hb5' : (StgOk s) := of_decide_eq_true hb5
    refine AL.guard_yes rfl rfl rfl (Does.fieldP (Evl.tmp rfl) fld_54_0 rfl rfl) ?_
    refine AL.guard_yes rfl rfl rfl (Does.loadP (Evl.tmp rfl) rfl tsh_3 rfl rfl) ?_
    refine AL.guard_yes rfl rfl rfl (Does.move rfl rfl) ?_
    refine AL.guard_yes rfl rfl rfl (Does.sub (Evl.tmp rfl) (Evl.int rfl) rfl (by omega)) ?_
    refine AL.guard_yes rfl rfl rfl (Does.call (fc_spec_l1In o.1 0 ((s.1.2.length : Int) - 1)) enters_105 ⟨_, _, rfl, (Ev.tmp rfl), ⟨_, _, rfl, (Evl.ev (Evl.int rfl)), ⟨_, _, rfl, (Ev.tmp rfl), rfl⟩⟩⟩ rfl rfl) ?_
    refine AL.guard_yes rfl rfl rfl (Does.not (Evl.tmp rfl) rfl) ?_
    refine AL.cons rfl (Does.pickF (Evl.tmp rfl) (Ev.tmp rfl) rfl) ?_
    refine AL.cons rfl (Does.move rfl rfl) ?_
    cases hb9 : (decide (0 ≤ o.1 ∧ o.1 ≤ ((s.1.2.length : Int) - 1)))
    · have _h := hb9
      have hb9' : ¬ (0 ≤ o.1 ∧ o.1 ≤ ((s.1.2.length : Int) - 1)) := of_decide_eq_false hb9
      refine AL.guard_no (b := false) rfl rfl rfl ?_ rfl
      refine AL.guard_no (b := false) rfl rfl rfl ?_ rfl
      refine AL.guard_no (b := false) rfl rfl rfl ?_ rfl
      refine AL.guard_no (b := false) rfl rfl rfl ?_ rfl
      refine AL.guard_no (b := false) rfl rfl rfl ?_ rfl
      refine AL.guard_no (b := false) rfl rfl rfl ?_ rfl
      refine AL.cons rfl (Does.pickT (Evl.tmp rfl) (Evl.ev Evl.bool) rfl) ?_
      refine AL.cons rfl (Does.move rfl rfl) ?_
      refine AL.guard_no (b := false) rfl rfl rfl ?_ rfl
      refine AL.guard_no (b := false) rfl rfl rfl ?_ rfl
      refine AL.guard_no (b := false) rfl rfl rfl ?_ rfl
      refine AL.guard_no (b := false) rfl rfl rfl ?_ rfl
      refine AL.guard_no (b := false) rfl rfl rfl ?_ rfl
      refine AL.cons rfl (Does.pickT (Evl.tmp rfl) (Evl.ev Evl.bool) rfl) ?_
      refine AL.nil ?_
      refine (?_ : AC _ _ _ _ _)
      refine AC.condT (Evl.tmp rfl) ?_
      refine AC.seq ?_
      refine AC.region ?_
      refine AL.cons rfl (Does.build bld_50 rfl (List.all_eq_true.1 rfl) rfl rfl) ?_
      refine AL.cons rfl (Does.storeP (Evl.tmp rfl) rfl (Ev.tmp rfl) rfl tsh_50 rfl) ?_
      refine AL.cons rfl (Does.assignC Evl.bool rfl) ?_
      refine AL.nil ?_
      refine (?_ : AC _ _ _ _ _)
      refine AC.wk (Wk.nilC 6 (p := 2) (off := 1) 146 (.pr (.sl 3 .int) (.sl 3 .int)) rfl rfl (Fresh.of rfl) (Nat.le_of_ble_eq_true rfl)) ?_
      refine AC.wk (Wk.nilC 7 (p := 2) (off := 2) 129 (.pr .str .int) rfl rfl (Fresh.of rfl) (Nat.le_of_ble_eq_true rfl)) ?_
      refine AC.wk (Wk.nilC 8 (p := 2) (off := 3) 131 (.pr .int .bool) rfl rfl (Fresh.of rfl) (Nat.le_of_ble_eq_true rfl)) ?_
      refine AC.ret ?_
      subst hO
      have e10 : (0 : Int) = (((l26V s o).1).1).1 := by
        first | (rw [l26V_no (fun ⟨a1, ⟨a2, a3⟩, ⟨a4, a5⟩, a6⟩ => by have := stg_labels a1; first | exact absurd a1 (by assumption) | exact absurd (by assumption) a6 | omega)]; done) | (rw [l26V_no (fun ⟨a1, ⟨a2, a3⟩, ⟨a4, a5⟩, a6⟩ => by have := stg_labels a1; first | exact absurd a1 (by assumption) | exact absurd (by assumption) a6 | omega)]; rfl) | (rw [l26V_yes ⟨‹StgOk s›, by omega, by omega, by omega⟩]; first | done | rfl | exact congrArg (fun z => z.2.2.2) (l26_1 (s := s) (o := o) (by assumption)) | exact congrArg (fun z => z.2.2.2) (l26_0 (s := s) (o := o) (by assumption)) | exact l26d1 (by assumption) | exact l26d0 (by assumption))
      have e11 : (ByteArray.empty : ByteArray) = ((l26V s o).1).2.2.2 := by
        first | (rw [l26V_no (fun ⟨a1, ⟨a2, a3⟩, ⟨a4, a5⟩, a6⟩ => by have := stg_labels a1; first | exact absurd a1 (by assumption) | exact absurd (by assumption) a6 | omega)]; done) | (rw [l26V_no (fun ⟨a1, ⟨a2, a3⟩, ⟨a4, a5⟩, a6⟩ => by have := stg_labels a1; first | exact absurd a1 (by assumption) | exact absurd (by assumption) a6 | omega)]; rfl) | (rw [l26V_yes ⟨‹StgOk s›, by omega, by omega, by omega⟩]; first | done | rfl | exact congrArg (fun z => z.2.2.2) (l26_1 (s := s) (o := o) (by assumption)) | exact congrArg (fun z => z.2.2.2) (l26_0 (s := s) (o := o) (by assumption)) | exact l26d1 (by assumption) | exact l26d0 (by assumption))
      have e12 : (false : Bool) = (l26V s o).2 := by
        first | (rw [l26V_no (fun ⟨a1, ⟨a2, a3⟩, ⟨a4, a5⟩, a6⟩ => by have := stg_labels a1; first | exact absurd a1 (by assumption) | exact absurd (by assumption) a6 | omega)]; done) | (rw [l26V_no (fun ⟨a1, ⟨a2, a3⟩, ⟨a4, a5⟩, a6⟩ => by have := stg_labels a1; first | exact absurd a1 (by assumption) | exact absurd (by assumption) a6 | omega)]; rfl) | (rw [l26V_yes ⟨‹StgOk s›, by omega, by omega, by omega⟩]; first | done | rfl | exact congrArg (fun z => z.2.2.2) (l26_1 (s := s) (o := o) (by assumption)) | exact congrArg (fun z => z.2.2.2) (l26_0 (s := s) (o := o) (by assumption)) | exact l26d1 (by assumption) | exact l26d0 (by assumption))
      exact fin_is (PV.tup [(true, [dI ((((l26V s o).1).1).1), .ref 0, .ref 1, .ref 2, dS (((l26V s o).1).2.2.2)]), (false, [dB ((l26V s o).2)])]) [(0, some (.arr 146 (.pr (.sl 3 .int) (.sl 3 .int)) ((((l26V s o).1).1).2))), (1, some (.arr 129 (.pr .str .int) (((l26V s o).1).2.1))), (2, some (.arr 131 (.pr .int .bool) (((l26V s o).1).2.2.1)))] [(0, 6), (1, 7), (2, 8)] (Res.two rfl (Rs.cell rfl rfl tsh_50 rfl) (Rs.tmp rfl)) (show PV.tup [(true, [dI 0, .ref 6, .ref 7, .ref 8, dS ByteArray.empty]), (false, [dB false])] = PV.tup [(true, [dI ((((l26V s o).1).1).1), .ref 6, .ref 7, .ref 8, dS (((l26V s o).1).2.2.2)]), (false, [dB ((l26V s o).2)])] by exact (((congrArg (fun z_ => PV.tup [(true, [dI z_, .ref 6, .ref 7, .ref 8, dS ByteArray.empty]), (false, [dB false])]) e10)).trans (congrArg (fun z_ => PV.tup [(true, [dI ((((l26V s o).1).1).1), .ref 6, .ref 7, .ref 8, dS z_]), (false, [dB false])]) e11)).trans (congrArg (fun z_ => PV.tup [(true, [dI ((((l26V s o).1).1).1), .ref 6, .ref 7, .ref 8, dS (((l26V s o).1).2.2.2)]), (false, [dB z_])]) e12)) ⟨(show some (Ent.arr 146 (.pr (.sl 3 .int) (.sl 3 .int)) ([])) = some (Ent.arr 146 (.pr (.sl 3 .int) (.sl 3 .int)) ((((l26V s o).1).1).2)) from congrArg (fun z => some (Ent.arr 146 (.pr (.sl 3 .int) (.sl 3 .int)) z)) (by first | (rw [l26V_no (fun ⟨a1, ⟨a2, a3⟩, ⟨a4, a5⟩, a6⟩ => by have := stg_labels a1; first | exact absurd a1 (by assumption) | exact absurd (by assumption) a6 | omega)]; done) | (rw [l26V_no (fun ⟨a1, ⟨a2, a3⟩, ⟨a4, a5⟩, a6⟩ => by have := stg_labels a1; first | exact absurd a1 (by assumption) | exact absurd (by assumption) a6 | omega)]; rfl) | (rw [l26V_yes ⟨‹StgOk s›, by omega, by omega, by omega⟩]; first | done | rfl | exact congrArg (fun z => z.2.2.2) (l26_1 (s := s) (o := o) (by assumption)) | exact congrArg (fun z => z.2.2.2) (l26_0 (s := s) (o := o) (by assumption)) | exact l26d1 (by assumption) | exact l26d0 (by assumption)))), (show some (Ent.arr 129 (.pr .str .int) ([])) = some (Ent.arr 129 (.pr .str .int) (((l26V s o).1).2.1)) from congrArg (fun z => some (Ent.arr 129 (.pr .str .int) z)) (by first | (rw [l26V_no (fun ⟨a1, ⟨a2, a3⟩, ⟨a4, a5⟩, a6⟩ => by have := stg_labels a1; first | exact absurd a1 (by assumption) | exact absurd (by assumption) a6 | omega)]; done) | (rw [l26V_no (fun ⟨a1, ⟨a2, a3⟩, ⟨a4, a5⟩, a6⟩ => by have := stg_labels a1; first | exact absurd a1 (by assumption) | exact absurd (by assumption) a6 | omega)]; rfl) | (rw [l26V_yes ⟨‹StgOk s›, by omega, by omega, by omega⟩]; first | done | rfl | exact congrArg (fun z => z.2.2.2) (l26_1 (s := s) (o := o) (by assumption)) | exact congrArg (fun z => z.2.2.2) (l26_0 (s := s) (o := o) (by assumption)) | exact l26d1 (by assumption) | exact l26d0 (by assumption)))), (show some (Ent.arr 131 (.pr .int .bool) ([])) = some (Ent.arr 131 (.pr .int .bool) (((l26V s o).1).2.2.1)) from congrArg (fun z => some (Ent.arr 131 (.pr .int .bool) z)) (by first | (rw [l26V_no (fun ⟨a1, ⟨a2, a3⟩, ⟨a4, a5⟩, a6⟩ => by have := stg_labels a1; first | exact absurd a1 (by assumption) | exact absurd (by assumption) a6 | omega)]; done) | (rw [l26V_no (fun ⟨a1, ⟨a2, a3⟩, ⟨a4, a5⟩, a6⟩ => by have := stg_labels a1; first | exact absurd a1 (by assumption) | exact absurd (by assumption) a6 | omega)]; rfl) | (rw [l26V_yes ⟨‹StgOk s›, by omega, by omega, by omega⟩]; first | done | rfl | exact congrArg (fun z => z.2.2.2) (l26_1 (s := s) (o := o) (by assumption)) | exact congrArg (fun z => z.2.2.2) (l26_0 (s := s) (o := o) (by assumption)) | exact l26d1 (by assumption) | exact l26d0 (by assumption)))), trivial⟩ rfl rfl
    · have _h := hb9
      have hb9' : (0 ≤ o.1 ∧ o.1 ≤ ((s.1.2.length : Int) - 1)) := of_decide_eq_true hb9
      refine AL.guard_yes rfl rfl rfl (Does.fieldP (Evl.tmp rfl) fld_54_1 rfl rfl) ?_
      refine AL.guard_yes rfl rfl rfl (Does.loadP (Evl.tmp rfl) rfl tsh_3 rfl rfl) ?_
      refine AL.guard_yes rfl rfl rfl (Does.move rfl rfl) ?_
      refine AL.guard_yes rfl rfl rfl (Does.sub (Evl.tmp rfl) (Evl.int rfl) rfl (by omega)) ?_
      refine AL.guard_yes rfl rfl rfl (Does.call (fc_spec_l1In o.2.1 0 ((s.1.2.length : Int) - 1)) enters_105 ⟨_, _, rfl, (Ev.tmp rfl), ⟨_, _, rfl, (Evl.ev (Evl.int rfl)), ⟨_, _, rfl, (Ev.tmp rfl), rfl⟩⟩⟩ rfl rfl) ?_
      refine AL.guard_yes rfl rfl rfl (Does.not (Evl.tmp rfl) rfl) ?_
      refine AL.cons rfl (Does.pickF (Evl.tmp rfl) (Ev.tmp rfl) rfl) ?_
      refine AL.cons rfl (Does.move rfl rfl) ?_
      cases hb13 : (decide (0 ≤ o.2.1 ∧ o.2.1 ≤ ((s.1.2.length : Int) - 1)))
      · have _h := hb13
        have hb13' : ¬ (0 ≤ o.2.1 ∧ o.2.1 ≤ ((s.1.2.length : Int) - 1)) := of_decide_eq_false hb13
        refine AL.guard_no (b := false) rfl rfl rfl ?_ rfl
        refine AL.guard_no (b := false) rfl rfl rfl ?_ rfl
        refine AL.guard_no (b := false) rfl rfl rfl ?_ rfl
        refine AL.guard_no (b := false) rfl rfl rfl ?_ rfl
        refine AL.guard_no (b := false) rfl rfl rfl ?_ rfl
        refine AL.cons rfl (Does.pickT (Evl.tmp rfl) (Evl.ev Evl.bool) rfl) ?_
        refine AL.nil ?_
        refine (?_ : AC _ _ _ _ _)
        refine AC.condT (Evl.tmp rfl) ?_
        refine AC.seq ?_
        refine AC.region ?_
        refine AL.cons rfl (Does.build bld_50 rfl (List.all_eq_true.1 rfl) rfl rfl) ?_
        refine AL.cons rfl (Does.storeP (Evl.tmp rfl) rfl (Ev.tmp rfl) rfl tsh_50 rfl) ?_
        refine AL.cons rfl (Does.assignC Evl.bool rfl) ?_
        refine AL.nil ?_
        refine (?_ : AC _ _ _ _ _)
        refine AC.wk (Wk.nilC 9 (p := 2) (off := 1) 146 (.pr (.sl 3 .int) (.sl 3 .int)) rfl rfl (Fresh.of rfl) (Nat.le_of_ble_eq_true rfl)) ?_
        refine AC.wk (Wk.nilC 10 (p := 2) (off := 2) 129 (.pr .str .int) rfl rfl (Fresh.of rfl) (Nat.le_of_ble_eq_true rfl)) ?_
        refine AC.wk (Wk.nilC 11 (p := 2) (off := 3) 131 (.pr .int .bool) rfl rfl (Fresh.of rfl) (Nat.le_of_ble_eq_true rfl)) ?_
        refine AC.ret ?_
        subst hO
        have e14 : (0 : Int) = (((l26V s o).1).1).1 := by
          first | (rw [l26V_no (fun ⟨a1, ⟨a2, a3⟩, ⟨a4, a5⟩, a6⟩ => by have := stg_labels a1; first | exact absurd a1 (by assumption) | exact absurd (by assumption) a6 | omega)]; done) | (rw [l26V_no (fun ⟨a1, ⟨a2, a3⟩, ⟨a4, a5⟩, a6⟩ => by have := stg_labels a1; first | exact absurd a1 (by assumption) | exact absurd (by assumption) a6 | omega)]; rfl) | (rw [l26V_yes ⟨‹StgOk s›, by omega, by omega, by omega⟩]; first | done | rfl | exact congrArg (fun z => z.2.2.2) (l26_1 (s := s) (o := o) (by assumption)) | exact congrArg (fun z => z.2.2.2) (l26_0 (s := s) (o := o) (by assumption)) | exact l26d1 (by assumption) | exact l26d0 (by assumption))
        have e15 : (ByteArray.empty : ByteArray) = ((l26V s o).1).2.2.2 := by
          first | (rw [l26V_no (fun ⟨a1, ⟨a2, a3⟩, ⟨a4, a5⟩, a6⟩ => by have := stg_labels a1; first | exact absurd a1 (by assumption) | exact absurd (by assumption) a6 | omega)]; done) | (rw [l26V_no (fun ⟨a1, ⟨a2, a3⟩, ⟨a4, a5⟩, a6⟩ => by have := stg_labels a1; first | exact absurd a1 (by assumption) | exact absurd (by assumption) a6 | omega)]; rfl) | (rw [l26V_yes ⟨‹StgOk s›, by omega, by omega, by omega⟩]; first | done | rfl | exact congrArg (fun z => z.2.2.2) (l26_1 (s := s) (o := o) (by assumption)) | exact congrArg (fun z => z.2.2.2) (l26_0 (s := s) (o := o) (by assumption)) | exact l26d1 (by assumption) | exact l26d0 (by assumption))
        have e16 : (false : Bool) = (l26V s o).2 := by
          first | (rw [l26V_no (fun ⟨a1, ⟨a2, a3⟩, ⟨a4, a5⟩, a6⟩ => by have := stg_labels a1; first | exact absurd a1 (by assumption) | exact absurd (by assumption) a6 | omega)]; done) | (rw [l26V_no (fun ⟨a1, ⟨a2, a3⟩, ⟨a4, a5⟩, a6⟩ => by have := stg_labels a1; first | exact absurd a1 (by assumption) | exact absurd (by assumption) a6 | omega)]; rfl) | (rw [l26V_yes ⟨‹StgOk s›, by omega, by omega, by omega⟩]; first | done | rfl | exact congrArg (fun z => z.2.2.2) (l26_1 (s := s) (o := o) (by assumption)) | exact congrArg (fun z => z.2.2.2) (l26_0 (s := s) (o := o) (by assumption)) | exact l26d1 (by assumption) | exact l26d0 (by assumption))
        exact fin_is (PV.tup [(true, [dI ((((l26V s o).1).1).1), .ref 0, .ref 1, .ref 2, dS (((l26V s o).1).2.2.2)]), (false, [dB ((l26V s o).2)])]) [(0, some (.arr 146 (.pr (.sl 3 .int) (.sl 3 .int)) ((((l26V s o).1).1).2))), (1, some (.arr 129 (.pr .str .int) (((l26V s o).1).2.1))), (2, some (.arr 131 (.pr .int .bool) (((l26V s o).1).2.2.1)))] [(0, 9), (1, 10), (2, 11)] (Res.two rfl (Rs.cell rfl rfl tsh_50 rfl) (Rs.tmp rfl)) (show PV.tup [(true, [dI 0, .ref 9, .ref 10, .ref 11, dS ByteArray.empty]), (false, [dB false])] = PV.tup [(true, [dI ((((l26V s o).1).1).1), .ref 9, .ref 10, .ref 11, dS (((l26V s o).1).2.2.2)]), (false, [dB ((l26V s o).2)])] by exact (((congrArg (fun z_ => PV.tup [(true, [dI z_, .ref 9, .ref 10, .ref 11, dS ByteArray.empty]), (false, [dB false])]) e14)).trans (congrArg (fun z_ => PV.tup [(true, [dI ((((l26V s o).1).1).1), .ref 9, .ref 10, .ref 11, dS z_]), (false, [dB false])]) e15)).trans (congrArg (fun z_ => PV.tup [(true, [dI ((((l26V s o).1).1).1), .ref 9, .ref 10, .ref 11, dS (((l26V s o).1).2.2.2)]), (false, [dB z_])]) e16)) ⟨(show some (Ent.arr 146 (.pr (.sl 3 .int) (.sl 3 .int)) ([])) = some (Ent.arr 146 (.pr (.sl 3 .int) (.sl 3 .int)) ((((l26V s o).1).1).2)) from congrArg (fun z => some (Ent.arr 146 (.pr (.sl 3 .int) (.sl 3 .int)) z)) (by first | (rw [l26V_no (fun ⟨a1, ⟨a2, a3⟩, ⟨a4, a5⟩, a6⟩ => by have := stg_labels a1; first | exact absurd a1 (by assumption) | exact absurd (by assumption) a6 | omega)]; done) | (rw [l26V_no (fun ⟨a1, ⟨a2, a3⟩, ⟨a4, a5⟩, a6⟩ => by have := stg_labels a1; first | exact absurd a1 (by assumption) | exact absurd (by assumption) a6 | omega)]; rfl) | (rw [l26V_yes ⟨‹StgOk s›, by omega, by omega, by omega⟩]; first | done | rfl | exact congrArg (fun z => z.2.2.2) (l26_1 (s := s) (o := o) (by assumption)) | exact congrArg (fun z => z.2.2.2) (l26_0 (s := s) (o := o) (by assumption)) | exact l26d1 (by assumption) | exact l26d0 (by assumption)))), (show some (Ent.arr 129 (.pr .str .int) ([])) = some (Ent.arr 129 (.pr .str .int) (((l26V s o).1).2.1)) from congrArg (fun z => some (Ent.arr 129 (.pr .str .int) z)) (by first | (rw [l26V_no (fun ⟨a1, ⟨a2, a3⟩, ⟨a4, a5⟩, a6⟩ => by have := stg_labels a1; first | exact absurd a1 (by assumption) | exact absurd (by assumption) a6 | omega)]; done) | (rw [l26V_no (fun ⟨a1, ⟨a2, a3⟩, ⟨a4, a5⟩, a6⟩ => by have := stg_labels a1; first | exact absurd a1 (by assumption) | exact absurd (by assumption) a6 | omega)]; rfl) | (rw [l26V_yes ⟨‹StgOk s›, by omega, by omega, by omega⟩]; first | done | rfl | exact congrArg (fun z => z.2.2.2) (l26_1 (s := s) (o := o) (by assumption)) | exact congrArg (fun z => z.2.2.2) (l26_0 (s := s) (o := o) (by assumption)) | exact l26d1 (by assumption) | exact l26d0 (by assumption)))), (show some (Ent.arr 131 (.pr .int .bool) ([])) = some (Ent.arr 131 (.pr .int .bool) (((l26V s o).1).2.2.1)) from congrArg (fun z => some (Ent.arr 131 (.pr .int .bool) z)) (by first | (rw [l26V_no (fun ⟨a1, ⟨a2, a3⟩, ⟨a4, a5⟩, a6⟩ => by have := stg_labels a1; first | exact absurd a1 (by assumption) | exact absurd (by assumption) a6 | omega)]; done) | (rw [l26V_no (fun ⟨a1, ⟨a2, a3⟩, ⟨a4, a5⟩, a6⟩ => by have := stg_labels a1; first | exact absurd a1 (by assumption) | exact absurd (by assumption) a6 | omega)]; rfl) | (rw [l26V_yes ⟨‹StgOk s›, by omega, by omega, by omega⟩]; first | done | rfl | exact congrArg (fun z => z.2.2.2) (l26_1 (s := s) (o := o) (by assumption)) | exact congrArg (fun z => z.2.2.2) (l26_0 (s := s) (o := o) (by assumption)) | exact l26d1 (by assumption) | exact l26d0 (by assumption)))), trivial⟩ rfl rfl
      · have _h := hb13
        have hb13' : (0 ≤ o.2.1 ∧ o.2.1 ≤ ((s.1.2.length : Int) - 1)) := of_decide_eq_true hb13
        refine AL.guard_yes rfl rfl rfl (Does.fieldP (Evl.tmp rfl) fld_54_0 rfl rfl) ?_
        refine AL.guard_yes rfl rfl rfl (Does.loadP (Evl.tmp rfl) rfl tsh_3 rfl rfl) ?_
        refine AL.guard_yes rfl rfl rfl (Does.fieldP (Evl.tmp rfl) fld_54_1 rfl rfl) ?_
        refine AL.guard_yes rfl rfl rfl (Does.loadP (Evl.tmp rfl) rfl tsh_3 rfl rfl) ?_
        refine AL.guard_yes rfl rfl rfl (Does.eql (Evl.tmp rfl) (Evl.tmp rfl) rfl) ?_
        refine AL.cons rfl (Does.pickF (Evl.tmp rfl) (Ev.tmp rfl) rfl) ?_
        refine AL.nil ?_
        refine (?_ : AC _ _ _ _ _)
        cases hb17 : (decide (o.1 = o.2.1))
        · have _h := hb17
          have hb17' : ¬ (o.1 = o.2.1) := of_decide_eq_false hb17
          refine AC.condF (Evl.tmp rfl) ?_
          refine AC.skip ?_
          refine (?_ : AC _ _ _ _ _)
          refine AC.seq ?_
          obtain ⟨x, hx⟩ : ∃ z, s.1.2[o.1.toNat]? = some z := ⟨_, List.getElem?_eq_getElem (by omega)⟩
          obtain ⟨y, hy⟩ : ∃ z, s.1.2[o.2.1.toNat]? = some z := ⟨_, List.getElem?_eq_getElem (by omega)⟩
          have hab : o.1.toNat ≠ o.2.1.toNat := by omega
          have hcA := (cells_at hx).1
          have hcB := (cells_at hy).2
          have hpA : o.1.toNat * 2 + 1 < (cellsL (.pr (.sl 3 .int) (.sl 3 .int)) s.1.2).length := by rw [cellsL_len]; exact pos1 (by omega)
          have hpB : o.2.1.toNat * 2 + 0 < (cellsL (.pr (.sl 3 .int) (.sl 3 .int)) s.1.2).length := by rw [cellsL_len]; exact pos0 (by omega)
          have hpAB : o.1.toNat * 2 + 1 ≠ o.2.1.toNat * 2 + 0 := by omega
          have hxl := (tr_parts hz hx).2
          have hyl := (tr_parts hz hy).1
          have hsz := stg_start hz
          have hpl := stg_places ‹StgOk s›
          refine AC.region ?_
          refine AL.cons rfl (Does.loadPA (Evl.tmp rfl) rfl tsh_50 rfl rfl) ?_
          refine AL.cons rfl (Does.callG 12 (fc_spec_l2Own s hz) enters_70 ⟨_, _, rfl, (Ev.tmp rfl), rfl⟩ rfl rfl ⟨Fresh.of rfl, Fresh.of rfl, Fresh.of rfl, trivial⟩ (Nat.le_of_ble_eq_true rfl)) ?_
          refine AL.cons rfl (Does.alloc 15 (.pr (.pr .int (.sl 146 (.pr (.sl 3 .int) (.sl 3 .int)))) (.pr (.sl 129 (.pr .str .int)) (.pr (.sl 131 (.pr .int .bool)) .str))) zer_50 rfl rfl (Fresh.of rfl) (Nat.le_of_ble_eq_true rfl)) ?_
          refine AL.cons rfl (Does.storeP (Evl.tmp rfl) rfl (Ev.tmp rfl) rfl tsh_50 rfl) ?_
          refine AL.nil ?_
          refine (?_ : AC _ _ _ _ _)
          refine AC.seq ?_
          refine AC.region ?_
          refine AL.cons rfl (Does.fieldP (Evl.tmp rfl) fld_50_0 rfl rfl) ?_
          refine AL.cons rfl (Does.fieldP (Evl.tmp rfl) fld_47_0 rfl rfl) ?_
          refine AL.cons rfl (Does.loadP (Evl.tmp rfl) rfl tsh_3 rfl rfl) ?_
          refine AL.cons rfl (Does.assign rfl rfl) ?_
          refine AL.nil ?_
          refine (?_ : AC _ _ _ _ _)
          refine AC.seq ?_
          refine AC.region ?_
          refine AL.cons rfl (Does.fieldP (Evl.tmp rfl) fld_50_0 rfl rfl) ?_
          refine AL.cons rfl (Does.fieldP (Evl.tmp rfl) fld_47_0 rfl rfl) ?_
          refine AL.cons rfl (Does.loadP (Evl.tmp rfl) rfl tsh_3 rfl rfl) ?_
          refine AL.cons rfl (Does.add (Evl.tmp rfl) (Evl.int rfl) rfl (by omega)) ?_
          refine AL.cons rfl (Does.fieldP (Evl.tmp rfl) fld_50_0 rfl rfl) ?_
          refine AL.cons rfl (Does.fieldP (Evl.tmp rfl) fld_47_0 rfl rfl) ?_
          refine AL.cons rfl (Does.storeP (Evl.tmp rfl) rfl (Ev.tmp rfl) rfl tsh_3 rfl) ?_
          refine AL.nil ?_
          refine (?_ : AC _ _ _ _ _)
          refine AC.seq ?_
          refine AC.wk (Wk.open (q := 12) rfl (by omega)) ?_
          refine AC.wk (Wk.splitX 16 (q := 12) (p := (o.1).toNat * 2 + 1) (E' := 3) (e' := .int) (ys := x.2) rfl (hcA) (Fresh.of rfl) (Nat.le_of_ble_eq_true rfl)) ?_
          refine AC.drawL [⟨some 51, lf (.ptr 15 0), []⟩, ⟨some 52, lf (.ptr 15 1), []⟩, ⟨some 53, lf (.ref 12), []⟩, ⟨some 54, lf (.ptr 1 0), []⟩, ⟨some 55, lf (dI o.1), []⟩, ⟨some 56, lf (.ptr 15 0), []⟩, ⟨some 57, lf (.ptr 15 1), []⟩, ⟨some 58, lf (.ref 12), []⟩, ⟨some 59, lf (.ptr 1 0), []⟩, ⟨some 60, lf (dI o.1), []⟩, ⟨some 61, lf (.ept 12 2 ((o.1).toNat) 0), []⟩, ⟨some 62, lf (.ept 12 2 ((o.1).toNat) 1), []⟩, ⟨some 63, lf (.ref 16), []⟩, ⟨some 64, lf (dI s.1.1), []⟩, ⟨some 65, lf (.ref 17), [(17, some (.arr 3 .int ([s.1.1])))]⟩, ⟨some 66, lf (.ref 18), [(18, some (.arr 3 .int (x.2 ++ ([s.1.1])))), (16, none), (17, none)]⟩, ⟨some 67, lf (.ept 12 2 ((o.1).toNat) 0), []⟩, ⟨some 68, lf (.ept 12 2 ((o.1).toNat) 1), []⟩, ⟨none, lf (.val undef), [(12, some (.obx 146 2 ((s.1.2).length) (cellsL (.pr (.sl 3 .int) (.sl 3 .int)) (s.1.2)) [((o.1).toNat * 2 + 1, .ref 18), ((o.1).toNat * 2 + 1, .ref 16)]))]⟩] [[], [0], [0, 1], [], [3], [], [5], [5, 6], [], [8], [5, 6, 7, 8, 9], [5, 6, 7, 8, 9, 10], [5, 6, 7, 8, 9, 10, 11], [], [13], [5, 6, 7, 8, 9, 10, 11, 12, 13, 14], [0, 1, 2, 3, 4, 5, 6, 7, 8, 9, 10, 11, 12, 13, 14, 15], [0, 1, 2, 3, 4, 5, 6, 7, 8, 9, 10, 11, 12, 13, 14, 15, 16], [0, 1, 2, 3, 4, 5, 6, 7, 8, 9, 10, 11, 12, 13, 14, 15, 16, 17]] mixed rfl (by kernel_rfl) ?_ ?_
          · refine ⟨fun s_ hs => Acts.of1 rfl (Does.fieldP (Evl.tmp (hs.tm 7 rfl)) fld_50_0 (by rw [hs.en 15 rfl]; rfl) rfl) rfl, fun s_ hs => Acts.of1 rfl (Does.fieldP (Evl.tmp (hs.tm 51 rfl)) fld_47_1 (by rw [hs.en 15 rfl]; rfl) rfl) rfl, fun s_ hs => Acts.of1 rfl (Does.loadP (Evl.tmp (hs.tm 52 rfl)) (hs.en 15 rfl) tsh_45 rfl rfl) rfl, fun s_ hs => Acts.of1 rfl (Does.fieldP (Evl.tmp (hs.tm 3 rfl)) fld_54_0 (by rw [hs.en 1 rfl]; rfl) rfl) rfl, fun s_ hs => Acts.of1 rfl (Does.loadP (Evl.tmp (hs.tm 54 rfl)) (hs.en 1 rfl) tsh_3 rfl rfl) rfl, fun s_ hs => Acts.of1 rfl (Does.fieldP (Evl.tmp (hs.tm 7 rfl)) fld_50_0 (by rw [hs.en 15 rfl]; rfl) rfl) rfl, fun s_ hs => Acts.of1 rfl (Does.fieldP (Evl.tmp (hs.tm 56 rfl)) fld_47_1 (by rw [hs.en 15 rfl]; rfl) rfl) rfl, fun s_ hs => Acts.of1 rfl (Does.loadP (Evl.tmp (hs.tm 57 rfl)) (hs.en 15 rfl) tsh_45 rfl rfl) rfl, fun s_ hs => Acts.of1 rfl (Does.fieldP (Evl.tmp (hs.tm 3 rfl)) fld_54_0 (by rw [hs.en 1 rfl]; rfl) rfl) rfl, fun s_ hs => Acts.of1 rfl (Does.loadP (Evl.tmp (hs.tm 59 rfl)) (hs.en 1 rfl) tsh_3 rfl rfl) rfl, fun s_ hs => Acts.of1 rfl (Does.indexX (Evl.tmp (hs.tm 58 rfl)) (hs.en 12 rfl) (Evl.tmp (hs.tm 60 rfl)) und_45 tsh_146 rfl (by omega) (by omega)) rfl, fun s_ hs => Acts.of1 rfl (Does.fieldI (Evl.tmp (hs.tm 61 rfl)) fld_146_1 (by rw [hs.en 12 rfl]; rfl) rfl) rfl, fun s_ hs => Acts.of1 rfl (Does.loadX (Evl.tmp (hs.tm 62 rfl)) (hs.en 12 rfl) (by simp only [ovr, List.getElem?_set, List.length_set, hpA, hpB, hpAB, hpAB.symm, hcA, hcB, eq_self, if_true, if_false, ↓reduceIte]) (hs.en 16 rfl) tsh_72 rfl) rfl, fun s_ hs => Acts.of1 rfl (Does.move (hs.tm 8 rfl) rfl) rfl, fun s_ hs => Acts.of1 rfl (Does.buildSlice 17 (e := .int) und_72 tsh_3 zer_3 rfl ⟨_, _, rfl, (Ev.tmp (hs.tm 64 rfl)), rfl⟩ (List.all_eq_true.1 rfl) ⟨_, _, _, _, rfl, ⟨rfl, rfl⟩, ⟨rfl, rfl⟩, rfl⟩ (by decide) rfl rfl (hs.fr 17 rfl) (Nat.le_of_ble_eq_true rfl)) rfl, fun s_ hs => Acts.of1 rfl (Does.append 18 (Evl.tmp (hs.tm 63 rfl)) (hs.en 16 rfl) (Evl.tmp (hs.tm 65 rfl)) (hs.en 17 rfl) rfl und_72 elb_3 (by simp only [List.length_append, List.length_map, List.length_take, List.length_cons, List.length_nil]; omega) rfl (hs.fr 18 rfl) (Nat.le_of_ble_eq_true rfl)) rfl, fun s_ hs => Acts.of1 rfl (Does.indexX (Evl.tmp (hs.tm 53 rfl)) (hs.en 12 rfl) (Evl.tmp (hs.tm 55 rfl)) und_45 tsh_146 rfl (by omega) (by omega)) rfl, fun s_ hs => Acts.of1 rfl (Does.fieldI (Evl.tmp (hs.tm 67 rfl)) fld_146_1 (by rw [hs.en 12 rfl]; rfl) rfl) rfl, fun s_ hs => Acts.of1 rfl (Does.storeX (t := 16) (Evl.tmp (hs.tm 68 rfl)) (hs.en 12 rfl) (by simp only [ovr, List.getElem?_set, List.length_set, hpA, hpB, hpAB, hpAB.symm, hcA, hcB, eq_self, if_true, if_false, ↓reduceIte]) (Evl.tmp (hs.tm 66 rfl)) (hs.en 18 rfl) tsh_72) rfl, trivial⟩
          refine (?_ : AC _ _ _ _ _)
          refine AC.wk (s' := _) (Wk.refl _ _) ?_
          refine AC.seq ?_
          refine AC.wk (Wk.joinX (q := 12) (t := 18) (p := (o.1).toNat * 2 + 1) rfl (by simp only [ovr, List.getElem?_set, List.length_set, hpA, hpB, hpAB, hpAB.symm, hcA, hcB, eq_self, if_true, if_false, ↓reduceIte]) rfl) ?_
          refine AC.wk (Wk.splitX 19 (q := 12) (p := (o.2.1).toNat * 2 + 0) (E' := 3) (e' := .int) (ys := y.1) rfl (by simp only [ovr, List.getElem?_set, List.length_set, hpA, hpB, hpAB, hpAB.symm, hcA, hcB, eq_self, if_true, if_false, ↓reduceIte]) (Fresh.of rfl) (Nat.le_of_ble_eq_true rfl)) ?_
          refine AC.drawL [⟨some 69, lf (.ptr 15 0), []⟩, ⟨some 70, lf (.ptr 15 1), []⟩, ⟨some 71, lf (.ref 12), []⟩, ⟨some 72, lf (.ptr 1 1), []⟩, ⟨some 73, lf (dI o.2.1), []⟩, ⟨some 74, lf (.ptr 15 0), []⟩, ⟨some 75, lf (.ptr 15 1), []⟩, ⟨some 76, lf (.ref 12), []⟩, ⟨some 77, lf (.ptr 1 1), []⟩, ⟨some 78, lf (dI o.2.1), []⟩, ⟨some 79, lf (.ept 12 2 ((o.2.1).toNat) 0), []⟩, ⟨some 80, lf (.ept 12 2 ((o.2.1).toNat) 0), []⟩, ⟨some 81, lf (.ref 19), []⟩, ⟨some 82, lf (dI s.1.1), []⟩, ⟨some 83, lf (.ref 20), [(20, some (.arr 3 .int ([s.1.1])))]⟩, ⟨some 84, lf (.ref 21), [(21, some (.arr 3 .int (y.1 ++ ([s.1.1])))), (19, none), (20, none)]⟩, ⟨some 85, lf (.ept 12 2 ((o.2.1).toNat) 0), []⟩, ⟨some 86, lf (.ept 12 2 ((o.2.1).toNat) 0), []⟩, ⟨none, lf (.val undef), [(12, some (.obx 146 2 ((s.1.2).length) (cellsL (.pr (.sl 3 .int) (.sl 3 .int)) (s.1.2)) [((o.2.1).toNat * 2 + 0, .ref 21), ((o.2.1).toNat * 2 + 0, .ref 19), ((o.1).toNat * 2 + 1, .dat (.sl 3 .int) (x.2 ++ ([s.1.1]))), ((o.1).toNat * 2 + 1, .ref 18), ((o.1).toNat * 2 + 1, .ref 16)]))]⟩] [[], [0], [0, 1], [], [3], [], [5], [5, 6], [], [8], [5, 6, 7, 8, 9], [5, 6, 7, 8, 9, 10], [5, 6, 7, 8, 9, 10, 11], [], [13], [5, 6, 7, 8, 9, 10, 11, 12, 13, 14], [0, 1, 2, 3, 4, 5, 6, 7, 8, 9, 10, 11, 12, 13, 14, 15], [0, 1, 2, 3, 4, 5, 6, 7, 8, 9, 10, 11, 12, 13, 14, 15, 16], [0, 1, 2, 3, 4, 5, 6, 7, 8, 9, 10, 11, 12, 13, 14, 15, 16, 17]] mixed rfl (by kernel_rfl) ?_ ?_
          · refine ⟨fun s_ hs => Acts.of1 rfl (Does.fieldP (Evl.tmp (hs.tm 7 rfl)) fld_50_0 (by rw [hs.en 15 rfl]; rfl) rfl) rfl, fun s_ hs => Acts.of1 rfl (Does.fieldP (Evl.tmp (hs.tm 69 rfl)) fld_47_1 (by rw [hs.en 15 rfl]; rfl) rfl) rfl, fun s_ hs => Acts.of1 rfl (Does.loadP (Evl.tmp (hs.tm 70 rfl)) (hs.en 15 rfl) tsh_45 rfl rfl) rfl, fun s_ hs => Acts.of1 rfl (Does.fieldP (Evl.tmp (hs.tm 3 rfl)) fld_54_1 (by rw [hs.en 1 rfl]; rfl) rfl) rfl, fun s_ hs => Acts.of1 rfl (Does.loadP (Evl.tmp (hs.tm 72 rfl)) (hs.en 1 rfl) tsh_3 rfl rfl) rfl, fun s_ hs => Acts.of1 rfl (Does.fieldP (Evl.tmp (hs.tm 7 rfl)) fld_50_0 (by rw [hs.en 15 rfl]; rfl) rfl) rfl, fun s_ hs => Acts.of1 rfl (Does.fieldP (Evl.tmp (hs.tm 74 rfl)) fld_47_1 (by rw [hs.en 15 rfl]; rfl) rfl) rfl, fun s_ hs => Acts.of1 rfl (Does.loadP (Evl.tmp (hs.tm 75 rfl)) (hs.en 15 rfl) tsh_45 rfl rfl) rfl, fun s_ hs => Acts.of1 rfl (Does.fieldP (Evl.tmp (hs.tm 3 rfl)) fld_54_1 (by rw [hs.en 1 rfl]; rfl) rfl) rfl, fun s_ hs => Acts.of1 rfl (Does.loadP (Evl.tmp (hs.tm 77 rfl)) (hs.en 1 rfl) tsh_3 rfl rfl) rfl, fun s_ hs => Acts.of1 rfl (Does.indexX (Evl.tmp (hs.tm 76 rfl)) (hs.en 12 rfl) (Evl.tmp (hs.tm 78 rfl)) und_45 tsh_146 rfl (by omega) (by omega)) rfl, fun s_ hs => Acts.of1 rfl (Does.fieldI (Evl.tmp (hs.tm 79 rfl)) fld_146_0 (by rw [hs.en 12 rfl]; rfl) rfl) rfl, fun s_ hs => Acts.of1 rfl (Does.loadX (Evl.tmp (hs.tm 80 rfl)) (hs.en 12 rfl) (by simp only [ovr, List.getElem?_set, List.length_set, hpA, hpB, hpAB, hpAB.symm, hcA, hcB, eq_self, if_true, if_false, ↓reduceIte]) (hs.en 19 rfl) tsh_72 rfl) rfl, fun s_ hs => Acts.of1 rfl (Does.move (hs.tm 8 rfl) rfl) rfl, fun s_ hs => Acts.of1 rfl (Does.buildSlice 20 (e := .int) und_72 tsh_3 zer_3 rfl ⟨_, _, rfl, (Ev.tmp (hs.tm 82 rfl)), rfl⟩ (List.all_eq_true.1 rfl) ⟨_, _, _, _, rfl, ⟨rfl, rfl⟩, ⟨rfl, rfl⟩, rfl⟩ (by decide) rfl rfl (hs.fr 20 rfl) (Nat.le_of_ble_eq_true rfl)) rfl, fun s_ hs => Acts.of1 rfl (Does.append 21 (Evl.tmp (hs.tm 81 rfl)) (hs.en 19 rfl) (Evl.tmp (hs.tm 83 rfl)) (hs.en 20 rfl) rfl und_72 elb_3 (by simp only [List.length_append, List.length_map, List.length_take, List.length_cons, List.length_nil]; omega) rfl (hs.fr 21 rfl) (Nat.le_of_ble_eq_true rfl)) rfl, fun s_ hs => Acts.of1 rfl (Does.indexX (Evl.tmp (hs.tm 71 rfl)) (hs.en 12 rfl) (Evl.tmp (hs.tm 73 rfl)) und_45 tsh_146 rfl (by omega) (by omega)) rfl, fun s_ hs => Acts.of1 rfl (Does.fieldI (Evl.tmp (hs.tm 85 rfl)) fld_146_0 (by rw [hs.en 12 rfl]; rfl) rfl) rfl, fun s_ hs => Acts.of1 rfl (Does.storeX (t := 19) (Evl.tmp (hs.tm 86 rfl)) (hs.en 12 rfl) (by simp only [ovr, List.getElem?_set, List.length_set, hpA, hpB, hpAB, hpAB.symm, hcA, hcB, eq_self, if_true, if_false, ↓reduceIte]) (Evl.tmp (hs.tm 84 rfl)) (hs.en 21 rfl) tsh_72) rfl, trivial⟩
          refine (?_ : AC _ _ _ _ _)
          refine AC.wk (s' := _) (Wk.refl _ _) ?_
          refine AC.seq ?_
          refine AC.seq ?_
          refine AC.wk (Wk.joinX (q := 12) (t := 21) (p := (o.2.1).toNat * 2 + 0) rfl (by simp only [ovr, List.getElem?_set, List.length_set, hpA, hpB, hpAB, hpAB.symm, hcA, hcB, eq_self, if_true, if_false, ↓reduceIte]) rfl) ?_
          refine AC.wk (Wk.close (q := 12) (e := (.pr (.sl 3 .int) (.sl 3 .int))) (addT s.1.2 (o.1).toNat (o.2.1).toNat s.1.1) rfl (by simp [addT]) (by simp only [ovr]; rw [set6b hpAB, cells_set1 hx, cells_set0 (by rw [List.getElem?_set_ne hab]; exact hy), addT_set hx hy hab])) ?_
          refine AC.region ?_
          refine AL.cons rfl (Does.fieldP (Evl.tmp rfl) fld_54_2 rfl rfl) ?_
          refine AL.cons rfl (Does.loadP (Evl.tmp rfl) rfl tsh_4 rfl rfl) ?_
          refine AL.nil ?_
          refine (?_ : AC _ _ _ _ _)
          cases hb18 : (o.2.2)
          · have _h := hb18
            refine AC.condF (Evl.tmp rfl) ?_
            refine AC.region ?_
            refine AL.cons rfl (Does.fieldP (Evl.tmp rfl) fld_50_3 rfl rfl) ?_
            refine AL.cons rfl (Does.loadP (Evl.tmp rfl) rfl tsh_9 rfl rfl) ?_
            refine AL.cons rfl (Does.addS (Evl.tmp rfl) (Evl.str rfl) rfl (by simp only [bsize1]; omega)) ?_
            refine AL.cons rfl (Does.fieldP (Evl.tmp rfl) fld_50_3 rfl rfl) ?_
            refine AL.cons rfl (Does.storeP (Evl.tmp rfl) rfl (Ev.tmp rfl) rfl tsh_9 rfl) ?_
            refine AL.nil ?_
            refine (?_ : AC _ _ _ _ _)
            refine AC.seq ?_
            refine AC.drawL [⟨some 97, ag [dI (s.1.1 + 1), .ref 12, .ref 13, .ref 14, dS (s.2.2.2 ++ (⟨#[48]⟩ : ByteArray))], []⟩, ⟨some 98, ag [dI (s.1.1 + 1), .ref 12, .ref 13, .ref 14, dS (s.2.2.2 ++ (⟨#[48]⟩ : ByteArray))], []⟩, ⟨some 99, lf (dB (decide (StgOk ((s.1.1 + 1, addT s.1.2 (o.1).toNat (o.2.1).toNat s.1.1), s.2.1, s.2.2.1, s.2.2.2 ++ (⟨#[48]⟩ : ByteArray))))), []⟩, ⟨none, lf (.val undef), [(2, some (.box 50 [dI (s.1.1 + 1), .ref 12, .ref 13, .ref 14, dS (s.2.2.2 ++ (⟨#[48]⟩ : ByteArray))]))]⟩, ⟨some 5, lf (dB (decide (StgOk ((s.1.1 + 1, addT s.1.2 (o.1).toNat (o.2.1).toNat s.1.1), s.2.1, s.2.2.1, s.2.2.2 ++ (⟨#[48]⟩ : ByteArray))))), []⟩] [[], [], [1], [0, 1, 2], [0, 1, 2, 3]] mixed rfl (by kernel_rfl) ?_ ?_
            · refine ⟨fun s_ hs => Acts.of1 rfl (Does.loadPA (Evl.tmp (hs.tm 7 rfl)) (hs.en 15 rfl) tsh_50 rfl rfl) rfl, fun s_ hs => Acts.of1 rfl (Does.loadPA (Evl.tmp (hs.tm 7 rfl)) (hs.en 15 rfl) tsh_50 rfl rfl) rfl, fun s_ hs => Acts.of1 rfl (Does.callB (fc_spec_l2Good ((s.1.1 + 1, addT s.1.2 (o.1).toNat (o.2.1).toNat s.1.1), s.2.1, s.2.2.1, s.2.2.2 ++ (⟨#[48]⟩ : ByteArray))) enters_69 ⟨_, _, rfl, (Ev.ob (Ev.tmp (hs.tm 98 rfl)) ⟨_, _, rfl, .inl rfl, ⟨_, _, rfl, .inr ⟨_, _, _, _, rfl, (hs.en 12 rfl), rfl⟩, ⟨_, _, rfl, .inr ⟨_, _, _, _, rfl, (hs.en 13 rfl), rfl⟩, ⟨_, _, rfl, .inr ⟨_, _, _, _, rfl, (hs.en 14 rfl), rfl⟩, ⟨_, _, rfl, .inl rfl, rfl⟩⟩⟩⟩⟩), rfl⟩ rfl rfl rfl) rfl, fun s_ hs => Acts.of1 rfl (Does.storeP (Evl.tmp (hs.tm 4 rfl)) (hs.en 2 rfl) (Ev.tmp (hs.tm 97 rfl)) (by simp only [okLVs, okLV, List.all_cons, List.all_nil]; rw [hs.en 12 rfl, hs.en 13 rfl, hs.en 14 rfl]; rfl) tsh_50 rfl) rfl, fun s_ hs => Acts.of1 rfl (Does.assign (hs.tm 99 rfl) rfl) rfl, trivial⟩
            refine (?_ : AC _ _ _ _ _)
            refine AC.wk (s' := _) (Wk.refl _ _) ?_
            refine AC.ret ?_
            subst hO
            have e19 : (s.1.1 + 1 : Int) = (((l26V s o).1).1).1 := by
              first | (rw [l26V_no (fun ⟨a1, ⟨a2, a3⟩, ⟨a4, a5⟩, a6⟩ => by have := stg_labels a1; first | exact absurd a1 (by assumption) | exact absurd (by assumption) a6 | omega)]; done) | (rw [l26V_no (fun ⟨a1, ⟨a2, a3⟩, ⟨a4, a5⟩, a6⟩ => by have := stg_labels a1; first | exact absurd a1 (by assumption) | exact absurd (by assumption) a6 | omega)]; rfl) | (rw [l26V_yes ⟨‹StgOk s›, by omega, by omega, by omega⟩]; first | done | rfl | exact congrArg (fun z => z.2.2.2) (l26_1 (s := s) (o := o) (by assumption)) | exact congrArg (fun z => z.2.2.2) (l26_0 (s := s) (o := o) (by assumption)) | exact l26d1 (by assumption) | exact l26d0 (by assumption))
            have e20 : (s.2.2.2 ++ (⟨#[48]⟩ : ByteArray) : ByteArray) = ((l26V s o).1).2.2.2 := by
              first | (rw [l26V_no (fun ⟨a1, ⟨a2, a3⟩, ⟨a4, a5⟩, a6⟩ => by have := stg_labels a1; first | exact absurd a1 (by assumption) | exact absurd (by assumption) a6 | omega)]; done) | (rw [l26V_no (fun ⟨a1, ⟨a2, a3⟩, ⟨a4, a5⟩, a6⟩ => by have := stg_labels a1; first | exact absurd a1 (by assumption) | exact absurd (by assumption) a6 | omega)]; rfl) | (rw [l26V_yes ⟨‹StgOk s›, by omega, by omega, by omega⟩]; first | done | rfl | exact congrArg (fun z => z.2.2.2) (l26_1 (s := s) (o := o) (by assumption)) | exact congrArg (fun z => z.2.2.2) (l26_0 (s := s) (o := o) (by assumption)) | exact l26d1 (by assumption) | exact l26d0 (by assumption))
            have e21 : (decide (StgOk ((s.1.1 + 1, addT s.1.2 (o.1).toNat (o.2.1).toNat s.1.1), s.2.1, s.2.2.1, s.2.2.2 ++ (⟨#[48]⟩ : ByteArray))) : Bool) = (l26V s o).2 := by
              first | (rw [l26V_no (fun ⟨a1, ⟨a2, a3⟩, ⟨a4, a5⟩, a6⟩ => by have := stg_labels a1; first | exact absurd a1 (by assumption) | exact absurd (by assumption) a6 | omega)]; done) | (rw [l26V_no (fun ⟨a1, ⟨a2, a3⟩, ⟨a4, a5⟩, a6⟩ => by have := stg_labels a1; first | exact absurd a1 (by assumption) | exact absurd (by assumption) a6 | omega)]; rfl) | (rw [l26V_yes ⟨‹StgOk s›, by omega, by omega, by omega⟩]; first | done | rfl | exact congrArg (fun z => z.2.2.2) (l26_1 (s := s) (o := o) (by assumption)) | exact congrArg (fun z => z.2.2.2) (l26_0 (s := s) (o := o) (by assumption)) | exact l26d1 (by assumption) | exact l26d0 (by assumption))
            exact fin_is (PV.tup [(true, [dI ((((l26V s o).1).1).1), .ref 0, .ref 1, .ref 2, dS (((l26V s o).1).2.2.2)]), (false, [dB ((l26V s o).2)])]) [(0, some (.arr 146 (.pr (.sl 3 .int) (.sl 3 .int)) ((((l26V s o).1).1).2))), (1, some (.arr 129 (.pr .str .int) (((l26V s o).1).2.1))), (2, some (.arr 131 (.pr .int .bool) (((l26V s o).1).2.2.1)))] [(0, 12), (1, 13), (2, 14)] (Res.two rfl (Rs.cell rfl rfl tsh_50 rfl) (Rs.tmp rfl)) (show PV.tup [(true, [dI (s.1.1 + 1), .ref 12, .ref 13, .ref 14, dS (s.2.2.2 ++ (⟨#[48]⟩ : ByteArray))]), (false, [dB (decide (StgOk ((s.1.1 + 1, addT s.1.2 (o.1).toNat (o.2.1).toNat s.1.1), s.2.1, s.2.2.1, s.2.2.2 ++ (⟨#[48]⟩ : ByteArray))))])] = PV.tup [(true, [dI ((((l26V s o).1).1).1), .ref 12, .ref 13, .ref 14, dS (((l26V s o).1).2.2.2)]), (false, [dB ((l26V s o).2)])] by exact (((congrArg (fun z_ => PV.tup [(true, [dI z_, .ref 12, .ref 13, .ref 14, dS (s.2.2.2 ++ (⟨#[48]⟩ : ByteArray))]), (false, [dB (decide (StgOk ((s.1.1 + 1, addT s.1.2 (o.1).toNat (o.2.1).toNat s.1.1), s.2.1, s.2.2.1, s.2.2.2 ++ (⟨#[48]⟩ : ByteArray))))])]) e19)).trans (congrArg (fun z_ => PV.tup [(true, [dI ((((l26V s o).1).1).1), .ref 12, .ref 13, .ref 14, dS z_]), (false, [dB (decide (StgOk ((s.1.1 + 1, addT s.1.2 (o.1).toNat (o.2.1).toNat s.1.1), s.2.1, s.2.2.1, s.2.2.2 ++ (⟨#[48]⟩ : ByteArray))))])]) e20)).trans (congrArg (fun z_ => PV.tup [(true, [dI ((((l26V s o).1).1).1), .ref 12, .ref 13, .ref 14, dS (((l26V s o).1).2.2.2)]), (false, [dB z_])]) e21)) ⟨(show some (Ent.arr 146 (.pr (.sl 3 .int) (.sl 3 .int)) (addT s.1.2 (o.1).toNat (o.2.1).toNat s.1.1)) = some (Ent.arr 146 (.pr (.sl 3 .int) (.sl 3 .int)) ((((l26V s o).1).1).2)) from congrArg (fun z => some (Ent.arr 146 (.pr (.sl 3 .int) (.sl 3 .int)) z)) (by first | (rw [l26V_no (fun ⟨a1, ⟨a2, a3⟩, ⟨a4, a5⟩, a6⟩ => by have := stg_labels a1; first | exact absurd a1 (by assumption) | exact absurd (by assumption) a6 | omega)]; done) | (rw [l26V_no (fun ⟨a1, ⟨a2, a3⟩, ⟨a4, a5⟩, a6⟩ => by have := stg_labels a1; first | exact absurd a1 (by assumption) | exact absurd (by assumption) a6 | omega)]; rfl) | (rw [l26V_yes ⟨‹StgOk s›, by omega, by omega, by omega⟩]; first | done | rfl | exact congrArg (fun z => z.2.2.2) (l26_1 (s := s) (o := o) (by assumption)) | exact congrArg (fun z => z.2.2.2) (l26_0 (s := s) (o := o) (by assumption)) | exact l26d1 (by assumption) | exact l26d0 (by assumption)))), (show some (Ent.arr 129 (.pr .str .int) s.2.1) = some (Ent.arr 129 (.pr .str .int) (((l26V s o).1).2.1)) from congrArg (fun z => some (Ent.arr 129 (.pr .str .int) z)) (by first | (rw [l26V_no (fun ⟨a1, ⟨a2, a3⟩, ⟨a4, a5⟩, a6⟩ => by have := stg_labels a1; first | exact absurd a1 (by assumption) | exact absurd (by assumption) a6 | omega)]; done) | (rw [l26V_no (fun ⟨a1, ⟨a2, a3⟩, ⟨a4, a5⟩, a6⟩ => by have := stg_labels a1; first | exact absurd a1 (by assumption) | exact absurd (by assumption) a6 | omega)]; rfl) | (rw [l26V_yes ⟨‹StgOk s›, by omega, by omega, by omega⟩]; first | done | rfl | exact congrArg (fun z => z.2.2.2) (l26_1 (s := s) (o := o) (by assumption)) | exact congrArg (fun z => z.2.2.2) (l26_0 (s := s) (o := o) (by assumption)) | exact l26d1 (by assumption) | exact l26d0 (by assumption)))), (show some (Ent.arr 131 (.pr .int .bool) s.2.2.1) = some (Ent.arr 131 (.pr .int .bool) (((l26V s o).1).2.2.1)) from congrArg (fun z => some (Ent.arr 131 (.pr .int .bool) z)) (by first | (rw [l26V_no (fun ⟨a1, ⟨a2, a3⟩, ⟨a4, a5⟩, a6⟩ => by have := stg_labels a1; first | exact absurd a1 (by assumption) | exact absurd (by assumption) a6 | omega)]; done) | (rw [l26V_no (fun ⟨a1, ⟨a2, a3⟩, ⟨a4, a5⟩, a6⟩ => by have := stg_labels a1; first | exact absurd a1 (by assumption) | exact absurd (by assumption) a6 | omega)]; rfl) | (rw [l26V_yes ⟨‹StgOk s›, by omega, by omega, by omega⟩]; first | done | rfl | exact congrArg (fun z => z.2.2.2) (l26_1 (s := s) (o := o) (by assumption)) | exact congrArg (fun z => z.2.2.2) (l26_0 (s := s) (o := o) (by assumption)) | exact l26d1 (by assumption) | exact l26d0 (by assumption)))), trivial⟩ rfl rfl
          · have _h := hb18
            refine AC.condT (Evl.tmp rfl) ?_
            refine AC.region ?_
            refine AL.cons rfl (Does.fieldP (Evl.tmp rfl) fld_50_3 rfl rfl) ?_
            refine AL.cons rfl (Does.loadP (Evl.tmp rfl) rfl tsh_9 rfl rfl) ?_
            refine AL.cons rfl (Does.addS (Evl.tmp rfl) (Evl.str rfl) rfl (by simp only [bsize1]; omega)) ?_
            refine AL.cons rfl (Does.fieldP (Evl.tmp rfl) fld_50_3 rfl rfl) ?_
            refine AL.cons rfl (Does.storeP (Evl.tmp rfl) rfl (Ev.tmp rfl) rfl tsh_9 rfl) ?_
            refine AL.nil ?_
            refine (?_ : AC _ _ _ _ _)
            refine AC.seq ?_
            refine AC.drawL [⟨some 97, ag [dI (s.1.1 + 1), .ref 12, .ref 13, .ref 14, dS (s.2.2.2 ++ (⟨#[49]⟩ : ByteArray))], []⟩, ⟨some 98, ag [dI (s.1.1 + 1), .ref 12, .ref 13, .ref 14, dS (s.2.2.2 ++ (⟨#[49]⟩ : ByteArray))], []⟩, ⟨some 99, lf (dB (decide (StgOk ((s.1.1 + 1, addT s.1.2 (o.1).toNat (o.2.1).toNat s.1.1), s.2.1, s.2.2.1, s.2.2.2 ++ (⟨#[49]⟩ : ByteArray))))), []⟩, ⟨none, lf (.val undef), [(2, some (.box 50 [dI (s.1.1 + 1), .ref 12, .ref 13, .ref 14, dS (s.2.2.2 ++ (⟨#[49]⟩ : ByteArray))]))]⟩, ⟨some 5, lf (dB (decide (StgOk ((s.1.1 + 1, addT s.1.2 (o.1).toNat (o.2.1).toNat s.1.1), s.2.1, s.2.2.1, s.2.2.2 ++ (⟨#[49]⟩ : ByteArray))))), []⟩] [[], [], [1], [0, 1, 2], [0, 1, 2, 3]] mixed rfl (by kernel_rfl) ?_ ?_
            · refine ⟨fun s_ hs => Acts.of1 rfl (Does.loadPA (Evl.tmp (hs.tm 7 rfl)) (hs.en 15 rfl) tsh_50 rfl rfl) rfl, fun s_ hs => Acts.of1 rfl (Does.loadPA (Evl.tmp (hs.tm 7 rfl)) (hs.en 15 rfl) tsh_50 rfl rfl) rfl, fun s_ hs => Acts.of1 rfl (Does.callB (fc_spec_l2Good ((s.1.1 + 1, addT s.1.2 (o.1).toNat (o.2.1).toNat s.1.1), s.2.1, s.2.2.1, s.2.2.2 ++ (⟨#[49]⟩ : ByteArray))) enters_69 ⟨_, _, rfl, (Ev.ob (Ev.tmp (hs.tm 98 rfl)) ⟨_, _, rfl, .inl rfl, ⟨_, _, rfl, .inr ⟨_, _, _, _, rfl, (hs.en 12 rfl), rfl⟩, ⟨_, _, rfl, .inr ⟨_, _, _, _, rfl, (hs.en 13 rfl), rfl⟩, ⟨_, _, rfl, .inr ⟨_, _, _, _, rfl, (hs.en 14 rfl), rfl⟩, ⟨_, _, rfl, .inl rfl, rfl⟩⟩⟩⟩⟩), rfl⟩ rfl rfl rfl) rfl, fun s_ hs => Acts.of1 rfl (Does.storeP (Evl.tmp (hs.tm 4 rfl)) (hs.en 2 rfl) (Ev.tmp (hs.tm 97 rfl)) (by simp only [okLVs, okLV, List.all_cons, List.all_nil]; rw [hs.en 12 rfl, hs.en 13 rfl, hs.en 14 rfl]; rfl) tsh_50 rfl) rfl, fun s_ hs => Acts.of1 rfl (Does.assign (hs.tm 99 rfl) rfl) rfl, trivial⟩
            refine (?_ : AC _ _ _ _ _)
            refine AC.wk (s' := _) (Wk.refl _ _) ?_
            refine AC.ret ?_
            subst hO
            have e22 : (s.1.1 + 1 : Int) = (((l26V s o).1).1).1 := by
              first | (rw [l26V_no (fun ⟨a1, ⟨a2, a3⟩, ⟨a4, a5⟩, a6⟩ => by have := stg_labels a1; first | exact absurd a1 (by assumption) | exact absurd (by assumption) a6 | omega)]; done) | (rw [l26V_no (fun ⟨a1, ⟨a2, a3⟩, ⟨a4, a5⟩, a6⟩ => by have := stg_labels a1; first | exact absurd a1 (by assumption) | exact absurd (by assumption) a6 | omega)]; rfl) | (rw [l26V_yes ⟨‹StgOk s›, by omega, by omega, by omega⟩]; first | done | rfl | exact congrArg (fun z => z.2.2.2) (l26_1 (s := s) (o := o) (by assumption)) | exact congrArg (fun z => z.2.2.2) (l26_0 (s := s) (o := o) (by assumption)) | exact l26d1 (by assumption) | exact l26d0 (by assumption))
            have e23 : (s.2.2.2 ++ (⟨#[49]⟩ : ByteArray) : ByteArray) = ((l26V s o).1).2.2.2 := by
              first | (rw [l26V_no (fun ⟨a1, ⟨a2, a3⟩, ⟨a4, a5⟩, a6⟩ => by have := stg_labels a1; first | exact absurd a1 (by assumption) | exact absurd (by assumption) a6 | omega)]; done) | (rw [l26V_no (fun ⟨a1, ⟨a2, a3⟩, ⟨a4, a5⟩, a6⟩ => by have := stg_labels a1; first | exact absurd a1 (by assumption) | exact absurd (by assumption) a6 | omega)]; rfl) | (rw [l26V_yes ⟨‹StgOk s›, by omega, by omega, by omega⟩]; first | done | rfl | exact congrArg (fun z => z.2.2.2) (l26_1 (s := s) (o := o) (by assumption)) | exact congrArg (fun z => z.2.2.2) (l26_0 (s := s) (o := o) (by assumption)) | exact l26d1 (by assumption) | exact l26d0 (by assumption))
            have e24 : (decide (StgOk ((s.1.1 + 1, addT s.1.2 (o.1).toNat (o.2.1).toNat s.1.1), s.2.1, s.2.2.1, s.2.2.2 ++ (⟨#[49]⟩ : ByteArray))) : Bool) = (l26V s o).2 := by
              first | (rw [l26V_no (fun ⟨a1, ⟨a2, a3⟩, ⟨a4, a5⟩, a6⟩ => by have := stg_labels a1; first | exact absurd a1 (by assumption) | exact absurd (by assumption) a6 | omega)]; done) | (rw [l26V_no (fun ⟨a1, ⟨a2, a3⟩, ⟨a4, a5⟩, a6⟩ => by have := stg_labels a1; first | exact absurd a1 (by assumption) | exact absurd (by assumption) a6 | omega)]; rfl) | (rw [l26V_yes ⟨‹StgOk s›, by omega, by omega, by omega⟩]; first | done | rfl | exact congrArg (fun z => z.2.2.2) (l26_1 (s := s) (o := o) (by assumption)) | exact congrArg (fun z => z.2.2.2) (l26_0 (s := s) (o := o) (by assumption)) | exact l26d1 (by assumption) | exact l26d0 (by assumption))
            exact fin_is (PV.tup [(true, [dI ((((l26V s o).1).1).1), .ref 0, .ref 1, .ref 2, dS (((l26V s o).1).2.2.2)]), (false, [dB ((l26V s o).2)])]) [(0, some (.arr 146 (.pr (.sl 3 .int) (.sl 3 .int)) ((((l26V s o).1).1).2))), (1, some (.arr 129 (.pr .str .int) (((l26V s o).1).2.1))), (2, some (.arr 131 (.pr .int .bool) (((l26V s o).1).2.2.1)))] [(0, 12), (1, 13), (2, 14)] (Res.two rfl (Rs.cell rfl rfl tsh_50 rfl) (Rs.tmp rfl)) (show PV.tup [(true, [dI (s.1.1 + 1), .ref 12, .ref 13, .ref 14, dS (s.2.2.2 ++ (⟨#[49]⟩ : ByteArray))]), (false, [dB (decide (StgOk ((s.1.1 + 1, addT s.1.2 (o.1).toNat (o.2.1).toNat s.1.1), s.2.1, s.2.2.1, s.2.2.2 ++ (⟨#[49]⟩ : ByteArray))))])] = PV.tup [(true, [dI ((((l26V s o).1).1).1), .ref 12, .ref 13, .ref 14, dS (((l26V s o).1).2.2.2)]), (false, [dB ((l26V s o).2)])] by exact (((congrArg (fun z_ => PV.tup [(true, [dI z_, .ref 12, .ref 13, .ref 14, dS (s.2.2.2 ++ (⟨#[49]⟩ : ByteArray))]), (false, [dB (decide (StgOk ((s.1.1 + 1, addT s.1.2 (o.1).toNat (o.2.1).toNat s.1.1), s.2.1, s.2.2.1, s.2.2.2 ++ (⟨#[49]⟩ : ByteArray))))])]) e22)).trans (congrArg (fun z_ => PV.tup [(true, [dI ((((l26V s o).1).1).1), .ref 12, .ref 13, .ref 14, dS z_]), (false, [dB (decide (StgOk ((s.1.1 + 1, addT s.1.2 (o.1).toNat (o.2.1).toNat s.1.1), s.2.1, s.2.2.1, s.2.2.2 ++ (⟨#[49]⟩ : ByteArray))))])]) e23)).trans (congrArg (fun z_ => PV.tup [(true, [dI ((((l26V s o).1).1).1), .ref 12, .ref 13, .ref 14, dS (((l26V s o).1).2.2.2)]), (false, [dB z_])]) e24)) ⟨(show some (Ent.arr 146 (.pr (.sl 3 .int) (.sl 3 .int)) (addT s.1.2 (o.1).toNat (o.2.1).toNat s.1.1)) = some (Ent.arr 146 (.pr (.sl 3 .int) (.sl 3 .int)) ((((l26V s o).1).1).2)) from congrArg (fun z => some (Ent.arr 146 (.pr (.sl 3 .int) (.sl 3 .int)) z)) (by first | (rw [l26V_no (fun ⟨a1, ⟨a2, a3⟩, ⟨a4, a5⟩, a6⟩ => by have := stg_labels a1; first | exact absurd a1 (by assumption) | exact absurd (by assumption) a6 | omega)]; done) | (rw [l26V_no (fun ⟨a1, ⟨a2, a3⟩, ⟨a4, a5⟩, a6⟩ => by have := stg_labels a1; first | exact absurd a1 (by assumption) | exact absurd (by assumption) a6 | omega)]; rfl) | (rw [l26V_yes ⟨‹StgOk s›, by omega, by omega, by omega⟩]; first | done | rfl | exact congrArg (fun z => z.2.2.2) (l26_1 (s := s) (o := o) (by assumption)) | exact congrArg (fun z => z.2.2.2) (l26_0 (s := s) (o := o) (by assumption)) | exact l26d1 (by assumption) | exact l26d0 (by assumption)))), (show some (Ent.arr 129 (.pr .str .int) s.2.1) = some (Ent.arr 129 (.pr .str .int) (((l26V s o).1).2.1)) from congrArg (fun z => some (Ent.arr 129 (.pr .str .int) z)) (by first | (rw [l26V_no (fun ⟨a1, ⟨a2, a3⟩, ⟨a4, a5⟩, a6⟩ => by have := stg_labels a1; first | exact absurd a1 (by assumption) | exact absurd (by assumption) a6 | omega)]; done) | (rw [l26V_no (fun ⟨a1, ⟨a2, a3⟩, ⟨a4, a5⟩, a6⟩ => by have := stg_labels a1; first | exact absurd a1 (by assumption) | exact absurd (by assumption) a6 | omega)]; rfl) | (rw [l26V_yes ⟨‹StgOk s›, by omega, by omega, by omega⟩]; first | done | rfl | exact congrArg (fun z => z.2.2.2) (l26_1 (s := s) (o := o) (by assumption)) | exact congrArg (fun z => z.2.2.2) (l26_0 (s := s) (o := o) (by assumption)) | exact l26d1 (by assumption) | exact l26d0 (by assumption)))), (show some (Ent.arr 131 (.pr .int .bool) s.2.2.1) = some (Ent.arr 131 (.pr .int .bool) (((l26V s o).1).2.2.1)) from congrArg (fun z => some (Ent.arr 131 (.pr .int .bool) z)) (by first | (rw [l26V_no (fun ⟨a1, ⟨a2, a3⟩, ⟨a4, a5⟩, a6⟩ => by have := stg_labels a1; first | exact absurd a1 (by assumption) | exact absurd (by assumption) a6 | omega)]; done) | (rw [l26V_no (fun ⟨a1, ⟨a2, a3⟩, ⟨a4, a5⟩, a6⟩ => by have := stg_labels a1; first | exact absurd a1 (by assumption) | exact absurd (by assumption) a6 | omega)]; rfl) | (rw [l26V_yes ⟨‹StgOk s›, by omega, by omega, by omega⟩]; first | done | rfl | exact congrArg (fun z => z.2.2.2) (l26_1 (s := s) (o := o) (by assumption)) | exact congrArg (fun z => z.2.2.2) (l26_0 (s := s) (o := o) (by assumption)) | exact l26d1 (by assumption) | exact l26d0 (by assumption)))), trivial⟩ rfl rfl
        · have _h := hb17
          have hb17' : (o.1 = o.2.1) := of_decide_eq_true hb17
          refine AC.condT (Evl.tmp rfl) ?_
          refine AC.seq ?_
          refine AC.region ?_
          refine AL.cons rfl (Does.build bld_50 rfl (List.all_eq_true.1 rfl) rfl rfl) ?_
          refine AL.cons rfl (Does.storeP (Evl.tmp rfl) rfl (Ev.tmp rfl) rfl tsh_50 rfl) ?_
          refine AL.cons rfl (Does.assignC Evl.bool rfl) ?_
          refine AL.nil ?_
          refine (?_ : AC _ _ _ _ _)
          refine AC.wk (Wk.nilC 22 (p := 2) (off := 1) 146 (.pr (.sl 3 .int) (.sl 3 .int)) rfl rfl (Fresh.of rfl) (Nat.le_of_ble_eq_true rfl)) ?_
          refine AC.wk (Wk.nilC 23 (p := 2) (off := 2) 129 (.pr .str .int) rfl rfl (Fresh.of rfl) (Nat.le_of_ble_eq_true rfl)) ?_
          refine AC.wk (Wk.nilC 24 (p := 2) (off := 3) 131 (.pr .int .bool) rfl rfl (Fresh.of rfl) (Nat.le_of_ble_eq_true rfl)) ?_
          refine AC.ret ?_
          subst hO
          have e25 : (0 : Int) = (((l26V s o).1).1).1 := by
            first | (rw [l26V_no (fun ⟨a1, ⟨a2, a3⟩, ⟨a4, a5⟩, a6⟩ => by have := stg_labels a1; first | exact absurd a1 (by assumption) | exact absurd (by assumption) a6 | omega)]; done) | (rw [l26V_no (fun ⟨a1, ⟨a2, a3⟩, ⟨a4, a5⟩, a6⟩ => by have := stg_labels a1; first | exact absurd a1 (by assumption) | exact absurd (by assumption) a6 | omega)]; rfl) | (rw [l26V_yes ⟨‹StgOk s›, by omega, by omega, by omega⟩]; first | done | rfl | exact congrArg (fun z => z.2.2.2) (l26_1 (s := s) (o := o) (by assumption)) | exact congrArg (fun z => z.2.2.2) (l26_0 (s := s) (o := o) (by assumption)) | exact l26d1 (by assumption) | exact l26d0 (by assumption))
          have e26 : (ByteArray.empty : ByteArray) = ((l26V s o).1).2.2.2 := by
            first | (rw [l26V_no (fun ⟨a1, ⟨a2, a3⟩, ⟨a4, a5⟩, a6⟩ => by have := stg_labels a1; first | exact absurd a1 (by assumption) | exact absurd (by assumption) a6 | omega)]; done) | (rw [l26V_no (fun ⟨a1, ⟨a2, a3⟩, ⟨a4, a5⟩, a6⟩ => by have := stg_labels a1; first | exact absurd a1 (by assumption) | exact absurd (by assumption) a6 | omega)]; rfl) | (rw [l26V_yes ⟨‹StgOk s›, by omega, by omega, by omega⟩]; first | done | rfl | exact congrArg (fun z => z.2.2.2) (l26_1 (s := s) (o := o) (by assumption)) | exact congrArg (fun z => z.2.2.2) (l26_0 (s := s) (o := o) (by assumption)) | exact l26d1 (by assumption) | exact l26d0 (by assumption))
          have e27 : (false : Bool) = (l26V s o).2 := by
            first | (rw [l26V_no (fun ⟨a1, ⟨a2, a3⟩, ⟨a4, a5⟩, a6⟩ => by have := stg_labels a1; first | exact absurd a1 (by assumption) | exact absurd (by assumption) a6 | omega)]; done) | (rw [l26V_no (fun ⟨a1, ⟨a2, a3⟩, ⟨a4, a5⟩, a6⟩ => by have := stg_labels a1; first | exact absurd a1 (by assumption) | exact absurd (by assumption) a6 | omega)]; rfl) | (rw [l26V_yes ⟨‹StgOk s›, by omega, by omega, by omega⟩]; first | done | rfl | exact congrArg (fun z => z.2.2.2) (l26_1 (s := s) (o := o) (by assumption)) | exact congrArg (fun z => z.2.2.2) (l26_0 (s := s) (o := o) (by assumption)) | exact l26d1 (by assumption) | exact l26d0 (by assumption))
          exact fin_is (PV.tup [(true, [dI ((((l26V s o).1).1).1), .ref 0, .ref 1, .ref 2, dS (((l26V s o).1).2.2.2)]), (false, [dB ((l26V s o).2)])]) [(0, some (.arr 146 (.pr (.sl 3 .int) (.sl 3 .int)) ((((l26V s o).1).1).2))), (1, some (.arr 129 (.pr .str .int) (((l26V s o).1).2.1))), (2, some (.arr 131 (.pr .int .bool) (((l26V s o).1).2.2.1)))] [(0, 22), (1, 23), (2, 24)] (Res.two rfl (Rs.cell rfl rfl tsh_50 rfl) (Rs.tmp rfl)) (show PV.tup [(true, [dI 0, .ref 22, .ref 23, .ref 24, dS ByteArray.empty]), (false, [dB false])] = PV.tup [(true, [dI ((((l26V s o).1).1).1), .ref 22, .ref 23, .ref 24, dS (((l26V s o).1).2.2.2)]), (false, [dB ((l26V s o).2)])] by exact (((congrArg (fun z_ => PV.tup [(true, [dI z_, .ref 22, .ref 23, .ref 24, dS ByteArray.empty]), (false, [dB false])]) e25)).trans (congrArg (fun z_ => PV.tup [(true, [dI ((((l26V s o).1).1).1), .ref 22, .ref 23, .ref 24, dS z_]), (false, [dB false])]) e26)).trans (congrArg (fun z_ => PV.tup [(true, [dI ((((l26V s o).1).1).1), .ref 22, .ref 23, .ref 24, dS (((l26V s o).1).2.2.2)]), (false, [dB z_])]) e27)) ⟨(show some (Ent.arr 146 (.pr (.sl 3 .int) (.sl 3 .int)) ([])) = some (Ent.arr 146 (.pr (.sl 3 .int) (.sl 3 .int)) ((((l26V s o).1).1).2)) from congrArg (fun z => some (Ent.arr 146 (.pr (.sl 3 .int) (.sl 3 .int)) z)) (by first | (rw [l26V_no (fun ⟨a1, ⟨a2, a3⟩, ⟨a4, a5⟩, a6⟩ => by have := stg_labels a1; first | exact absurd a1 (by assumption) | exact absurd (by assumption) a6 | omega)]; done) | (rw [l26V_no (fun ⟨a1, ⟨a2, a3⟩, ⟨a4, a5⟩, a6⟩ => by have := stg_labels a1; first | exact absurd a1 (by assumption) | exact absurd (by assumption) a6 | omega)]; rfl) | (rw [l26V_yes ⟨‹StgOk s›, by omega, by omega, by omega⟩]; first | done | rfl | exact congrArg (fun z => z.2.2.2) (l26_1 (s := s) (o := o) (by assumption)) | exact congrArg (fun z => z.2.2.2) (l26_0 (s := s) (o := o) (by assumption)) | exact l26d1 (by assumption) | exact l26d0 (by assumption)))), (show some (Ent.arr 129 (.pr .str .int) ([])) = some (Ent.arr 129 (.pr .str .int) (((l26V s o).1).2.1)) from congrArg (fun z => some (Ent.arr 129 (.pr .str .int) z)) (by first | (rw [l26V_no (fun ⟨a1, ⟨a2, a3⟩, ⟨a4, a5⟩, a6⟩ => by have := stg_labels a1; first | exact absurd a1 (by assumption) | exact absurd (by assumption) a6 | omega)]; done) | (rw [l26V_no (fun ⟨a1, ⟨a2, a3⟩, ⟨a4, a5⟩, a6⟩ => by have := stg_labels a1; first | exact absurd a1 (by assumption) | exact absurd (by assumption) a6 | omega)]; rfl) | (rw [l26V_yes ⟨‹StgOk s›, by omega, by omega, by omega⟩]; first | done | rfl | exact congrArg (fun z => z.2.2.2) (l26_1 (s := s) (o := o) (by assumption)) | exact congrArg (fun z => z.2.2.2) (l26_0 (s := s) (o := o) (by assumption)) | exact l26d1 (by assumption) | exact l26d0 (by assumption)))), (show some (Ent.arr 131 (.pr .int .bool) ([])) = some (Ent.arr 131 (.pr .int .bool) (((l26V s o).1).2.2.1)) from congrArg (fun z => some (Ent.arr 131 (.pr .int .bool) z)) (by first | (rw [l26V_no (fun ⟨a1, ⟨a2, a3⟩, ⟨a4, a5⟩, a6⟩ => by have := stg_labels a1; first | exact absurd a1 (by assumption) | exact absurd (by assumption) a6 | omega)]; done) | (rw [l26V_no (fun ⟨a1, ⟨a2, a3⟩, ⟨a4, a5⟩, a6⟩ => by have := stg_labels a1; first | exact absurd a1 (by assumption) | exact absurd (by assumption) a6 | omega)]; rfl) | (rw [l26V_yes ⟨‹StgOk s›, by omega, by omega, by omega⟩]; first | done | rfl | exact congrArg (fun z => z.2.2.2) (l26_1 (s := s) (o := o) (by assumption)) | exact congrArg (fun z => z.2.2.2) (l26_0 (s := s) (o := o) (by assumption)) | exact l26d1 (by assumption) | exact l26d0 (by assumption)))), trivial⟩ rfl rfl

theorem l26V_addV {s : DSTG} {o : DOrdering} [Decidable (StgOk s)] [Decidable (StgOk (addOrd s o))] (h : (l26V s o).2 = true) : (l26V s o).1 = (addV s o).1 ∧ true = (addV s o).2 := by
  unfold l26V addV at *
  split at h
  · rename_i h1
    rw [if_pos h1, if_pos h1]
    unfold stgIfV
    rw [if_pos (of_decide_eq_true h)]
    exact ⟨rfl, rfl⟩
  · cases h
theorem l26V_addV0 {s : DSTG} {o : DOrdering} [Decidable (StgOk s)] [Decidable (StgOk (addOrd s o))] (h : (l26V s o).2 = false) : addV s o = (zeroSTG, false) := by
  unfold l26V addV at *
  split at h
  · rename_i h1
    rw [if_pos h1]
    unfold stgIfV
    rw [if_neg (of_decide_eq_false h)]
  · rename_i h1
    rw [if_neg h1]

set_option maxRecDepth 100000 in
set_option maxHeartbeats 4000000 in
theorem fc_spec_AddOrdering (s : (Int × (List (List Int × List Int))) × (List (ByteArray × Int)) × (List (Int × Bool)) × ByteArray) (o : Int × Int × Bool) [Decidable (StgOk s)] [Decidable (StgOk (addOrd s o))] (hz : Ty.tot tSTG s ≤ 2000000) : FC Try.prog 15 [(true, [dI s.1.1, .dat (.sl 146 (.pr (.sl 3 .int) (.sl 3 .int))) s.1.2, .dat (.sl 129 (.pr .str .int)) s.2.1, .dat (.sl 131 (.pr .int .bool)) s.2.2.1, dS s.2.2.2]), (true, [dI o.1, dI o.2.1, dB o.2.2])] [] 0 (Is (PV.tup [(true, [dI ((((addV s o).1).1).1), .ref 0, .ref 1, .ref 2, dS (((addV s o).1).2.2.2)]), (false, [dB ((addV s o).2)])]) [(0, some (.arr 146 (.pr (.sl 3 .int) (.sl 3 .int)) ((((addV s o).1).1).2))), (1, some (.arr 129 (.pr .str .int) (((addV s o).1).2.1))), (2, some (.arr 131 (.pr .int .bool) (((addV s o).1).2.2.1)))]) := by
  obtain ⟨O_, hO⟩ : ∃ x : PV → Tab → Prop, x = Is (PV.tup [(true, [dI ((((addV s o).1).1).1), .ref 0, .ref 1, .ref 2, dS (((addV s o).1).2.2.2)]), (false, [dB ((addV s o).2)])]) [(0, some (.arr 146 (.pr (.sl 3 .int) (.sl 3 .int)) ((((addV s o).1).1).2))), (1, some (.arr 129 (.pr .str .int) (((addV s o).1).2.1))), (2, some (.arr 131 (.pr .int .bool) (((addV s o).1).2.2.1)))] := ⟨_, rfl⟩
  refine FC.O_of hO (FC.ren (FC.of Try.func15 rfl rfl fun A_ hn_ hk_ => ?_))
  obtain ⟨w0_, N0_, X_, n_, k0_, h0_, f0_⟩ := A_
  obtain rfl : n_ = 18 := hn_.trans Try.ntmps15
  obtain rfl : k0_ = 0 := hk_
  refine AC.fact (fact_ag (x := .tmp 0) (i := 0) (Ev.tmp rfl) rfl) fun hi1 => ?_
  refine AC.fact (fact_ag (x := .tmp 1) (i := 0) (Ev.tmp rfl) rfl) fun hi2 => ?_
  refine AC.fact (fact_ag (x := .tmp 1) (i := 1) (Ev.tmp rfl) rfl) fun hi3 => ?_
  refine AC.seq ?_
  refine AC.region ?_
  refine AL.cons rfl (Does.box 0 (Ev.tmp rfl) rfl rfl (Fresh.of rfl) (Nat.le_of_ble_eq_true rfl)) ?_
  refine AL.cons rfl (Does.box 1 (Ev.tmp rfl) rfl rfl (Fresh.of rfl) (Nat.le_of_ble_eq_true rfl)) ?_
  refine AL.cons rfl (Does.alloc 2 (.pr (.pr .int (.sl 146 (.pr (.sl 3 .int) (.sl 3 .int)))) (.pr (.sl 129 (.pr .str .int)) (.pr (.sl 131 (.pr .int .bool)) .str))) zer_50 rfl rfl (Fresh.of rfl) (Nat.le_of_ble_eq_true rfl)) ?_
  refine AL.cons rfl (Does.assignC Evl.bool rfl) ?_
  refine AL.nil ?_
  refine (?_ : AC _ _ _ _ _)
  refine AC.seq ?_
  refine AC.region ?_
  refine AL.cons rfl (Does.loadPA (Evl.tmp rfl) rfl tsh_50 rfl rfl) ?_
  refine AL.cons rfl (Does.loadPA (Evl.tmp rfl) rfl tsh_54 rfl rfl) ?_
  refine AL.cons rfl (Does.callG 3 (fc_spec_l26Add s o hz) enters_54 ⟨_, _, rfl, (Ev.tmp rfl), ⟨_, _, rfl, (Ev.tmp rfl), rfl⟩⟩ rfl rfl ⟨Fresh.of rfl, Fresh.of rfl, Fresh.of rfl, trivial⟩ (Nat.le_of_ble_eq_true rfl)) ?_
  refine AL.cons rfl (Does.move rfl rfl) ?_
  refine AL.cons rfl (Does.extract rfl rfl rfl) ?_
  refine AL.cons rfl (Does.extract rfl rfl rfl) ?_
  refine AL.cons rfl (Does.alloc 6 (.pr (.pr .int (.sl 146 (.pr (.sl 3 .int) (.sl 3 .int)))) (.pr (.sl 129 (.pr .str .int)) (.pr (.sl 131 (.pr .int .bool)) .str))) zer_50 rfl rfl (Fresh.of rfl) (Nat.le_of_ble_eq_true rfl)) ?_
  refine AL.cons rfl (Does.storeP (Evl.tmp rfl) rfl (Ev.tmp rfl) rfl tsh_50 rfl) ?_
  refine AL.cons rfl (Does.assign rfl rfl) ?_
  refine AL.nil ?_
  refine (?_ : AC _ _ _ _ _)
  refine AC.seq ?_
  refine AC.seq ?_
  refine AC.region ?_
  refine AL.cons rfl (Does.move rfl rfl) ?_
  refine AL.cons rfl (Does.not (Evl.tmp rfl) rfl) ?_
  refine AL.nil ?_
  refine (?_ : AC _ _ _ _ _)
  cases hb4 : ((l26V s o).2)
  · have _h := hb4
    refine AC.condT (Evl.tmp rfl) ?_
    refine AC.seq ?_
    refine AC.region ?_
    refine AL.cons rfl (Does.build bld_50 rfl (List.all_eq_true.1 rfl) rfl rfl) ?_
    refine AL.cons rfl (Does.storeP (Evl.tmp rfl) rfl (Ev.tmp rfl) rfl tsh_50 rfl) ?_
    refine AL.cons rfl (Does.assignC Evl.bool rfl) ?_
    refine AL.nil ?_
    refine (?_ : AC _ _ _ _ _)
    refine AC.wk (Wk.nilC 7 (p := 2) (off := 1) 146 (.pr (.sl 3 .int) (.sl 3 .int)) rfl rfl (Fresh.of rfl) (Nat.le_of_ble_eq_true rfl)) ?_
    refine AC.wk (Wk.nilC 8 (p := 2) (off := 2) 129 (.pr .str .int) rfl rfl (Fresh.of rfl) (Nat.le_of_ble_eq_true rfl)) ?_
    refine AC.wk (Wk.nilC 9 (p := 2) (off := 3) 131 (.pr .int .bool) rfl rfl (Fresh.of rfl) (Nat.le_of_ble_eq_true rfl)) ?_
    refine AC.ret ?_
    subst hO
    have e5 : (0 : Int) = (((addV s o).1).1).1 := by
      first | (rw [l26V_addV0 (by assumption)]; done) | (rw [l26V_addV0 (by assumption)]; rfl) | (rw [(l26V_addV (by assumption)).1]; done) | exact (l26V_addV (by assumption)).2
    have e6 : (ByteArray.empty : ByteArray) = ((addV s o).1).2.2.2 := by
      first | (rw [l26V_addV0 (by assumption)]; done) | (rw [l26V_addV0 (by assumption)]; rfl) | (rw [(l26V_addV (by assumption)).1]; done) | exact (l26V_addV (by assumption)).2
    have e7 : (false : Bool) = (addV s o).2 := by
      first | (rw [l26V_addV0 (by assumption)]; done) | (rw [l26V_addV0 (by assumption)]; rfl) | (rw [(l26V_addV (by assumption)).1]; done) | exact (l26V_addV (by assumption)).2
    exact fin_is (PV.tup [(true, [dI ((((addV s o).1).1).1), .ref 0, .ref 1, .ref 2, dS (((addV s o).1).2.2.2)]), (false, [dB ((addV s o).2)])]) [(0, some (.arr 146 (.pr (.sl 3 .int) (.sl 3 .int)) ((((addV s o).1).1).2))), (1, some (.arr 129 (.pr .str .int) (((addV s o).1).2.1))), (2, some (.arr 131 (.pr .int .bool) (((addV s o).1).2.2.1)))] [(0, 7), (1, 8), (2, 9)] (Res.two rfl (Rs.cell rfl rfl tsh_50 rfl) (Rs.tmp rfl)) (show PV.tup [(true, [dI 0, .ref 7, .ref 8, .ref 9, dS ByteArray.empty]), (false, [dB false])] = PV.tup [(true, [dI ((((addV s o).1).1).1), .ref 7, .ref 8, .ref 9, dS (((addV s o).1).2.2.2)]), (false, [dB ((addV s o).2)])] by exact (((congrArg (fun z_ => PV.tup [(true, [dI z_, .ref 7, .ref 8, .ref 9, dS ByteArray.empty]), (false, [dB false])]) e5)).trans (congrArg (fun z_ => PV.tup [(true, [dI ((((addV s o).1).1).1), .ref 7, .ref 8, .ref 9, dS z_]), (false, [dB false])]) e6)).trans (congrArg (fun z_ => PV.tup [(true, [dI ((((addV s o).1).1).1), .ref 7, .ref 8, .ref 9, dS (((addV s o).1).2.2.2)]), (false, [dB z_])]) e7)) ⟨(show some (Ent.arr 146 (.pr (.sl 3 .int) (.sl 3 .int)) ([])) = some (Ent.arr 146 (.pr (.sl 3 .int) (.sl 3 .int)) ((((addV s o).1).1).2)) from congrArg (fun z => some (Ent.arr 146 (.pr (.sl 3 .int) (.sl 3 .int)) z)) (by first | (rw [l26V_addV0 (by assumption)]; done) | (rw [l26V_addV0 (by assumption)]; rfl) | (rw [(l26V_addV (by assumption)).1]; done) | exact (l26V_addV (by assumption)).2)), (show some (Ent.arr 129 (.pr .str .int) ([])) = some (Ent.arr 129 (.pr .str .int) (((addV s o).1).2.1)) from congrArg (fun z => some (Ent.arr 129 (.pr .str .int) z)) (by first | (rw [l26V_addV0 (by assumption)]; done) | (rw [l26V_addV0 (by assumption)]; rfl) | (rw [(l26V_addV (by assumption)).1]; done) | exact (l26V_addV (by assumption)).2)), (show some (Ent.arr 131 (.pr .int .bool) ([])) = some (Ent.arr 131 (.pr .int .bool) (((addV s o).1).2.2.1)) from congrArg (fun z => some (Ent.arr 131 (.pr .int .bool) z)) (by first | (rw [l26V_addV0 (by assumption)]; done) | (rw [l26V_addV0 (by assumption)]; rfl) | (rw [(l26V_addV (by assumption)).1]; done) | exact (l26V_addV (by assumption)).2)), trivial⟩ rfl rfl
  · have _h := hb4
    refine AC.condF (Evl.tmp rfl) ?_
    refine AC.skip ?_
    refine (?_ : AC _ _ _ _ _)
    refine AC.seq ?_
    refine AC.region ?_
    refine AL.cons rfl (Does.loadPA (Evl.tmp rfl) rfl tsh_50 rfl rfl) ?_
    refine AL.cons rfl (Does.storeP (Evl.tmp rfl) rfl (Ev.tmp rfl) rfl tsh_50 rfl) ?_
    refine AL.cons rfl (Does.assignC Evl.bool rfl) ?_
    refine AL.nil ?_
    refine (?_ : AC _ _ _ _ _)
    refine AC.ret ?_
    subst hO
    have e8 : ((((l26V s o).1).1).1 : Int) = (((addV s o).1).1).1 := by
      first | (rw [l26V_addV0 (by assumption)]; done) | (rw [l26V_addV0 (by assumption)]; rfl) | (rw [(l26V_addV (by assumption)).1]; done) | exact (l26V_addV (by assumption)).2
    have e9 : (((l26V s o).1).2.2.2 : ByteArray) = ((addV s o).1).2.2.2 := by
      first | (rw [l26V_addV0 (by assumption)]; done) | (rw [l26V_addV0 (by assumption)]; rfl) | (rw [(l26V_addV (by assumption)).1]; done) | exact (l26V_addV (by assumption)).2
    have e10 : (true : Bool) = (addV s o).2 := by
      first | (rw [l26V_addV0 (by assumption)]; done) | (rw [l26V_addV0 (by assumption)]; rfl) | (rw [(l26V_addV (by assumption)).1]; done) | exact (l26V_addV (by assumption)).2
    exact fin_is (PV.tup [(true, [dI ((((addV s o).1).1).1), .ref 0, .ref 1, .ref 2, dS (((addV s o).1).2.2.2)]), (false, [dB ((addV s o).2)])]) [(0, some (.arr 146 (.pr (.sl 3 .int) (.sl 3 .int)) ((((addV s o).1).1).2))), (1, some (.arr 129 (.pr .str .int) (((addV s o).1).2.1))), (2, some (.arr 131 (.pr .int .bool) (((addV s o).1).2.2.1)))] [(0, 3), (1, 4), (2, 5)] (Res.two rfl (Rs.cell rfl rfl tsh_50 rfl) (Rs.tmp rfl)) (show PV.tup [(true, [dI ((((l26V s o).1).1).1), .ref 3, .ref 4, .ref 5, dS (((l26V s o).1).2.2.2)]), (false, [dB true])] = PV.tup [(true, [dI ((((addV s o).1).1).1), .ref 3, .ref 4, .ref 5, dS (((addV s o).1).2.2.2)]), (false, [dB ((addV s o).2)])] by exact (((congrArg (fun z_ => PV.tup [(true, [dI z_, .ref 3, .ref 4, .ref 5, dS (((l26V s o).1).2.2.2)]), (false, [dB true])]) e8)).trans (congrArg (fun z_ => PV.tup [(true, [dI ((((addV s o).1).1).1), .ref 3, .ref 4, .ref 5, dS z_]), (false, [dB true])]) e9)).trans (congrArg (fun z_ => PV.tup [(true, [dI ((((addV s o).1).1).1), .ref 3, .ref 4, .ref 5, dS (((addV s o).1).2.2.2)]), (false, [dB z_])]) e10)) ⟨(show some (Ent.arr 146 (.pr (.sl 3 .int) (.sl 3 .int)) ((((l26V s o).1).1).2)) = some (Ent.arr 146 (.pr (.sl 3 .int) (.sl 3 .int)) ((((addV s o).1).1).2)) from congrArg (fun z => some (Ent.arr 146 (.pr (.sl 3 .int) (.sl 3 .int)) z)) (by first | (rw [l26V_addV0 (by assumption)]; done) | (rw [l26V_addV0 (by assumption)]; rfl) | (rw [(l26V_addV (by assumption)).1]; done) | exact (l26V_addV (by assumption)).2)), (show some (Ent.arr 129 (.pr .str .int) (((l26V s o).1).2.1)) = some (Ent.arr 129 (.pr .str .int) (((addV s o).1).2.1)) from congrArg (fun z => some (Ent.arr 129 (.pr .str .int) z)) (by first | (rw [l26V_addV0 (by assumption)]; done) | (rw [l26V_addV0 (by assumption)]; rfl) | (rw [(l26V_addV (by assumption)).1]; done) | exact (l26V_addV (by assumption)).2)), (show some (Ent.arr 131 (.pr .int .bool) (((l26V s o).1).2.2.1)) = some (Ent.arr 131 (.pr .int .bool) (((addV s o).1).2.2.1)) from congrArg (fun z => some (Ent.arr 131 (.pr .int .bool) z)) (by first | (rw [l26V_addV0 (by assumption)]; done) | (rw [l26V_addV0 (by assumption)]; rfl) | (rw [(l26V_addV (by assumption)).1]; done) | exact (l26V_addV (by assumption)).2)), trivial⟩ rfl rfl

end Go.Proofs.Ytbelopdphlllnaa
