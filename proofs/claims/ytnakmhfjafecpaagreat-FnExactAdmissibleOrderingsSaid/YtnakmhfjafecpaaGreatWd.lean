/- Walks over abstract states: orderings added, the two functions. -/
import Derived.Test.YtnakmhfjafecpaaGreatWb
set_option linter.unusedSimpArgs false
set_option linter.unusedVariables false
set_option linter.unusedSectionVars false
namespace Go.Proofs.YtnakmhfjafecpaaGreat
open Go.RowKit
set_option maxRecDepth 100000
set_option maxHeartbeats 4000000

/-- What an ordering must be. -/
def OrdOk (s : DSTG) (o : DOrdering) : Prop := StgOk s ∧ (0 ≤ o.1 ∧ o.1 < s.1.2.length) ∧ (0 ≤ o.2.1 ∧ o.2.1 < s.1.2.length) ∧ o.1 ≠ o.2.1
instance (s : DSTG) (o : DOrdering) [Decidable (StgOk s)] : Decidable (OrdOk s o) := inferInstanceAs (Decidable (_ ∧ _))
def addV (s : DSTG) (o : DOrdering) [Decidable (StgOk s)] [Decidable (StgOk (addOrd s o))] : DSTG × Bool := if OrdOk s o then stgIfV (addOrd s o) else (zeroSTG, false)
def l26V (s : DSTG) (o : DOrdering) [Decidable (StgOk s)] [Decidable (StgOk (addOrd s o))] : DSTG × Bool := if OrdOk s o then (addOrd s o, decide (StgOk (addOrd s o))) else (zeroSTG, false)
theorem stg_labels {s : DSTG} (h : StgOk s) : s.1.2.length = s.2.2.1.length := h.len.symm
theorem stg_places {s : DSTG} (h : StgOk s) : 1 ≤ s.1.1 ∧ s.1.1 ≤ 30 := h.net.1
section
variable {s : DSTG} {o : DOrdering} [Decidable (StgOk s)] [Decidable (StgOk (addOrd s o))]
theorem addV_no (h : ¬ OrdOk s o) : addV s o = (zeroSTG, false) := if_neg h
theorem addV_yes (h : OrdOk s o) : addV s o = stgIfV (addOrd s o) := if_pos h
theorem l26V_no (h : ¬ OrdOk s o) : l26V s o = (zeroSTG, false) := if_neg h
theorem l26V_yes (h : OrdOk s o) : l26V s o = (addOrd s o, decide (StgOk (addOrd s o))) := if_pos h
end
theorem l26_1 {s : DSTG} {o : DOrdering} (h : o.2.2 = true) : (((s.1.1 + 1, addT s.1.2 o.1.toNat o.2.1.toNat s.1.1), s.2.1, s.2.2.1, s.2.2.2 ++ (⟨#[49]⟩ : ByteArray)) : DSTG) = addOrd s o := by simp [addOrd, bitS, h]
theorem l26_0 {s : DSTG} {o : DOrdering} (h : o.2.2 = false) : (((s.1.1 + 1, addT s.1.2 o.1.toNat o.2.1.toNat s.1.1), s.2.1, s.2.2.1, s.2.2.2 ++ (⟨#[48]⟩ : ByteArray)) : DSTG) = addOrd s o := by simp [addOrd, bitS, h]
theorem l26d1 {s : DSTG} {o : DOrdering} (h : o.2.2 = true) [Decidable (StgOk (((s.1.1 + 1, addT s.1.2 o.1.toNat o.2.1.toNat s.1.1), s.2.1, s.2.2.1, s.2.2.2 ++ (⟨#[49]⟩ : ByteArray)) : DSTG))] [Decidable (StgOk (addOrd s o))] : decide (StgOk (((s.1.1 + 1, addT s.1.2 o.1.toNat o.2.1.toNat s.1.1), s.2.1, s.2.2.1, s.2.2.2 ++ (⟨#[49]⟩ : ByteArray)) : DSTG)) = decide (StgOk (addOrd s o)) := decide_eq_decide.2 (by rw [l26_1 h])
theorem l26d0 {s : DSTG} {o : DOrdering} (h : o.2.2 = false) [Decidable (StgOk (((s.1.1 + 1, addT s.1.2 o.1.toNat o.2.1.toNat s.1.1), s.2.1, s.2.2.1, s.2.2.2 ++ (⟨#[48]⟩ : ByteArray)) : DSTG))] [Decidable (StgOk (addOrd s o))] : decide (StgOk (((s.1.1 + 1, addT s.1.2 o.1.toNat o.2.1.toNat s.1.1), s.2.1, s.2.2.1, s.2.2.2 ++ (⟨#[48]⟩ : ByteArray)) : DSTG)) = decide (StgOk (addOrd s o)) := decide_eq_decide.2 (by rw [l26_0 h])

theorem fc_impl_AddOrdering (s : (Int × (List (List Int × List Int))) × (List (ByteArray × Int)) × (List (Int × Bool)) × ByteArray) (o : Int × Int × Bool) [Decidable (StgOk s)] [Decidable (StgOk (addOrd s o))] (hz : Ty.tot tSTG s ≤ 2000000) : FC Tryz.prog 174 [(true, [dI s.1.1, .dat (.sl 159 (.pr (.sl 3 .int) (.sl 3 .int))) s.1.2, .dat (.sl 145 (.pr .str .int)) s.2.1, .dat (.sl 61 (.pr .int .bool)) s.2.2.1, dS s.2.2.2]), (true, [dI o.1, dI o.2.1, dB o.2.2])] [] 0 (Is (PV.tup [(true, [dI ((((addV s o).1).1).1), .ref 0, .ref 1, .ref 2, dS (((addV s o).1).2.2.2)]), (false, [dB ((addV s o).2)])]) [(0, some (.arr 159 (.pr (.sl 3 .int) (.sl 3 .int)) ((((addV s o).1).1).2))), (1, some (.arr 145 (.pr .str .int) (((addV s o).1).2.1))), (2, some (.arr 61 (.pr .int .bool) (((addV s o).1).2.2.1)))]) := by
 refine FC.go Tryz.func174 rfl rfl Tryz.ntmps174 fun O_ hO w0_ N0_ X_ h0_ f0_ => ?_
 refine AC.fact (fact_ag (x := .tmp 0) (i := 0) (Ev.tmp rfl) rfl) fun hi1 => AC.fact (fact_ag (x := .tmp 1) (i := 0) (Ev.tmp rfl) rfl) fun hi2 => AC.fact (fact_ag (x := .tmp 1) (i := 1) (Ev.tmp rfl) rfl) fun hi3 => ?_
 refine w_ ?_
 refine lc (Does.box 0 (Ev.tmp rfl) rfl rfl (Fresh.of rfl) (nlr rfl)) <| lc (Does.box 1 (Ev.tmp rfl) rfl rfl (Fresh.of rfl) (nlr rfl)) <| lc (Does.alloc 2 (.pr (.pr .int (.sl 159 (.pr (.sl 3 .int) (.sl 3 .int)))) (.pr (.sl 145 (.pr .str .int)) (.pr (.sl 61 (.pr .int .bool)) .str))) zer_39 rfl rfl (Fresh.of rfl) (nlr rfl)) ?_
 iterate 5 refine w_ ?_
 refine AL.fact (fact_len (x := .tmp 8) (Evl.tmp rfl)) fun hl4 => ?_
 iterate 7 refine w_ ?_
 refine lc (Does.call (fc_impl_IsValidSTG s) enters_190 ⟨_, _, rfl, (Ev.tmp rfl), rfl⟩ rfl rfl) ?_
 iterate 2 refine w_ ?_
 cases hb5 : (decide (StgOk s))
 ·have hb5' := of_decide_eq_false hb5
  iterate 23 refine w_ ?_
  refine lc (Does.build bld_39 rfl (List.all_eq_true.1 rfl) rfl rfl) <| lc (Does.storeP (Evl.tmp rfl) rfl (Ev.tmp rfl) rfl tsh_39 rfl) ?_
  iterate 2 refine w_ ?_
  refine AC.wk (Wk.nilC 3 (p := 2) (off := 1) 159 (.pr (.sl 3 .int) (.sl 3 .int)) rfl rfl (Fresh.of rfl) (nlr rfl)) <| AC.wk (Wk.nilC 4 (p := 2) (off := 2) 145 (.pr .str .int) rfl rfl (Fresh.of rfl) (nlr rfl)) <| AC.wk (Wk.nilC 5 (p := 2) (off := 3) 61 (.pr .int .bool) rfl rfl (Fresh.of rfl) (nlr rfl)) <| AC.ret ?_
  subst hO
  have e6 : (0 : Int) = ((((addV s o).1).1).1) := by
   (rw [addV_no (fun ⟨a1, ⟨a2, a3⟩, ⟨a4, a5⟩, a6⟩ => by have := stg_labels a1; first | exact absurd a1 (by assumption) | exact absurd (by assumption) a6 | omega)]; rfl)
  have e7 : (ByteArray.empty : ByteArray) = (((addV s o).1).2.2.2) := by
   (rw [addV_no (fun ⟨a1, ⟨a2, a3⟩, ⟨a4, a5⟩, a6⟩ => by have := stg_labels a1; first | exact absurd a1 (by assumption) | exact absurd (by assumption) a6 | omega)]; rfl)
  have e8 : (false : Bool) = ((addV s o).2) := by
   (rw [addV_no (fun ⟨a1, ⟨a2, a3⟩, ⟨a4, a5⟩, a6⟩ => by have := stg_labels a1; first | exact absurd a1 (by assumption) | exact absurd (by assumption) a6 | omega)]; done)
  exact fin_is _ _ [(0, 3), (1, 4), (2, 5)] (Res.two rfl (Rs.cell rfl rfl tsh_39 rfl) (Rs.tmp rfl)) ((((congrArg (fun z_ => PV.tup [(true, [dI z_, .ref 3, .ref 4, .ref 5, dS ByteArray.empty]), (false, [dB false])]) e6)).trans (congrArg (fun z_ => PV.tup [(true, [dI ((((addV s o).1).1).1), .ref 3, .ref 4, .ref 5, dS z_]), (false, [dB false])]) e7)).trans (congrArg (fun z_ => PV.tup [(true, [dI ((((addV s o).1).1).1), .ref 3, .ref 4, .ref 5, dS (((addV s o).1).2.2.2)]), (false, [dB z_])]) e8)) ⟨(entE (by (rw [addV_no (fun ⟨a1, ⟨a2, a3⟩, ⟨a4, a5⟩, a6⟩ => by have := stg_labels a1; first | exact absurd a1 (by assumption) | exact absurd (by assumption) a6 | omega)]; rfl))), (entE (by (rw [addV_no (fun ⟨a1, ⟨a2, a3⟩, ⟨a4, a5⟩, a6⟩ => by have := stg_labels a1; first | exact absurd a1 (by assumption) | exact absurd (by assumption) a6 | omega)]; rfl))), (entE (by (rw [addV_no (fun ⟨a1, ⟨a2, a3⟩, ⟨a4, a5⟩, a6⟩ => by have := stg_labels a1; first | exact absurd a1 (by assumption) | exact absurd (by assumption) a6 | omega)]; rfl))), trivial⟩ rfl rfl
 ·have hb5' := of_decide_eq_true hb5
  iterate 3 refine w_ ?_
  refine lgy rfl rfl (Does.call (fc_impl_within o.1 0 ((s.2.2.1.length : Int) - 1)) enters_154 ⟨_, _, rfl, (Ev.tmp rfl), ⟨_, _, rfl, (Evl.ev (Evl.int rfl)), ⟨_, _, rfl, (Ev.tmp rfl), rfl⟩⟩⟩ rfl rfl) ?_
  iterate 3 refine w_ ?_
  cases hb9 : (decide (0 ≤ o.1 ∧ o.1 ≤ ((s.2.2.1.length : Int) - 1)))
  ·have hb9' := of_decide_eq_false hb9
   iterate 16 refine w_ ?_
   refine lc (Does.build bld_39 rfl (List.all_eq_true.1 rfl) rfl rfl) <| lc (Does.storeP (Evl.tmp rfl) rfl (Ev.tmp rfl) rfl tsh_39 rfl) ?_
   iterate 2 refine w_ ?_
   refine AC.wk (Wk.nilC 6 (p := 2) (off := 1) 159 (.pr (.sl 3 .int) (.sl 3 .int)) rfl rfl (Fresh.of rfl) (nlr rfl)) <| AC.wk (Wk.nilC 7 (p := 2) (off := 2) 145 (.pr .str .int) rfl rfl (Fresh.of rfl) (nlr rfl)) <| AC.wk (Wk.nilC 8 (p := 2) (off := 3) 61 (.pr .int .bool) rfl rfl (Fresh.of rfl) (nlr rfl)) <| AC.ret ?_
   subst hO
   have e10 : (0 : Int) = ((((addV s o).1).1).1) := by
    (rw [addV_no (fun ⟨a1, ⟨a2, a3⟩, ⟨a4, a5⟩, a6⟩ => by have := stg_labels a1; first | exact absurd a1 (by assumption) | exact absurd (by assumption) a6 | omega)]; rfl)
   have e11 : (ByteArray.empty : ByteArray) = (((addV s o).1).2.2.2) := by
    (rw [addV_no (fun ⟨a1, ⟨a2, a3⟩, ⟨a4, a5⟩, a6⟩ => by have := stg_labels a1; first | exact absurd a1 (by assumption) | exact absurd (by assumption) a6 | omega)]; rfl)
   have e12 : (false : Bool) = ((addV s o).2) := by
    (rw [addV_no (fun ⟨a1, ⟨a2, a3⟩, ⟨a4, a5⟩, a6⟩ => by have := stg_labels a1; first | exact absurd a1 (by assumption) | exact absurd (by assumption) a6 | omega)]; done)
   exact fin_is _ _ [(0, 6), (1, 7), (2, 8)] (Res.two rfl (Rs.cell rfl rfl tsh_39 rfl) (Rs.tmp rfl)) ((((congrArg (fun z_ => PV.tup [(true, [dI z_, .ref 6, .ref 7, .ref 8, dS ByteArray.empty]), (false, [dB false])]) e10)).trans (congrArg (fun z_ => PV.tup [(true, [dI ((((addV s o).1).1).1), .ref 6, .ref 7, .ref 8, dS z_]), (false, [dB false])]) e11)).trans (congrArg (fun z_ => PV.tup [(true, [dI ((((addV s o).1).1).1), .ref 6, .ref 7, .ref 8, dS (((addV s o).1).2.2.2)]), (false, [dB z_])]) e12)) ⟨(entE (by (rw [addV_no (fun ⟨a1, ⟨a2, a3⟩, ⟨a4, a5⟩, a6⟩ => by have := stg_labels a1; first | exact absurd a1 (by assumption) | exact absurd (by assumption) a6 | omega)]; rfl))), (entE (by (rw [addV_no (fun ⟨a1, ⟨a2, a3⟩, ⟨a4, a5⟩, a6⟩ => by have := stg_labels a1; first | exact absurd a1 (by assumption) | exact absurd (by assumption) a6 | omega)]; rfl))), (entE (by (rw [addV_no (fun ⟨a1, ⟨a2, a3⟩, ⟨a4, a5⟩, a6⟩ => by have := stg_labels a1; first | exact absurd a1 (by assumption) | exact absurd (by assumption) a6 | omega)]; rfl))), trivial⟩ rfl rfl
  ·have hb9' := of_decide_eq_true hb9
   iterate 3 refine w_ ?_
   refine lgy rfl rfl (Does.call (fc_impl_within o.2.1 0 ((s.2.2.1.length : Int) - 1)) enters_154 ⟨_, _, rfl, (Ev.tmp rfl), ⟨_, _, rfl, (Evl.ev (Evl.int rfl)), ⟨_, _, rfl, (Ev.tmp rfl), rfl⟩⟩⟩ rfl rfl) ?_
   iterate 3 refine w_ ?_
   cases hb13 : (decide (0 ≤ o.2.1 ∧ o.2.1 ≤ ((s.2.2.1.length : Int) - 1)))
   ·have hb13' := of_decide_eq_false hb13
    iterate 9 refine w_ ?_
    refine lc (Does.build bld_39 rfl (List.all_eq_true.1 rfl) rfl rfl) <| lc (Does.storeP (Evl.tmp rfl) rfl (Ev.tmp rfl) rfl tsh_39 rfl) ?_
    iterate 2 refine w_ ?_
    refine AC.wk (Wk.nilC 9 (p := 2) (off := 1) 159 (.pr (.sl 3 .int) (.sl 3 .int)) rfl rfl (Fresh.of rfl) (nlr rfl)) <| AC.wk (Wk.nilC 10 (p := 2) (off := 2) 145 (.pr .str .int) rfl rfl (Fresh.of rfl) (nlr rfl)) <| AC.wk (Wk.nilC 11 (p := 2) (off := 3) 61 (.pr .int .bool) rfl rfl (Fresh.of rfl) (nlr rfl)) <| AC.ret ?_
    subst hO
    have e14 : (0 : Int) = ((((addV s o).1).1).1) := by
     (rw [addV_no (fun ⟨a1, ⟨a2, a3⟩, ⟨a4, a5⟩, a6⟩ => by have := stg_labels a1; first | exact absurd a1 (by assumption) | exact absurd (by assumption) a6 | omega)]; rfl)
    have e15 : (ByteArray.empty : ByteArray) = (((addV s o).1).2.2.2) := by
     (rw [addV_no (fun ⟨a1, ⟨a2, a3⟩, ⟨a4, a5⟩, a6⟩ => by have := stg_labels a1; first | exact absurd a1 (by assumption) | exact absurd (by assumption) a6 | omega)]; rfl)
    have e16 : (false : Bool) = ((addV s o).2) := by
     (rw [addV_no (fun ⟨a1, ⟨a2, a3⟩, ⟨a4, a5⟩, a6⟩ => by have := stg_labels a1; first | exact absurd a1 (by assumption) | exact absurd (by assumption) a6 | omega)]; done)
    exact fin_is _ _ [(0, 9), (1, 10), (2, 11)] (Res.two rfl (Rs.cell rfl rfl tsh_39 rfl) (Rs.tmp rfl)) ((((congrArg (fun z_ => PV.tup [(true, [dI z_, .ref 9, .ref 10, .ref 11, dS ByteArray.empty]), (false, [dB false])]) e14)).trans (congrArg (fun z_ => PV.tup [(true, [dI ((((addV s o).1).1).1), .ref 9, .ref 10, .ref 11, dS z_]), (false, [dB false])]) e15)).trans (congrArg (fun z_ => PV.tup [(true, [dI ((((addV s o).1).1).1), .ref 9, .ref 10, .ref 11, dS (((addV s o).1).2.2.2)]), (false, [dB z_])]) e16)) ⟨(entE (by (rw [addV_no (fun ⟨a1, ⟨a2, a3⟩, ⟨a4, a5⟩, a6⟩ => by have := stg_labels a1; first | exact absurd a1 (by assumption) | exact absurd (by assumption) a6 | omega)]; rfl))), (entE (by (rw [addV_no (fun ⟨a1, ⟨a2, a3⟩, ⟨a4, a5⟩, a6⟩ => by have := stg_labels a1; first | exact absurd a1 (by assumption) | exact absurd (by assumption) a6 | omega)]; rfl))), (entE (by (rw [addV_no (fun ⟨a1, ⟨a2, a3⟩, ⟨a4, a5⟩, a6⟩ => by have := stg_labels a1; first | exact absurd a1 (by assumption) | exact absurd (by assumption) a6 | omega)]; rfl))), trivial⟩ rfl rfl
   ·have hb13' := of_decide_eq_true hb13
    iterate 7 refine w_ ?_
    cases hb17 : (decide (o.1 = o.2.1))
    ·have hb17' := of_decide_eq_false hb17
     iterate 5 refine w_ ?_
     refine lc (Does.callG 12 (fc_impl_ordered s o hz (by have := stg_labels ‹StgOk s›; omega) (by have := stg_labels ‹StgOk s›; omega) (by omega) (stg_places ‹StgOk s›)) enters_178 ⟨_, _, rfl, (Ev.tmp rfl), ⟨_, _, rfl, (Ev.tmp rfl), rfl⟩⟩ rfl rfl ⟨Fresh.of rfl, Fresh.of rfl, Fresh.of rfl, trivial⟩ (nlr rfl)) <| lc (Does.callP 15 [(0, 12), (1, 13), (2, 14)] (fc_impl_stgIf (addOrd s o)) enters_242 ⟨_, _, rfl, (Ev.tmp rfl), rfl⟩ ⟨rfl, rfl, rfl, trivial⟩ rfl ⟨(Fresh.of rfl), (Fresh.of rfl), (Fresh.of rfl), trivial⟩ (nlr rfl)) ?_
     iterate 2 refine w_ ?_
     refine lc (Does.storeP (Evl.tmp rfl) rfl (Ev.tmp rfl) rfl tsh_39 rfl) ?_
     iterate 2 refine w_ ?_
     refine AC.ret ?_
     subst hO
     have e18 : ((((stgIfV (addOrd s o)).1).1).1 : Int) = ((((addV s o).1).1).1) := by
      (rw [addV_yes ⟨‹StgOk s›, by have := stg_labels ‹StgOk s›; omega, by have := stg_labels ‹StgOk s›; omega, by omega⟩])
     have e19 : (((stgIfV (addOrd s o)).1).2.2.2 : ByteArray) = (((addV s o).1).2.2.2) := by
      (rw [addV_yes ⟨‹StgOk s›, by have := stg_labels ‹StgOk s›; omega, by have := stg_labels ‹StgOk s›; omega, by omega⟩])
     have e20 : ((stgIfV (addOrd s o)).2 : Bool) = ((addV s o).2) := by
      (rw [addV_yes ⟨‹StgOk s›, by have := stg_labels ‹StgOk s›; omega, by have := stg_labels ‹StgOk s›; omega, by omega⟩])
     exact fin_is _ _ [(0, 15), (1, 16), (2, 17)] (Res.two rfl (Rs.cell rfl rfl tsh_39 rfl) (Rs.tmp rfl)) ((((congrArg (fun z_ => PV.tup [(true, [dI z_, .ref 15, .ref 16, .ref 17, dS (((stgIfV (addOrd s o)).1).2.2.2)]), (false, [dB ((stgIfV (addOrd s o)).2)])]) e18)).trans (congrArg (fun z_ => PV.tup [(true, [dI ((((addV s o).1).1).1), .ref 15, .ref 16, .ref 17, dS z_]), (false, [dB ((stgIfV (addOrd s o)).2)])]) e19)).trans (congrArg (fun z_ => PV.tup [(true, [dI ((((addV s o).1).1).1), .ref 15, .ref 16, .ref 17, dS (((addV s o).1).2.2.2)]), (false, [dB z_])]) e20)) ⟨(entE (by (rw [addV_yes ⟨‹StgOk s›, by have := stg_labels ‹StgOk s›; omega, by have := stg_labels ‹StgOk s›; omega, by omega⟩]))), (entE (by (rw [addV_yes ⟨‹StgOk s›, by have := stg_labels ‹StgOk s›; omega, by have := stg_labels ‹StgOk s›; omega, by omega⟩]))), (entE (by (rw [addV_yes ⟨‹StgOk s›, by have := stg_labels ‹StgOk s›; omega, by have := stg_labels ‹StgOk s›; omega, by omega⟩]))), trivial⟩ rfl rfl
    ·have hb17' := of_decide_eq_true hb17
     iterate 2 refine w_ ?_
     refine lc (Does.build bld_39 rfl (List.all_eq_true.1 rfl) rfl rfl) <| lc (Does.storeP (Evl.tmp rfl) rfl (Ev.tmp rfl) rfl tsh_39 rfl) ?_
     iterate 2 refine w_ ?_
     refine AC.wk (Wk.nilC 18 (p := 2) (off := 1) 159 (.pr (.sl 3 .int) (.sl 3 .int)) rfl rfl (Fresh.of rfl) (nlr rfl)) <| AC.wk (Wk.nilC 19 (p := 2) (off := 2) 145 (.pr .str .int) rfl rfl (Fresh.of rfl) (nlr rfl)) <| AC.wk (Wk.nilC 20 (p := 2) (off := 3) 61 (.pr .int .bool) rfl rfl (Fresh.of rfl) (nlr rfl)) <| AC.ret ?_
     subst hO
     have e21 : (0 : Int) = ((((addV s o).1).1).1) := by
      (rw [addV_no (fun ⟨a1, ⟨a2, a3⟩, ⟨a4, a5⟩, a6⟩ => by have := stg_labels a1; first | exact absurd a1 (by assumption) | exact absurd (by assumption) a6 | omega)]; rfl)
     have e22 : (ByteArray.empty : ByteArray) = (((addV s o).1).2.2.2) := by
      (rw [addV_no (fun ⟨a1, ⟨a2, a3⟩, ⟨a4, a5⟩, a6⟩ => by have := stg_labels a1; first | exact absurd a1 (by assumption) | exact absurd (by assumption) a6 | omega)]; rfl)
     have e23 : (false : Bool) = ((addV s o).2) := by
      (rw [addV_no (fun ⟨a1, ⟨a2, a3⟩, ⟨a4, a5⟩, a6⟩ => by have := stg_labels a1; first | exact absurd a1 (by assumption) | exact absurd (by assumption) a6 | omega)]; done)
     exact fin_is _ _ [(0, 18), (1, 19), (2, 20)] (Res.two rfl (Rs.cell rfl rfl tsh_39 rfl) (Rs.tmp rfl)) ((((congrArg (fun z_ => PV.tup [(true, [dI z_, .ref 18, .ref 19, .ref 20, dS ByteArray.empty]), (false, [dB false])]) e21)).trans (congrArg (fun z_ => PV.tup [(true, [dI ((((addV s o).1).1).1), .ref 18, .ref 19, .ref 20, dS z_]), (false, [dB false])]) e22)).trans (congrArg (fun z_ => PV.tup [(true, [dI ((((addV s o).1).1).1), .ref 18, .ref 19, .ref 20, dS (((addV s o).1).2.2.2)]), (false, [dB z_])]) e23)) ⟨(entE (by (rw [addV_no (fun ⟨a1, ⟨a2, a3⟩, ⟨a4, a5⟩, a6⟩ => by have := stg_labels a1; first | exact absurd a1 (by assumption) | exact absurd (by assumption) a6 | omega)]; rfl))), (entE (by (rw [addV_no (fun ⟨a1, ⟨a2, a3⟩, ⟨a4, a5⟩, a6⟩ => by have := stg_labels a1; first | exact absurd a1 (by assumption) | exact absurd (by assumption) a6 | omega)]; rfl))), (entE (by (rw [addV_no (fun ⟨a1, ⟨a2, a3⟩, ⟨a4, a5⟩, a6⟩ => by have := stg_labels a1; first | exact absurd a1 (by assumption) | exact absurd (by assumption) a6 | omega)]; rfl))), trivial⟩ rfl rfl

theorem set6b {α : Type _} {c : List α} {p q : Nat} (h : p ≠ q) (a a' x b b' y : α) : ((((((c.set p a).set p a').set p x).set q b).set q b').set q y) = (c.set p x).set q y := by
  apply List.ext_getElem?
  intro i
  simp only [List.getElem?_set, List.length_set]
  split <;> split <;> simp_all

theorem fc_spec_l26Add (s : (Int × (List (List Int × List Int))) × (List (ByteArray × Int)) × (List (Int × Bool)) × ByteArray) (o : Int × Int × Bool) [Decidable (StgOk s)] [Decidable (StgOk (addOrd s o))] (hz : Ty.tot tSTG s ≤ 2000000) : FC Tryz.prog 176 [(true, [dI s.1.1, .dat (.sl 159 (.pr (.sl 3 .int) (.sl 3 .int))) s.1.2, .dat (.sl 145 (.pr .str .int)) s.2.1, .dat (.sl 61 (.pr .int .bool)) s.2.2.1, dS s.2.2.2]), (true, [dI o.1, dI o.2.1, dB o.2.2])] [] 0 (Is (PV.tup [(true, [dI ((((l26V s o).1).1).1), .ref 0, .ref 1, .ref 2, dS (((l26V s o).1).2.2.2)]), (false, [dB ((l26V s o).2)])]) [(0, some (.arr 159 (.pr (.sl 3 .int) (.sl 3 .int)) ((((l26V s o).1).1).2))), (1, some (.arr 145 (.pr .str .int) (((l26V s o).1).2.1))), (2, some (.arr 61 (.pr .int .bool) (((l26V s o).1).2.2.1)))]) := by
 classical
 refine FC.go Tryz.func176 rfl rfl Tryz.ntmps176 fun O_ hO w0_ N0_ X_ h0_ f0_ => ?_
 refine AC.fact (fact_ag (x := .tmp 0) (i := 0) (Ev.tmp rfl) rfl) fun hi1 => AC.fact (fact_ag (x := .tmp 1) (i := 0) (Ev.tmp rfl) rfl) fun hi2 => AC.fact (fact_ag (x := .tmp 1) (i := 1) (Ev.tmp rfl) rfl) fun hi3 => ?_
 refine w_ ?_
 refine lc (Does.box 0 (Ev.tmp rfl) rfl rfl (Fresh.of rfl) (nlr rfl)) <| lc (Does.box 1 (Ev.tmp rfl) rfl rfl (Fresh.of rfl) (nlr rfl)) <| lc (Does.alloc 2 (.pr (.pr .int (.sl 159 (.pr (.sl 3 .int) (.sl 3 .int)))) (.pr (.sl 145 (.pr .str .int)) (.pr (.sl 61 (.pr .int .bool)) .str))) zer_39 rfl rfl (Fresh.of rfl) (nlr rfl)) ?_
 iterate 6 refine w_ ?_
 refine AL.fact (fact_len (x := .tmp 11) (Evl.tmp rfl)) fun hl4 => ?_
 iterate 6 refine w_ ?_
 refine lc (Does.call (fc_spec_l2Good s) enters_106 ⟨_, _, rfl, (Ev.tmp rfl), rfl⟩ rfl rfl) ?_
 iterate 2 refine w_ ?_
 cases hb5 : (decide (StgOk s))
 ·have hb5' := of_decide_eq_false hb5
  iterate 25 refine w_ ?_
  refine lc (Does.build bld_39 rfl (List.all_eq_true.1 rfl) rfl rfl) <| lc (Does.storeP (Evl.tmp rfl) rfl (Ev.tmp rfl) rfl tsh_39 rfl) ?_
  iterate 2 refine w_ ?_
  refine AC.wk (Wk.nilC 3 (p := 2) (off := 1) 159 (.pr (.sl 3 .int) (.sl 3 .int)) rfl rfl (Fresh.of rfl) (nlr rfl)) <| AC.wk (Wk.nilC 4 (p := 2) (off := 2) 145 (.pr .str .int) rfl rfl (Fresh.of rfl) (nlr rfl)) <| AC.wk (Wk.nilC 5 (p := 2) (off := 3) 61 (.pr .int .bool) rfl rfl (Fresh.of rfl) (nlr rfl)) <| AC.ret ?_
  subst hO
  have e6 : (0 : Int) = ((((l26V s o).1).1).1) := by
   (rw [l26V_no (fun ⟨a1, ⟨a2, a3⟩, ⟨a4, a5⟩, a6⟩ => by have := stg_labels a1; first | exact absurd a1 (by assumption) | exact absurd (by assumption) a6 | omega)]; rfl)
  have e7 : (ByteArray.empty : ByteArray) = (((l26V s o).1).2.2.2) := by
   (rw [l26V_no (fun ⟨a1, ⟨a2, a3⟩, ⟨a4, a5⟩, a6⟩ => by have := stg_labels a1; first | exact absurd a1 (by assumption) | exact absurd (by assumption) a6 | omega)]; rfl)
  have e8 : (false : Bool) = ((l26V s o).2) := by
   (rw [l26V_no (fun ⟨a1, ⟨a2, a3⟩, ⟨a4, a5⟩, a6⟩ => by have := stg_labels a1; first | exact absurd a1 (by assumption) | exact absurd (by assumption) a6 | omega)]; done)
  exact fin_is _ _ [(0, 3), (1, 4), (2, 5)] (Res.two rfl (Rs.cell rfl rfl tsh_39 rfl) (Rs.tmp rfl)) ((((congrArg (fun z_ => PV.tup [(true, [dI z_, .ref 3, .ref 4, .ref 5, dS ByteArray.empty]), (false, [dB false])]) e6)).trans (congrArg (fun z_ => PV.tup [(true, [dI ((((l26V s o).1).1).1), .ref 3, .ref 4, .ref 5, dS z_]), (false, [dB false])]) e7)).trans (congrArg (fun z_ => PV.tup [(true, [dI ((((l26V s o).1).1).1), .ref 3, .ref 4, .ref 5, dS (((l26V s o).1).2.2.2)]), (false, [dB z_])]) e8)) ⟨(entE (by (rw [l26V_no (fun ⟨a1, ⟨a2, a3⟩, ⟨a4, a5⟩, a6⟩ => by have := stg_labels a1; first | exact absurd a1 (by assumption) | exact absurd (by assumption) a6 | omega)]; rfl))), (entE (by (rw [l26V_no (fun ⟨a1, ⟨a2, a3⟩, ⟨a4, a5⟩, a6⟩ => by have := stg_labels a1; first | exact absurd a1 (by assumption) | exact absurd (by assumption) a6 | omega)]; rfl))), (entE (by (rw [l26V_no (fun ⟨a1, ⟨a2, a3⟩, ⟨a4, a5⟩, a6⟩ => by have := stg_labels a1; first | exact absurd a1 (by assumption) | exact absurd (by assumption) a6 | omega)]; rfl))), trivial⟩ rfl rfl
 ·have hb5' := of_decide_eq_true hb5
  iterate 4 refine w_ ?_
  refine lgy rfl rfl (Does.call (fc_spec_l1In o.1 0 ((s.1.2.length : Int) - 1)) enters_149 ⟨_, _, rfl, (Ev.tmp rfl), ⟨_, _, rfl, (Evl.ev (Evl.int rfl)), ⟨_, _, rfl, (Ev.tmp rfl), rfl⟩⟩⟩ rfl rfl) ?_
  iterate 3 refine w_ ?_
  cases hb9 : (decide (0 ≤ o.1 ∧ o.1 ≤ ((s.1.2.length : Int) - 1)))
  ·have hb9' := of_decide_eq_false hb9
   iterate 17 refine w_ ?_
   refine lc (Does.build bld_39 rfl (List.all_eq_true.1 rfl) rfl rfl) <| lc (Does.storeP (Evl.tmp rfl) rfl (Ev.tmp rfl) rfl tsh_39 rfl) ?_
   iterate 2 refine w_ ?_
   refine AC.wk (Wk.nilC 6 (p := 2) (off := 1) 159 (.pr (.sl 3 .int) (.sl 3 .int)) rfl rfl (Fresh.of rfl) (nlr rfl)) <| AC.wk (Wk.nilC 7 (p := 2) (off := 2) 145 (.pr .str .int) rfl rfl (Fresh.of rfl) (nlr rfl)) <| AC.wk (Wk.nilC 8 (p := 2) (off := 3) 61 (.pr .int .bool) rfl rfl (Fresh.of rfl) (nlr rfl)) <| AC.ret ?_
   subst hO
   have e10 : (0 : Int) = ((((l26V s o).1).1).1) := by
    (rw [l26V_no (fun ⟨a1, ⟨a2, a3⟩, ⟨a4, a5⟩, a6⟩ => by have := stg_labels a1; first | exact absurd a1 (by assumption) | exact absurd (by assumption) a6 | omega)]; rfl)
   have e11 : (ByteArray.empty : ByteArray) = (((l26V s o).1).2.2.2) := by
    (rw [l26V_no (fun ⟨a1, ⟨a2, a3⟩, ⟨a4, a5⟩, a6⟩ => by have := stg_labels a1; first | exact absurd a1 (by assumption) | exact absurd (by assumption) a6 | omega)]; rfl)
   have e12 : (false : Bool) = ((l26V s o).2) := by
    (rw [l26V_no (fun ⟨a1, ⟨a2, a3⟩, ⟨a4, a5⟩, a6⟩ => by have := stg_labels a1; first | exact absurd a1 (by assumption) | exact absurd (by assumption) a6 | omega)]; done)
   exact fin_is _ _ [(0, 6), (1, 7), (2, 8)] (Res.two rfl (Rs.cell rfl rfl tsh_39 rfl) (Rs.tmp rfl)) ((((congrArg (fun z_ => PV.tup [(true, [dI z_, .ref 6, .ref 7, .ref 8, dS ByteArray.empty]), (false, [dB false])]) e10)).trans (congrArg (fun z_ => PV.tup [(true, [dI ((((l26V s o).1).1).1), .ref 6, .ref 7, .ref 8, dS z_]), (false, [dB false])]) e11)).trans (congrArg (fun z_ => PV.tup [(true, [dI ((((l26V s o).1).1).1), .ref 6, .ref 7, .ref 8, dS (((l26V s o).1).2.2.2)]), (false, [dB z_])]) e12)) ⟨(entE (by (rw [l26V_no (fun ⟨a1, ⟨a2, a3⟩, ⟨a4, a5⟩, a6⟩ => by have := stg_labels a1; first | exact absurd a1 (by assumption) | exact absurd (by assumption) a6 | omega)]; rfl))), (entE (by (rw [l26V_no (fun ⟨a1, ⟨a2, a3⟩, ⟨a4, a5⟩, a6⟩ => by have := stg_labels a1; first | exact absurd a1 (by assumption) | exact absurd (by assumption) a6 | omega)]; rfl))), (entE (by (rw [l26V_no (fun ⟨a1, ⟨a2, a3⟩, ⟨a4, a5⟩, a6⟩ => by have := stg_labels a1; first | exact absurd a1 (by assumption) | exact absurd (by assumption) a6 | omega)]; rfl))), trivial⟩ rfl rfl
  ·have hb9' := of_decide_eq_true hb9
   iterate 4 refine w_ ?_
   refine lgy rfl rfl (Does.call (fc_spec_l1In o.2.1 0 ((s.1.2.length : Int) - 1)) enters_149 ⟨_, _, rfl, (Ev.tmp rfl), ⟨_, _, rfl, (Evl.ev (Evl.int rfl)), ⟨_, _, rfl, (Ev.tmp rfl), rfl⟩⟩⟩ rfl rfl) ?_
   iterate 3 refine w_ ?_
   cases hb13 : (decide (0 ≤ o.2.1 ∧ o.2.1 ≤ ((s.1.2.length : Int) - 1)))
   ·have hb13' := of_decide_eq_false hb13
    iterate 9 refine w_ ?_
    refine lc (Does.build bld_39 rfl (List.all_eq_true.1 rfl) rfl rfl) <| lc (Does.storeP (Evl.tmp rfl) rfl (Ev.tmp rfl) rfl tsh_39 rfl) ?_
    iterate 2 refine w_ ?_
    refine AC.wk (Wk.nilC 9 (p := 2) (off := 1) 159 (.pr (.sl 3 .int) (.sl 3 .int)) rfl rfl (Fresh.of rfl) (nlr rfl)) <| AC.wk (Wk.nilC 10 (p := 2) (off := 2) 145 (.pr .str .int) rfl rfl (Fresh.of rfl) (nlr rfl)) <| AC.wk (Wk.nilC 11 (p := 2) (off := 3) 61 (.pr .int .bool) rfl rfl (Fresh.of rfl) (nlr rfl)) <| AC.ret ?_
    subst hO
    have e14 : (0 : Int) = ((((l26V s o).1).1).1) := by
     (rw [l26V_no (fun ⟨a1, ⟨a2, a3⟩, ⟨a4, a5⟩, a6⟩ => by have := stg_labels a1; first | exact absurd a1 (by assumption) | exact absurd (by assumption) a6 | omega)]; rfl)
    have e15 : (ByteArray.empty : ByteArray) = (((l26V s o).1).2.2.2) := by
     (rw [l26V_no (fun ⟨a1, ⟨a2, a3⟩, ⟨a4, a5⟩, a6⟩ => by have := stg_labels a1; first | exact absurd a1 (by assumption) | exact absurd (by assumption) a6 | omega)]; rfl)
    have e16 : (false : Bool) = ((l26V s o).2) := by
     (rw [l26V_no (fun ⟨a1, ⟨a2, a3⟩, ⟨a4, a5⟩, a6⟩ => by have := stg_labels a1; first | exact absurd a1 (by assumption) | exact absurd (by assumption) a6 | omega)]; done)
    exact fin_is _ _ [(0, 9), (1, 10), (2, 11)] (Res.two rfl (Rs.cell rfl rfl tsh_39 rfl) (Rs.tmp rfl)) ((((congrArg (fun z_ => PV.tup [(true, [dI z_, .ref 9, .ref 10, .ref 11, dS ByteArray.empty]), (false, [dB false])]) e14)).trans (congrArg (fun z_ => PV.tup [(true, [dI ((((l26V s o).1).1).1), .ref 9, .ref 10, .ref 11, dS z_]), (false, [dB false])]) e15)).trans (congrArg (fun z_ => PV.tup [(true, [dI ((((l26V s o).1).1).1), .ref 9, .ref 10, .ref 11, dS (((l26V s o).1).2.2.2)]), (false, [dB z_])]) e16)) ⟨(entE (by (rw [l26V_no (fun ⟨a1, ⟨a2, a3⟩, ⟨a4, a5⟩, a6⟩ => by have := stg_labels a1; first | exact absurd a1 (by assumption) | exact absurd (by assumption) a6 | omega)]; rfl))), (entE (by (rw [l26V_no (fun ⟨a1, ⟨a2, a3⟩, ⟨a4, a5⟩, a6⟩ => by have := stg_labels a1; first | exact absurd a1 (by assumption) | exact absurd (by assumption) a6 | omega)]; rfl))), (entE (by (rw [l26V_no (fun ⟨a1, ⟨a2, a3⟩, ⟨a4, a5⟩, a6⟩ => by have := stg_labels a1; first | exact absurd a1 (by assumption) | exact absurd (by assumption) a6 | omega)]; rfl))), trivial⟩ rfl rfl
   ·have hb13' := of_decide_eq_true hb13
    iterate 7 refine w_ ?_
    cases hb17 : (decide (o.1 = o.2.1))
    ·have hb17' := of_decide_eq_false hb17
     iterate 2 refine w_ ?_
     refine AC.seq ?_
     obtain ⟨x, hx⟩ : ∃ z, s.1.2[o.1.toNat]? = some z := ⟨_, List.getElem?_eq_getElem (by omega)⟩
     obtain ⟨y, hy⟩ : ∃ z, s.1.2[o.2.1.toNat]? = some z := ⟨_, List.getElem?_eq_getElem (by omega)⟩
     have hab : o.1.toNat ≠ o.2.1.toNat := by omega
     have hcA := (cells_at hx).1
     have hcB := (cells_at hy).2
     have hpA : o.1.toNat * 2 + 1 < (cellsL (.pr (.sl 3 .int) (.sl 3 .int)) s.1.2).length := by rw [cellsL_len]; exact pos1 (by omega)
     have hpB : o.2.1.toNat * 2 + 0 < (cellsL (.pr (.sl 3 .int) (.sl 3 .int)) s.1.2).length := by rw [cellsL_len]; exact pos0 (by omega)
     have hpAB : o.1.toNat * 2 + 1 ≠ o.2.1.toNat * 2 + 0 := by omega
     have hxl := (tr_parts hz hx).2
     have hyl := (tr_parts hz hy).1
     have hsz := stg_start hz
     have hpl := stg_places ‹StgOk s›
     iterate 2 refine w_ ?_
     refine lc (Does.callG 12 (fc_spec_l2Own s hz) enters_246 ⟨_, _, rfl, (Ev.tmp rfl), rfl⟩ rfl rfl ⟨Fresh.of rfl, Fresh.of rfl, Fresh.of rfl, trivial⟩ (nlr rfl)) <| lc (Does.alloc 15 (.pr (.pr .int (.sl 159 (.pr (.sl 3 .int) (.sl 3 .int)))) (.pr (.sl 145 (.pr .str .int)) (.pr (.sl 61 (.pr .int .bool)) .str))) zer_39 rfl rfl (Fresh.of rfl) (nlr rfl)) <| lc (Does.storeP (Evl.tmp rfl) rfl (Ev.tmp rfl) rfl tsh_39 rfl) ?_
     iterate 14 refine w_ ?_
     refine lc (Does.storeP (Evl.tmp rfl) rfl (Ev.tmp rfl) rfl tsh_3 rfl) ?_
     refine w_ ?_
     refine AC.wk (Wk.open (q := 12) rfl (by omega)) <| AC.wk (Wk.splitX 16 (q := 12) (p := (o.1).toNat * 2 + 1) (E' := 3) (e' := .int) (ys := x.2) rfl (hcA) (Fresh.of rfl) (Nat.le_of_ble_eq_true rfl)) ?_
     refine dw [io 51 (lP 15 0), io 52 (lP 15 1), io 53 (lR 12), io 54 (lP 1 0), io 55 (lI o.1), io 56 (lP 15 0), io 57 (lP 15 1), io 58 (lR 12), io 59 (lP 1 0), io 60 (lI o.1), io 61 (lf (.ept 12 2 ((o.1).toNat) 0)), io 62 (lf (.ept 12 2 ((o.1).toNat) 1)), io 63 (lR 16), io 64 (lI s.1.1), ⟨some 65, lR 17, [(17, some (.arr 3 .int ([s.1.1])))]⟩, ⟨some 66, lR 18, [(18, some (.arr 3 .int (x.2 ++ ([s.1.1])))), (16, none), (17, none)]⟩, io 67 (lf (.ept 12 2 ((o.1).toNat) 0)), io 68 (lf (.ept 12 2 ((o.1).toNat) 1)), ⟨none, lf (.val undef), [(12, some (.obx 159 2 ((s.1.2).length) (cellsL (.pr (.sl 3 .int) (.sl 3 .int)) (s.1.2)) [((o.1).toNat * 2 + 1, .ref 18), ((o.1).toNat * 2 + 1, .ref 16)]))]⟩] [0, 1, 3, 0, 8, 0, 32, 96, 0, 256, 992, 2016, 4064, 0, 8192, 32736, 65535, 131071, 262143] mixed rfl (by kernel_rfl) ⟨dxf fld_39_0 rfl rfl rfl, dxf fld_35_1 rfl rfl rfl, dxl tsh_33 rfl rfl rfl rfl rfl, dxf fld_85_0 rfl rfl rfl, dxl tsh_3 rfl rfl rfl rfl rfl, dxf fld_39_0 rfl rfl rfl, dxf fld_35_1 rfl rfl rfl, dxl tsh_33 rfl rfl rfl rfl rfl, dxf fld_85_0 rfl rfl rfl, dxl tsh_3 rfl rfl rfl rfl rfl, fun _ h_ => ac (Does.indexX (h_.v rfl) (h_.en 12 rfl) (h_.v rfl) und_33 tsh_159 rfl (by omega) (by omega)) rfl, fun _ h_ => ac (Does.fieldI (h_.v rfl) fld_159_1 (by rw [(h_.en 12 rfl)]; rfl) rfl) rfl, fun _ h_ => ac (Does.loadX (h_.v rfl) (h_.en 12 rfl) (by simp only [ovr, List.getElem?_set, List.length_set, hpA, hpB, hpAB, hpAB.symm, hcA, hcB, eq_self, if_true, if_false, ↓reduceIte]) (h_.en 16 rfl) tsh_106 rfl) rfl, dxm rfl rfl, fun _ h_ => ac (Does.buildSlice 17 (e := .int) und_106 tsh_3 zer_3 rfl ⟨_, _, rfl, (h_.w rfl), rfl⟩ (List.all_eq_true.1 rfl) ⟨_, _, _, _, rfl, ⟨rfl, rfl⟩, ⟨rfl, rfl⟩, rfl⟩ (by decide) rfl rfl (h_.fr 17 rfl) (nlr rfl)) rfl, fun _ h_ => ac (Does.append 18 (h_.v rfl) (h_.en 16 rfl) (h_.v rfl) (h_.en 17 rfl) rfl und_106 elb_3 (by first | omega | (simp only [List.length_append, List.length_map, List.length_take, List.length_cons, List.length_nil]; omega) | (simp only [List.length_append, List.length_drop, List.length_take, List.length_cons, List.length_nil]; omega)) rfl (h_.fr 18 rfl) (nlr rfl)) rfl, fun _ h_ => ac (Does.indexX (h_.v rfl) (h_.en 12 rfl) (h_.v rfl) und_33 tsh_159 rfl (by omega) (by omega)) rfl, fun _ h_ => ac (Does.fieldI (h_.v rfl) fld_159_1 (by rw [(h_.en 12 rfl)]; rfl) rfl) rfl, fun _ h_ => ac (Does.storeX (t := 16) (h_.v rfl) (h_.en 12 rfl) (by simp only [ovr, List.getElem?_set, List.length_set, hpA, hpB, hpAB, hpAB.symm, hcA, hcB, eq_self, if_true, if_false, ↓reduceIte]) (h_.v rfl) (h_.en 18 rfl) tsh_106) rfl, ⟨⟩⟩ ?_
     refine AC.wk (Wk.joinX (q := 12) (t := 18) (p := (o.1).toNat * 2 + 1) rfl (by simp only [ovr, List.getElem?_set, List.length_set, hpA, hpB, hpAB, hpAB.symm, hcA, hcB, eq_self, if_true, if_false, ↓reduceIte]) rfl) ?_
     refine AC.wk (Wk.splitX 19 (q := 12) (p := (o.2.1).toNat * 2 + 0) (E' := 3) (e' := .int) (ys := y.1) rfl (by simp only [ovr, List.getElem?_set, List.length_set, hpA, hpB, hpAB, hpAB.symm, hcA, hcB, eq_self, if_true, if_false, ↓reduceIte]) (Fresh.of rfl) (Nat.le_of_ble_eq_true rfl)) ?_
     refine dw [io 69 (lP 15 0), io 70 (lP 15 1), io 71 (lR 12), io 72 (lP 1 1), io 73 (lI o.2.1), io 74 (lP 15 0), io 75 (lP 15 1), io 76 (lR 12), io 77 (lP 1 1), io 78 (lI o.2.1), io 79 (lf (.ept 12 2 ((o.2.1).toNat) 0)), io 80 (lf (.ept 12 2 ((o.2.1).toNat) 0)), io 81 (lR 19), io 82 (lI s.1.1), ⟨some 83, lR 20, [(20, some (.arr 3 .int ([s.1.1])))]⟩, ⟨some 84, lR 21, [(21, some (.arr 3 .int (y.1 ++ ([s.1.1])))), (19, none), (20, none)]⟩, io 85 (lf (.ept 12 2 ((o.2.1).toNat) 0)), io 86 (lf (.ept 12 2 ((o.2.1).toNat) 0)), ⟨none, lf (.val undef), [(12, some (.obx 159 2 ((s.1.2).length) (cellsL (.pr (.sl 3 .int) (.sl 3 .int)) (s.1.2)) [((o.2.1).toNat * 2 + 0, .ref 21), ((o.2.1).toNat * 2 + 0, .ref 19), ((o.1).toNat * 2 + 1, .dat (.sl 3 .int) (x.2 ++ ([s.1.1]))), ((o.1).toNat * 2 + 1, .ref 18), ((o.1).toNat * 2 + 1, .ref 16)]))]⟩] [0, 1, 3, 0, 8, 0, 32, 96, 0, 256, 992, 2016, 4064, 0, 8192, 32736, 65535, 131071, 262143] mixed rfl (by kernel_rfl) ⟨dxf fld_39_0 rfl rfl rfl, dxf fld_35_1 rfl rfl rfl, dxl tsh_33 rfl rfl rfl rfl rfl, dxf fld_85_1 rfl rfl rfl, dxl tsh_3 rfl rfl rfl rfl rfl, dxf fld_39_0 rfl rfl rfl, dxf fld_35_1 rfl rfl rfl, dxl tsh_33 rfl rfl rfl rfl rfl, dxf fld_85_1 rfl rfl rfl, dxl tsh_3 rfl rfl rfl rfl rfl, fun _ h_ => ac (Does.indexX (h_.v rfl) (h_.en 12 rfl) (h_.v rfl) und_33 tsh_159 rfl (by omega) (by omega)) rfl, fun _ h_ => ac (Does.fieldI (h_.v rfl) fld_159_0 (by rw [(h_.en 12 rfl)]; rfl) rfl) rfl, fun _ h_ => ac (Does.loadX (h_.v rfl) (h_.en 12 rfl) (by simp only [ovr, List.getElem?_set, List.length_set, hpA, hpB, hpAB, hpAB.symm, hcA, hcB, eq_self, if_true, if_false, ↓reduceIte]) (h_.en 19 rfl) tsh_106 rfl) rfl, dxm rfl rfl, fun _ h_ => ac (Does.buildSlice 20 (e := .int) und_106 tsh_3 zer_3 rfl ⟨_, _, rfl, (h_.w rfl), rfl⟩ (List.all_eq_true.1 rfl) ⟨_, _, _, _, rfl, ⟨rfl, rfl⟩, ⟨rfl, rfl⟩, rfl⟩ (by decide) rfl rfl (h_.fr 20 rfl) (nlr rfl)) rfl, fun _ h_ => ac (Does.append 21 (h_.v rfl) (h_.en 19 rfl) (h_.v rfl) (h_.en 20 rfl) rfl und_106 elb_3 (by first | omega | (simp only [List.length_append, List.length_map, List.length_take, List.length_cons, List.length_nil]; omega) | (simp only [List.length_append, List.length_drop, List.length_take, List.length_cons, List.length_nil]; omega)) rfl (h_.fr 21 rfl) (nlr rfl)) rfl, fun _ h_ => ac (Does.indexX (h_.v rfl) (h_.en 12 rfl) (h_.v rfl) und_33 tsh_159 rfl (by omega) (by omega)) rfl, fun _ h_ => ac (Does.fieldI (h_.v rfl) fld_159_0 (by rw [(h_.en 12 rfl)]; rfl) rfl) rfl, fun _ h_ => ac (Does.storeX (t := 19) (h_.v rfl) (h_.en 12 rfl) (by simp only [ovr, List.getElem?_set, List.length_set, hpA, hpB, hpAB, hpAB.symm, hcA, hcB, eq_self, if_true, if_false, ↓reduceIte]) (h_.v rfl) (h_.en 21 rfl) tsh_106) rfl, ⟨⟩⟩ ?_
     refine w_ ?_
     refine AC.seq ?_
     refine AC.wk (Wk.joinX (q := 12) (t := 21) (p := (o.2.1).toNat * 2 + 0) rfl (by simp only [ovr, List.getElem?_set, List.length_set, hpA, hpB, hpAB, hpAB.symm, hcA, hcB, eq_self, if_true, if_false, ↓reduceIte]) rfl) ?_
     refine AC.wk (Wk.close (q := 12) (e := (.pr (.sl 3 .int) (.sl 3 .int))) (addT s.1.2 (o.1).toNat (o.2.1).toNat s.1.1) rfl (by simp [addT]) (by simp only [ovr]; rw [set6b hpAB, cells_set1 hx, cells_set0 (by rw [List.getElem?_set_ne hab]; exact hy), addT_set hx hy hab])) ?_
     iterate 4 refine w_ ?_
     cases hb18 : (o.2.2)
     ·iterate 4 refine w_ ?_
      refine lc (Does.addS (Evl.tmp rfl) (Evl.str rfl) rfl (by simp only [bsize1]; omega)) ?_
      refine w_ ?_
      refine lc (Does.storeP (Evl.tmp rfl) rfl (Ev.tmp rfl) rfl tsh_9 rfl) ?_
      refine w_ ?_
      refine dw [io 97 (ag [dI (s.1.1 + 1), .ref 12, .ref 13, .ref 14, dS (s.2.2.2 ++ (⟨#[48]⟩ : ByteArray))]), io 98 (ag [dI (s.1.1 + 1), .ref 12, .ref 13, .ref 14, dS (s.2.2.2 ++ (⟨#[48]⟩ : ByteArray))]), io 99 (lB (decide (StgOk ((s.1.1 + 1, addT s.1.2 (o.1).toNat (o.2.1).toNat s.1.1), s.2.1, s.2.2.1, s.2.2.2 ++ (⟨#[48]⟩ : ByteArray))))), ⟨none, lf (.val undef), [(2, some (.box 39 [dI (s.1.1 + 1), .ref 12, .ref 13, .ref 14, dS (s.2.2.2 ++ (⟨#[48]⟩ : ByteArray))]))]⟩, io 5 (lB (decide (StgOk ((s.1.1 + 1, addT s.1.2 (o.1).toNat (o.2.1).toNat s.1.1), s.2.1, s.2.2.1, s.2.2.2 ++ (⟨#[48]⟩ : ByteArray)))))] [0, 0, 2, 7, 15] mixed rfl (by kernel_rfl) ⟨dxa tsh_39 rfl rfl rfl rfl, dxa tsh_39 rfl rfl rfl rfl, fun _ h_ => ac (Does.callB (fc_spec_l2Good ((s.1.1 + 1, addT s.1.2 (o.1).toNat (o.2.1).toNat s.1.1), s.2.1, s.2.2.1, s.2.2.2 ++ (⟨#[48]⟩ : ByteArray))) enters_106 ⟨_, _, rfl, (Ev.ob (h_.w rfl) ⟨_, _, rfl, .inl rfl, ⟨_, _, rfl, .inr ⟨_, _, _, _, rfl, (h_.n 12 rfl), rfl⟩, ⟨_, _, rfl, .inr ⟨_, _, _, _, rfl, (h_.n 13 rfl), rfl⟩, ⟨_, _, rfl, .inr ⟨_, _, _, _, rfl, (h_.n 14 rfl), rfl⟩, ⟨_, _, rfl, .inl rfl, rfl⟩⟩⟩⟩⟩), rfl⟩ rfl rfl rfl) rfl, fun _ h_ => ac (Does.storeP (h_.v rfl) (h_.en 2 rfl) (h_.w rfl) (by simp only [okLVs, okLV, List.all_cons, List.all_nil]; rw [(h_.en 12 rfl), (h_.en 13 rfl), (h_.en 14 rfl)]; rfl) tsh_39 rfl) rfl, dxt rfl rfl, ⟨⟩⟩ <| AC.ret ?_
      subst hO
      have e19 : (s.1.1 + 1 : Int) = ((((l26V s o).1).1).1) := by
       (rw [l26V_yes ⟨‹StgOk s›, by omega, by omega, by omega⟩]; first | done | rfl | exact congrArg (fun z => z.2.2.2) (l26_1 (s := s) (o := o) (by assumption)) | exact congrArg (fun z => z.2.2.2) (l26_0 (s := s) (o := o) (by assumption)) | exact l26d1 (by assumption) | exact l26d0 (by assumption))
      have e20 : (s.2.2.2 ++ (⟨#[48]⟩ : ByteArray) : ByteArray) = (((l26V s o).1).2.2.2) := by
       (rw [l26V_yes ⟨‹StgOk s›, by omega, by omega, by omega⟩]; first | done | rfl | exact congrArg (fun z => z.2.2.2) (l26_1 (s := s) (o := o) (by assumption)) | exact congrArg (fun z => z.2.2.2) (l26_0 (s := s) (o := o) (by assumption)) | exact l26d1 (by assumption) | exact l26d0 (by assumption))
      have e21 : (decide (StgOk ((s.1.1 + 1, addT s.1.2 (o.1).toNat (o.2.1).toNat s.1.1), s.2.1, s.2.2.1, s.2.2.2 ++ (⟨#[48]⟩ : ByteArray))) : Bool) = ((l26V s o).2) := by
       (rw [l26V_yes ⟨‹StgOk s›, by omega, by omega, by omega⟩]; first | done | rfl | exact congrArg (fun z => z.2.2.2) (l26_1 (s := s) (o := o) (by assumption)) | exact congrArg (fun z => z.2.2.2) (l26_0 (s := s) (o := o) (by assumption)) | exact l26d1 (by assumption) | exact l26d0 (by assumption))
      exact fin_is _ _ [(0, 12), (1, 13), (2, 14)] (Res.two rfl (Rs.cell rfl rfl tsh_39 rfl) (Rs.tmp rfl)) ((((congrArg (fun z_ => PV.tup [(true, [dI z_, .ref 12, .ref 13, .ref 14, dS (s.2.2.2 ++ (⟨#[48]⟩ : ByteArray))]), (false, [dB (decide (StgOk ((s.1.1 + 1, addT s.1.2 (o.1).toNat (o.2.1).toNat s.1.1), s.2.1, s.2.2.1, s.2.2.2 ++ (⟨#[48]⟩ : ByteArray))))])]) e19)).trans (congrArg (fun z_ => PV.tup [(true, [dI ((((l26V s o).1).1).1), .ref 12, .ref 13, .ref 14, dS z_]), (false, [dB (decide (StgOk ((s.1.1 + 1, addT s.1.2 (o.1).toNat (o.2.1).toNat s.1.1), s.2.1, s.2.2.1, s.2.2.2 ++ (⟨#[48]⟩ : ByteArray))))])]) e20)).trans (congrArg (fun z_ => PV.tup [(true, [dI ((((l26V s o).1).1).1), .ref 12, .ref 13, .ref 14, dS (((l26V s o).1).2.2.2)]), (false, [dB z_])]) e21)) ⟨(entE (by (rw [l26V_yes ⟨‹StgOk s›, by omega, by omega, by omega⟩]; first | done | rfl | exact congrArg (fun z => z.2.2.2) (l26_1 (s := s) (o := o) (by assumption)) | exact congrArg (fun z => z.2.2.2) (l26_0 (s := s) (o := o) (by assumption)) | exact l26d1 (by assumption) | exact l26d0 (by assumption)))), (entE (by (rw [l26V_yes ⟨‹StgOk s›, by omega, by omega, by omega⟩]; first | done | rfl | exact congrArg (fun z => z.2.2.2) (l26_1 (s := s) (o := o) (by assumption)) | exact congrArg (fun z => z.2.2.2) (l26_0 (s := s) (o := o) (by assumption)) | exact l26d1 (by assumption) | exact l26d0 (by assumption)))), (entE (by (rw [l26V_yes ⟨‹StgOk s›, by omega, by omega, by omega⟩]; first | done | rfl | exact congrArg (fun z => z.2.2.2) (l26_1 (s := s) (o := o) (by assumption)) | exact congrArg (fun z => z.2.2.2) (l26_0 (s := s) (o := o) (by assumption)) | exact l26d1 (by assumption) | exact l26d0 (by assumption)))), trivial⟩ rfl rfl
     ·iterate 4 refine w_ ?_
      refine lc (Does.addS (Evl.tmp rfl) (Evl.str rfl) rfl (by simp only [bsize1]; omega)) ?_
      refine w_ ?_
      refine lc (Does.storeP (Evl.tmp rfl) rfl (Ev.tmp rfl) rfl tsh_9 rfl) ?_
      refine w_ ?_
      refine dw [io 97 (ag [dI (s.1.1 + 1), .ref 12, .ref 13, .ref 14, dS (s.2.2.2 ++ (⟨#[49]⟩ : ByteArray))]), io 98 (ag [dI (s.1.1 + 1), .ref 12, .ref 13, .ref 14, dS (s.2.2.2 ++ (⟨#[49]⟩ : ByteArray))]), io 99 (lB (decide (StgOk ((s.1.1 + 1, addT s.1.2 (o.1).toNat (o.2.1).toNat s.1.1), s.2.1, s.2.2.1, s.2.2.2 ++ (⟨#[49]⟩ : ByteArray))))), ⟨none, lf (.val undef), [(2, some (.box 39 [dI (s.1.1 + 1), .ref 12, .ref 13, .ref 14, dS (s.2.2.2 ++ (⟨#[49]⟩ : ByteArray))]))]⟩, io 5 (lB (decide (StgOk ((s.1.1 + 1, addT s.1.2 (o.1).toNat (o.2.1).toNat s.1.1), s.2.1, s.2.2.1, s.2.2.2 ++ (⟨#[49]⟩ : ByteArray)))))] [0, 0, 2, 7, 15] mixed rfl (by kernel_rfl) ⟨dxa tsh_39 rfl rfl rfl rfl, dxa tsh_39 rfl rfl rfl rfl, fun _ h_ => ac (Does.callB (fc_spec_l2Good ((s.1.1 + 1, addT s.1.2 (o.1).toNat (o.2.1).toNat s.1.1), s.2.1, s.2.2.1, s.2.2.2 ++ (⟨#[49]⟩ : ByteArray))) enters_106 ⟨_, _, rfl, (Ev.ob (h_.w rfl) ⟨_, _, rfl, .inl rfl, ⟨_, _, rfl, .inr ⟨_, _, _, _, rfl, (h_.n 12 rfl), rfl⟩, ⟨_, _, rfl, .inr ⟨_, _, _, _, rfl, (h_.n 13 rfl), rfl⟩, ⟨_, _, rfl, .inr ⟨_, _, _, _, rfl, (h_.n 14 rfl), rfl⟩, ⟨_, _, rfl, .inl rfl, rfl⟩⟩⟩⟩⟩), rfl⟩ rfl rfl rfl) rfl, fun _ h_ => ac (Does.storeP (h_.v rfl) (h_.en 2 rfl) (h_.w rfl) (by simp only [okLVs, okLV, List.all_cons, List.all_nil]; rw [(h_.en 12 rfl), (h_.en 13 rfl), (h_.en 14 rfl)]; rfl) tsh_39 rfl) rfl, dxt rfl rfl, ⟨⟩⟩ <| AC.ret ?_
      subst hO
      have e22 : (s.1.1 + 1 : Int) = ((((l26V s o).1).1).1) := by
       (rw [l26V_yes ⟨‹StgOk s›, by omega, by omega, by omega⟩]; first | done | rfl | exact congrArg (fun z => z.2.2.2) (l26_1 (s := s) (o := o) (by assumption)) | exact congrArg (fun z => z.2.2.2) (l26_0 (s := s) (o := o) (by assumption)) | exact l26d1 (by assumption) | exact l26d0 (by assumption))
      have e23 : (s.2.2.2 ++ (⟨#[49]⟩ : ByteArray) : ByteArray) = (((l26V s o).1).2.2.2) := by
       (rw [l26V_yes ⟨‹StgOk s›, by omega, by omega, by omega⟩]; first | done | rfl | exact congrArg (fun z => z.2.2.2) (l26_1 (s := s) (o := o) (by assumption)) | exact congrArg (fun z => z.2.2.2) (l26_0 (s := s) (o := o) (by assumption)) | exact l26d1 (by assumption) | exact l26d0 (by assumption))
      have e24 : (decide (StgOk ((s.1.1 + 1, addT s.1.2 (o.1).toNat (o.2.1).toNat s.1.1), s.2.1, s.2.2.1, s.2.2.2 ++ (⟨#[49]⟩ : ByteArray))) : Bool) = ((l26V s o).2) := by
       (rw [l26V_yes ⟨‹StgOk s›, by omega, by omega, by omega⟩]; first | done | rfl | exact congrArg (fun z => z.2.2.2) (l26_1 (s := s) (o := o) (by assumption)) | exact congrArg (fun z => z.2.2.2) (l26_0 (s := s) (o := o) (by assumption)) | exact l26d1 (by assumption) | exact l26d0 (by assumption))
      exact fin_is _ _ [(0, 12), (1, 13), (2, 14)] (Res.two rfl (Rs.cell rfl rfl tsh_39 rfl) (Rs.tmp rfl)) ((((congrArg (fun z_ => PV.tup [(true, [dI z_, .ref 12, .ref 13, .ref 14, dS (s.2.2.2 ++ (⟨#[49]⟩ : ByteArray))]), (false, [dB (decide (StgOk ((s.1.1 + 1, addT s.1.2 (o.1).toNat (o.2.1).toNat s.1.1), s.2.1, s.2.2.1, s.2.2.2 ++ (⟨#[49]⟩ : ByteArray))))])]) e22)).trans (congrArg (fun z_ => PV.tup [(true, [dI ((((l26V s o).1).1).1), .ref 12, .ref 13, .ref 14, dS z_]), (false, [dB (decide (StgOk ((s.1.1 + 1, addT s.1.2 (o.1).toNat (o.2.1).toNat s.1.1), s.2.1, s.2.2.1, s.2.2.2 ++ (⟨#[49]⟩ : ByteArray))))])]) e23)).trans (congrArg (fun z_ => PV.tup [(true, [dI ((((l26V s o).1).1).1), .ref 12, .ref 13, .ref 14, dS (((l26V s o).1).2.2.2)]), (false, [dB z_])]) e24)) ⟨(entE (by (rw [l26V_yes ⟨‹StgOk s›, by omega, by omega, by omega⟩]; first | done | rfl | exact congrArg (fun z => z.2.2.2) (l26_1 (s := s) (o := o) (by assumption)) | exact congrArg (fun z => z.2.2.2) (l26_0 (s := s) (o := o) (by assumption)) | exact l26d1 (by assumption) | exact l26d0 (by assumption)))), (entE (by (rw [l26V_yes ⟨‹StgOk s›, by omega, by omega, by omega⟩]; first | done | rfl | exact congrArg (fun z => z.2.2.2) (l26_1 (s := s) (o := o) (by assumption)) | exact congrArg (fun z => z.2.2.2) (l26_0 (s := s) (o := o) (by assumption)) | exact l26d1 (by assumption) | exact l26d0 (by assumption)))), (entE (by (rw [l26V_yes ⟨‹StgOk s›, by omega, by omega, by omega⟩]; first | done | rfl | exact congrArg (fun z => z.2.2.2) (l26_1 (s := s) (o := o) (by assumption)) | exact congrArg (fun z => z.2.2.2) (l26_0 (s := s) (o := o) (by assumption)) | exact l26d1 (by assumption) | exact l26d0 (by assumption)))), trivial⟩ rfl rfl
    ·have hb17' := of_decide_eq_true hb17
     iterate 2 refine w_ ?_
     refine lc (Does.build bld_39 rfl (List.all_eq_true.1 rfl) rfl rfl) <| lc (Does.storeP (Evl.tmp rfl) rfl (Ev.tmp rfl) rfl tsh_39 rfl) ?_
     iterate 2 refine w_ ?_
     refine AC.wk (Wk.nilC 22 (p := 2) (off := 1) 159 (.pr (.sl 3 .int) (.sl 3 .int)) rfl rfl (Fresh.of rfl) (nlr rfl)) <| AC.wk (Wk.nilC 23 (p := 2) (off := 2) 145 (.pr .str .int) rfl rfl (Fresh.of rfl) (nlr rfl)) <| AC.wk (Wk.nilC 24 (p := 2) (off := 3) 61 (.pr .int .bool) rfl rfl (Fresh.of rfl) (nlr rfl)) <| AC.ret ?_
     subst hO
     have e25 : (0 : Int) = ((((l26V s o).1).1).1) := by
      (rw [l26V_no (fun ⟨a1, ⟨a2, a3⟩, ⟨a4, a5⟩, a6⟩ => by have := stg_labels a1; first | exact absurd a1 (by assumption) | exact absurd (by assumption) a6 | omega)]; rfl)
     have e26 : (ByteArray.empty : ByteArray) = (((l26V s o).1).2.2.2) := by
      (rw [l26V_no (fun ⟨a1, ⟨a2, a3⟩, ⟨a4, a5⟩, a6⟩ => by have := stg_labels a1; first | exact absurd a1 (by assumption) | exact absurd (by assumption) a6 | omega)]; rfl)
     have e27 : (false : Bool) = ((l26V s o).2) := by
      (rw [l26V_no (fun ⟨a1, ⟨a2, a3⟩, ⟨a4, a5⟩, a6⟩ => by have := stg_labels a1; first | exact absurd a1 (by assumption) | exact absurd (by assumption) a6 | omega)]; done)
     exact fin_is _ _ [(0, 22), (1, 23), (2, 24)] (Res.two rfl (Rs.cell rfl rfl tsh_39 rfl) (Rs.tmp rfl)) ((((congrArg (fun z_ => PV.tup [(true, [dI z_, .ref 22, .ref 23, .ref 24, dS ByteArray.empty]), (false, [dB false])]) e25)).trans (congrArg (fun z_ => PV.tup [(true, [dI ((((l26V s o).1).1).1), .ref 22, .ref 23, .ref 24, dS z_]), (false, [dB false])]) e26)).trans (congrArg (fun z_ => PV.tup [(true, [dI ((((l26V s o).1).1).1), .ref 22, .ref 23, .ref 24, dS (((l26V s o).1).2.2.2)]), (false, [dB z_])]) e27)) ⟨(entE (by (rw [l26V_no (fun ⟨a1, ⟨a2, a3⟩, ⟨a4, a5⟩, a6⟩ => by have := stg_labels a1; first | exact absurd a1 (by assumption) | exact absurd (by assumption) a6 | omega)]; rfl))), (entE (by (rw [l26V_no (fun ⟨a1, ⟨a2, a3⟩, ⟨a4, a5⟩, a6⟩ => by have := stg_labels a1; first | exact absurd a1 (by assumption) | exact absurd (by assumption) a6 | omega)]; rfl))), (entE (by (rw [l26V_no (fun ⟨a1, ⟨a2, a3⟩, ⟨a4, a5⟩, a6⟩ => by have := stg_labels a1; first | exact absurd a1 (by assumption) | exact absurd (by assumption) a6 | omega)]; rfl))), trivial⟩ rfl rfl

end Go.Proofs.YtnakmhfjafecpaaGreat

/- Walks over abstract states: marks put in place, marks found again. -/
namespace Go.Proofs.YtnakmhfjafecpaaGreat
open Go.RowKit
set_option maxRecDepth 100000
set_option maxHeartbeats 4000000

section
variable {α : Type _} (f : α → Int → α × Int)
def marks : List α → Int → List α × Int
  | [], k => ([], k)
  | x :: xs, k => ((f x k).1 :: (marks xs (f x k).2).1, (marks xs (f x k).2).2)
theorem marks_len (xs : List α) (k : Int) : (marks f xs k).1.length = xs.length := by
  induction xs generalizing k with
  | nil => rfl
  | cons x xs ih => simp [marks, ih]
theorem marks_app (xs ys : List α) (k : Int) : marks f (xs ++ ys) k = ((marks f xs k).1 ++ (marks f ys (marks f xs k).2).1, (marks f ys (marks f xs k).2).2) := by
  induction xs generalizing k with
  | nil => rfl
  | cons x xs ih => simp [marks, ih]
def mkA (a : List α) (k : Int) (i : Nat) : List α := (marks f (a.take i) k).1 ++ a.drop i
def mkC (a : List α) (k : Int) (i : Nat) : Int := (marks f (a.take i) k).2
theorem mkA_len (a : List α) (k : Int) (i : Nat) : (mkA f a k i).length = a.length := by
  simp [mkA, marks_len]; omega
theorem mkA_0 (a : List α) (k : Int) : mkA f a k 0 = a := by simp [mkA, marks]
theorem mkC_0 (a : List α) (k : Int) : mkC f a k 0 = k := by simp [mkC, marks]
theorem mkA_end {a : List α} {k : Int} {i : Nat} (h : a.length ≤ i) : mkA f a k i = (marks f a k).1 := by simp [mkA, List.take_of_length_le h, List.drop_eq_nil_of_le h]
theorem mkC_end {a : List α} {k : Int} {i : Nat} (h : a.length ≤ i) : mkC f a k i = (marks f a k).2 := by simp [mkC, List.take_of_length_le h]
variable {f}
theorem mkA_get {a : List α} {k : Int} {i : Nat} {x : α} (h : a[i]? = some x) : (mkA f a k i)[i]? = some x := by
  have hi := (List.getElem?_eq_some_iff.1 h).1
  have hl : (marks f (a.take i) k).1.length = i := by simp [marks_len]; omega
  unfold mkA
  rw [List.getElem?_append_right (by omega), hl, Nat.sub_self, List.getElem?_drop]
  exact h
theorem mkA_back {a : List α} {k : Int} {i : Nat} {x : α} (h : (mkA f a k i)[i]? = some x) : a[i]? = some x := by
  have hi := (List.getElem?_eq_some_iff.1 h).1
  rw [mkA_len] at hi
  have h2 := mkA_get (f := f) (k := k) (List.getElem?_eq_getElem hi)
  rw [h] at h2
  rw [List.getElem?_eq_getElem hi, ← h2]
theorem take_snoc2 {a : List α} {i : Nat} {x : α} (h : a[i]? = some x) : a.take (i + 1) = a.take i ++ [x] := by
  obtain ⟨h1, h2⟩ := List.getElem?_eq_some_iff.1 h
  rw [List.take_succ_eq_append_getElem h1, h2]
theorem mkC_succ {a : List α} {k : Int} {i : Nat} {x : α} (h : a[i]? = some x) : mkC f a k (i + 1) = (f x (mkC f a k i)).2 := by
  unfold mkC
  rw [take_snoc2 h, marks_app]
  rfl
theorem mkA_set {a : List α} {k : Int} {i : Nat} {x : α} (h : a[i]? = some x) : (mkA f a k i).set i (f x (mkC f a k i)).1 = mkA f a k (i + 1) := by
  obtain ⟨h1, h2⟩ := List.getElem?_eq_some_iff.1 h
  have hl : (marks f (a.take i) k).1.length = i := by simp [marks_len]; omega
  unfold mkA mkC
  rw [take_snoc2 h, marks_app, List.set_append_right _ _ (by omega), hl, Nat.sub_self, List.drop_eq_getElem_cons h1]
  simp only [List.set_cons_zero, marks, List.append_assoc]
  rfl
/-- How far the count goes. -/
theorem mkC_sum (c : α → Nat) (hc : ∀ x k, (f x k).2 = k + c x) (a : List α) (k : Int) : (marks f a k).2 = k + ((a.map c).sum : Nat) := by
  induction a generalizing k with
  | nil => simp [marks]
  | cons x xs ih => simp only [marks, ih, hc, List.map_cons, List.sum_cons]; omega
theorem mkC_le (c : α → Nat) (hc : ∀ x k, (f x k).2 = k + c x) (a : List α) (k : Int) (i : Nat) : k ≤ mkC f a k i ∧ mkC f a k i ≤ k + ((a.map c).sum : Nat) := by
  unfold mkC
  rw [mkC_sum c hc]
  have : ((a.take i).map c).sum ≤ (a.map c).sum := by
    conv => rhs; rw [← List.take_append_drop i a, List.map_append, List.sum_append]
    omega
  omega
/-- What is marked reads as marked. -/
theorem marks_at {a : List α} {k : Int} {i : Nat} {x : α} (h : a[i]? = some x) : (marks f a k).1[i]? = some (f x (mkC f a k i)).1 := by
  have h1 := mkA_set (f := f) (k := k) h
  have hi := (List.getElem?_eq_some_iff.1 h).1
  have hl : (marks f (a.take i) k).1.length = i := by simp [marks_len]; omega
  conv => lhs; rw [← List.take_append_drop i a, marks_app]
  simp only
  rw [List.getElem?_append_right (by omega), hl, Nat.sub_self, List.drop_eq_getElem_cons hi]
  obtain ⟨_, h2⟩ := List.getElem?_eq_some_iff.1 h
  simp [marks, mkC, h2]
end
@[reducible] def fI : Int → Int → Int × Int := fun _ k => (k, k + 1)
theorem fI_c : ∀ (x k : Int), (fI x k).2 = k + ((fun _ => 1 : Int → Nat) x : Nat) := fun _ _ => rfl
theorem sum_one {α : Type _} (a : List α) : (a.map fun _ => 1).sum = a.length := by
  induction a with
  | nil => rfl
  | cons x xs ih => simp [ih]; omega
theorem mkI_le (a : List Int) (k : Int) (i : Nat) : k ≤ mkC fI a k i ∧ mkC fI a k i ≤ k + a.length := by
  have := mkC_le _ fI_c a k i
  rw [sum_one] at this
  exact this

theorem fc_laws_markIntS (a : List Int) (k : Int) (hk : 0 ≤ k ∧ k + a.length ≤ 1000000000) : FC Tryz.prog 65 [(false, [.ref 0]), (false, [dI k])] [(0, some (.arr 3 .int a))] 1 (Is (lI ((marks fI a k).2)) [(0, some (.arr 3 .int ((marks fI a k).1)))]) := by
 refine FC.go Tryz.func65 rfl rfl Tryz.ntmps65 fun O_ hO w0_ N0_ X_ h0_ f0_ => ?_
 refine AC.fact (fact_int (x := .tmp 1) (Evl.tmp rfl)) fun hi1 => ?_
 iterate 8 refine w_ ?_
 refine AC.loopW (fun m_ s_ => ∃ (i : Nat), i ≤ a.length ∧ m_ = a.length - i ∧ s_ = ⟨[(0, lR 0), (1, lI (mkC fI a k i)), (4, lI 0), (5, lI (i : Int))], [(0, some (.arr 3 .int (mkA fI a k i)))]⟩) ⟨0, Nat.zero_le _, rfl, rfl⟩ ?_ ?_
 · exact Wk.of [(0, 0)] rfl ⟨rfl, (show some (lI k) = some (lI (mkC fI a k 0)) from congrArg (fun z_ => some (lI z_)) (by rw [mkC_0])), rfl, rfl, trivial⟩ ⟨(entE (mkA_0 fI a k)), trivial⟩ rfl rfl
 rintro m_ s_ ⟨i, hk3, hm4, rfl⟩
 have hml := mkA_len fI a k i
 have hmc := mkI_le a k i
 iterate 7 refine w_ ?_
 cases hb5 : (decide ((i : Int) < ((mkA fI a k i).length : Int)))
 ·have hb5' := of_decide_eq_false hb5
  refine w_ ?_
  refine AC.exit ?_
  refine (?_ : AC _ _ _ _ _)
  iterate 4 refine w_ ?_
  refine AC.ret ?_
  subst hO
  have e6 : (mkC fI a k i : Int) = ((marks fI a k).2) := by
   (rw [mkC_end _ (by omega)]; done)
  exact fin_is _ _ [(0, 0)] (Res.one rfl (Rs.tmp rfl)) ((congrArg (fun z_ => lI z_) e6)) ⟨(entE (by (rw [mkA_end _ (by omega)]; done))), trivial⟩ rfl rfl
 ·have hb5' := of_decide_eq_true hb5
  iterate 8 refine w_ ?_
  refine lc (Does.indexI (e := .int) (Evl.tmp rfl) rfl (Evl.tmp rfl) und_106 tsh_3 rfl (by omega) (by first | omega | (simp only [List.length_set]; omega))) ?_
  obtain ⟨x7, hx8⟩ : ∃ z, (mkA fI a k i)[i]? = some z := ⟨_, List.getElem?_eq_getElem (by omega)⟩
  refine lc (Does.storeI (e := .int) (z' := mkC fI a k i) (Evl.tmp rfl) rfl hx8 rfl (Ev.tmp rfl) rfl tsh_3 rfl rfl) ?_
  iterate 5 refine w_ ?_
  refine AL.nil ?_
  refine (?_ : AC _ _ _ _ _)
  iterate 4 refine w_ ?_
  refine AL.nil <| lend ⟨i + 1, by omega, rfl, rfl⟩ (by omega) ?_
  exact Wk.of [(0, 0)] rfl ⟨rfl, (show some (lI ((mkC fI a k i) + 1)) = some (lI (mkC fI a k (i + 1))) from congrArg (fun z_ => some (lI z_)) (by rw [mkC_succ (mkA_back hx8)])), rfl, rfl, trivial⟩ ⟨(entE (mkA_set (mkA_back hx8))), trivial⟩ rfl rfl

theorem held_at {α : Type _} {f : α → Int → α × Int} {a l : List α} {k : Int} {i : Nat} {x : α} (hm : a = (marks f l k).1) (h : a[i]? = some x) : ∃ y, l[i]? = some y ∧ x = (f y (mkC f l k i)).1 := by
  subst hm
  have hi := (List.getElem?_eq_some_iff.1 h).1
  rw [marks_len] at hi
  have h1 := List.getElem?_eq_getElem hi
  rw [marks_at h1] at h
  exact ⟨_, h1, (Option.some.inj h).symm⟩
@[reducible] def fL : Int × Bool → Int → (Int × Bool) × Int := fun _ k => ((k, decide ((k + 1) % 3 = 0)), k + 2)
theorem fL_c : ∀ (x : Int × Bool) (k : Int), (fL x k).2 = k + ((fun _ => 2 : Int × Bool → Nat) x : Nat) := fun _ _ => rfl
theorem sum_two {α : Type _} (a : List α) : (a.map fun _ => 2).sum = 2 * a.length := by
  induction a with
  | nil => rfl
  | cons x xs ih => simp [ih]; omega
theorem mkL_le (a : List (Int × Bool)) (k : Int) (i : Nat) : k ≤ mkC fL a k i ∧ mkC fL a k i ≤ k + 2 * a.length := by
  have := mkC_le _ fL_c a k i
  rw [sum_two] at this
  omega
theorem mkL_succ {l : List (Int × Bool)} {k : Int} {i : Nat} (h : i < l.length) : mkC fL l k i + 1 + 1 = mkC fL l k (i + 1) := by rw [mkC_succ (List.getElem?_eq_getElem h)]; simp only [fL]; omega

theorem fc_laws_markLabelS (a : List (Int × Bool)) (k : Int) (hk : 0 ≤ k ∧ k + 2 * a.length ≤ 1000000000) : FC Tryz.prog 64 [(false, [.ref 0]), (false, [dI k])] [(0, some (.arr 61 (.pr .int .bool) a))] 1 (Is (lI ((marks fL a k).2)) [(0, some (.arr 61 (.pr .int .bool) ((marks fL a k).1)))]) := by
 refine FC.go Tryz.func64 rfl rfl Tryz.ntmps64 fun O_ hO w0_ N0_ X_ h0_ f0_ => ?_
 refine AC.fact (fact_int (x := .tmp 1) (Evl.tmp rfl)) fun hi1 => ?_
 iterate 8 refine w_ ?_
 refine AC.loopW (fun m_ s_ => ∃ (i : Nat), i ≤ a.length ∧ m_ = a.length - i ∧ s_ = ⟨[(0, lR 0), (1, lI (mkC fL a k i)), (4, lI 0), (5, lI (i : Int))], [(0, some (.arr 61 (.pr .int .bool) (mkA fL a k i)))]⟩) ⟨0, Nat.zero_le _, rfl, rfl⟩ ?_ ?_
 · exact Wk.of [(0, 0)] rfl ⟨rfl, (show some (lI k) = some (lI (mkC fL a k 0)) from congrArg (fun z_ => some (lI z_)) (by rw [mkC_0])), rfl, rfl, trivial⟩ ⟨(entE (mkA_0 fL a k)), trivial⟩ rfl rfl
 rintro m_ s_ ⟨i, hk3, hm4, rfl⟩
 have hml := mkA_len fL a k i
 have hmc := mkL_le a k i
 iterate 7 refine w_ ?_
 cases hb5 : (decide ((i : Int) < ((mkA fL a k i).length : Int)))
 ·have hb5' := of_decide_eq_false hb5
  refine w_ ?_
  refine AC.exit ?_
  refine (?_ : AC _ _ _ _ _)
  iterate 4 refine w_ ?_
  refine AC.ret ?_
  subst hO
  have e6 : (mkC fL a k i : Int) = ((marks fL a k).2) := by
   (rw [mkC_end _ (by omega)]; done)
  exact fin_is _ _ [(0, 0)] (Res.one rfl (Rs.tmp rfl)) ((congrArg (fun z_ => lI z_) e6)) ⟨(entE (by (rw [mkA_end _ (by omega)]; done))), trivial⟩ rfl rfl
 ·have hb5' := of_decide_eq_true hb5
  iterate 8 refine w_ ?_
  refine lc (Does.indexI (e := (.pr .int .bool)) (Evl.tmp rfl) rfl (Evl.tmp rfl) und_37 tsh_61 rfl (by omega) (by first | omega | (simp only [List.length_set]; omega))) ?_
  refine w_ ?_
  obtain ⟨x7, hx8⟩ : ∃ z, (mkA fL a k i)[i]? = some z := ⟨_, List.getElem?_eq_getElem (by omega)⟩
  refine lc (Does.storeI (e := (.pr .int .bool)) (z' := (mkC fL a k i, x7.2)) (Evl.tmp rfl) rfl hx8 rfl (Ev.tmp rfl) rfl tsh_3 rfl rfl) ?_
  iterate 10 refine w_ ?_
  refine lc (Does.rem (Evl.tmp rfl) (Evl.int rfl) rfl (by omega) (by omega)) ?_
  refine w_ ?_
  refine lc (Does.indexI (e := (.pr .int .bool)) (Evl.tmp rfl) rfl (Evl.tmp rfl) und_37 tsh_61 rfl (by omega) (by first | omega | (simp only [List.length_set]; omega))) ?_
  refine w_ ?_
  refine lc (Does.storeI (e := (.pr .int .bool)) (z' := ((mkC fL a k i, x7.2).1, decide ((((mkC fL a k i) + 1) % 3) = 0))) (Evl.tmp rfl) rfl (List.getElem?_set_self (by first | omega | (simp only [List.length_set]; omega))) rfl (Ev.tmp rfl) rfl tsh_4 rfl rfl) ?_
  iterate 5 refine w_ ?_
  refine AL.nil ?_
  refine (?_ : AC _ _ _ _ _)
  iterate 4 refine w_ ?_
  refine AL.nil <| lend ⟨i + 1, by omega, rfl, rfl⟩ (by omega) ?_
  exact Wk.of [(0, 0)] rfl ⟨rfl, (show some (lI (((mkC fL a k i) + 1) + 1)) = some (lI (mkC fL a k (i + 1))) from congrArg (fun z_ => some (lI z_)) (mkL_succ (by omega))), rfl, rfl, trivial⟩ ⟨(entE (by rw [List.set_set]; exact mkA_set (f := fL) (mkA_back hx8))), trivial⟩ rfl rfl

end Go.Proofs.YtnakmhfjafecpaaGreat
