/- Walks over abstract states: orderings applied one behind the other. -/
import Derived.Test.YtbelopdphlllnaaWi
namespace Go.Proofs.Ytbelopdphlllnaa
open Go.RowKit

theorem drop_at {α : Type _} {l : List α} {k : Nat} {x : α} (hx : l[k]? = some x) : l.drop k = x :: l.drop (k + 1) := by
  obtain ⟨h1, h2⟩ := List.getElem?_eq_some_iff.1 hx
  rw [List.drop_eq_getElem_cons h1, h2]
section
variable [∀ s, Decidable (StgOk s)]
def appV : DSTG → List DOrdering → DSTG × Bool
  | s, [] => (s, true)
  | s, o :: os => if (addV s o).2 = true then appV (addV s o).1 os else (zeroSTG, false)
def applyV (s : DSTG) (l : List DOrdering) : DSTG × Bool := if StgOk s ∧ l.length ≤ 6 then appV s l else (zeroSTG, false)
theorem applyV_yes {s : DSTG} {l : List DOrdering} (h : StgOk s ∧ l.length ≤ 6) : applyV s l = appV s l := if_pos h
theorem applyV_no {s : DSTG} {l : List DOrdering} (h : ¬ (StgOk s ∧ l.length ≤ 6)) : applyV s l = (zeroSTG, false) := if_neg h
theorem appV_step {r : DSTG × Bool} {cur : DSTG} {l : List DOrdering} {k : Nat} {x : DOrdering} (hA : r = appV cur (l.drop k)) (hx : l[k]? = some x) (hb : (addV cur x).2 = true) : r = appV (addV cur x).1 (l.drop (k + 1)) := by
  rw [hA, drop_at hx, appV, if_pos hb]
theorem appV_stop {r : DSTG × Bool} {cur : DSTG} {l : List DOrdering} {k : Nat} {x : DOrdering} (hA : r = appV cur (l.drop k)) (hx : l[k]? = some x) (hb : (addV cur x).2 = false) : r = (zeroSTG, false) := by
  rw [hA, drop_at hx, appV, if_neg (by rw [hb]; decide)]
theorem appV_end {r : DSTG × Bool} {cur : DSTG} {l : List DOrdering} {k : Nat} (hA : r = appV cur (l.drop k)) (h : l.length ≤ k) : r = (cur, true) := by
  rw [hA, List.drop_eq_nil_of_le h, appV]
theorem l26V_tot (s : DSTG) (o : DOrdering) : Ty.tot tSTG (l26V s o).1 ≤ Ty.tot tSTG s + 3 := by
  unfold l26V
  split
  · exact addOrd_tot s o
  · show Ty.tot tSTG zeroSTG ≤ _; exact Nat.zero_le _
theorem appV_step2 {r : DSTG × Bool} {cur : DSTG} {l : List DOrdering} {k : Nat} {x : DOrdering} (hA : r = appV cur (l.drop k)) (hx : l[k]? = some x) (hb : (l26V cur x).2 = true) : r = appV (l26V cur x).1 (l.drop (k + 1)) := by
  rw [(l26V_addV hb).1]
  exact appV_step hA hx (l26V_addV hb).2.symm
theorem appV_stop2 {r : DSTG × Bool} {cur : DSTG} {l : List DOrdering} {k : Nat} {x : DOrdering} (hA : r = appV cur (l.drop k)) (hx : l[k]? = some x) (hb : (l26V cur x).2 = false) : r = (zeroSTG, false) :=
  appV_stop hA hx (by rw [l26V_addV0 hb])
theorem appV_tot : ∀ (l : List DOrdering) (s : DSTG), Ty.tot tSTG (appV s l).1 ≤ Ty.tot tSTG s + 3 * l.length
  | [], s => Nat.le_refl _
  | o :: os, s => by
    unfold appV
    split
    · have h1 := appV_tot os (addV s o).1
      have h2 := addV_tot s o
      simp only [List.length_cons]; omega
    · show Ty.tot tSTG zeroSTG ≤ _; exact Nat.zero_le _
theorem applyV_tot (s : DSTG) (l : List DOrdering) : Ty.tot tSTG (applyV s l).1 ≤ Ty.tot tSTG s + 18 := by
  unfold applyV
  split
  · rename_i h
    have := appV_tot l s
    omega
  · show Ty.tot tSTG zeroSTG ≤ _; exact Nat.zero_le _
end

set_option maxRecDepth 100000 in
set_option maxHeartbeats 4000000 in
theorem fc_impl_ApplyOrderings (s : (Int × (List (List Int × List Int))) × (List (ByteArray × Int)) × (List (Int × Bool)) × ByteArray) (list : List (Int × Int × Bool)) [∀ s, Decidable (StgOk s)] (hz : Ty.tot tSTG s ≤ 1900000) : FC Try.prog 25 [(true, [dI s.1.1, .dat (.sl 146 (.pr (.sl 3 .int) (.sl 3 .int))) s.1.2, .dat (.sl 129 (.pr .str .int)) s.2.1, .dat (.sl 131 (.pr .int .bool)) s.2.2.1, dS s.2.2.2]), (false, [.dat (.sl 54 (.pr .int (.pr .int .bool))) list])] [] 0 (Is (PV.tup [(true, [dI ((((applyV s list).1).1).1), .ref 0, .ref 1, .ref 2, dS (((applyV s list).1).2.2.2)]), (false, [dB ((applyV s list).2)])]) [(0, some (.arr 146 (.pr (.sl 3 .int) (.sl 3 .int)) ((((applyV s list).1).1).2))), (1, some (.arr 129 (.pr .str .int) (((applyV s list).1).2.1))), (2, some (.arr 131 (.pr .int .bool) (((applyV s list).1).2.2.1)))]) := by
  obtain ⟨O_, hO⟩ : ∃ x : PV → Tab → Prop, x = Is (PV.tup [(true, [dI ((((applyV s list).1).1).1), .ref 0, .ref 1, .ref 2, dS (((applyV s list).1).2.2.2)]), (false, [dB ((applyV s list).2)])]) [(0, some (.arr 146 (.pr (.sl 3 .int) (.sl 3 .int)) ((((applyV s list).1).1).2))), (1, some (.arr 129 (.pr .str .int) (((applyV s list).1).2.1))), (2, some (.arr 131 (.pr .int .bool) (((applyV s list).1).2.2.1)))] := ⟨_, rfl⟩
  refine FC.O_of hO (FC.ren (FC.of Try.func25 rfl rfl fun A_ hn_ hk_ => ?_))
  obtain ⟨w0_, N0_, X_, n_, k0_, h0_, f0_⟩ := A_
  obtain rfl : n_ = 40 := hn_.trans Try.ntmps25
  obtain rfl : k0_ = 0 := hk_
  refine AC.fact (fact_ag (x := .tmp 0) (i := 0) (Ev.tmp rfl) rfl) fun hi1 => ?_
  refine AC.seq ?_
  refine AC.region ?_
  refine AL.cons rfl (Does.box 0 (Ev.tmp rfl) rfl rfl (Fresh.of rfl) (Nat.le_of_ble_eq_true rfl)) ?_
  refine AL.cons rfl (Does.alloc 1 (.pr (.pr .int (.sl 146 (.pr (.sl 3 .int) (.sl 3 .int)))) (.pr (.sl 129 (.pr .str .int)) (.pr (.sl 131 (.pr .int .bool)) .str))) zer_50 rfl rfl (Fresh.of rfl) (Nat.le_of_ble_eq_true rfl)) ?_
  refine AL.cons rfl (Does.assignC Evl.bool rfl) ?_
  refine AL.nil ?_
  refine (?_ : AC _ _ _ _ _)
  refine AC.seq ?_
  refine AC.seq ?_
  refine AC.region ?_
  refine AL.cons rfl (Does.loadPA (Evl.tmp rfl) rfl tsh_50 rfl rfl) ?_
  refine AL.cons rfl (Does.call (fc_impl_IsValidSTG s) enters_57 ⟨_, _, rfl, (Ev.tmp rfl), rfl⟩ rfl rfl) ?_
  refine AL.cons rfl (Does.not (Evl.tmp rfl) rfl) ?_
  refine AL.cons rfl (Does.move rfl rfl) ?_
  cases hb2 : (decide (StgOk s))
  · have _h := hb2
    have hb2' : ¬ (StgOk s) := of_decide_eq_false hb2
    refine AL.guard_no (b := false) rfl rfl rfl ?_ rfl
    refine AL.guard_no (b := false) rfl rfl rfl ?_ rfl
    refine AL.guard_no (b := false) rfl rfl rfl ?_ rfl
    refine AL.cons rfl (Does.pickT (Evl.tmp rfl) (Evl.ev Evl.bool) rfl) ?_
    refine AL.nil ?_
    refine (?_ : AC _ _ _ _ _)
    refine AC.condT (Evl.tmp rfl) ?_
    refine AC.seq ?_
    refine AC.region ?_
    refine AL.cons rfl (Does.build bld_50 rfl (List.all_eq_true.1 rfl) rfl rfl) ?_
    refine AL.cons rfl (Does.storeP (Evl.tmp rfl) rfl (Ev.tmp rfl) rfl tsh_50 rfl) ?_
    refine AL.cons rfl (Does.assignC Evl.bool rfl) ?_
    refine AL.nil ?_
    refine (?_ : AC _ _ _ _ _)
    refine AC.wk (Wk.nilC 2 (p := 1) (off := 1) 146 (.pr (.sl 3 .int) (.sl 3 .int)) rfl rfl (Fresh.of rfl) (Nat.le_of_ble_eq_true rfl)) ?_
    refine AC.wk (Wk.nilC 3 (p := 1) (off := 2) 129 (.pr .str .int) rfl rfl (Fresh.of rfl) (Nat.le_of_ble_eq_true rfl)) ?_
    refine AC.wk (Wk.nilC 4 (p := 1) (off := 3) 131 (.pr .int .bool) rfl rfl (Fresh.of rfl) (Nat.le_of_ble_eq_true rfl)) ?_
    refine AC.ret ?_
    subst hO
    have e3 : (0 : Int) = (((applyV s list).1).1).1 := by
      first | (rw [applyV_no (fun h => by obtain ⟨h1, h2⟩ := h; first | omega | exact absurd h1 (by assumption))]; done) | (rw [applyV_no (fun h => by obtain ⟨h1, h2⟩ := h; first | omega | exact absurd h1 (by assumption))]; rfl) | (rw [applyV_yes ⟨by assumption, by omega⟩, appV_stop hA (by assumption) (by assumption)]; done) | (rw [applyV_yes ⟨by assumption, by omega⟩, appV_stop hA (by assumption) (by assumption)]; rfl) | (rw [applyV_yes ⟨by assumption, by omega⟩, appV_end hA (by omega)]; done) | (rw [applyV_yes ⟨by assumption, by omega⟩, appV_end hA (by omega)]; rfl)
    have e4 : (ByteArray.empty : ByteArray) = ((applyV s list).1).2.2.2 := by
      first | (rw [applyV_no (fun h => by obtain ⟨h1, h2⟩ := h; first | omega | exact absurd h1 (by assumption))]; done) | (rw [applyV_no (fun h => by obtain ⟨h1, h2⟩ := h; first | omega | exact absurd h1 (by assumption))]; rfl) | (rw [applyV_yes ⟨by assumption, by omega⟩, appV_stop hA (by assumption) (by assumption)]; done) | (rw [applyV_yes ⟨by assumption, by omega⟩, appV_stop hA (by assumption) (by assumption)]; rfl) | (rw [applyV_yes ⟨by assumption, by omega⟩, appV_end hA (by omega)]; done) | (rw [applyV_yes ⟨by assumption, by omega⟩, appV_end hA (by omega)]; rfl)
    have e5 : (false : Bool) = (applyV s list).2 := by
      first | (rw [applyV_no (fun h => by obtain ⟨h1, h2⟩ := h; first | omega | exact absurd h1 (by assumption))]; done) | (rw [applyV_no (fun h => by obtain ⟨h1, h2⟩ := h; first | omega | exact absurd h1 (by assumption))]; rfl) | (rw [applyV_yes ⟨by assumption, by omega⟩, appV_stop hA (by assumption) (by assumption)]; done) | (rw [applyV_yes ⟨by assumption, by omega⟩, appV_stop hA (by assumption) (by assumption)]; rfl) | (rw [applyV_yes ⟨by assumption, by omega⟩, appV_end hA (by omega)]; done) | (rw [applyV_yes ⟨by assumption, by omega⟩, appV_end hA (by omega)]; rfl)
    exact fin_is (PV.tup [(true, [dI ((((applyV s list).1).1).1), .ref 0, .ref 1, .ref 2, dS (((applyV s list).1).2.2.2)]), (false, [dB ((applyV s list).2)])]) [(0, some (.arr 146 (.pr (.sl 3 .int) (.sl 3 .int)) ((((applyV s list).1).1).2))), (1, some (.arr 129 (.pr .str .int) (((applyV s list).1).2.1))), (2, some (.arr 131 (.pr .int .bool) (((applyV s list).1).2.2.1)))] [(0, 2), (1, 3), (2, 4)] (Res.two rfl (Rs.cell rfl rfl tsh_50 rfl) (Rs.tmp rfl)) (show PV.tup [(true, [dI 0, .ref 2, .ref 3, .ref 4, dS ByteArray.empty]), (false, [dB false])] = PV.tup [(true, [dI ((((applyV s list).1).1).1), .ref 2, .ref 3, .ref 4, dS (((applyV s list).1).2.2.2)]), (false, [dB ((applyV s list).2)])] by exact (((congrArg (fun z_ => PV.tup [(true, [dI z_, .ref 2, .ref 3, .ref 4, dS ByteArray.empty]), (false, [dB false])]) e3)).trans (congrArg (fun z_ => PV.tup [(true, [dI ((((applyV s list).1).1).1), .ref 2, .ref 3, .ref 4, dS z_]), (false, [dB false])]) e4)).trans (congrArg (fun z_ => PV.tup [(true, [dI ((((applyV s list).1).1).1), .ref 2, .ref 3, .ref 4, dS (((applyV s list).1).2.2.2)]), (false, [dB z_])]) e5)) ⟨(show some (Ent.arr 146 (.pr (.sl 3 .int) (.sl 3 .int)) ([])) = some (Ent.arr 146 (.pr (.sl 3 .int) (.sl 3 .int)) ((((applyV s list).1).1).2)) from congrArg (fun z => some (Ent.arr 146 (.pr (.sl 3 .int) (.sl 3 .int)) z)) (by first | (rw [applyV_no (fun h => by obtain ⟨h1, h2⟩ := h; first | omega | exact absurd h1 (by assumption))]; done) | (rw [applyV_no (fun h => by obtain ⟨h1, h2⟩ := h; first | omega | exact absurd h1 (by assumption))]; rfl) | (rw [applyV_yes ⟨by assumption, by omega⟩, appV_stop hA (by assumption) (by assumption)]; done) | (rw [applyV_yes ⟨by assumption, by omega⟩, appV_stop hA (by assumption) (by assumption)]; rfl) | (rw [applyV_yes ⟨by assumption, by omega⟩, appV_end hA (by omega)]; done) | (rw [applyV_yes ⟨by assumption, by omega⟩, appV_end hA (by omega)]; rfl))), (show some (Ent.arr 129 (.pr .str .int) ([])) = some (Ent.arr 129 (.pr .str .int) (((applyV s list).1).2.1)) from congrArg (fun z => some (Ent.arr 129 (.pr .str .int) z)) (by first | (rw [applyV_no (fun h => by obtain ⟨h1, h2⟩ := h; first | omega | exact absurd h1 (by assumption))]; done) | (rw [applyV_no (fun h => by obtain ⟨h1, h2⟩ := h; first | omega | exact absurd h1 (by assumption))]; rfl) | (rw [applyV_yes ⟨by assumption, by omega⟩, appV_stop hA (by assumption) (by assumption)]; done) | (rw [applyV_yes ⟨by assumption, by omega⟩, appV_stop hA (by assumption) (by assumption)]; rfl) | (rw [applyV_yes ⟨by assumption, by omega⟩, appV_end hA (by omega)]; done) | (rw [applyV_yes ⟨by assumption, by omega⟩, appV_end hA (by omega)]; rfl))), (show some (Ent.arr 131 (.pr .int .bool) ([])) = some (Ent.arr 131 (.pr .int .bool) (((applyV s list).1).2.2.1)) from congrArg (fun z => some (Ent.arr 131 (.pr .int .bool) z)) (by first | (rw [applyV_no (fun h => by obtain ⟨h1, h2⟩ := h; first | omega | exact absurd h1 (by assumption))]; done) | (rw [applyV_no (fun h => by obtain ⟨h1, h2⟩ := h; first | omega | exact absurd h1 (by assumption))]; rfl) | (rw [applyV_yes ⟨by assumption, by omega⟩, appV_stop hA (by assumption) (by assumption)]; done) | (rw [applyV_yes ⟨by assumption, by omega⟩, appV_stop hA (by assumption) (by assumption)]; rfl) | (rw [applyV_yes ⟨by assumption, by omega⟩, appV_end hA (by omega)]; done) | (rw [applyV_yes ⟨by assumption, by omega⟩, appV_end hA (by omega)]; rfl))), trivial⟩ rfl rfl
  · have _h := hb2
    have hb2' : (StgOk s) := of_decide_eq_true hb2
    refine AL.guard_yes rfl rfl rfl (Does.move rfl rfl) ?_
    refine AL.fact (fact_len (x := .tmp 15) (Evl.tmp rfl)) fun hl6 => ?_
    refine AL.guard_yes rfl rfl rfl (Does.len (Evl.tmp rfl) rfl und_62) ?_
    refine AL.guard_yes rfl rfl rfl (Does.gtr (Evl.tmp rfl) (Evl.int rfl) rfl) ?_
    refine AL.cons rfl (Does.pickF (Evl.tmp rfl) (Ev.tmp rfl) rfl) ?_
    refine AL.nil ?_
    refine (?_ : AC _ _ _ _ _)
    cases hb7 : (decide (6 < (list.length : Int)))
    · have _h := hb7
      have hb7' : ¬ (6 < (list.length : Int)) := of_decide_eq_false hb7
      refine AC.condF (Evl.tmp rfl) ?_
      refine AC.skip ?_
      refine (?_ : AC _ _ _ _ _)
      refine AC.seq ?_
      refine AC.region ?_
      refine AL.cons rfl (Does.loadPA (Evl.tmp rfl) rfl tsh_50 rfl rfl) ?_
      refine AL.cons rfl (Does.callG 5 (fc_impl_copySTG s (by omega)) enters_71 ⟨_, _, rfl, (Ev.tmp rfl), rfl⟩ rfl rfl ⟨Fresh.of rfl, Fresh.of rfl, Fresh.of rfl, trivial⟩ (Nat.le_of_ble_eq_true rfl)) ?_
      refine AL.cons rfl (Does.alloc 8 (.pr (.pr .int (.sl 146 (.pr (.sl 3 .int) (.sl 3 .int)))) (.pr (.sl 129 (.pr .str .int)) (.pr (.sl 131 (.pr .int .bool)) .str))) zer_50 rfl rfl (Fresh.of rfl) (Nat.le_of_ble_eq_true rfl)) ?_
      refine AL.cons rfl (Does.storeP (Evl.tmp rfl) rfl (Ev.tmp rfl) rfl tsh_50 rfl) ?_
      refine AL.nil ?_
      refine (?_ : AC _ _ _ _ _)
      refine AC.seq ?_
      refine AC.seq ?_
      refine AC.region ?_
      refine AL.cons rfl (Does.move rfl rfl) ?_
      refine AL.fact (fact_len (x := .tmp 22) (Evl.tmp rfl)) fun hl8 => ?_
      refine AL.cons rfl (Does.len (Evl.tmp rfl) rfl und_62) ?_
      refine AL.cons rfl (Does.moveC (Evl.int rfl) rfl) ?_
      refine AL.nil ?_
      refine (?_ : AC _ _ _ _ _)
      refine AC.block ?_
      refine AC.wk (s' := ⟨[(4, lf (.ptr 1 0)), (6, lf (.ptr 8 0)), (22, lf (.dat (.sl 54 (.pr .int (.pr .int .bool))) list)), (23, lf (dI (list.length : Int))), (24, lf (dI (0 : Int)))], [(1, some (.box 50 [dI 0, .val (.slice none 0 0), .val (.slice none 0 0), .val (.slice none 0 0), dS ByteArray.empty])), (8, some (.box 50 [dI s.1.1, .ref 9, .ref 10, .ref 11, dS s.2.2.2])), (9, some (.arr 146 (.pr (.sl 3 .int) (.sl 3 .int)) s.1.2)), (10, some (.arr 129 (.pr .str .int) s.2.1)), (11, some (.arr 131 (.pr .int .bool) s.2.2.1))]⟩) (Wk.of [(1, 1), (8, 8), (9, 5), (10, 6), (11, 7)] rfl ⟨rfl, rfl, rfl, rfl, rfl, trivial⟩ ⟨rfl, rfl, rfl, rfl, rfl, trivial⟩ rfl rfl) ?_
      refine AC.loop (fun m_ s_ => ∃ (k : Nat) (cur : (Int × (List (List Int × List Int))) × (List (ByteArray × Int)) × (List (Int × Bool)) × ByteArray), k ≤ list.length ∧ m_ = list.length - k ∧ (appV s list = appV cur (list.drop k)) ∧ (Ty.tot tSTG cur ≤ Ty.tot tSTG s + 3 * k) ∧ s_ = ⟨[(4, lf (.ptr 1 0)), (6, lf (.ptr 8 0)), (22, lf (.dat (.sl 54 (.pr .int (.pr .int .bool))) list)), (23, lf (dI (list.length : Int))), (24, lf (dI (k : Int)))], [(1, some (.box 50 [dI 0, .val (.slice none 0 0), .val (.slice none 0 0), .val (.slice none 0 0), dS ByteArray.empty])), (8, some (.box 50 [dI cur.1.1, .ref 9, .ref 10, .ref 11, dS cur.2.2.2])), (9, some (.arr 146 (.pr (.sl 3 .int) (.sl 3 .int)) cur.1.2)), (10, some (.arr 129 (.pr .str .int) cur.2.1)), (11, some (.arr 131 (.pr .int .bool) cur.2.2.1))]⟩) (m := list.length - 0) ⟨0, s, Nat.zero_le _, rfl, rfl, by omega, rfl⟩ ?_
      rintro m_ s_ ⟨k, cur, hk9, hm10, hA, hT, rfl⟩
      refine AC.seq ?_
      refine AC.region ?_
      refine AL.cons rfl (Does.lss (Evl.tmp rfl) (Evl.tmp rfl) rfl) ?_
      refine AL.nil ?_
      refine (?_ : AC _ _ _ _ _)
      refine AC.seq ?_
      cases hb11 : (decide ((k : Int) < (list.length : Int)))
      · have _h := hb11
        have hb11' : ¬ ((k : Int) < (list.length : Int)) := of_decide_eq_false hb11
        refine AC.condF (Evl.tmp rfl) ?_
        refine AC.exit ?_
        refine (?_ : AC _ _ _ _ _)
        refine AC.seq ?_
        refine AC.region ?_
        refine AL.cons rfl (Does.loadPA (Evl.tmp rfl) rfl tsh_50 rfl rfl) ?_
        refine AL.cons rfl (Does.storeP (Evl.tmp rfl) rfl (Ev.tmp rfl) rfl tsh_50 rfl) ?_
        refine AL.cons rfl (Does.assignC Evl.bool rfl) ?_
        refine AL.nil ?_
        refine (?_ : AC _ _ _ _ _)
        refine AC.ret ?_
        subst hO
        have e12 : (cur.1.1 : Int) = (((applyV s list).1).1).1 := by
          first | (rw [applyV_no (fun h => by obtain ⟨h1, h2⟩ := h; first | omega | exact absurd h1 (by assumption))]; done) | (rw [applyV_no (fun h => by obtain ⟨h1, h2⟩ := h; first | omega | exact absurd h1 (by assumption))]; rfl) | (rw [applyV_yes ⟨by assumption, by omega⟩, appV_stop hA (by assumption) (by assumption)]; done) | (rw [applyV_yes ⟨by assumption, by omega⟩, appV_stop hA (by assumption) (by assumption)]; rfl) | (rw [applyV_yes ⟨by assumption, by omega⟩, appV_end hA (by omega)]; done) | (rw [applyV_yes ⟨by assumption, by omega⟩, appV_end hA (by omega)]; rfl)
        have e13 : (cur.2.2.2 : ByteArray) = ((applyV s list).1).2.2.2 := by
          first | (rw [applyV_no (fun h => by obtain ⟨h1, h2⟩ := h; first | omega | exact absurd h1 (by assumption))]; done) | (rw [applyV_no (fun h => by obtain ⟨h1, h2⟩ := h; first | omega | exact absurd h1 (by assumption))]; rfl) | (rw [applyV_yes ⟨by assumption, by omega⟩, appV_stop hA (by assumption) (by assumption)]; done) | (rw [applyV_yes ⟨by assumption, by omega⟩, appV_stop hA (by assumption) (by assumption)]; rfl) | (rw [applyV_yes ⟨by assumption, by omega⟩, appV_end hA (by omega)]; done) | (rw [applyV_yes ⟨by assumption, by omega⟩, appV_end hA (by omega)]; rfl)
        have e14 : (true : Bool) = (applyV s list).2 := by
          first | (rw [applyV_no (fun h => by obtain ⟨h1, h2⟩ := h; first | omega | exact absurd h1 (by assumption))]; done) | (rw [applyV_no (fun h => by obtain ⟨h1, h2⟩ := h; first | omega | exact absurd h1 (by assumption))]; rfl) | (rw [applyV_yes ⟨by assumption, by omega⟩, appV_stop hA (by assumption) (by assumption)]; done) | (rw [applyV_yes ⟨by assumption, by omega⟩, appV_stop hA (by assumption) (by assumption)]; rfl) | (rw [applyV_yes ⟨by assumption, by omega⟩, appV_end hA (by omega)]; done) | (rw [applyV_yes ⟨by assumption, by omega⟩, appV_end hA (by omega)]; rfl)
        exact fin_is (PV.tup [(true, [dI ((((applyV s list).1).1).1), .ref 0, .ref 1, .ref 2, dS (((applyV s list).1).2.2.2)]), (false, [dB ((applyV s list).2)])]) [(0, some (.arr 146 (.pr (.sl 3 .int) (.sl 3 .int)) ((((applyV s list).1).1).2))), (1, some (.arr 129 (.pr .str .int) (((applyV s list).1).2.1))), (2, some (.arr 131 (.pr .int .bool) (((applyV s list).1).2.2.1)))] [(0, 9), (1, 10), (2, 11)] (Res.two rfl (Rs.cell rfl rfl tsh_50 rfl) (Rs.tmp rfl)) (show PV.tup [(true, [dI cur.1.1, .ref 9, .ref 10, .ref 11, dS cur.2.2.2]), (false, [dB true])] = PV.tup [(true, [dI ((((applyV s list).1).1).1), .ref 9, .ref 10, .ref 11, dS (((applyV s list).1).2.2.2)]), (false, [dB ((applyV s list).2)])] by exact (((congrArg (fun z_ => PV.tup [(true, [dI z_, .ref 9, .ref 10, .ref 11, dS cur.2.2.2]), (false, [dB true])]) e12)).trans (congrArg (fun z_ => PV.tup [(true, [dI ((((applyV s list).1).1).1), .ref 9, .ref 10, .ref 11, dS z_]), (false, [dB true])]) e13)).trans (congrArg (fun z_ => PV.tup [(true, [dI ((((applyV s list).1).1).1), .ref 9, .ref 10, .ref 11, dS (((applyV s list).1).2.2.2)]), (false, [dB z_])]) e14)) ⟨(show some (Ent.arr 146 (.pr (.sl 3 .int) (.sl 3 .int)) cur.1.2) = some (Ent.arr 146 (.pr (.sl 3 .int) (.sl 3 .int)) ((((applyV s list).1).1).2)) from congrArg (fun z => some (Ent.arr 146 (.pr (.sl 3 .int) (.sl 3 .int)) z)) (by first | (rw [applyV_no (fun h => by obtain ⟨h1, h2⟩ := h; first | omega | exact absurd h1 (by assumption))]; done) | (rw [applyV_no (fun h => by obtain ⟨h1, h2⟩ := h; first | omega | exact absurd h1 (by assumption))]; rfl) | (rw [applyV_yes ⟨by assumption, by omega⟩, appV_stop hA (by assumption) (by assumption)]; done) | (rw [applyV_yes ⟨by assumption, by omega⟩, appV_stop hA (by assumption) (by assumption)]; rfl) | (rw [applyV_yes ⟨by assumption, by omega⟩, appV_end hA (by omega)]; done) | (rw [applyV_yes ⟨by assumption, by omega⟩, appV_end hA (by omega)]; rfl))), (show some (Ent.arr 129 (.pr .str .int) cur.2.1) = some (Ent.arr 129 (.pr .str .int) (((applyV s list).1).2.1)) from congrArg (fun z => some (Ent.arr 129 (.pr .str .int) z)) (by first | (rw [applyV_no (fun h => by obtain ⟨h1, h2⟩ := h; first | omega | exact absurd h1 (by assumption))]; done) | (rw [applyV_no (fun h => by obtain ⟨h1, h2⟩ := h; first | omega | exact absurd h1 (by assumption))]; rfl) | (rw [applyV_yes ⟨by assumption, by omega⟩, appV_stop hA (by assumption) (by assumption)]; done) | (rw [applyV_yes ⟨by assumption, by omega⟩, appV_stop hA (by assumption) (by assumption)]; rfl) | (rw [applyV_yes ⟨by assumption, by omega⟩, appV_end hA (by omega)]; done) | (rw [applyV_yes ⟨by assumption, by omega⟩, appV_end hA (by omega)]; rfl))), (show some (Ent.arr 131 (.pr .int .bool) cur.2.2.1) = some (Ent.arr 131 (.pr .int .bool) (((applyV s list).1).2.2.1)) from congrArg (fun z => some (Ent.arr 131 (.pr .int .bool) z)) (by first | (rw [applyV_no (fun h => by obtain ⟨h1, h2⟩ := h; first | omega | exact absurd h1 (by assumption))]; done) | (rw [applyV_no (fun h => by obtain ⟨h1, h2⟩ := h; first | omega | exact absurd h1 (by assumption))]; rfl) | (rw [applyV_yes ⟨by assumption, by omega⟩, appV_stop hA (by assumption) (by assumption)]; done) | (rw [applyV_yes ⟨by assumption, by omega⟩, appV_stop hA (by assumption) (by assumption)]; rfl) | (rw [applyV_yes ⟨by assumption, by omega⟩, appV_end hA (by omega)]; done) | (rw [applyV_yes ⟨by assumption, by omega⟩, appV_end hA (by omega)]; rfl))), trivial⟩ rfl rfl
      · have _h := hb11
        have hb11' : ((k : Int) < (list.length : Int)) := of_decide_eq_true hb11
        refine AC.condT (Evl.tmp rfl) ?_
        refine AC.skip ?_
        refine (?_ : AC _ _ _ _ _)
        refine AC.seq ?_
        refine AC.block ?_
        refine AC.seq ?_
        refine AC.region ?_
        obtain ⟨x15, hx16⟩ : ∃ z, list[k]? = some z := ⟨_, List.getElem?_eq_getElem (by omega)⟩
        refine AL.cons rfl (Does.indexE (Evl.tmp rfl) (Evl.tmp rfl) und_62 tsh_54 rfl (by omega) hx16) ?_
        refine AL.cons rfl (Does.loadEA (Evl.tmp rfl) tsh_54 rfl rfl) ?_
        refine AL.cons rfl (Does.alloc 12 (.pr .int (.pr .int .bool)) zer_54 rfl rfl (Fresh.of rfl) (Nat.le_of_ble_eq_true rfl)) ?_
        refine AL.cons rfl (Does.storeP (Evl.tmp rfl) rfl (Ev.tmp rfl) rfl tsh_54 rfl) ?_
        refine AL.nil ?_
        refine (?_ : AC _ _ _ _ _)
        refine AC.seq ?_
        refine AC.region ?_
        refine AL.cons rfl (Does.loadPA (Evl.tmp rfl) rfl tsh_50 rfl rfl) ?_
        refine AL.cons rfl (Does.loadPA (Evl.tmp rfl) rfl tsh_54 rfl rfl) ?_
        refine AL.cons rfl (Does.callGB 13 (fc_impl_AddOrdering cur x15 (by omega)) enters_18 ⟨_, _, rfl, (Ev.ob (Ev.tmp rfl) ⟨_, _, rfl, .inl rfl, ⟨_, _, rfl, .inr ⟨_, _, _, _, rfl, rfl, rfl⟩, ⟨_, _, rfl, .inr ⟨_, _, _, _, rfl, rfl, rfl⟩, ⟨_, _, rfl, .inr ⟨_, _, _, _, rfl, rfl, rfl⟩, ⟨_, _, rfl, .inl rfl, rfl⟩⟩⟩⟩⟩), ⟨_, _, rfl, (Ev.b (Ev.tmp rfl)), rfl⟩⟩ rfl rfl rfl ⟨Fresh.of rfl, Fresh.of rfl, Fresh.of rfl, trivial⟩ (Nat.le_of_ble_eq_true rfl)) ?_
        refine AL.cons rfl (Does.move rfl rfl) ?_
        refine AL.cons rfl (Does.extract rfl rfl rfl) ?_
        refine AL.cons rfl (Does.extract rfl rfl rfl) ?_
        refine AL.cons rfl (Does.alloc 16 (.pr (.pr .int (.sl 146 (.pr (.sl 3 .int) (.sl 3 .int)))) (.pr (.sl 129 (.pr .str .int)) (.pr (.sl 131 (.pr .int .bool)) .str))) zer_50 rfl rfl (Fresh.of rfl) (Nat.le_of_ble_eq_true rfl)) ?_
        refine AL.cons rfl (Does.storeP (Evl.tmp rfl) rfl (Ev.tmp rfl) rfl tsh_50 rfl) ?_
        refine AL.cons rfl (Does.assign rfl rfl) ?_
        refine AL.nil ?_
        refine (?_ : AC _ _ _ _ _)
        refine AC.seq ?_
        refine AC.seq ?_
        refine AC.region ?_
        refine AL.cons rfl (Does.move rfl rfl) ?_
        refine AL.cons rfl (Does.not (Evl.tmp rfl) rfl) ?_
        refine AL.nil ?_
        refine (?_ : AC _ _ _ _ _)
        cases hb17 : ((addV cur x15).2)
        · have _h := hb17
          refine AC.condT (Evl.tmp rfl) ?_
          refine AC.seq ?_
          refine AC.region ?_
          refine AL.cons rfl (Does.build bld_50 rfl (List.all_eq_true.1 rfl) rfl rfl) ?_
          refine AL.cons rfl (Does.storeP (Evl.tmp rfl) rfl (Ev.tmp rfl) rfl tsh_50 rfl) ?_
          refine AL.cons rfl (Does.assignC Evl.bool rfl) ?_
          refine AL.nil ?_
          refine (?_ : AC _ _ _ _ _)
          refine AC.wk (Wk.nilC 17 (p := 1) (off := 1) 146 (.pr (.sl 3 .int) (.sl 3 .int)) rfl rfl (Fresh.of rfl) (Nat.le_of_ble_eq_true rfl)) ?_
          refine AC.wk (Wk.nilC 18 (p := 1) (off := 2) 129 (.pr .str .int) rfl rfl (Fresh.of rfl) (Nat.le_of_ble_eq_true rfl)) ?_
          refine AC.wk (Wk.nilC 19 (p := 1) (off := 3) 131 (.pr .int .bool) rfl rfl (Fresh.of rfl) (Nat.le_of_ble_eq_true rfl)) ?_
          refine AC.ret ?_
          subst hO
          have e18 : (0 : Int) = (((applyV s list).1).1).1 := by
            first | (rw [applyV_no (fun h => by obtain ⟨h1, h2⟩ := h; first | omega | exact absurd h1 (by assumption))]; done) | (rw [applyV_no (fun h => by obtain ⟨h1, h2⟩ := h; first | omega | exact absurd h1 (by assumption))]; rfl) | (rw [applyV_yes ⟨by assumption, by omega⟩, appV_stop hA (by assumption) (by assumption)]; done) | (rw [applyV_yes ⟨by assumption, by omega⟩, appV_stop hA (by assumption) (by assumption)]; rfl) | (rw [applyV_yes ⟨by assumption, by omega⟩, appV_end hA (by omega)]; done) | (rw [applyV_yes ⟨by assumption, by omega⟩, appV_end hA (by omega)]; rfl)
          have e19 : (ByteArray.empty : ByteArray) = ((applyV s list).1).2.2.2 := by
            first | (rw [applyV_no (fun h => by obtain ⟨h1, h2⟩ := h; first | omega | exact absurd h1 (by assumption))]; done) | (rw [applyV_no (fun h => by obtain ⟨h1, h2⟩ := h; first | omega | exact absurd h1 (by assumption))]; rfl) | (rw [applyV_yes ⟨by assumption, by omega⟩, appV_stop hA (by assumption) (by assumption)]; done) | (rw [applyV_yes ⟨by assumption, by omega⟩, appV_stop hA (by assumption) (by assumption)]; rfl) | (rw [applyV_yes ⟨by assumption, by omega⟩, appV_end hA (by omega)]; done) | (rw [applyV_yes ⟨by assumption, by omega⟩, appV_end hA (by omega)]; rfl)
          have e20 : (false : Bool) = (applyV s list).2 := by
            first | (rw [applyV_no (fun h => by obtain ⟨h1, h2⟩ := h; first | omega | exact absurd h1 (by assumption))]; done) | (rw [applyV_no (fun h => by obtain ⟨h1, h2⟩ := h; first | omega | exact absurd h1 (by assumption))]; rfl) | (rw [applyV_yes ⟨by assumption, by omega⟩, appV_stop hA (by assumption) (by assumption)]; done) | (rw [applyV_yes ⟨by assumption, by omega⟩, appV_stop hA (by assumption) (by assumption)]; rfl) | (rw [applyV_yes ⟨by assumption, by omega⟩, appV_end hA (by omega)]; done) | (rw [applyV_yes ⟨by assumption, by omega⟩, appV_end hA (by omega)]; rfl)
          exact fin_is (PV.tup [(true, [dI ((((applyV s list).1).1).1), .ref 0, .ref 1, .ref 2, dS (((applyV s list).1).2.2.2)]), (false, [dB ((applyV s list).2)])]) [(0, some (.arr 146 (.pr (.sl 3 .int) (.sl 3 .int)) ((((applyV s list).1).1).2))), (1, some (.arr 129 (.pr .str .int) (((applyV s list).1).2.1))), (2, some (.arr 131 (.pr .int .bool) (((applyV s list).1).2.2.1)))] [(0, 17), (1, 18), (2, 19)] (Res.two rfl (Rs.cell rfl rfl tsh_50 rfl) (Rs.tmp rfl)) (show PV.tup [(true, [dI 0, .ref 17, .ref 18, .ref 19, dS ByteArray.empty]), (false, [dB false])] = PV.tup [(true, [dI ((((applyV s list).1).1).1), .ref 17, .ref 18, .ref 19, dS (((applyV s list).1).2.2.2)]), (false, [dB ((applyV s list).2)])] by exact (((congrArg (fun z_ => PV.tup [(true, [dI z_, .ref 17, .ref 18, .ref 19, dS ByteArray.empty]), (false, [dB false])]) e18)).trans (congrArg (fun z_ => PV.tup [(true, [dI ((((applyV s list).1).1).1), .ref 17, .ref 18, .ref 19, dS z_]), (false, [dB false])]) e19)).trans (congrArg (fun z_ => PV.tup [(true, [dI ((((applyV s list).1).1).1), .ref 17, .ref 18, .ref 19, dS (((applyV s list).1).2.2.2)]), (false, [dB z_])]) e20)) ⟨(show some (Ent.arr 146 (.pr (.sl 3 .int) (.sl 3 .int)) ([])) = some (Ent.arr 146 (.pr (.sl 3 .int) (.sl 3 .int)) ((((applyV s list).1).1).2)) from congrArg (fun z => some (Ent.arr 146 (.pr (.sl 3 .int) (.sl 3 .int)) z)) (by first | (rw [applyV_no (fun h => by obtain ⟨h1, h2⟩ := h; first | omega | exact absurd h1 (by assumption))]; done) | (rw [applyV_no (fun h => by obtain ⟨h1, h2⟩ := h; first | omega | exact absurd h1 (by assumption))]; rfl) | (rw [applyV_yes ⟨by assumption, by omega⟩, appV_stop hA (by assumption) (by assumption)]; done) | (rw [applyV_yes ⟨by assumption, by omega⟩, appV_stop hA (by assumption) (by assumption)]; rfl) | (rw [applyV_yes ⟨by assumption, by omega⟩, appV_end hA (by omega)]; done) | (rw [applyV_yes ⟨by assumption, by omega⟩, appV_end hA (by omega)]; rfl))), (show some (Ent.arr 129 (.pr .str .int) ([])) = some (Ent.arr 129 (.pr .str .int) (((applyV s list).1).2.1)) from congrArg (fun z => some (Ent.arr 129 (.pr .str .int) z)) (by first | (rw [applyV_no (fun h => by obtain ⟨h1, h2⟩ := h; first | omega | exact absurd h1 (by assumption))]; done) | (rw [applyV_no (fun h => by obtain ⟨h1, h2⟩ := h; first | omega | exact absurd h1 (by assumption))]; rfl) | (rw [applyV_yes ⟨by assumption, by omega⟩, appV_stop hA (by assumption) (by assumption)]; done) | (rw [applyV_yes ⟨by assumption, by omega⟩, appV_stop hA (by assumption) (by assumption)]; rfl) | (rw [applyV_yes ⟨by assumption, by omega⟩, appV_end hA (by omega)]; done) | (rw [applyV_yes ⟨by assumption, by omega⟩, appV_end hA (by omega)]; rfl))), (show some (Ent.arr 131 (.pr .int .bool) ([])) = some (Ent.arr 131 (.pr .int .bool) (((applyV s list).1).2.2.1)) from congrArg (fun z => some (Ent.arr 131 (.pr .int .bool) z)) (by first | (rw [applyV_no (fun h => by obtain ⟨h1, h2⟩ := h; first | omega | exact absurd h1 (by assumption))]; done) | (rw [applyV_no (fun h => by obtain ⟨h1, h2⟩ := h; first | omega | exact absurd h1 (by assumption))]; rfl) | (rw [applyV_yes ⟨by assumption, by omega⟩, appV_stop hA (by assumption) (by assumption)]; done) | (rw [applyV_yes ⟨by assumption, by omega⟩, appV_stop hA (by assumption) (by assumption)]; rfl) | (rw [applyV_yes ⟨by assumption, by omega⟩, appV_end hA (by omega)]; done) | (rw [applyV_yes ⟨by assumption, by omega⟩, appV_end hA (by omega)]; rfl))), trivial⟩ rfl rfl
        · have _h := hb17
          refine AC.condF (Evl.tmp rfl) ?_
          refine AC.skip ?_
          refine (?_ : AC _ _ _ _ _)
          refine AC.region ?_
          refine AL.cons rfl (Does.loadPA (Evl.tmp rfl) rfl tsh_50 rfl rfl) ?_
          refine AL.cons rfl (Does.storeP (Evl.tmp rfl) rfl (Ev.tmp rfl) rfl tsh_50 rfl) ?_
          refine AL.nil ?_
          refine (?_ : AC _ _ _ _ _)
          refine AC.region ?_
          refine AL.cons rfl (Does.add (Evl.tmp rfl) (Evl.int rfl) rfl (by omega)) ?_
          refine AL.cons rfl (Does.move rfl rfl) ?_
          refine AL.nil ?_
          exact loop_end (list.length - (k + 1)) ⟨[(4, lf (.ptr 1 0)), (6, lf (.ptr 8 0)), (22, lf (.dat (.sl 54 (.pr .int (.pr .int .bool))) list)), (23, lf (dI (list.length : Int))), (24, lf (dI ((k + 1) : Int)))], [(1, some (.box 50 [dI 0, .val (.slice none 0 0), .val (.slice none 0 0), .val (.slice none 0 0), dS ByteArray.empty])), (8, some (.box 50 [dI (((addV cur x15).1).1.1), .ref 9, .ref 10, .ref 11, dS (((addV cur x15).1).2.2.2)])), (9, some (.arr 146 (.pr (.sl 3 .int) (.sl 3 .int)) (((addV cur x15).1).1.2))), (10, some (.arr 129 (.pr .str .int) (((addV cur x15).1).2.1))), (11, some (.arr 131 (.pr .int .bool) (((addV cur x15).1).2.2.1)))]⟩ (by omega) (Wk.of [(1, 1), (8, 8), (9, 13), (10, 14), (11, 15)] rfl ⟨rfl, rfl, rfl, rfl, rfl, trivial⟩ ⟨rfl, rfl, (show some (Ent.arr 146 (.pr (.sl 3 .int) (.sl 3 .int)) ((((addV cur x15).1).1).2)) = some (Ent.arr 146 (.pr (.sl 3 .int) (.sl 3 .int)) (((addV cur x15).1).1.2)) from congrArg (fun z => some (Ent.arr 146 (.pr (.sl 3 .int) (.sl 3 .int)) z)) (by first | rfl | simp)), rfl, rfl, trivial⟩ rfl rfl) ⟨k + 1, ((addV cur x15).1), by omega, rfl, appV_step hA hx16 (by assumption), (by have := addV_tot cur x15; omega), rfl⟩
    · have _h := hb7
      have hb7' : (6 < (list.length : Int)) := of_decide_eq_true hb7
      refine AC.condT (Evl.tmp rfl) ?_
      refine AC.seq ?_
      refine AC.region ?_
      refine AL.cons rfl (Does.build bld_50 rfl (List.all_eq_true.1 rfl) rfl rfl) ?_
      refine AL.cons rfl (Does.storeP (Evl.tmp rfl) rfl (Ev.tmp rfl) rfl tsh_50 rfl) ?_
      refine AL.cons rfl (Does.assignC Evl.bool rfl) ?_
      refine AL.nil ?_
      refine (?_ : AC _ _ _ _ _)
      refine AC.wk (Wk.nilC 20 (p := 1) (off := 1) 146 (.pr (.sl 3 .int) (.sl 3 .int)) rfl rfl (Fresh.of rfl) (Nat.le_of_ble_eq_true rfl)) ?_
      refine AC.wk (Wk.nilC 21 (p := 1) (off := 2) 129 (.pr .str .int) rfl rfl (Fresh.of rfl) (Nat.le_of_ble_eq_true rfl)) ?_
      refine AC.wk (Wk.nilC 22 (p := 1) (off := 3) 131 (.pr .int .bool) rfl rfl (Fresh.of rfl) (Nat.le_of_ble_eq_true rfl)) ?_
      refine AC.ret ?_
      subst hO
      have e21 : (0 : Int) = (((applyV s list).1).1).1 := by
        first | (rw [applyV_no (fun h => by obtain ⟨h1, h2⟩ := h; first | omega | exact absurd h1 (by assumption))]; done) | (rw [applyV_no (fun h => by obtain ⟨h1, h2⟩ := h; first | omega | exact absurd h1 (by assumption))]; rfl) | (rw [applyV_yes ⟨by assumption, by omega⟩, appV_stop hA (by assumption) (by assumption)]; done) | (rw [applyV_yes ⟨by assumption, by omega⟩, appV_stop hA (by assumption) (by assumption)]; rfl) | (rw [applyV_yes ⟨by assumption, by omega⟩, appV_end hA (by omega)]; done) | (rw [applyV_yes ⟨by assumption, by omega⟩, appV_end hA (by omega)]; rfl)
      have e22 : (ByteArray.empty : ByteArray) = ((applyV s list).1).2.2.2 := by
        first | (rw [applyV_no (fun h => by obtain ⟨h1, h2⟩ := h; first | omega | exact absurd h1 (by assumption))]; done) | (rw [applyV_no (fun h => by obtain ⟨h1, h2⟩ := h; first | omega | exact absurd h1 (by assumption))]; rfl) | (rw [applyV_yes ⟨by assumption, by omega⟩, appV_stop hA (by assumption) (by assumption)]; done) | (rw [applyV_yes ⟨by assumption, by omega⟩, appV_stop hA (by assumption) (by assumption)]; rfl) | (rw [applyV_yes ⟨by assumption, by omega⟩, appV_end hA (by omega)]; done) | (rw [applyV_yes ⟨by assumption, by omega⟩, appV_end hA (by omega)]; rfl)
      have e23 : (false : Bool) = (applyV s list).2 := by
        first | (rw [applyV_no (fun h => by obtain ⟨h1, h2⟩ := h; first | omega | exact absurd h1 (by assumption))]; done) | (rw [applyV_no (fun h => by obtain ⟨h1, h2⟩ := h; first | omega | exact absurd h1 (by assumption))]; rfl) | (rw [applyV_yes ⟨by assumption, by omega⟩, appV_stop hA (by assumption) (by assumption)]; done) | (rw [applyV_yes ⟨by assumption, by omega⟩, appV_stop hA (by assumption) (by assumption)]; rfl) | (rw [applyV_yes ⟨by assumption, by omega⟩, appV_end hA (by omega)]; done) | (rw [applyV_yes ⟨by assumption, by omega⟩, appV_end hA (by omega)]; rfl)
      exact fin_is (PV.tup [(true, [dI ((((applyV s list).1).1).1), .ref 0, .ref 1, .ref 2, dS (((applyV s list).1).2.2.2)]), (false, [dB ((applyV s list).2)])]) [(0, some (.arr 146 (.pr (.sl 3 .int) (.sl 3 .int)) ((((applyV s list).1).1).2))), (1, some (.arr 129 (.pr .str .int) (((applyV s list).1).2.1))), (2, some (.arr 131 (.pr .int .bool) (((applyV s list).1).2.2.1)))] [(0, 20), (1, 21), (2, 22)] (Res.two rfl (Rs.cell rfl rfl tsh_50 rfl) (Rs.tmp rfl)) (show PV.tup [(true, [dI 0, .ref 20, .ref 21, .ref 22, dS ByteArray.empty]), (false, [dB false])] = PV.tup [(true, [dI ((((applyV s list).1).1).1), .ref 20, .ref 21, .ref 22, dS (((applyV s list).1).2.2.2)]), (false, [dB ((applyV s list).2)])] by exact (((congrArg (fun z_ => PV.tup [(true, [dI z_, .ref 20, .ref 21, .ref 22, dS ByteArray.empty]), (false, [dB false])]) e21)).trans (congrArg (fun z_ => PV.tup [(true, [dI ((((applyV s list).1).1).1), .ref 20, .ref 21, .ref 22, dS z_]), (false, [dB false])]) e22)).trans (congrArg (fun z_ => PV.tup [(true, [dI ((((applyV s list).1).1).1), .ref 20, .ref 21, .ref 22, dS (((applyV s list).1).2.2.2)]), (false, [dB z_])]) e23)) ⟨(show some (Ent.arr 146 (.pr (.sl 3 .int) (.sl 3 .int)) ([])) = some (Ent.arr 146 (.pr (.sl 3 .int) (.sl 3 .int)) ((((applyV s list).1).1).2)) from congrArg (fun z => some (Ent.arr 146 (.pr (.sl 3 .int) (.sl 3 .int)) z)) (by first | (rw [applyV_no (fun h => by obtain ⟨h1, h2⟩ := h; first | omega | exact absurd h1 (by assumption))]; done) | (rw [applyV_no (fun h => by obtain ⟨h1, h2⟩ := h; first | omega | exact absurd h1 (by assumption))]; rfl) | (rw [applyV_yes ⟨by assumption, by omega⟩, appV_stop hA (by assumption) (by assumption)]; done) | (rw [applyV_yes ⟨by assumption, by omega⟩, appV_stop hA (by assumption) (by assumption)]; rfl) | (rw [applyV_yes ⟨by assumption, by omega⟩, appV_end hA (by omega)]; done) | (rw [applyV_yes ⟨by assumption, by omega⟩, appV_end hA (by omega)]; rfl))), (show some (Ent.arr 129 (.pr .str .int) ([])) = some (Ent.arr 129 (.pr .str .int) (((applyV s list).1).2.1)) from congrArg (fun z => some (Ent.arr 129 (.pr .str .int) z)) (by first | (rw [applyV_no (fun h => by obtain ⟨h1, h2⟩ := h; first | omega | exact absurd h1 (by assumption))]; done) | (rw [applyV_no (fun h => by obtain ⟨h1, h2⟩ := h; first | omega | exact absurd h1 (by assumption))]; rfl) | (rw [applyV_yes ⟨by assumption, by omega⟩, appV_stop hA (by assumption) (by assumption)]; done) | (rw [applyV_yes ⟨by assumption, by omega⟩, appV_stop hA (by assumption) (by assumption)]; rfl) | (rw [applyV_yes ⟨by assumption, by omega⟩, appV_end hA (by omega)]; done) | (rw [applyV_yes ⟨by assumption, by omega⟩, appV_end hA (by omega)]; rfl))), (show some (Ent.arr 131 (.pr .int .bool) ([])) = some (Ent.arr 131 (.pr .int .bool) (((applyV s list).1).2.2.1)) from congrArg (fun z => some (Ent.arr 131 (.pr .int .bool) z)) (by first | (rw [applyV_no (fun h => by obtain ⟨h1, h2⟩ := h; first | omega | exact absurd h1 (by assumption))]; done) | (rw [applyV_no (fun h => by obtain ⟨h1, h2⟩ := h; first | omega | exact absurd h1 (by assumption))]; rfl) | (rw [applyV_yes ⟨by assumption, by omega⟩, appV_stop hA (by assumption) (by assumption)]; done) | (rw [applyV_yes ⟨by assumption, by omega⟩, appV_stop hA (by assumption) (by assumption)]; rfl) | (rw [applyV_yes ⟨by assumption, by omega⟩, appV_end hA (by omega)]; done) | (rw [applyV_yes ⟨by assumption, by omega⟩, appV_end hA (by omega)]; rfl))), trivial⟩ rfl rfl

set_option maxRecDepth 100000 in
set_option maxHeartbeats 4000000 in
theorem fc_spec_ApplyOrderings (s : (Int × (List (List Int × List Int))) × (List (ByteArray × Int)) × (List (Int × Bool)) × ByteArray) (list : List (Int × Int × Bool)) [∀ s, Decidable (StgOk s)] (hz : Ty.tot tSTG s ≤ 1900000) : FC Try.prog 23 [(true, [dI s.1.1, .dat (.sl 146 (.pr (.sl 3 .int) (.sl 3 .int))) s.1.2, .dat (.sl 129 (.pr .str .int)) s.2.1, .dat (.sl 131 (.pr .int .bool)) s.2.2.1, dS s.2.2.2]), (false, [.dat (.sl 54 (.pr .int (.pr .int .bool))) list])] [] 0 (Is (PV.tup [(true, [dI ((((applyV s list).1).1).1), .ref 0, .ref 1, .ref 2, dS (((applyV s list).1).2.2.2)]), (false, [dB ((applyV s list).2)])]) [(0, some (.arr 146 (.pr (.sl 3 .int) (.sl 3 .int)) ((((applyV s list).1).1).2))), (1, some (.arr 129 (.pr .str .int) (((applyV s list).1).2.1))), (2, some (.arr 131 (.pr .int .bool) (((applyV s list).1).2.2.1)))]) := by
  obtain ⟨O_, hO⟩ : ∃ x : PV → Tab → Prop, x = Is (PV.tup [(true, [dI ((((applyV s list).1).1).1), .ref 0, .ref 1, .ref 2, dS (((applyV s list).1).2.2.2)]), (false, [dB ((applyV s list).2)])]) [(0, some (.arr 146 (.pr (.sl 3 .int) (.sl 3 .int)) ((((applyV s list).1).1).2))), (1, some (.arr 129 (.pr .str .int) (((applyV s list).1).2.1))), (2, some (.arr 131 (.pr .int .bool) (((applyV s list).1).2.2.1)))] := ⟨_, rfl⟩
  refine FC.O_of hO (FC.ren (FC.of Try.func23 rfl rfl fun A_ hn_ hk_ => ?_))
  obtain ⟨w0_, N0_, X_, n_, k0_, h0_, f0_⟩ := A_
  obtain rfl : n_ = 40 := hn_.trans Try.ntmps23
  obtain rfl : k0_ = 0 := hk_
  refine AC.fact (fact_ag (x := .tmp 0) (i := 0) (Ev.tmp rfl) rfl) fun hi1 => ?_
  refine AC.seq ?_
  refine AC.region ?_
  refine AL.cons rfl (Does.box 0 (Ev.tmp rfl) rfl rfl (Fresh.of rfl) (Nat.le_of_ble_eq_true rfl)) ?_
  refine AL.cons rfl (Does.alloc 1 (.pr (.pr .int (.sl 146 (.pr (.sl 3 .int) (.sl 3 .int)))) (.pr (.sl 129 (.pr .str .int)) (.pr (.sl 131 (.pr .int .bool)) .str))) zer_50 rfl rfl (Fresh.of rfl) (Nat.le_of_ble_eq_true rfl)) ?_
  refine AL.cons rfl (Does.assignC Evl.bool rfl) ?_
  refine AL.nil ?_
  refine (?_ : AC _ _ _ _ _)
  refine AC.seq ?_
  refine AC.seq ?_
  refine AC.region ?_
  refine AL.cons rfl (Does.loadPA (Evl.tmp rfl) rfl tsh_50 rfl rfl) ?_
  refine AL.cons rfl (Does.call (fc_spec_l2Good s) enters_69 ⟨_, _, rfl, (Ev.tmp rfl), rfl⟩ rfl rfl) ?_
  refine AL.cons rfl (Does.not (Evl.tmp rfl) rfl) ?_
  refine AL.cons rfl (Does.move rfl rfl) ?_
  cases hb2 : (decide (StgOk s))
  · have _h := hb2
    have hb2' : ¬ (StgOk s) := of_decide_eq_false hb2
    refine AL.guard_no (b := false) rfl rfl rfl ?_ rfl
    refine AL.guard_no (b := false) rfl rfl rfl ?_ rfl
    refine AL.guard_no (b := false) rfl rfl rfl ?_ rfl
    refine AL.cons rfl (Does.pickT (Evl.tmp rfl) (Evl.ev Evl.bool) rfl) ?_
    refine AL.nil ?_
    refine (?_ : AC _ _ _ _ _)
    refine AC.condT (Evl.tmp rfl) ?_
    refine AC.seq ?_
    refine AC.region ?_
    refine AL.cons rfl (Does.build bld_50 rfl (List.all_eq_true.1 rfl) rfl rfl) ?_
    refine AL.cons rfl (Does.storeP (Evl.tmp rfl) rfl (Ev.tmp rfl) rfl tsh_50 rfl) ?_
    refine AL.cons rfl (Does.assignC Evl.bool rfl) ?_
    refine AL.nil ?_
    refine (?_ : AC _ _ _ _ _)
    refine AC.wk (Wk.nilC 2 (p := 1) (off := 1) 146 (.pr (.sl 3 .int) (.sl 3 .int)) rfl rfl (Fresh.of rfl) (Nat.le_of_ble_eq_true rfl)) ?_
    refine AC.wk (Wk.nilC 3 (p := 1) (off := 2) 129 (.pr .str .int) rfl rfl (Fresh.of rfl) (Nat.le_of_ble_eq_true rfl)) ?_
    refine AC.wk (Wk.nilC 4 (p := 1) (off := 3) 131 (.pr .int .bool) rfl rfl (Fresh.of rfl) (Nat.le_of_ble_eq_true rfl)) ?_
    refine AC.ret ?_
    subst hO
    have e3 : (0 : Int) = (((applyV s list).1).1).1 := by
      first | (rw [applyV_no (fun h => by obtain ⟨h1, h2⟩ := h; first | omega | exact absurd h1 (by assumption))]; done) | (rw [applyV_no (fun h => by obtain ⟨h1, h2⟩ := h; first | omega | exact absurd h1 (by assumption))]; rfl) | (rw [applyV_yes ⟨by assumption, by omega⟩, appV_stop2 hA (by assumption) (by assumption)]; done) | (rw [applyV_yes ⟨by assumption, by omega⟩, appV_stop2 hA (by assumption) (by assumption)]; rfl) | (rw [applyV_yes ⟨by assumption, by omega⟩, appV_end hA (by omega)]; done) | (rw [applyV_yes ⟨by assumption, by omega⟩, appV_end hA (by omega)]; rfl)
    have e4 : (ByteArray.empty : ByteArray) = ((applyV s list).1).2.2.2 := by
      first | (rw [applyV_no (fun h => by obtain ⟨h1, h2⟩ := h; first | omega | exact absurd h1 (by assumption))]; done) | (rw [applyV_no (fun h => by obtain ⟨h1, h2⟩ := h; first | omega | exact absurd h1 (by assumption))]; rfl) | (rw [applyV_yes ⟨by assumption, by omega⟩, appV_stop2 hA (by assumption) (by assumption)]; done) | (rw [applyV_yes ⟨by assumption, by omega⟩, appV_stop2 hA (by assumption) (by assumption)]; rfl) | (rw [applyV_yes ⟨by assumption, by omega⟩, appV_end hA (by omega)]; done) | (rw [applyV_yes ⟨by assumption, by omega⟩, appV_end hA (by omega)]; rfl)
    have e5 : (false : Bool) = (applyV s list).2 := by
      first | (rw [applyV_no (fun h => by obtain ⟨h1, h2⟩ := h; first | omega | exact absurd h1 (by assumption))]; done) | (rw [applyV_no (fun h => by obtain ⟨h1, h2⟩ := h; first | omega | exact absurd h1 (by assumption))]; rfl) | (rw [applyV_yes ⟨by assumption, by omega⟩, appV_stop2 hA (by assumption) (by assumption)]; done) | (rw [applyV_yes ⟨by assumption, by omega⟩, appV_stop2 hA (by assumption) (by assumption)]; rfl) | (rw [applyV_yes ⟨by assumption, by omega⟩, appV_end hA (by omega)]; done) | (rw [applyV_yes ⟨by assumption, by omega⟩, appV_end hA (by omega)]; rfl)
    exact fin_is (PV.tup [(true, [dI ((((applyV s list).1).1).1), .ref 0, .ref 1, .ref 2, dS (((applyV s list).1).2.2.2)]), (false, [dB ((applyV s list).2)])]) [(0, some (.arr 146 (.pr (.sl 3 .int) (.sl 3 .int)) ((((applyV s list).1).1).2))), (1, some (.arr 129 (.pr .str .int) (((applyV s list).1).2.1))), (2, some (.arr 131 (.pr .int .bool) (((applyV s list).1).2.2.1)))] [(0, 2), (1, 3), (2, 4)] (Res.two rfl (Rs.cell rfl rfl tsh_50 rfl) (Rs.tmp rfl)) (show PV.tup [(true, [dI 0, .ref 2, .ref 3, .ref 4, dS ByteArray.empty]), (false, [dB false])] = PV.tup [(true, [dI ((((applyV s list).1).1).1), .ref 2, .ref 3, .ref 4, dS (((applyV s list).1).2.2.2)]), (false, [dB ((applyV s list).2)])] by exact (((congrArg (fun z_ => PV.tup [(true, [dI z_, .ref 2, .ref 3, .ref 4, dS ByteArray.empty]), (false, [dB false])]) e3)).trans (congrArg (fun z_ => PV.tup [(true, [dI ((((applyV s list).1).1).1), .ref 2, .ref 3, .ref 4, dS z_]), (false, [dB false])]) e4)).trans (congrArg (fun z_ => PV.tup [(true, [dI ((((applyV s list).1).1).1), .ref 2, .ref 3, .ref 4, dS (((applyV s list).1).2.2.2)]), (false, [dB z_])]) e5)) ⟨(show some (Ent.arr 146 (.pr (.sl 3 .int) (.sl 3 .int)) ([])) = some (Ent.arr 146 (.pr (.sl 3 .int) (.sl 3 .int)) ((((applyV s list).1).1).2)) from congrArg (fun z => some (Ent.arr 146 (.pr (.sl 3 .int) (.sl 3 .int)) z)) (by first | (rw [applyV_no (fun h => by obtain ⟨h1, h2⟩ := h; first | omega | exact absurd h1 (by assumption))]; done) | (rw [applyV_no (fun h => by obtain ⟨h1, h2⟩ := h; first | omega | exact absurd h1 (by assumption))]; rfl) | (rw [applyV_yes ⟨by assumption, by omega⟩, appV_stop2 hA (by assumption) (by assumption)]; done) | (rw [applyV_yes ⟨by assumption, by omega⟩, appV_stop2 hA (by assumption) (by assumption)]; rfl) | (rw [applyV_yes ⟨by assumption, by omega⟩, appV_end hA (by omega)]; done) | (rw [applyV_yes ⟨by assumption, by omega⟩, appV_end hA (by omega)]; rfl))), (show some (Ent.arr 129 (.pr .str .int) ([])) = some (Ent.arr 129 (.pr .str .int) (((applyV s list).1).2.1)) from congrArg (fun z => some (Ent.arr 129 (.pr .str .int) z)) (by first | (rw [applyV_no (fun h => by obtain ⟨h1, h2⟩ := h; first | omega | exact absurd h1 (by assumption))]; done) | (rw [applyV_no (fun h => by obtain ⟨h1, h2⟩ := h; first | omega | exact absurd h1 (by assumption))]; rfl) | (rw [applyV_yes ⟨by assumption, by omega⟩, appV_stop2 hA (by assumption) (by assumption)]; done) | (rw [applyV_yes ⟨by assumption, by omega⟩, appV_stop2 hA (by assumption) (by assumption)]; rfl) | (rw [applyV_yes ⟨by assumption, by omega⟩, appV_end hA (by omega)]; done) | (rw [applyV_yes ⟨by assumption, by omega⟩, appV_end hA (by omega)]; rfl))), (show some (Ent.arr 131 (.pr .int .bool) ([])) = some (Ent.arr 131 (.pr .int .bool) (((applyV s list).1).2.2.1)) from congrArg (fun z => some (Ent.arr 131 (.pr .int .bool) z)) (by first | (rw [applyV_no (fun h => by obtain ⟨h1, h2⟩ := h; first | omega | exact absurd h1 (by assumption))]; done) | (rw [applyV_no (fun h => by obtain ⟨h1, h2⟩ := h; first | omega | exact absurd h1 (by assumption))]; rfl) | (rw [applyV_yes ⟨by assumption, by omega⟩, appV_stop2 hA (by assumption) (by assumption)]; done) | (rw [applyV_yes ⟨by assumption, by omega⟩, appV_stop2 hA (by assumption) (by assumption)]; rfl) | (rw [applyV_yes ⟨by assumption, by omega⟩, appV_end hA (by omega)]; done) | (rw [applyV_yes ⟨by assumption, by omega⟩, appV_end hA (by omega)]; rfl))), trivial⟩ rfl rfl
  · have _h := hb2
    have hb2' : (StgOk s) := of_decide_eq_true hb2
    refine AL.guard_yes rfl rfl rfl (Does.move rfl rfl) ?_
    refine AL.fact (fact_len (x := .tmp 15) (Evl.tmp rfl)) fun hl6 => ?_
    refine AL.guard_yes rfl rfl rfl (Does.len (Evl.tmp rfl) rfl und_62) ?_
    refine AL.guard_yes rfl rfl rfl (Does.gtr (Evl.tmp rfl) (Evl.int rfl) rfl) ?_
    refine AL.cons rfl (Does.pickF (Evl.tmp rfl) (Ev.tmp rfl) rfl) ?_
    refine AL.nil ?_
    refine (?_ : AC _ _ _ _ _)
    cases hb7 : (decide (6 < (list.length : Int)))
    · have _h := hb7
      have hb7' : ¬ (6 < (list.length : Int)) := of_decide_eq_false hb7
      refine AC.condF (Evl.tmp rfl) ?_
      refine AC.skip ?_
      refine (?_ : AC _ _ _ _ _)
      refine AC.seq ?_
      refine AC.region ?_
      refine AL.cons rfl (Does.loadPA (Evl.tmp rfl) rfl tsh_50 rfl rfl) ?_
      refine AL.cons rfl (Does.callG 5 (fc_spec_l2Own s (by omega)) enters_70 ⟨_, _, rfl, (Ev.tmp rfl), rfl⟩ rfl rfl ⟨Fresh.of rfl, Fresh.of rfl, Fresh.of rfl, trivial⟩ (Nat.le_of_ble_eq_true rfl)) ?_
      refine AL.cons rfl (Does.alloc 8 (.pr (.pr .int (.sl 146 (.pr (.sl 3 .int) (.sl 3 .int)))) (.pr (.sl 129 (.pr .str .int)) (.pr (.sl 131 (.pr .int .bool)) .str))) zer_50 rfl rfl (Fresh.of rfl) (Nat.le_of_ble_eq_true rfl)) ?_
      refine AL.cons rfl (Does.storeP (Evl.tmp rfl) rfl (Ev.tmp rfl) rfl tsh_50 rfl) ?_
      refine AL.nil ?_
      refine (?_ : AC _ _ _ _ _)
      refine AC.seq ?_
      refine AC.seq ?_
      refine AC.region ?_
      refine AL.cons rfl (Does.move rfl rfl) ?_
      refine AL.fact (fact_len (x := .tmp 22) (Evl.tmp rfl)) fun hl8 => ?_
      refine AL.cons rfl (Does.len (Evl.tmp rfl) rfl und_62) ?_
      refine AL.cons rfl (Does.moveC (Evl.int rfl) rfl) ?_
      refine AL.nil ?_
      refine (?_ : AC _ _ _ _ _)
      refine AC.block ?_
      refine AC.wk (s' := ⟨[(4, lf (.ptr 1 0)), (6, lf (.ptr 8 0)), (22, lf (.dat (.sl 54 (.pr .int (.pr .int .bool))) list)), (23, lf (dI (list.length : Int))), (24, lf (dI (0 : Int)))], [(1, some (.box 50 [dI 0, .val (.slice none 0 0), .val (.slice none 0 0), .val (.slice none 0 0), dS ByteArray.empty])), (8, some (.box 50 [dI s.1.1, .ref 9, .ref 10, .ref 11, dS s.2.2.2])), (9, some (.arr 146 (.pr (.sl 3 .int) (.sl 3 .int)) s.1.2)), (10, some (.arr 129 (.pr .str .int) s.2.1)), (11, some (.arr 131 (.pr .int .bool) s.2.2.1))]⟩) (Wk.of [(1, 1), (8, 8), (9, 5), (10, 6), (11, 7)] rfl ⟨rfl, rfl, rfl, rfl, rfl, trivial⟩ ⟨rfl, rfl, rfl, rfl, rfl, trivial⟩ rfl rfl) ?_
      refine AC.loop (fun m_ s_ => ∃ (k : Nat) (cur : (Int × (List (List Int × List Int))) × (List (ByteArray × Int)) × (List (Int × Bool)) × ByteArray), k ≤ list.length ∧ m_ = list.length - k ∧ (appV s list = appV cur (list.drop k)) ∧ (Ty.tot tSTG cur ≤ Ty.tot tSTG s + 3 * k) ∧ s_ = ⟨[(4, lf (.ptr 1 0)), (6, lf (.ptr 8 0)), (22, lf (.dat (.sl 54 (.pr .int (.pr .int .bool))) list)), (23, lf (dI (list.length : Int))), (24, lf (dI (k : Int)))], [(1, some (.box 50 [dI 0, .val (.slice none 0 0), .val (.slice none 0 0), .val (.slice none 0 0), dS ByteArray.empty])), (8, some (.box 50 [dI cur.1.1, .ref 9, .ref 10, .ref 11, dS cur.2.2.2])), (9, some (.arr 146 (.pr (.sl 3 .int) (.sl 3 .int)) cur.1.2)), (10, some (.arr 129 (.pr .str .int) cur.2.1)), (11, some (.arr 131 (.pr .int .bool) cur.2.2.1))]⟩) (m := list.length - 0) ⟨0, s, Nat.zero_le _, rfl, rfl, by omega, rfl⟩ ?_
      rintro m_ s_ ⟨k, cur, hk9, hm10, hA, hT, rfl⟩
      refine AC.seq ?_
      refine AC.region ?_
      refine AL.cons rfl (Does.lss (Evl.tmp rfl) (Evl.tmp rfl) rfl) ?_
      refine AL.nil ?_
      refine (?_ : AC _ _ _ _ _)
      refine AC.seq ?_
      cases hb11 : (decide ((k : Int) < (list.length : Int)))
      · have _h := hb11
        have hb11' : ¬ ((k : Int) < (list.length : Int)) := of_decide_eq_false hb11
        refine AC.condF (Evl.tmp rfl) ?_
        refine AC.exit ?_
        refine (?_ : AC _ _ _ _ _)
        refine AC.seq ?_
        refine AC.region ?_
        refine AL.cons rfl (Does.loadPA (Evl.tmp rfl) rfl tsh_50 rfl rfl) ?_
        refine AL.cons rfl (Does.storeP (Evl.tmp rfl) rfl (Ev.tmp rfl) rfl tsh_50 rfl) ?_
        refine AL.cons rfl (Does.assignC Evl.bool rfl) ?_
        refine AL.nil ?_
        refine (?_ : AC _ _ _ _ _)
        refine AC.ret ?_
        subst hO
        have e12 : (cur.1.1 : Int) = (((applyV s list).1).1).1 := by
          first | (rw [applyV_no (fun h => by obtain ⟨h1, h2⟩ := h; first | omega | exact absurd h1 (by assumption))]; done) | (rw [applyV_no (fun h => by obtain ⟨h1, h2⟩ := h; first | omega | exact absurd h1 (by assumption))]; rfl) | (rw [applyV_yes ⟨by assumption, by omega⟩, appV_stop2 hA (by assumption) (by assumption)]; done) | (rw [applyV_yes ⟨by assumption, by omega⟩, appV_stop2 hA (by assumption) (by assumption)]; rfl) | (rw [applyV_yes ⟨by assumption, by omega⟩, appV_end hA (by omega)]; done) | (rw [applyV_yes ⟨by assumption, by omega⟩, appV_end hA (by omega)]; rfl)
        have e13 : (cur.2.2.2 : ByteArray) = ((applyV s list).1).2.2.2 := by
          first | (rw [applyV_no (fun h => by obtain ⟨h1, h2⟩ := h; first | omega | exact absurd h1 (by assumption))]; done) | (rw [applyV_no (fun h => by obtain ⟨h1, h2⟩ := h; first | omega | exact absurd h1 (by assumption))]; rfl) | (rw [applyV_yes ⟨by assumption, by omega⟩, appV_stop2 hA (by assumption) (by assumption)]; done) | (rw [applyV_yes ⟨by assumption, by omega⟩, appV_stop2 hA (by assumption) (by assumption)]; rfl) | (rw [applyV_yes ⟨by assumption, by omega⟩, appV_end hA (by omega)]; done) | (rw [applyV_yes ⟨by assumption, by omega⟩, appV_end hA (by omega)]; rfl)
        have e14 : (true : Bool) = (applyV s list).2 := by
          first | (rw [applyV_no (fun h => by obtain ⟨h1, h2⟩ := h; first | omega | exact absurd h1 (by assumption))]; done) | (rw [applyV_no (fun h => by obtain ⟨h1, h2⟩ := h; first | omega | exact absurd h1 (by assumption))]; rfl) | (rw [applyV_yes ⟨by assumption, by omega⟩, appV_stop2 hA (by assumption) (by assumption)]; done) | (rw [applyV_yes ⟨by assumption, by omega⟩, appV_stop2 hA (by assumption) (by assumption)]; rfl) | (rw [applyV_yes ⟨by assumption, by omega⟩, appV_end hA (by omega)]; done) | (rw [applyV_yes ⟨by assumption, by omega⟩, appV_end hA (by omega)]; rfl)
        exact fin_is (PV.tup [(true, [dI ((((applyV s list).1).1).1), .ref 0, .ref 1, .ref 2, dS (((applyV s list).1).2.2.2)]), (false, [dB ((applyV s list).2)])]) [(0, some (.arr 146 (.pr (.sl 3 .int) (.sl 3 .int)) ((((applyV s list).1).1).2))), (1, some (.arr 129 (.pr .str .int) (((applyV s list).1).2.1))), (2, some (.arr 131 (.pr .int .bool) (((applyV s list).1).2.2.1)))] [(0, 9), (1, 10), (2, 11)] (Res.two rfl (Rs.cell rfl rfl tsh_50 rfl) (Rs.tmp rfl)) (show PV.tup [(true, [dI cur.1.1, .ref 9, .ref 10, .ref 11, dS cur.2.2.2]), (false, [dB true])] = PV.tup [(true, [dI ((((applyV s list).1).1).1), .ref 9, .ref 10, .ref 11, dS (((applyV s list).1).2.2.2)]), (false, [dB ((applyV s list).2)])] by exact (((congrArg (fun z_ => PV.tup [(true, [dI z_, .ref 9, .ref 10, .ref 11, dS cur.2.2.2]), (false, [dB true])]) e12)).trans (congrArg (fun z_ => PV.tup [(true, [dI ((((applyV s list).1).1).1), .ref 9, .ref 10, .ref 11, dS z_]), (false, [dB true])]) e13)).trans (congrArg (fun z_ => PV.tup [(true, [dI ((((applyV s list).1).1).1), .ref 9, .ref 10, .ref 11, dS (((applyV s list).1).2.2.2)]), (false, [dB z_])]) e14)) ⟨(show some (Ent.arr 146 (.pr (.sl 3 .int) (.sl 3 .int)) cur.1.2) = some (Ent.arr 146 (.pr (.sl 3 .int) (.sl 3 .int)) ((((applyV s list).1).1).2)) from congrArg (fun z => some (Ent.arr 146 (.pr (.sl 3 .int) (.sl 3 .int)) z)) (by first | (rw [applyV_no (fun h => by obtain ⟨h1, h2⟩ := h; first | omega | exact absurd h1 (by assumption))]; done) | (rw [applyV_no (fun h => by obtain ⟨h1, h2⟩ := h; first | omega | exact absurd h1 (by assumption))]; rfl) | (rw [applyV_yes ⟨by assumption, by omega⟩, appV_stop2 hA (by assumption) (by assumption)]; done) | (rw [applyV_yes ⟨by assumption, by omega⟩, appV_stop2 hA (by assumption) (by assumption)]; rfl) | (rw [applyV_yes ⟨by assumption, by omega⟩, appV_end hA (by omega)]; done) | (rw [applyV_yes ⟨by assumption, by omega⟩, appV_end hA (by omega)]; rfl))), (show some (Ent.arr 129 (.pr .str .int) cur.2.1) = some (Ent.arr 129 (.pr .str .int) (((applyV s list).1).2.1)) from congrArg (fun z => some (Ent.arr 129 (.pr .str .int) z)) (by first | (rw [applyV_no (fun h => by obtain ⟨h1, h2⟩ := h; first | omega | exact absurd h1 (by assumption))]; done) | (rw [applyV_no (fun h => by obtain ⟨h1, h2⟩ := h; first | omega | exact absurd h1 (by assumption))]; rfl) | (rw [applyV_yes ⟨by assumption, by omega⟩, appV_stop2 hA (by assumption) (by assumption)]; done) | (rw [applyV_yes ⟨by assumption, by omega⟩, appV_stop2 hA (by assumption) (by assumption)]; rfl) | (rw [applyV_yes ⟨by assumption, by omega⟩, appV_end hA (by omega)]; done) | (rw [applyV_yes ⟨by assumption, by omega⟩, appV_end hA (by omega)]; rfl))), (show some (Ent.arr 131 (.pr .int .bool) cur.2.2.1) = some (Ent.arr 131 (.pr .int .bool) (((applyV s list).1).2.2.1)) from congrArg (fun z => some (Ent.arr 131 (.pr .int .bool) z)) (by first | (rw [applyV_no (fun h => by obtain ⟨h1, h2⟩ := h; first | omega | exact absurd h1 (by assumption))]; done) | (rw [applyV_no (fun h => by obtain ⟨h1, h2⟩ := h; first | omega | exact absurd h1 (by assumption))]; rfl) | (rw [applyV_yes ⟨by assumption, by omega⟩, appV_stop2 hA (by assumption) (by assumption)]; done) | (rw [applyV_yes ⟨by assumption, by omega⟩, appV_stop2 hA (by assumption) (by assumption)]; rfl) | (rw [applyV_yes ⟨by assumption, by omega⟩, appV_end hA (by omega)]; done) | (rw [applyV_yes ⟨by assumption, by omega⟩, appV_end hA (by omega)]; rfl))), trivial⟩ rfl rfl
      · have _h := hb11
        have hb11' : ((k : Int) < (list.length : Int)) := of_decide_eq_true hb11
        refine AC.condT (Evl.tmp rfl) ?_
        refine AC.skip ?_
        refine (?_ : AC _ _ _ _ _)
        refine AC.seq ?_
        refine AC.block ?_
        refine AC.seq ?_
        refine AC.region ?_
        obtain ⟨x15, hx16⟩ : ∃ z, list[k]? = some z := ⟨_, List.getElem?_eq_getElem (by omega)⟩
        refine AL.cons rfl (Does.indexE (Evl.tmp rfl) (Evl.tmp rfl) und_62 tsh_54 rfl (by omega) hx16) ?_
        refine AL.cons rfl (Does.loadEA (Evl.tmp rfl) tsh_54 rfl rfl) ?_
        refine AL.cons rfl (Does.alloc 12 (.pr .int (.pr .int .bool)) zer_54 rfl rfl (Fresh.of rfl) (Nat.le_of_ble_eq_true rfl)) ?_
        refine AL.cons rfl (Does.storeP (Evl.tmp rfl) rfl (Ev.tmp rfl) rfl tsh_54 rfl) ?_
        refine AL.nil ?_
        refine (?_ : AC _ _ _ _ _)
        refine AC.seq ?_
        refine AC.region ?_
        refine AL.cons rfl (Does.loadPA (Evl.tmp rfl) rfl tsh_50 rfl rfl) ?_
        refine AL.cons rfl (Does.loadPA (Evl.tmp rfl) rfl tsh_54 rfl rfl) ?_
        refine AL.cons rfl (Does.callGB 13 (fc_spec_l26Add cur x15 (by omega)) enters_54 ⟨_, _, rfl, (Ev.ob (Ev.tmp rfl) ⟨_, _, rfl, .inl rfl, ⟨_, _, rfl, .inr ⟨_, _, _, _, rfl, rfl, rfl⟩, ⟨_, _, rfl, .inr ⟨_, _, _, _, rfl, rfl, rfl⟩, ⟨_, _, rfl, .inr ⟨_, _, _, _, rfl, rfl, rfl⟩, ⟨_, _, rfl, .inl rfl, rfl⟩⟩⟩⟩⟩), ⟨_, _, rfl, (Ev.b (Ev.tmp rfl)), rfl⟩⟩ rfl rfl rfl ⟨Fresh.of rfl, Fresh.of rfl, Fresh.of rfl, trivial⟩ (Nat.le_of_ble_eq_true rfl)) ?_
        refine AL.cons rfl (Does.move rfl rfl) ?_
        refine AL.cons rfl (Does.extract rfl rfl rfl) ?_
        refine AL.cons rfl (Does.extract rfl rfl rfl) ?_
        refine AL.cons rfl (Does.alloc 16 (.pr (.pr .int (.sl 146 (.pr (.sl 3 .int) (.sl 3 .int)))) (.pr (.sl 129 (.pr .str .int)) (.pr (.sl 131 (.pr .int .bool)) .str))) zer_50 rfl rfl (Fresh.of rfl) (Nat.le_of_ble_eq_true rfl)) ?_
        refine AL.cons rfl (Does.storeP (Evl.tmp rfl) rfl (Ev.tmp rfl) rfl tsh_50 rfl) ?_
        refine AL.cons rfl (Does.assign rfl rfl) ?_
        refine AL.nil ?_
        refine (?_ : AC _ _ _ _ _)
        refine AC.seq ?_
        refine AC.seq ?_
        refine AC.region ?_
        refine AL.cons rfl (Does.move rfl rfl) ?_
        refine AL.cons rfl (Does.not (Evl.tmp rfl) rfl) ?_
        refine AL.nil ?_
        refine (?_ : AC _ _ _ _ _)
        cases hb17 : ((l26V cur x15).2)
        · have _h := hb17
          refine AC.condT (Evl.tmp rfl) ?_
          refine AC.seq ?_
          refine AC.region ?_
          refine AL.cons rfl (Does.build bld_50 rfl (List.all_eq_true.1 rfl) rfl rfl) ?_
          refine AL.cons rfl (Does.storeP (Evl.tmp rfl) rfl (Ev.tmp rfl) rfl tsh_50 rfl) ?_
          refine AL.cons rfl (Does.assignC Evl.bool rfl) ?_
          refine AL.nil ?_
          refine (?_ : AC _ _ _ _ _)
          refine AC.wk (Wk.nilC 17 (p := 1) (off := 1) 146 (.pr (.sl 3 .int) (.sl 3 .int)) rfl rfl (Fresh.of rfl) (Nat.le_of_ble_eq_true rfl)) ?_
          refine AC.wk (Wk.nilC 18 (p := 1) (off := 2) 129 (.pr .str .int) rfl rfl (Fresh.of rfl) (Nat.le_of_ble_eq_true rfl)) ?_
          refine AC.wk (Wk.nilC 19 (p := 1) (off := 3) 131 (.pr .int .bool) rfl rfl (Fresh.of rfl) (Nat.le_of_ble_eq_true rfl)) ?_
          refine AC.ret ?_
          subst hO
          have e18 : (0 : Int) = (((applyV s list).1).1).1 := by
            first | (rw [applyV_no (fun h => by obtain ⟨h1, h2⟩ := h; first | omega | exact absurd h1 (by assumption))]; done) | (rw [applyV_no (fun h => by obtain ⟨h1, h2⟩ := h; first | omega | exact absurd h1 (by assumption))]; rfl) | (rw [applyV_yes ⟨by assumption, by omega⟩, appV_stop2 hA (by assumption) (by assumption)]; done) | (rw [applyV_yes ⟨by assumption, by omega⟩, appV_stop2 hA (by assumption) (by assumption)]; rfl) | (rw [applyV_yes ⟨by assumption, by omega⟩, appV_end hA (by omega)]; done) | (rw [applyV_yes ⟨by assumption, by omega⟩, appV_end hA (by omega)]; rfl)
          have e19 : (ByteArray.empty : ByteArray) = ((applyV s list).1).2.2.2 := by
            first | (rw [applyV_no (fun h => by obtain ⟨h1, h2⟩ := h; first | omega | exact absurd h1 (by assumption))]; done) | (rw [applyV_no (fun h => by obtain ⟨h1, h2⟩ := h; first | omega | exact absurd h1 (by assumption))]; rfl) | (rw [applyV_yes ⟨by assumption, by omega⟩, appV_stop2 hA (by assumption) (by assumption)]; done) | (rw [applyV_yes ⟨by assumption, by omega⟩, appV_stop2 hA (by assumption) (by assumption)]; rfl) | (rw [applyV_yes ⟨by assumption, by omega⟩, appV_end hA (by omega)]; done) | (rw [applyV_yes ⟨by assumption, by omega⟩, appV_end hA (by omega)]; rfl)
          have e20 : (false : Bool) = (applyV s list).2 := by
            first | (rw [applyV_no (fun h => by obtain ⟨h1, h2⟩ := h; first | omega | exact absurd h1 (by assumption))]; done) | (rw [applyV_no (fun h => by obtain ⟨h1, h2⟩ := h; first | omega | exact absurd h1 (by assumption))]; rfl) | (rw [applyV_yes ⟨by assumption, by omega⟩, appV_stop2 hA (by assumption) (by assumption)]; done) | (rw [applyV_yes ⟨by assumption, by omega⟩, appV_stop2 hA (by assumption) (by assumption)]; rfl) | (rw [applyV_yes ⟨by assumption, by omega⟩, appV_end hA (by omega)]; done) | (rw [applyV_yes ⟨by assumption, by omega⟩, appV_end hA (by omega)]; rfl)
          exact fin_is (PV.tup [(true, [dI ((((applyV s list).1).1).1), .ref 0, .ref 1, .ref 2, dS (((applyV s list).1).2.2.2)]), (false, [dB ((applyV s list).2)])]) [(0, some (.arr 146 (.pr (.sl 3 .int) (.sl 3 .int)) ((((applyV s list).1).1).2))), (1, some (.arr 129 (.pr .str .int) (((applyV s list).1).2.1))), (2, some (.arr 131 (.pr .int .bool) (((applyV s list).1).2.2.1)))] [(0, 17), (1, 18), (2, 19)] (Res.two rfl (Rs.cell rfl rfl tsh_50 rfl) (Rs.tmp rfl)) (show PV.tup [(true, [dI 0, .ref 17, .ref 18, .ref 19, dS ByteArray.empty]), (false, [dB false])] = PV.tup [(true, [dI ((((applyV s list).1).1).1), .ref 17, .ref 18, .ref 19, dS (((applyV s list).1).2.2.2)]), (false, [dB ((applyV s list).2)])] by exact (((congrArg (fun z_ => PV.tup [(true, [dI z_, .ref 17, .ref 18, .ref 19, dS ByteArray.empty]), (false, [dB false])]) e18)).trans (congrArg (fun z_ => PV.tup [(true, [dI ((((applyV s list).1).1).1), .ref 17, .ref 18, .ref 19, dS z_]), (false, [dB false])]) e19)).trans (congrArg (fun z_ => PV.tup [(true, [dI ((((applyV s list).1).1).1), .ref 17, .ref 18, .ref 19, dS (((applyV s list).1).2.2.2)]), (false, [dB z_])]) e20)) ⟨(show some (Ent.arr 146 (.pr (.sl 3 .int) (.sl 3 .int)) ([])) = some (Ent.arr 146 (.pr (.sl 3 .int) (.sl 3 .int)) ((((applyV s list).1).1).2)) from congrArg (fun z => some (Ent.arr 146 (.pr (.sl 3 .int) (.sl 3 .int)) z)) (by first | (rw [applyV_no (fun h => by obtain ⟨h1, h2⟩ := h; first | omega | exact absurd h1 (by assumption))]; done) | (rw [applyV_no (fun h => by obtain ⟨h1, h2⟩ := h; first | omega | exact absurd h1 (by assumption))]; rfl) | (rw [applyV_yes ⟨by assumption, by omega⟩, appV_stop2 hA (by assumption) (by assumption)]; done) | (rw [applyV_yes ⟨by assumption, by omega⟩, appV_stop2 hA (by assumption) (by assumption)]; rfl) | (rw [applyV_yes ⟨by assumption, by omega⟩, appV_end hA (by omega)]; done) | (rw [applyV_yes ⟨by assumption, by omega⟩, appV_end hA (by omega)]; rfl))), (show some (Ent.arr 129 (.pr .str .int) ([])) = some (Ent.arr 129 (.pr .str .int) (((applyV s list).1).2.1)) from congrArg (fun z => some (Ent.arr 129 (.pr .str .int) z)) (by first | (rw [applyV_no (fun h => by obtain ⟨h1, h2⟩ := h; first | omega | exact absurd h1 (by assumption))]; done) | (rw [applyV_no (fun h => by obtain ⟨h1, h2⟩ := h; first | omega | exact absurd h1 (by assumption))]; rfl) | (rw [applyV_yes ⟨by assumption, by omega⟩, appV_stop2 hA (by assumption) (by assumption)]; done) | (rw [applyV_yes ⟨by assumption, by omega⟩, appV_stop2 hA (by assumption) (by assumption)]; rfl) | (rw [applyV_yes ⟨by assumption, by omega⟩, appV_end hA (by omega)]; done) | (rw [applyV_yes ⟨by assumption, by omega⟩, appV_end hA (by omega)]; rfl))), (show some (Ent.arr 131 (.pr .int .bool) ([])) = some (Ent.arr 131 (.pr .int .bool) (((applyV s list).1).2.2.1)) from congrArg (fun z => some (Ent.arr 131 (.pr .int .bool) z)) (by first | (rw [applyV_no (fun h => by obtain ⟨h1, h2⟩ := h; first | omega | exact absurd h1 (by assumption))]; done) | (rw [applyV_no (fun h => by obtain ⟨h1, h2⟩ := h; first | omega | exact absurd h1 (by assumption))]; rfl) | (rw [applyV_yes ⟨by assumption, by omega⟩, appV_stop2 hA (by assumption) (by assumption)]; done) | (rw [applyV_yes ⟨by assumption, by omega⟩, appV_stop2 hA (by assumption) (by assumption)]; rfl) | (rw [applyV_yes ⟨by assumption, by omega⟩, appV_end hA (by omega)]; done) | (rw [applyV_yes ⟨by assumption, by omega⟩, appV_end hA (by omega)]; rfl))), trivial⟩ rfl rfl
        · have _h := hb17
          refine AC.condF (Evl.tmp rfl) ?_
          refine AC.skip ?_
          refine (?_ : AC _ _ _ _ _)
          refine AC.region ?_
          refine AL.cons rfl (Does.loadPA (Evl.tmp rfl) rfl tsh_50 rfl rfl) ?_
          refine AL.cons rfl (Does.storeP (Evl.tmp rfl) rfl (Ev.tmp rfl) rfl tsh_50 rfl) ?_
          refine AL.nil ?_
          refine (?_ : AC _ _ _ _ _)
          refine AC.region ?_
          refine AL.cons rfl (Does.add (Evl.tmp rfl) (Evl.int rfl) rfl (by omega)) ?_
          refine AL.cons rfl (Does.move rfl rfl) ?_
          refine AL.nil ?_
          exact loop_end (list.length - (k + 1)) ⟨[(4, lf (.ptr 1 0)), (6, lf (.ptr 8 0)), (22, lf (.dat (.sl 54 (.pr .int (.pr .int .bool))) list)), (23, lf (dI (list.length : Int))), (24, lf (dI ((k + 1) : Int)))], [(1, some (.box 50 [dI 0, .val (.slice none 0 0), .val (.slice none 0 0), .val (.slice none 0 0), dS ByteArray.empty])), (8, some (.box 50 [dI (((l26V cur x15).1).1.1), .ref 9, .ref 10, .ref 11, dS (((l26V cur x15).1).2.2.2)])), (9, some (.arr 146 (.pr (.sl 3 .int) (.sl 3 .int)) (((l26V cur x15).1).1.2))), (10, some (.arr 129 (.pr .str .int) (((l26V cur x15).1).2.1))), (11, some (.arr 131 (.pr .int .bool) (((l26V cur x15).1).2.2.1)))]⟩ (by omega) (Wk.of [(1, 1), (8, 8), (9, 13), (10, 14), (11, 15)] rfl ⟨rfl, rfl, rfl, rfl, rfl, trivial⟩ ⟨rfl, rfl, (show some (Ent.arr 146 (.pr (.sl 3 .int) (.sl 3 .int)) ((((l26V cur x15).1).1).2)) = some (Ent.arr 146 (.pr (.sl 3 .int) (.sl 3 .int)) (((l26V cur x15).1).1.2)) from congrArg (fun z => some (Ent.arr 146 (.pr (.sl 3 .int) (.sl 3 .int)) z)) (by first | rfl | simp)), rfl, rfl, trivial⟩ rfl rfl) ⟨k + 1, ((l26V cur x15).1), by omega, rfl, appV_step2 hA hx16 (by assumption), (by have := l26V_tot cur x15; omega), rfl⟩
    · have _h := hb7
      have hb7' : (6 < (list.length : Int)) := of_decide_eq_true hb7
      refine AC.condT (Evl.tmp rfl) ?_
      refine AC.seq ?_
      refine AC.region ?_
      refine AL.cons rfl (Does.build bld_50 rfl (List.all_eq_true.1 rfl) rfl rfl) ?_
      refine AL.cons rfl (Does.storeP (Evl.tmp rfl) rfl (Ev.tmp rfl) rfl tsh_50 rfl) ?_
      refine AL.cons rfl (Does.assignC Evl.bool rfl) ?_
      refine AL.nil ?_
      refine (?_ : AC _ _ _ _ _)
      refine AC.wk (Wk.nilC 20 (p := 1) (off := 1) 146 (.pr (.sl 3 .int) (.sl 3 .int)) rfl rfl (Fresh.of rfl) (Nat.le_of_ble_eq_true rfl)) ?_
      refine AC.wk (Wk.nilC 21 (p := 1) (off := 2) 129 (.pr .str .int) rfl rfl (Fresh.of rfl) (Nat.le_of_ble_eq_true rfl)) ?_
      refine AC.wk (Wk.nilC 22 (p := 1) (off := 3) 131 (.pr .int .bool) rfl rfl (Fresh.of rfl) (Nat.le_of_ble_eq_true rfl)) ?_
      refine AC.ret ?_
      subst hO
      have e21 : (0 : Int) = (((applyV s list).1).1).1 := by
        first | (rw [applyV_no (fun h => by obtain ⟨h1, h2⟩ := h; first | omega | exact absurd h1 (by assumption))]; done) | (rw [applyV_no (fun h => by obtain ⟨h1, h2⟩ := h; first | omega | exact absurd h1 (by assumption))]; rfl) | (rw [applyV_yes ⟨by assumption, by omega⟩, appV_stop2 hA (by assumption) (by assumption)]; done) | (rw [applyV_yes ⟨by assumption, by omega⟩, appV_stop2 hA (by assumption) (by assumption)]; rfl) | (rw [applyV_yes ⟨by assumption, by omega⟩, appV_end hA (by omega)]; done) | (rw [applyV_yes ⟨by assumption, by omega⟩, appV_end hA (by omega)]; rfl)
      have e22 : (ByteArray.empty : ByteArray) = ((applyV s list).1).2.2.2 := by
        first | (rw [applyV_no (fun h => by obtain ⟨h1, h2⟩ := h; first | omega | exact absurd h1 (by assumption))]; done) | (rw [applyV_no (fun h => by obtain ⟨h1, h2⟩ := h; first | omega | exact absurd h1 (by assumption))]; rfl) | (rw [applyV_yes ⟨by assumption, by omega⟩, appV_stop2 hA (by assumption) (by assumption)]; done) | (rw [applyV_yes ⟨by assumption, by omega⟩, appV_stop2 hA (by assumption) (by assumption)]; rfl) | (rw [applyV_yes ⟨by assumption, by omega⟩, appV_end hA (by omega)]; done) | (rw [applyV_yes ⟨by assumption, by omega⟩, appV_end hA (by omega)]; rfl)
      have e23 : (false : Bool) = (applyV s list).2 := by
        first | (rw [applyV_no (fun h => by obtain ⟨h1, h2⟩ := h; first | omega | exact absurd h1 (by assumption))]; done) | (rw [applyV_no (fun h => by obtain ⟨h1, h2⟩ := h; first | omega | exact absurd h1 (by assumption))]; rfl) | (rw [applyV_yes ⟨by assumption, by omega⟩, appV_stop2 hA (by assumption) (by assumption)]; done) | (rw [applyV_yes ⟨by assumption, by omega⟩, appV_stop2 hA (by assumption) (by assumption)]; rfl) | (rw [applyV_yes ⟨by assumption, by omega⟩, appV_end hA (by omega)]; done) | (rw [applyV_yes ⟨by assumption, by omega⟩, appV_end hA (by omega)]; rfl)
      exact fin_is (PV.tup [(true, [dI ((((applyV s list).1).1).1), .ref 0, .ref 1, .ref 2, dS (((applyV s list).1).2.2.2)]), (false, [dB ((applyV s list).2)])]) [(0, some (.arr 146 (.pr (.sl 3 .int) (.sl 3 .int)) ((((applyV s list).1).1).2))), (1, some (.arr 129 (.pr .str .int) (((applyV s list).1).2.1))), (2, some (.arr 131 (.pr .int .bool) (((applyV s list).1).2.2.1)))] [(0, 20), (1, 21), (2, 22)] (Res.two rfl (Rs.cell rfl rfl tsh_50 rfl) (Rs.tmp rfl)) (show PV.tup [(true, [dI 0, .ref 20, .ref 21, .ref 22, dS ByteArray.empty]), (false, [dB false])] = PV.tup [(true, [dI ((((applyV s list).1).1).1), .ref 20, .ref 21, .ref 22, dS (((applyV s list).1).2.2.2)]), (false, [dB ((applyV s list).2)])] by exact (((congrArg (fun z_ => PV.tup [(true, [dI z_, .ref 20, .ref 21, .ref 22, dS ByteArray.empty]), (false, [dB false])]) e21)).trans (congrArg (fun z_ => PV.tup [(true, [dI ((((applyV s list).1).1).1), .ref 20, .ref 21, .ref 22, dS z_]), (false, [dB false])]) e22)).trans (congrArg (fun z_ => PV.tup [(true, [dI ((((applyV s list).1).1).1), .ref 20, .ref 21, .ref 22, dS (((applyV s list).1).2.2.2)]), (false, [dB z_])]) e23)) ⟨(show some (Ent.arr 146 (.pr (.sl 3 .int) (.sl 3 .int)) ([])) = some (Ent.arr 146 (.pr (.sl 3 .int) (.sl 3 .int)) ((((applyV s list).1).1).2)) from congrArg (fun z => some (Ent.arr 146 (.pr (.sl 3 .int) (.sl 3 .int)) z)) (by first | (rw [applyV_no (fun h => by obtain ⟨h1, h2⟩ := h; first | omega | exact absurd h1 (by assumption))]; done) | (rw [applyV_no (fun h => by obtain ⟨h1, h2⟩ := h; first | omega | exact absurd h1 (by assumption))]; rfl) | (rw [applyV_yes ⟨by assumption, by omega⟩, appV_stop2 hA (by assumption) (by assumption)]; done) | (rw [applyV_yes ⟨by assumption, by omega⟩, appV_stop2 hA (by assumption) (by assumption)]; rfl) | (rw [applyV_yes ⟨by assumption, by omega⟩, appV_end hA (by omega)]; done) | (rw [applyV_yes ⟨by assumption, by omega⟩, appV_end hA (by omega)]; rfl))), (show some (Ent.arr 129 (.pr .str .int) ([])) = some (Ent.arr 129 (.pr .str .int) (((applyV s list).1).2.1)) from congrArg (fun z => some (Ent.arr 129 (.pr .str .int) z)) (by first | (rw [applyV_no (fun h => by obtain ⟨h1, h2⟩ := h; first | omega | exact absurd h1 (by assumption))]; done) | (rw [applyV_no (fun h => by obtain ⟨h1, h2⟩ := h; first | omega | exact absurd h1 (by assumption))]; rfl) | (rw [applyV_yes ⟨by assumption, by omega⟩, appV_stop2 hA (by assumption) (by assumption)]; done) | (rw [applyV_yes ⟨by assumption, by omega⟩, appV_stop2 hA (by assumption) (by assumption)]; rfl) | (rw [applyV_yes ⟨by assumption, by omega⟩, appV_end hA (by omega)]; done) | (rw [applyV_yes ⟨by assumption, by omega⟩, appV_end hA (by omega)]; rfl))), (show some (Ent.arr 131 (.pr .int .bool) ([])) = some (Ent.arr 131 (.pr .int .bool) (((applyV s list).1).2.2.1)) from congrArg (fun z => some (Ent.arr 131 (.pr .int .bool) z)) (by first | (rw [applyV_no (fun h => by obtain ⟨h1, h2⟩ := h; first | omega | exact absurd h1 (by assumption))]; done) | (rw [applyV_no (fun h => by obtain ⟨h1, h2⟩ := h; first | omega | exact absurd h1 (by assumption))]; rfl) | (rw [applyV_yes ⟨by assumption, by omega⟩, appV_stop2 hA (by assumption) (by assumption)]; done) | (rw [applyV_yes ⟨by assumption, by omega⟩, appV_stop2 hA (by assumption) (by assumption)]; rfl) | (rw [applyV_yes ⟨by assumption, by omega⟩, appV_end hA (by omega)]; done) | (rw [applyV_yes ⟨by assumption, by omega⟩, appV_end hA (by omega)]; rfl))), trivial⟩ rfl rfl

@[reducible] def f_Ordering : (DOrdering) → Int → (DOrdering) × Int := fun _ k => ((k, k + 1, decide ((k + 1 + 1) % 3 = 0)), k + 1 + 1 + 1)
theorem f_Ordering_c : ∀ (x : (DOrdering)) (k : Int), (f_Ordering x k).2 = k + ((fun _ => 3 : (DOrdering) → Nat) x : Nat) := fun _ k => by show k + 1 + 1 + 1 = k + ((3 : Nat) : Int); omega
theorem sum_f_Ordering (a : List (DOrdering)) : (a.map fun _ => 3).sum = 3 * a.length := by
  induction a with
  | nil => rfl
  | cons x xs ih => simp [ih]; omega
theorem mk_f_Ordering_le (a : List (DOrdering)) (k : Int) (i : Nat) : k ≤ mkC f_Ordering a k i ∧ mkC f_Ordering a k i ≤ k + 3 * a.length := by
  have := mkC_le _ f_Ordering_c a k i
  rw [sum_f_Ordering] at this
  omega
theorem mk_f_Ordering_succ {l : List (DOrdering)} {k : Int} {i : Nat} (h : i < l.length) : mkC f_Ordering l k i + 1 + 1 + 1 = mkC f_Ordering l k (i + 1) := by rw [mkC_succ (List.getElem?_eq_getElem h)]
theorem mk_f_Ordering_sum (l : List (DOrdering)) (k : Int) : (marks f_Ordering l k).2 = k + 3 * l.length := by rw [mkC_sum _ f_Ordering_c, sum_f_Ordering]; omega

set_option maxRecDepth 100000 in
set_option maxHeartbeats 4000000 in
theorem fc_laws_markOrderingS (a : List (Int × Int × Bool)) (k : Int) (hk : 0 ≤ k ∧ k + 3 * a.length ≤ 1000000000) : FC Try.prog 27 [(false, [.ref 0]), (false, [dI k])] [(0, some (.arr 54 (.pr .int (.pr .int .bool)) a))] 1 (Is (lf (dI ((marks f_Ordering a k).2))) [(0, some (.arr 54 (.pr .int (.pr .int .bool)) ((marks f_Ordering a k).1)))]) := by
  obtain ⟨O_, hO⟩ : ∃ x : PV → Tab → Prop, x = Is (lf (dI ((marks f_Ordering a k).2))) [(0, some (.arr 54 (.pr .int (.pr .int .bool)) ((marks f_Ordering a k).1)))] := ⟨_, rfl⟩
  refine FC.O_of hO (FC.ren (FC.of Try.func27 rfl rfl fun A_ hn_ hk_ => ?_))
  obtain ⟨w0_, N0_, X_, n_, k0_, h0_, f0_⟩ := A_
  obtain rfl : n_ = 36 := hn_.trans Try.ntmps27
  obtain rfl : k0_ = 1 := hk_
  refine AC.fact (fact_int (x := .tmp 1) (Evl.tmp rfl)) fun hi1 => ?_
  refine AC.seq ?_
  refine AC.region ?_
  refine AL.cons rfl (Does.assignC (Evl.int rfl) rfl) ?_
  refine AL.nil ?_
  refine (?_ : AC _ _ _ _ _)
  refine AC.seq ?_
  refine AC.seq ?_
  refine AC.region ?_
  refine AL.cons rfl (Does.assignC (Evl.int rfl) rfl) ?_
  refine AL.nil ?_
  refine (?_ : AC _ _ _ _ _)
  refine AC.block ?_
  refine AC.wk (s' := ⟨[(0, lf (.ref 0)), (1, lf (dI (mkC f_Ordering a k 0))), (4, lf (dI 0)), (5, lf (dI (0 : Int)))], [(0, some (.arr 54 (.pr .int (.pr .int .bool)) (mkA f_Ordering a k 0)))]⟩) (Wk.of [(0, 0)] rfl ⟨rfl, (show some (lf (dI k)) = some (lf (dI (mkC f_Ordering a k 0))) from congrArg (fun z_ => some (lf (dI z_))) (by rw [mkC_0])), rfl, rfl, trivial⟩ ⟨(show some (Ent.arr 54 (.pr .int (.pr .int .bool)) a) = some (Ent.arr 54 (.pr .int (.pr .int .bool)) (mkA f_Ordering a k 0)) from congrArg (fun z => some (Ent.arr 54 (.pr .int (.pr .int .bool)) z)) (mkA_0 f_Ordering a k)), trivial⟩ rfl rfl) ?_
  refine AC.loop (fun m_ s_ => ∃ (i : Nat), i ≤ a.length ∧ m_ = a.length - i ∧ s_ = ⟨[(0, lf (.ref 0)), (1, lf (dI (mkC f_Ordering a k i))), (4, lf (dI 0)), (5, lf (dI (i : Int)))], [(0, some (.arr 54 (.pr .int (.pr .int .bool)) (mkA f_Ordering a k i)))]⟩) (m := a.length - 0) ⟨0, Nat.zero_le _, rfl, rfl⟩ ?_
  rintro m_ s_ ⟨i, hk3, hm4, rfl⟩
  have hml := mkA_len f_Ordering a k i
  have hmc := mk_f_Ordering_le a k i
  refine AC.seq ?_
  refine AC.seq ?_
  refine AC.region ?_
  refine AL.cons rfl (Does.move rfl rfl) ?_
  refine AL.cons rfl (Does.move rfl rfl) ?_
  refine AL.cons rfl (Does.lenO (Evl.tmp rfl) rfl rfl und_62) ?_
  refine AL.cons rfl (Does.lss (Evl.tmp rfl) (Evl.tmp rfl) rfl) ?_
  refine AL.nil ?_
  refine (?_ : AC _ _ _ _ _)
  cases hb5 : (decide ((i : Int) < ((mkA f_Ordering a k i).length : Int)))
  · have _h := hb5
    have hb5' : ¬ ((i : Int) < ((mkA f_Ordering a k i).length : Int)) := of_decide_eq_false hb5
    refine AC.condF (Evl.tmp rfl) ?_
    refine AC.exit ?_
    refine (?_ : AC _ _ _ _ _)
    refine AC.seq ?_
    refine AC.region ?_
    refine AL.cons rfl (Does.move rfl rfl) ?_
    refine AL.cons rfl (Does.assign rfl rfl) ?_
    refine AL.nil ?_
    refine (?_ : AC _ _ _ _ _)
    refine AC.ret ?_
    subst hO
    have e6 : (mkC f_Ordering a k i : Int) = (marks f_Ordering a k).2 := by
      first | (rw [mkA_end _ (by omega)]; done) | (rw [mkC_end _ (by omega)]; done)
    exact fin_is (lf (dI ((marks f_Ordering a k).2))) [(0, some (.arr 54 (.pr .int (.pr .int .bool)) ((marks f_Ordering a k).1)))] [(0, 0)] (Res.one rfl (Rs.tmp rfl)) (show lf (dI (mkC f_Ordering a k i)) = lf (dI ((marks f_Ordering a k).2)) by exact (congrArg (fun z_ => lf (dI z_)) e6)) ⟨(show some (Ent.arr 54 (.pr .int (.pr .int .bool)) (mkA f_Ordering a k i)) = some (Ent.arr 54 (.pr .int (.pr .int .bool)) ((marks f_Ordering a k).1)) from congrArg (fun z => some (Ent.arr 54 (.pr .int (.pr .int .bool)) z)) (by first | (rw [mkA_end _ (by omega)]; done) | (rw [mkC_end _ (by omega)]; done))), trivial⟩ rfl rfl
  · have _h := hb5
    have hb5' : ((i : Int) < ((mkA f_Ordering a k i).length : Int)) := of_decide_eq_true hb5
    refine AC.condT (Evl.tmp rfl) ?_
    refine AC.skip ?_
    refine (?_ : AC _ _ _ _ _)
    refine AC.seq ?_
    refine AC.block ?_
    refine AC.seq ?_
    refine AC.region ?_
    refine AL.cons rfl (Does.move rfl rfl) ?_
    refine AL.cons rfl (Does.move rfl rfl) ?_
    refine AL.cons rfl (Does.move rfl rfl) ?_
    refine AL.cons rfl (Does.indexI (e := (.pr .int (.pr .int .bool))) (Evl.tmp rfl) rfl (Evl.tmp rfl) und_62 tsh_54 rfl (by omega) (by first | omega | (simp only [List.length_set]; omega))) ?_
    refine AL.cons rfl (Does.fieldI (Evl.tmp rfl) fld_54_0 rfl rfl) ?_
    obtain ⟨x7, hx8⟩ : ∃ z, (mkA f_Ordering a k i)[i]? = some z := ⟨_, List.getElem?_eq_getElem (by omega)⟩
    refine AL.cons rfl (Does.storeI (e := (.pr .int (.pr .int .bool))) (z' := (mkC f_Ordering a k i, x7.2.1, x7.2.2)) (Evl.tmp rfl) rfl hx8 rfl (Ev.tmp rfl) rfl tsh_3 rfl rfl) ?_
    refine AL.nil ?_
    refine (?_ : AC _ _ _ _ _)
    refine AC.seq ?_
    refine AC.region ?_
    refine AL.cons rfl (Does.move rfl rfl) ?_
    refine AL.cons rfl (Does.add (Evl.tmp rfl) (Evl.int rfl) rfl (by omega)) ?_
    refine AL.cons rfl (Does.assign rfl rfl) ?_
    refine AL.nil ?_
    refine (?_ : AC _ _ _ _ _)
    refine AC.seq ?_
    refine AC.region ?_
    refine AL.cons rfl (Does.move rfl rfl) ?_
    refine AL.cons rfl (Does.move rfl rfl) ?_
    refine AL.cons rfl (Does.move rfl rfl) ?_
    refine AL.cons rfl (Does.indexI (e := (.pr .int (.pr .int .bool))) (Evl.tmp rfl) rfl (Evl.tmp rfl) und_62 tsh_54 rfl (by omega) (by first | omega | (simp only [List.length_set]; omega))) ?_
    refine AL.cons rfl (Does.fieldI (Evl.tmp rfl) fld_54_1 rfl rfl) ?_
    refine AL.cons rfl (Does.storeI (e := (.pr .int (.pr .int .bool))) (z' := ((mkC f_Ordering a k i, x7.2.1, x7.2.2).1, (mkC f_Ordering a k i) + 1, (mkC f_Ordering a k i, x7.2.1, x7.2.2).2.2)) (Evl.tmp rfl) rfl (List.getElem?_set_self (by first | omega | (simp only [List.length_set]; omega))) rfl (Ev.tmp rfl) rfl tsh_3 rfl rfl) ?_
    refine AL.nil ?_
    refine (?_ : AC _ _ _ _ _)
    refine AC.seq ?_
    refine AC.region ?_
    refine AL.cons rfl (Does.move rfl rfl) ?_
    refine AL.cons rfl (Does.add (Evl.tmp rfl) (Evl.int rfl) rfl (by omega)) ?_
    refine AL.cons rfl (Does.assign rfl rfl) ?_
    refine AL.nil ?_
    refine (?_ : AC _ _ _ _ _)
    refine AC.seq ?_
    refine AC.region ?_
    refine AL.cons rfl (Does.move rfl rfl) ?_
    refine AL.cons rfl (Does.move rfl rfl) ?_
    refine AL.cons rfl (Does.move rfl rfl) ?_
    refine AL.cons rfl (Does.rem (Evl.tmp rfl) (Evl.int rfl) rfl (by omega) (by omega)) ?_
    refine AL.cons rfl (Does.eql (Evl.tmp rfl) (Evl.int rfl) rfl) ?_
    refine AL.cons rfl (Does.indexI (e := (.pr .int (.pr .int .bool))) (Evl.tmp rfl) rfl (Evl.tmp rfl) und_62 tsh_54 rfl (by omega) (by first | omega | (simp only [List.length_set]; omega))) ?_
    refine AL.cons rfl (Does.fieldI (Evl.tmp rfl) fld_54_2 rfl rfl) ?_
    refine AL.cons rfl (Does.storeI (e := (.pr .int (.pr .int .bool))) (z' := (((mkC f_Ordering a k i, x7.2.1, x7.2.2).1, (mkC f_Ordering a k i) + 1, (mkC f_Ordering a k i, x7.2.1, x7.2.2).2.2).1, ((mkC f_Ordering a k i, x7.2.1, x7.2.2).1, (mkC f_Ordering a k i) + 1, (mkC f_Ordering a k i, x7.2.1, x7.2.2).2.2).2.1, decide (((((mkC f_Ordering a k i) + 1) + 1) % 3) = 0))) (Evl.tmp rfl) rfl (List.getElem?_set_self (by first | omega | (simp only [List.length_set]; omega))) rfl (Ev.tmp rfl) rfl tsh_4 rfl rfl) ?_
    refine AL.nil ?_
    refine (?_ : AC _ _ _ _ _)
    refine AC.region ?_
    refine AL.cons rfl (Does.move rfl rfl) ?_
    refine AL.cons rfl (Does.add (Evl.tmp rfl) (Evl.int rfl) rfl (by omega)) ?_
    refine AL.cons rfl (Does.assign rfl rfl) ?_
    refine AL.nil ?_
    refine (?_ : AC _ _ _ _ _)
    refine AC.region ?_
    refine AL.cons rfl (Does.move rfl rfl) ?_
    refine AL.cons rfl (Does.add (Evl.tmp rfl) (Evl.int rfl) rfl (by omega)) ?_
    refine AL.cons rfl (Does.assign rfl rfl) ?_
    refine AL.nil ?_
    exact loop_end (a.length - (i + 1)) ⟨[(0, lf (.ref 0)), (1, lf (dI (mkC f_Ordering a k (i + 1)))), (4, lf (dI 0)), (5, lf (dI ((i + 1) : Int)))], [(0, some (.arr 54 (.pr .int (.pr .int .bool)) (mkA f_Ordering a k (i + 1))))]⟩ (by omega) (Wk.of [(0, 0)] rfl ⟨rfl, (show some (lf (dI ((((mkC f_Ordering a k i) + 1) + 1) + 1))) = some (lf (dI (mkC f_Ordering a k (i + 1)))) from congrArg (fun z_ => some (lf (dI z_))) (mk_f_Ordering_succ (by omega))), rfl, rfl, trivial⟩ ⟨(show some (Ent.arr 54 (.pr .int (.pr .int .bool)) ((((mkA f_Ordering a k i).set i (mkC f_Ordering a k i, x7.2.1, x7.2.2)).set i ((mkC f_Ordering a k i, x7.2.1, x7.2.2).1, (mkC f_Ordering a k i) + 1, (mkC f_Ordering a k i, x7.2.1, x7.2.2).2.2)).set i (((mkC f_Ordering a k i, x7.2.1, x7.2.2).1, (mkC f_Ordering a k i) + 1, (mkC f_Ordering a k i, x7.2.1, x7.2.2).2.2).1, ((mkC f_Ordering a k i, x7.2.1, x7.2.2).1, (mkC f_Ordering a k i) + 1, (mkC f_Ordering a k i, x7.2.1, x7.2.2).2.2).2.1, decide (((((mkC f_Ordering a k i) + 1) + 1) % 3) = 0)))) = some (Ent.arr 54 (.pr .int (.pr .int .bool)) (mkA f_Ordering a k (i + 1))) from congrArg (fun z => some (Ent.arr 54 (.pr .int (.pr .int .bool)) z)) (by rw [List.set_set, List.set_set]; exact mkA_set (f := f_Ordering) (mkA_back hx8))), trivial⟩ rfl rfl) ⟨i + 1, by omega, rfl, rfl⟩

theorem stg_cnt (s : DSTG) : tsum s.1.2 + s.2.1.length + s.2.2.1.length + s.1.2.length ≤ Ty.tot tSTG s := by
  rw [tot_stg, tot_net]
  omega

set_option maxRecDepth 100000 in
set_option maxHeartbeats 4000000 in
theorem fc_laws_FnExactApplyOrderings (aS : (Int × (List (List Int × List Int))) × (List (ByteArray × Int)) × (List (Int × Bool)) × ByteArray) (aList : List (Int × Int × Bool))  : FC Try.prog 5 [(true, [dI aS.1.1, .dat (.sl 201 (.pr (.sl 3 .int) (.sl 3 .int))) aS.1.2, .dat (.sl 133 (.pr .str .int)) aS.2.1, .dat (.sl 149 (.pr .int .bool)) aS.2.2.1, dS aS.2.2.2]), (false, [.dat (.sl 43 (.pr .int (.pr .int .bool))) aList])] [] 0 (Pure (lf (dB true))) := by
  classical
  have hs := szv_spec 1048576 (Ty.tot lSTG aS)
  have hs2 := szv_spec (szv 1048576 (Ty.tot lSTG aS)) (Ty.tot (.sl 43 lOrdering) aList)
  have ht : Ty.tot tSTG aS = Ty.tot lSTG aS := rfl
  have ha := applyV_tot aS aList
  have hc := mSTG_cnt aS 1
  have hc2 := mSTG_cnt (applyV aS aList).1 1
  have hl := len_tot (E := 43) (e := lOrdering) aList
  have hc3 := mk_f_Ordering_sum aList (mSTG aS 1).2
  have hmo := stg_cnt aS
  obtain ⟨O_, hO⟩ : ∃ x : PV → Tab → Prop, x = Pure (lf (dB true)) := ⟨_, rfl⟩
  refine FC.O_of hO (FC.ren (FC.of Try.func5 rfl rfl fun A_ hn_ hk_ => ?_))
  obtain ⟨w0_, N0_, X_, n_, k0_, h0_, f0_⟩ := A_
  obtain rfl : n_ = 119 := hn_.trans Try.ntmps5
  obtain rfl : k0_ = 0 := hk_
  refine AC.fact (fact_ag (x := .tmp 0) (i := 0) (Ev.tmp rfl) rfl) fun hi1 => ?_
  refine AC.seq ?_
  refine AC.region ?_
  refine AL.cons rfl (Does.box 0 (Ev.tmp rfl) rfl rfl (Fresh.of rfl) (Nat.le_of_ble_eq_true rfl)) ?_
  refine AL.cons rfl (Does.assignC Evl.bool rfl) ?_
  refine AL.nil ?_
  refine (?_ : AC _ _ _ _ _)
  refine AC.seq ?_
  refine AC.region ?_
  refine AL.cons rfl (Does.assignC (Evl.int rfl) rfl) ?_
  refine AL.nil ?_
  refine (?_ : AC _ _ _ _ _)
  refine AC.seq ?_
  refine AC.region ?_
  refine AL.cons rfl (Does.loadPA (Evl.tmp rfl) rfl tsh_41 rfl rfl) ?_
  refine AL.cons rfl (Does.move rfl rfl) ?_
  refine AL.cons rfl (Does.call (fc_szSTG aS 1048576 (by omega) (by omega)) enters_14 ⟨_, _, rfl, (Ev.tmp rfl), ⟨_, _, rfl, (Ev.tmp rfl), rfl⟩⟩ rfl rfl) ?_
  refine AL.cons rfl (Does.assign rfl rfl) ?_
  refine AL.nil ?_
  refine (?_ : AC _ _ _ _ _)
  refine AC.seq ?_
  refine AC.seq ?_
  refine AC.region ?_
  refine AL.cons rfl (Does.move rfl rfl) ?_
  refine AL.cons rfl (Does.lss (Evl.tmp rfl) (Evl.int rfl) rfl) ?_
  refine AL.nil ?_
  refine (?_ : AC _ _ _ _ _)
  cases hb2 : (decide ((szv 1048576 (Ty.tot lSTG aS)) < 0))
  · have _h := hb2
    have hb2' : ¬ ((szv 1048576 (Ty.tot lSTG aS)) < 0) := of_decide_eq_false hb2
    refine AC.condF (Evl.tmp rfl) ?_
    refine AC.skip ?_
    refine (?_ : AC _ _ _ _ _)
    refine AC.seq ?_
    refine AC.region ?_
    refine AL.cons rfl (Does.move rfl rfl) ?_
    refine AL.cons rfl (Does.move rfl rfl) ?_
    refine AL.cons rfl (Does.call (fc_szOrderingS aList (szv 1048576 (Ty.tot lSTG aS)) (by omega) (by omega)) enters_22 ⟨_, _, rfl, (Ev.tmp rfl), ⟨_, _, rfl, (Ev.tmp rfl), rfl⟩⟩ rfl rfl) ?_
    refine AL.cons rfl (Does.assign rfl rfl) ?_
    refine AL.nil ?_
    refine (?_ : AC _ _ _ _ _)
    refine AC.seq ?_
    refine AC.seq ?_
    refine AC.region ?_
    refine AL.cons rfl (Does.move rfl rfl) ?_
    refine AL.cons rfl (Does.lss (Evl.tmp rfl) (Evl.int rfl) rfl) ?_
    refine AL.nil ?_
    refine (?_ : AC _ _ _ _ _)
    cases hb3 : (decide ((szv (szv 1048576 (Ty.tot lSTG aS)) (Ty.tot (.sl 43 lOrdering) aList)) < 0))
    · have _h := hb3
      have hb3' : ¬ ((szv (szv 1048576 (Ty.tot lSTG aS)) (Ty.tot (.sl 43 lOrdering) aList)) < 0) := of_decide_eq_false hb3
      refine AC.condF (Evl.tmp rfl) ?_
      refine AC.skip ?_
      refine (?_ : AC _ _ _ _ _)
      refine AC.seq ?_
      refine AC.region ?_
      refine AL.cons rfl (Does.loadPA (Evl.tmp rfl) rfl tsh_41 rfl rfl) ?_
      refine AL.cons rfl (Does.callG 1 (fc_toSTG aS (by omega)) enters_16 ⟨_, _, rfl, (Ev.tmp rfl), rfl⟩ rfl rfl ⟨Fresh.of rfl, Fresh.of rfl, Fresh.of rfl, trivial⟩ (Nat.le_of_ble_eq_true rfl)) ?_
      refine AL.cons rfl (Does.move rfl rfl) ?_
      refine AL.cons rfl (Does.callO 4 (fc_toOrderingS aList (by omega)) enters_24 ⟨_, _, rfl, (Ev.tmp rfl), rfl⟩ rfl (Fresh.of rfl) (Nat.le_of_ble_eq_true rfl)) ?_
      refine AL.cons rfl (Does.callGB 5 (fc_spec_ApplyOrderings aS aList (by omega)) enters_23 ⟨_, _, rfl, (Ev.ob (Ev.tmp rfl) ⟨_, _, rfl, .inl rfl, ⟨_, _, rfl, .inr ⟨_, _, _, _, rfl, rfl, rfl⟩, ⟨_, _, rfl, .inr ⟨_, _, _, _, rfl, rfl, rfl⟩, ⟨_, _, rfl, .inr ⟨_, _, _, _, rfl, rfl, rfl⟩, ⟨_, _, rfl, .inl rfl, rfl⟩⟩⟩⟩⟩), ⟨_, _, rfl, (Evl.ob (Evl.tmp rfl) rfl), rfl⟩⟩ rfl rfl rfl ⟨Fresh.of rfl, Fresh.of rfl, Fresh.of rfl, trivial⟩ (Nat.le_of_ble_eq_true rfl)) ?_
      refine AL.cons rfl (Does.move rfl rfl) ?_
      refine AL.cons rfl (Does.extract rfl rfl rfl) ?_
      refine AL.cons rfl (Does.extract rfl rfl rfl) ?_
      refine AL.cons rfl (Does.alloc 8 (.pr (.pr .int (.sl 146 (.pr (.sl 3 .int) (.sl 3 .int)))) (.pr (.sl 129 (.pr .str .int)) (.pr (.sl 131 (.pr .int .bool)) .str))) zer_50 rfl rfl (Fresh.of rfl) (Nat.le_of_ble_eq_true rfl)) ?_
      refine AL.cons rfl (Does.storeP (Evl.tmp rfl) rfl (Ev.tmp rfl) rfl tsh_50 rfl) ?_
      refine AL.cons rfl (Does.assign rfl rfl) ?_
      refine AL.nil ?_
      refine (?_ : AC _ _ _ _ _)
      refine AC.seq ?_
      refine AC.region ?_
      refine AL.cons rfl (Does.loadPA (Evl.tmp rfl) rfl tsh_41 rfl rfl) ?_
      refine AL.cons rfl (Does.callG 9 (fc_toSTG aS (by omega)) enters_16 ⟨_, _, rfl, (Ev.tmp rfl), rfl⟩ rfl rfl ⟨Fresh.of rfl, Fresh.of rfl, Fresh.of rfl, trivial⟩ (Nat.le_of_ble_eq_true rfl)) ?_
      refine AL.cons rfl (Does.alloc 12 (.pr (.pr .int (.sl 146 (.pr (.sl 3 .int) (.sl 3 .int)))) (.pr (.sl 129 (.pr .str .int)) (.pr (.sl 131 (.pr .int .bool)) .str))) zer_50 rfl rfl (Fresh.of rfl) (Nat.le_of_ble_eq_true rfl)) ?_
      refine AL.cons rfl (Does.storeP (Evl.tmp rfl) rfl (Ev.tmp rfl) rfl tsh_50 rfl) ?_
      refine AL.nil ?_
      refine (?_ : AC _ _ _ _ _)
      refine AC.seq ?_
      refine AC.region ?_
      refine AL.cons rfl (Does.move rfl rfl) ?_
      refine AL.cons rfl (Does.callO 13 (fc_toOrderingS aList (by omega)) enters_24 ⟨_, _, rfl, (Ev.tmp rfl), rfl⟩ rfl (Fresh.of rfl) (Nat.le_of_ble_eq_true rfl)) ?_
      refine AL.cons rfl (Does.assign rfl rfl) ?_
      refine AL.nil ?_
      refine (?_ : AC _ _ _ _ _)
      refine AC.seq ?_
      refine AC.region ?_
      refine AL.cons rfl (Does.loadPA (Evl.tmp rfl) rfl tsh_50 rfl rfl) ?_
      refine AL.cons rfl (Does.move rfl rfl) ?_
      refine AL.cons rfl (Does.callGB 14 (fc_impl_ApplyOrderings aS aList (by omega)) enters_25 ⟨_, _, rfl, (Ev.ob (Ev.tmp rfl) ⟨_, _, rfl, .inl rfl, ⟨_, _, rfl, .inr ⟨_, _, _, _, rfl, rfl, rfl⟩, ⟨_, _, rfl, .inr ⟨_, _, _, _, rfl, rfl, rfl⟩, ⟨_, _, rfl, .inr ⟨_, _, _, _, rfl, rfl, rfl⟩, ⟨_, _, rfl, .inl rfl, rfl⟩⟩⟩⟩⟩), ⟨_, _, rfl, (Evl.ob (Evl.tmp rfl) rfl), rfl⟩⟩ rfl rfl rfl ⟨Fresh.of rfl, Fresh.of rfl, Fresh.of rfl, trivial⟩ (Nat.le_of_ble_eq_true rfl)) ?_
      refine AL.cons rfl (Does.move rfl rfl) ?_
      refine AL.cons rfl (Does.extract rfl rfl rfl) ?_
      refine AL.cons rfl (Does.extract rfl rfl rfl) ?_
      refine AL.cons rfl (Does.alloc 17 (.pr (.pr .int (.sl 146 (.pr (.sl 3 .int) (.sl 3 .int)))) (.pr (.sl 129 (.pr .str .int)) (.pr (.sl 131 (.pr .int .bool)) .str))) zer_50 rfl rfl (Fresh.of rfl) (Nat.le_of_ble_eq_true rfl)) ?_
      refine AL.cons rfl (Does.storeP (Evl.tmp rfl) rfl (Ev.tmp rfl) rfl tsh_50 rfl) ?_
      refine AL.cons rfl (Does.assign rfl rfl) ?_
      refine AL.nil ?_
      refine (?_ : AC _ _ _ _ _)
      refine AC.seq ?_
      refine AC.seq ?_
      refine AC.region ?_
      refine AL.cons rfl (Does.loadPA (Evl.tmp rfl) rfl tsh_50 rfl rfl) ?_
      refine AL.cons rfl (Does.loadPA (Evl.tmp rfl) rfl tsh_50 rfl rfl) ?_
      refine AL.cons rfl (Does.callB (fc_eqSTG ((applyV aS aList).1) ((applyV aS aList).1) rfl) enters_19 ⟨_, _, rfl, (Ev.ob (Ev.tmp rfl) ⟨_, _, rfl, .inl rfl, ⟨_, _, rfl, .inr ⟨_, _, _, _, rfl, rfl, rfl⟩, ⟨_, _, rfl, .inr ⟨_, _, _, _, rfl, rfl, rfl⟩, ⟨_, _, rfl, .inr ⟨_, _, _, _, rfl, rfl, rfl⟩, ⟨_, _, rfl, .inl rfl, rfl⟩⟩⟩⟩⟩), ⟨_, _, rfl, (Ev.ob (Ev.tmp rfl) ⟨_, _, rfl, .inl rfl, ⟨_, _, rfl, .inr ⟨_, _, _, _, rfl, rfl, rfl⟩, ⟨_, _, rfl, .inr ⟨_, _, _, _, rfl, rfl, rfl⟩, ⟨_, _, rfl, .inr ⟨_, _, _, _, rfl, rfl, rfl⟩, ⟨_, _, rfl, .inl rfl, rfl⟩⟩⟩⟩⟩), rfl⟩⟩ rfl rfl rfl) ?_
      refine AL.cons rfl (Does.not (Evl.tmp rfl) rfl) ?_
      refine AL.cons rfl (Does.move rfl rfl) ?_
      refine AL.guard_yes rfl rfl rfl (Does.move rfl rfl) ?_
      refine AL.guard_yes rfl rfl rfl (Does.move rfl rfl) ?_
      refine AL.guard_yes rfl rfl rfl (Does.neqB (Evl.tmp rfl) (Evl.tmp rfl) rfl und_4) ?_
      refine AL.cons rfl (Does.pickF (Evl.tmp rfl) (Ev.tmp rfl) rfl) ?_
      refine AL.nil ?_
      refine (?_ : AC _ _ _ _ _)
      cases hb4 : (((applyV aS aList).2) == ((applyV aS aList).2))
      · have _h := hb4
        refine AC.condT (Evl.tmp rfl) ?_
        refine AC.seq ?_
        refine AC.region ?_
        refine AL.cons rfl (Does.assignC Evl.bool rfl) ?_
        refine AL.nil ?_
        refine (?_ : AC _ _ _ _ _)
        refine AC.ret ?_
        subst hO
        have e5 : (false : Bool) = true := by
          exfalso; first | omega | (revert _h; simp; done)
        exact fin_pure (Res.one rfl (Rs.tmp rfl)) ((congrArg (fun z_ => lf (dB z_)) e5)) rfl
      · have _h := hb4
        refine AC.condF (Evl.tmp rfl) ?_
        refine AC.skip ?_
        refine (?_ : AC _ _ _ _ _)
        refine AC.seq ?_
        refine AC.seq ?_
        refine AC.drawL [⟨some 54, ag [dI aS.1.1, .ref 9, .ref 10, .ref 11, dS aS.2.2.2], []⟩, ⟨some 55, ag [dI aS.1.1, .dat (.sl 201 (.pr (.sl 3 .int) (.sl 3 .int))) aS.1.2, .dat (.sl 133 (.pr .str .int)) aS.2.1, .dat (.sl 149 (.pr .int .bool)) aS.2.2.1, dS aS.2.2.2], []⟩, ⟨some 56, ag [dI aS.1.1, .ref 18, .ref 19, .ref 20, dS aS.2.2.2], [(18, some (.arr 146 (.pr (.sl 3 .int) (.sl 3 .int)) aS.1.2)), (19, some (.arr 129 (.pr .str .int) aS.2.1)), (20, some (.arr 131 (.pr .int .bool) aS.2.2.1))]⟩, ⟨some 57, lf (dB true), []⟩, ⟨some 58, lf (dB (!true)), []⟩] [[], [], [1], [0, 1, 2], [0, 1, 2, 3]] mixed rfl (by kernel_rfl) ?_ ?_
        · refine ⟨fun s_ hs => Acts.of1 rfl (Does.loadPA (Evl.tmp (hs.tm 8 rfl)) (hs.en 12 rfl) tsh_50 rfl rfl) rfl, fun s_ hs => Acts.of1 rfl (Does.loadPA (Evl.tmp (hs.tm 2 rfl)) (hs.en 0 rfl) tsh_41 rfl rfl) rfl, fun s_ hs => Acts.of1 rfl (Does.callG 18 (fc_toSTG aS (by omega)) enters_16 ⟨_, _, rfl, (Ev.tmp (hs.tm 55 rfl)), rfl⟩ rfl rfl ⟨(hs.fr 18 rfl), (hs.fr 19 rfl), (hs.fr 20 rfl), trivial⟩ (Nat.le_of_ble_eq_true rfl)) rfl, fun s_ hs => Acts.of1 rfl (Does.callB (fc_eqSTG aS aS rfl) enters_19 ⟨_, _, rfl, (Ev.ob (Ev.tmp (hs.tm 54 rfl)) ⟨_, _, rfl, .inl rfl, ⟨_, _, rfl, .inr ⟨_, _, _, _, rfl, (hs.en 9 rfl), rfl⟩, ⟨_, _, rfl, .inr ⟨_, _, _, _, rfl, (hs.en 10 rfl), rfl⟩, ⟨_, _, rfl, .inr ⟨_, _, _, _, rfl, (hs.en 11 rfl), rfl⟩, ⟨_, _, rfl, .inl rfl, rfl⟩⟩⟩⟩⟩), ⟨_, _, rfl, (Ev.ob (Ev.tmp (hs.tm 56 rfl)) ⟨_, _, rfl, .inl rfl, ⟨_, _, rfl, .inr ⟨_, _, _, _, rfl, (hs.en 18 rfl), rfl⟩, ⟨_, _, rfl, .inr ⟨_, _, _, _, rfl, (hs.en 19 rfl), rfl⟩, ⟨_, _, rfl, .inr ⟨_, _, _, _, rfl, (hs.en 20 rfl), rfl⟩, ⟨_, _, rfl, .inl rfl, rfl⟩⟩⟩⟩⟩), rfl⟩⟩ rfl rfl rfl) rfl, fun s_ hs => Acts.of1 rfl (Does.not (Evl.tmp (hs.tm 57 rfl)) rfl) rfl, trivial⟩
        refine (?_ : AC _ _ _ _ _)
        refine AC.wk (s' := _) (Wk.refl _ _) ?_
        refine AC.condF (Evl.tmp rfl) ?_
        refine AC.skip ?_
        refine (?_ : AC _ _ _ _ _)
        refine AC.seq ?_
        refine AC.seq ?_
        refine AC.region ?_
        refine AL.cons rfl (Does.move rfl rfl) ?_
        refine AL.cons rfl (Does.move rfl rfl) ?_
        refine AL.cons rfl (Does.callO 21 (fc_toOrderingS aList (by omega)) enters_24 ⟨_, _, rfl, (Ev.tmp rfl), rfl⟩ rfl (Fresh.of rfl) (Nat.le_of_ble_eq_true rfl)) ?_
        refine AL.cons rfl (Does.callB (fc_eqOrderingS aList aList rfl) enters_26 ⟨_, _, rfl, (Evl.ob (Evl.tmp rfl) rfl), ⟨_, _, rfl, (Evl.ob (Evl.tmp rfl) rfl), rfl⟩⟩ rfl rfl rfl) ?_
        refine AL.cons rfl (Does.not (Evl.tmp rfl) rfl) ?_
        refine AL.nil ?_
        refine (?_ : AC _ _ _ _ _)
        refine AC.condF (Evl.tmp rfl) ?_
        refine AC.skip ?_
        refine (?_ : AC _ _ _ _ _)
        refine AC.seq ?_
        refine AC.region ?_
        refine AL.cons rfl (Does.assignC (Evl.int rfl) rfl) ?_
        refine AL.nil ?_
        refine (?_ : AC _ _ _ _ _)
        refine AC.seq ?_
        refine AC.region ?_
        refine AL.cons rfl (Does.loadPA (Evl.tmp rfl) rfl tsh_50 rfl rfl) ?_
        refine AL.cons rfl (Does.move rfl rfl) ?_
        refine AL.cons rfl (Does.callP 22 [(0, 9), (1, 10), (2, 11)] (fc_laws_markSTG aS 1 (mark_ok (by omega))) enters_20 ⟨_, _, rfl, (Ev.tmp rfl), ⟨_, _, rfl, (Ev.tmp rfl), rfl⟩⟩ ⟨rfl, rfl, rfl, trivial⟩ rfl ⟨trivial, trivial, trivial, trivial⟩ (Nat.le_of_ble_eq_true rfl)) ?_
        refine AL.cons rfl (Does.assign rfl rfl) ?_
        refine AL.nil ?_
        refine (?_ : AC _ _ _ _ _)
        refine AC.seq ?_
        refine AC.region ?_
        refine AL.cons rfl (Does.move rfl rfl) ?_
        refine AL.cons rfl (Does.move rfl rfl) ?_
        refine AL.cons rfl (Does.callP 25 [(0, 13)] (fc_laws_markOrderingS aList ((mSTG aS 1).2) (by omega)) enters_27 ⟨_, _, rfl, (Ev.tmp rfl), ⟨_, _, rfl, (Ev.tmp rfl), rfl⟩⟩ ⟨rfl, trivial⟩ rfl ⟨trivial, trivial⟩ (Nat.le_of_ble_eq_true rfl)) ?_
        refine AL.cons rfl (Does.assign rfl rfl) ?_
        refine AL.nil ?_
        refine (?_ : AC _ _ _ _ _)
        refine AC.seq ?_
        refine AC.seq ?_
        refine AC.region ?_
        refine AL.cons rfl (Does.move rfl rfl) ?_
        refine AL.cons rfl (Does.lss (Evl.tmp rfl) (Evl.int rfl) rfl) ?_
        refine AL.cons rfl (Does.move rfl rfl) ?_
        cases hb6 : (decide (((marks f_Ordering aList ((mSTG aS 1).2)).2) < 0))
        · have _h := hb6
          have hb6' : ¬ (((marks f_Ordering aList ((mSTG aS 1).2)).2) < 0) := of_decide_eq_false hb6
          refine AL.guard_yes rfl rfl rfl (Does.loadPA (Evl.tmp rfl) rfl tsh_50 rfl rfl) ?_
          refine AL.guard_yes rfl rfl rfl (Does.loadPA (Evl.tmp rfl) rfl tsh_50 rfl rfl) ?_
          refine AL.guard_yes rfl rfl rfl (Does.callB (fc_eqSTG ((applyV aS aList).1) ((applyV aS aList).1) rfl) enters_19 ⟨_, _, rfl, (Ev.ob (Ev.tmp rfl) ⟨_, _, rfl, .inl rfl, ⟨_, _, rfl, .inr ⟨_, _, _, _, rfl, rfl, rfl⟩, ⟨_, _, rfl, .inr ⟨_, _, _, _, rfl, rfl, rfl⟩, ⟨_, _, rfl, .inr ⟨_, _, _, _, rfl, rfl, rfl⟩, ⟨_, _, rfl, .inl rfl, rfl⟩⟩⟩⟩⟩), ⟨_, _, rfl, (Ev.ob (Ev.tmp rfl) ⟨_, _, rfl, .inl rfl, ⟨_, _, rfl, .inr ⟨_, _, _, _, rfl, rfl, rfl⟩, ⟨_, _, rfl, .inr ⟨_, _, _, _, rfl, rfl, rfl⟩, ⟨_, _, rfl, .inr ⟨_, _, _, _, rfl, rfl, rfl⟩, ⟨_, _, rfl, .inl rfl, rfl⟩⟩⟩⟩⟩), rfl⟩⟩ rfl rfl rfl) ?_
          refine AL.guard_yes rfl rfl rfl (Does.not (Evl.tmp rfl) rfl) ?_
          refine AL.cons rfl (Does.pickF (Evl.tmp rfl) (Ev.tmp rfl) rfl) ?_
          refine AL.cons rfl (Does.move rfl rfl) ?_
          refine AL.guard_yes rfl rfl rfl (Does.move rfl rfl) ?_
          refine AL.guard_yes rfl rfl rfl (Does.move rfl rfl) ?_
          refine AL.guard_yes rfl rfl rfl (Does.neqB (Evl.tmp rfl) (Evl.tmp rfl) rfl und_4) ?_
          refine AL.cons rfl (Does.pickF (Evl.tmp rfl) (Ev.tmp rfl) rfl) ?_
          refine AL.nil ?_
          refine (?_ : AC _ _ _ _ _)
          cases hb7 : (((applyV aS aList).2) == ((applyV aS aList).2))
          · have _h := hb7
            refine AC.condT (Evl.tmp rfl) ?_
            refine AC.seq ?_
            refine AC.region ?_
            refine AL.cons rfl (Does.assignC Evl.bool rfl) ?_
            refine AL.nil ?_
            refine (?_ : AC _ _ _ _ _)
            refine AC.ret ?_
            subst hO
            have e8 : (false : Bool) = true := by
              exfalso; first | omega | (revert _h; simp; done)
            exact fin_pure (Res.one rfl (Rs.tmp rfl)) ((congrArg (fun z_ => lf (dB z_)) e8)) rfl
          · have _h := hb7
            refine AC.condF (Evl.tmp rfl) ?_
            refine AC.skip ?_
            refine (?_ : AC _ _ _ _ _)
            refine AC.seq ?_
            refine AC.region ?_
            refine AL.cons rfl (Does.assignC (Evl.int rfl) rfl) ?_
            refine AL.nil ?_
            refine (?_ : AC _ _ _ _ _)
            refine AC.seq ?_
            refine AC.region ?_
            refine AL.cons rfl (Does.loadPA (Evl.tmp rfl) rfl tsh_50 rfl rfl) ?_
            refine AL.cons rfl (Does.move rfl rfl) ?_
            refine AL.cons rfl (Does.callP 26 [(0, 14), (1, 15), (2, 16)] (fc_laws_markSTG ((applyV aS aList).1) 1 (mark_ok (by omega))) enters_20 ⟨_, _, rfl, (Ev.tmp rfl), ⟨_, _, rfl, (Ev.tmp rfl), rfl⟩⟩ ⟨rfl, rfl, rfl, trivial⟩ rfl ⟨trivial, trivial, trivial, trivial⟩ (Nat.le_of_ble_eq_true rfl)) ?_
            refine AL.cons rfl (Does.assign rfl rfl) ?_
            refine AL.nil ?_
            refine (?_ : AC _ _ _ _ _)
            refine AC.seq ?_
            refine AC.region ?_
            refine AL.cons rfl (Does.assignC (Evl.int rfl) rfl) ?_
            refine AL.nil ?_
            refine (?_ : AC _ _ _ _ _)
            refine AC.seq ?_
            refine AC.region ?_
            refine AL.cons rfl (Does.loadPA (Evl.tmp rfl) rfl tsh_50 rfl rfl) ?_
            refine AL.cons rfl (Does.move rfl rfl) ?_
            refine AL.cons rfl (Does.callB (fc_laws_heldSTG (((((applyV aS aList).1).1).1, (mSTG ((applyV aS aList).1) 1).1.1.2), (mSTG ((applyV aS aList).1) 1).1.2.1, (mSTG ((applyV aS aList).1) 1).1.2.2.1, ((applyV aS aList).1).2.2.2) 1 (applyV aS aList).1 rfl (mark_ok (s := (applyV aS aList).1) (by omega))) enters_21 ⟨_, _, rfl, (Ev.ob (Ev.tmp rfl) ⟨_, _, rfl, .inl rfl, ⟨_, _, rfl, .inr ⟨_, _, _, _, rfl, rfl, rfl⟩, ⟨_, _, rfl, .inr ⟨_, _, _, _, rfl, rfl, rfl⟩, ⟨_, _, rfl, .inr ⟨_, _, _, _, rfl, rfl, rfl⟩, ⟨_, _, rfl, .inl rfl, rfl⟩⟩⟩⟩⟩), ⟨_, _, rfl, (Ev.b (Ev.tmp rfl)), rfl⟩⟩ rfl rfl rfl) ?_
            refine AL.cons rfl (Does.assign rfl rfl) ?_
            refine AL.nil ?_
            refine (?_ : AC _ _ _ _ _)
            refine AC.seq ?_
            refine AC.seq ?_
            refine AC.region ?_
            refine AL.cons rfl (Does.move rfl rfl) ?_
            refine AL.cons rfl (Does.lss (Evl.tmp rfl) (Evl.int rfl) rfl) ?_
            refine AL.nil ?_
            refine (?_ : AC _ _ _ _ _)
            cases hb9 : (decide (((mSTG ((applyV aS aList).1) 1).2) < 0))
            · have _h := hb9
              have hb9' : ¬ (((mSTG ((applyV aS aList).1) 1).2) < 0) := of_decide_eq_false hb9
              refine AC.condF (Evl.tmp rfl) ?_
              refine AC.skip ?_
              refine (?_ : AC _ _ _ _ _)
              refine AC.seq ?_
              refine AC.seq ?_
              refine AC.region ?_
              refine AL.cons rfl (Does.move rfl rfl) ?_
              refine AL.cons rfl (Does.move rfl rfl) ?_
              refine AL.cons rfl (Does.neq (Evl.tmp rfl) (Evl.tmp rfl) rfl) ?_
              refine AL.nil ?_
              refine (?_ : AC _ _ _ _ _)
              cases hb10 : (!decide (((mSTG ((applyV aS aList).1) 1).2) = ((mSTG ((applyV aS aList).1) 1).2)))
              · have _h := hb10
                have hb10' : (((mSTG ((applyV aS aList).1) 1).2) = ((mSTG ((applyV aS aList).1) 1).2)) := nd_false hb10
                refine AC.condF (Evl.tmp rfl) ?_
                refine AC.skip ?_
                refine (?_ : AC _ _ _ _ _)
                refine AC.seq ?_
                refine AC.region ?_
                refine AL.cons rfl (Does.loadPA (Evl.tmp rfl) rfl tsh_41 rfl rfl) ?_
                refine AL.cons rfl (Does.callG 29 (fc_toSTG aS (by omega)) enters_16 ⟨_, _, rfl, (Ev.tmp rfl), rfl⟩ rfl rfl ⟨Fresh.of rfl, Fresh.of rfl, Fresh.of rfl, trivial⟩ (Nat.le_of_ble_eq_true rfl)) ?_
                refine AL.cons rfl (Does.move rfl rfl) ?_
                refine AL.cons rfl (Does.callO 32 (fc_toOrderingS aList (by omega)) enters_24 ⟨_, _, rfl, (Ev.tmp rfl), rfl⟩ rfl (Fresh.of rfl) (Nat.le_of_ble_eq_true rfl)) ?_
                refine AL.cons rfl (Does.callGB 33 (fc_impl_ApplyOrderings aS aList (by omega)) enters_25 ⟨_, _, rfl, (Ev.ob (Ev.tmp rfl) ⟨_, _, rfl, .inl rfl, ⟨_, _, rfl, .inr ⟨_, _, _, _, rfl, rfl, rfl⟩, ⟨_, _, rfl, .inr ⟨_, _, _, _, rfl, rfl, rfl⟩, ⟨_, _, rfl, .inr ⟨_, _, _, _, rfl, rfl, rfl⟩, ⟨_, _, rfl, .inl rfl, rfl⟩⟩⟩⟩⟩), ⟨_, _, rfl, (Evl.ob (Evl.tmp rfl) rfl), rfl⟩⟩ rfl rfl rfl ⟨Fresh.of rfl, Fresh.of rfl, Fresh.of rfl, trivial⟩ (Nat.le_of_ble_eq_true rfl)) ?_
                refine AL.cons rfl (Does.move rfl rfl) ?_
                refine AL.cons rfl (Does.extract rfl rfl rfl) ?_
                refine AL.cons rfl (Does.extract rfl rfl rfl) ?_
                refine AL.cons rfl (Does.alloc 36 (.pr (.pr .int (.sl 146 (.pr (.sl 3 .int) (.sl 3 .int)))) (.pr (.sl 129 (.pr .str .int)) (.pr (.sl 131 (.pr .int .bool)) .str))) zer_50 rfl rfl (Fresh.of rfl) (Nat.le_of_ble_eq_true rfl)) ?_
                refine AL.cons rfl (Does.storeP (Evl.tmp rfl) rfl (Ev.tmp rfl) rfl tsh_50 rfl) ?_
                refine AL.cons rfl (Does.assign rfl rfl) ?_
                refine AL.nil ?_
                refine (?_ : AC _ _ _ _ _)
                refine AC.seq ?_
                refine AC.seq ?_
                refine AC.region ?_
                refine AL.cons rfl (Does.loadPA (Evl.tmp rfl) rfl tsh_50 rfl rfl) ?_
                refine AL.cons rfl (Does.loadPA (Evl.tmp rfl) rfl tsh_50 rfl rfl) ?_
                refine AL.cons rfl (Does.callB (fc_eqSTG ((applyV aS aList).1) ((applyV aS aList).1) rfl) enters_19 ⟨_, _, rfl, (Ev.ob (Ev.tmp rfl) ⟨_, _, rfl, .inl rfl, ⟨_, _, rfl, .inr ⟨_, _, _, _, rfl, rfl, rfl⟩, ⟨_, _, rfl, .inr ⟨_, _, _, _, rfl, rfl, rfl⟩, ⟨_, _, rfl, .inr ⟨_, _, _, _, rfl, rfl, rfl⟩, ⟨_, _, rfl, .inl rfl, rfl⟩⟩⟩⟩⟩), ⟨_, _, rfl, (Ev.ob (Ev.tmp rfl) ⟨_, _, rfl, .inl rfl, ⟨_, _, rfl, .inr ⟨_, _, _, _, rfl, rfl, rfl⟩, ⟨_, _, rfl, .inr ⟨_, _, _, _, rfl, rfl, rfl⟩, ⟨_, _, rfl, .inr ⟨_, _, _, _, rfl, rfl, rfl⟩, ⟨_, _, rfl, .inl rfl, rfl⟩⟩⟩⟩⟩), rfl⟩⟩ rfl rfl rfl) ?_
                refine AL.cons rfl (Does.not (Evl.tmp rfl) rfl) ?_
                refine AL.cons rfl (Does.move rfl rfl) ?_
                refine AL.guard_yes rfl rfl rfl (Does.move rfl rfl) ?_
                refine AL.guard_yes rfl rfl rfl (Does.move rfl rfl) ?_
                refine AL.guard_yes rfl rfl rfl (Does.neqB (Evl.tmp rfl) (Evl.tmp rfl) rfl und_4) ?_
                refine AL.cons rfl (Does.pickF (Evl.tmp rfl) (Ev.tmp rfl) rfl) ?_
                refine AL.nil ?_
                refine (?_ : AC _ _ _ _ _)
                cases hb11 : (((applyV aS aList).2) == ((applyV aS aList).2))
                · have _h := hb11
                  refine AC.condT (Evl.tmp rfl) ?_
                  refine AC.seq ?_
                  refine AC.region ?_
                  refine AL.cons rfl (Does.assignC Evl.bool rfl) ?_
                  refine AL.nil ?_
                  refine (?_ : AC _ _ _ _ _)
                  refine AC.ret ?_
                  subst hO
                  have e12 : (false : Bool) = true := by
                    exfalso; first | omega | (revert _h; simp; done)
                  exact fin_pure (Res.one rfl (Rs.tmp rfl)) ((congrArg (fun z_ => lf (dB z_)) e12)) rfl
                · have _h := hb11
                  refine AC.condF (Evl.tmp rfl) ?_
                  refine AC.skip ?_
                  refine (?_ : AC _ _ _ _ _)
                  refine AC.seq ?_
                  refine AC.region ?_
                  refine AL.cons rfl (Does.assignC (Evl.int rfl) rfl) ?_
                  refine AL.nil ?_
                  refine (?_ : AC _ _ _ _ _)
                  refine AC.seq ?_
                  refine AC.region ?_
                  refine AL.cons rfl (Does.loadPA (Evl.tmp rfl) rfl tsh_50 rfl rfl) ?_
                  refine AL.cons rfl (Does.move rfl rfl) ?_
                  refine AL.cons rfl (Does.callB (fc_laws_heldSTG (((((applyV aS aList).1).1).1, (mSTG ((applyV aS aList).1) 1).1.1.2), (mSTG ((applyV aS aList).1) 1).1.2.1, (mSTG ((applyV aS aList).1) 1).1.2.2.1, ((applyV aS aList).1).2.2.2) 1 (applyV aS aList).1 rfl (mark_ok (s := (applyV aS aList).1) (by omega))) enters_21 ⟨_, _, rfl, (Ev.ob (Ev.tmp rfl) ⟨_, _, rfl, .inl rfl, ⟨_, _, rfl, .inr ⟨_, _, _, _, rfl, rfl, rfl⟩, ⟨_, _, rfl, .inr ⟨_, _, _, _, rfl, rfl, rfl⟩, ⟨_, _, rfl, .inr ⟨_, _, _, _, rfl, rfl, rfl⟩, ⟨_, _, rfl, .inl rfl, rfl⟩⟩⟩⟩⟩), ⟨_, _, rfl, (Ev.b (Ev.tmp rfl)), rfl⟩⟩ rfl rfl rfl) ?_
                  refine AL.cons rfl (Does.assign rfl rfl) ?_
                  refine AL.nil ?_
                  refine (?_ : AC _ _ _ _ _)
                  refine AC.seq ?_
                  refine AC.seq ?_
                  refine AC.region ?_
                  refine AL.cons rfl (Does.move rfl rfl) ?_
                  refine AL.cons rfl (Does.lss (Evl.tmp rfl) (Evl.int rfl) rfl) ?_
                  refine AL.nil ?_
                  refine (?_ : AC _ _ _ _ _)
                  cases hb13 : (decide (((mSTG ((applyV aS aList).1) 1).2) < 0))
                  · have _h := hb13
                    have hb13' : ¬ (((mSTG ((applyV aS aList).1) 1).2) < 0) := of_decide_eq_false hb13
                    refine AC.condF (Evl.tmp rfl) ?_
                    refine AC.skip ?_
                    refine (?_ : AC _ _ _ _ _)
                    refine AC.seq ?_
                    refine AC.seq ?_
                    refine AC.region ?_
                    refine AL.cons rfl (Does.move rfl rfl) ?_
                    refine AL.cons rfl (Does.move rfl rfl) ?_
                    refine AL.cons rfl (Does.neq (Evl.tmp rfl) (Evl.tmp rfl) rfl) ?_
                    refine AL.nil ?_
                    refine (?_ : AC _ _ _ _ _)
                    cases hb14 : (!decide (((mSTG ((applyV aS aList).1) 1).2) = ((mSTG ((applyV aS aList).1) 1).2)))
                    · have _h := hb14
                      have hb14' : (((mSTG ((applyV aS aList).1) 1).2) = ((mSTG ((applyV aS aList).1) 1).2)) := nd_false hb14
                      refine AC.condF (Evl.tmp rfl) ?_
                      refine AC.skip ?_
                      refine (?_ : AC _ _ _ _ _)
                      refine AC.seq ?_
                      refine AC.region ?_
                      refine AL.cons rfl (Does.assignC Evl.bool rfl) ?_
                      refine AL.nil ?_
                      refine (?_ : AC _ _ _ _ _)
                      refine AC.ret ?_
                      subst hO
                      exact fin_pure (Res.one rfl (Rs.tmp rfl)) rfl rfl
                    · have _h := hb14
                      have hb14' : ¬ (((mSTG ((applyV aS aList).1) 1).2) = ((mSTG ((applyV aS aList).1) 1).2)) := nd_true hb14
                      refine AC.condT (Evl.tmp rfl) ?_
                      refine AC.seq ?_
                      refine AC.region ?_
                      refine AL.cons rfl (Does.assignC Evl.bool rfl) ?_
                      refine AL.nil ?_
                      refine (?_ : AC _ _ _ _ _)
                      refine AC.ret ?_
                      subst hO
                      have e15 : (false : Bool) = true := by
                        exfalso; first | omega | (revert _h; simp; done)
                      exact fin_pure (Res.one rfl (Rs.tmp rfl)) ((congrArg (fun z_ => lf (dB z_)) e15)) rfl
                  · have _h := hb13
                    have hb13' : (((mSTG ((applyV aS aList).1) 1).2) < 0) := of_decide_eq_true hb13
                    refine AC.condT (Evl.tmp rfl) ?_
                    refine AC.seq ?_
                    refine AC.region ?_
                    refine AL.cons rfl (Does.assignC Evl.bool rfl) ?_
                    refine AL.nil ?_
                    refine (?_ : AC _ _ _ _ _)
                    refine AC.ret ?_
                    subst hO
                    have e16 : (false : Bool) = true := by
                      exfalso; first | omega | (revert _h; simp; done)
                    exact fin_pure (Res.one rfl (Rs.tmp rfl)) ((congrArg (fun z_ => lf (dB z_)) e16)) rfl
              · have _h := hb10
                have hb10' : ¬ (((mSTG ((applyV aS aList).1) 1).2) = ((mSTG ((applyV aS aList).1) 1).2)) := nd_true hb10
                refine AC.condT (Evl.tmp rfl) ?_
                refine AC.seq ?_
                refine AC.region ?_
                refine AL.cons rfl (Does.assignC Evl.bool rfl) ?_
                refine AL.nil ?_
                refine (?_ : AC _ _ _ _ _)
                refine AC.ret ?_
                subst hO
                have e17 : (false : Bool) = true := by
                  exfalso; first | omega | (revert _h; simp; done)
                exact fin_pure (Res.one rfl (Rs.tmp rfl)) ((congrArg (fun z_ => lf (dB z_)) e17)) rfl
            · have _h := hb9
              have hb9' : (((mSTG ((applyV aS aList).1) 1).2) < 0) := of_decide_eq_true hb9
              refine AC.condT (Evl.tmp rfl) ?_
              refine AC.seq ?_
              refine AC.region ?_
              refine AL.cons rfl (Does.assignC Evl.bool rfl) ?_
              refine AL.nil ?_
              refine (?_ : AC _ _ _ _ _)
              refine AC.ret ?_
              subst hO
              have e18 : (false : Bool) = true := by
                exfalso; first | omega | (revert _h; simp; done)
              exact fin_pure (Res.one rfl (Rs.tmp rfl)) ((congrArg (fun z_ => lf (dB z_)) e18)) rfl
        · have _h := hb6
          have hb6' : (((marks f_Ordering aList ((mSTG aS 1).2)).2) < 0) := of_decide_eq_true hb6
          refine AL.guard_no (b := false) rfl rfl rfl ?_ rfl
          refine AL.guard_no (b := false) rfl rfl rfl ?_ rfl
          refine AL.guard_no (b := false) rfl rfl rfl ?_ rfl
          refine AL.guard_no (b := false) rfl rfl rfl ?_ rfl
          refine AL.cons rfl (Does.pickT (Evl.tmp rfl) (Evl.ev Evl.bool) rfl) ?_
          refine AL.cons rfl (Does.move rfl rfl) ?_
          refine AL.guard_no (b := false) rfl rfl rfl ?_ rfl
          refine AL.guard_no (b := false) rfl rfl rfl ?_ rfl
          refine AL.guard_no (b := false) rfl rfl rfl ?_ rfl
          refine AL.cons rfl (Does.pickT (Evl.tmp rfl) (Evl.ev Evl.bool) rfl) ?_
          refine AL.nil ?_
          refine (?_ : AC _ _ _ _ _)
          refine AC.condT (Evl.tmp rfl) ?_
          refine AC.seq ?_
          refine AC.region ?_
          refine AL.cons rfl (Does.assignC Evl.bool rfl) ?_
          refine AL.nil ?_
          refine (?_ : AC _ _ _ _ _)
          refine AC.ret ?_
          subst hO
          have e19 : (false : Bool) = true := by
            exfalso; first | omega | (revert _h; simp; done)
          exact fin_pure (Res.one rfl (Rs.tmp rfl)) ((congrArg (fun z_ => lf (dB z_)) e19)) rfl
    · have _h := hb3
      have hb3' : ((szv (szv 1048576 (Ty.tot lSTG aS)) (Ty.tot (.sl 43 lOrdering) aList)) < 0) := of_decide_eq_true hb3
      refine AC.condT (Evl.tmp rfl) ?_
      refine AC.seq ?_
      refine AC.region ?_
      refine AL.cons rfl (Does.assignC Evl.bool rfl) ?_
      refine AL.nil ?_
      refine (?_ : AC _ _ _ _ _)
      refine AC.ret ?_
      subst hO
      exact fin_pure (Res.one rfl (Rs.tmp rfl)) rfl rfl
  · have _h := hb2
    have hb2' : ((szv 1048576 (Ty.tot lSTG aS)) < 0) := of_decide_eq_true hb2
    refine AC.condT (Evl.tmp rfl) ?_
    refine AC.seq ?_
    refine AC.region ?_
    refine AL.cons rfl (Does.assignC Evl.bool rfl) ?_
    refine AL.nil ?_
    refine (?_ : AC _ _ _ _ _)
    refine AC.ret ?_
    subst hO
    exact fin_pure (Res.one rfl (Rs.tmp rfl)) rfl rfl

end Go.Proofs.Ytbelopdphlllnaa
