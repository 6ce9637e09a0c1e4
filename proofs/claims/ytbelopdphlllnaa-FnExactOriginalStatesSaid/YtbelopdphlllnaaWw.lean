/- Walks over abstract states: arcs of state graphs. -/
import Derived.Test.YtbelopdphlllnaaWv
set_option linter.unusedSimpArgs false
set_option linter.unusedVariables false
namespace Go.Proofs.Ytbelopdphlllnaa
open Go.RowKit

def codeAt (c : DSg) (i : Int) : ByteArray := (c.2.1[i.toNat]?).getD ByteArray.empty
def ArcOk (c : DSg) (a : DAr) : Prop := (0 ≤ a.1 ∧ a.1 ≤ (c.2.1.length : Int) - 1) ∧ (0 ≤ a.2.2.2 ∧ a.2.2.2 ≤ (c.2.1.length : Int) - 1) ∧ LabI (c.1.length : Int) (a.2.1, a.2.2.1) ∧ Fit a (codeAt c a.1) (codeAt c a.2.2.2)
instance (c : DSg) (a : DAr) : Decidable (ArcOk c a) := inferInstanceAs (Decidable (_ ∧ _))
section
variable {c : DSg} {a : DAr} {x y b code : ByteArray} {n sig p : Int} {j k m : Nat}
theorem code_get (h : c.2.1[p.toNat]? = some x) : codeAt c p = x := by unfold codeAt; rw [h]; rfl
theorem bAt_list (m : ByteArray) (p : Int) : bAt m p = (m.toList[p.toNat]?).getD 0 := by
  unfold bAt
  rw [ByteArray.toList_eq]
  by_cases h : p.toNat < m.size
  · rw [getElem?_pos m p.toNat h, List.getElem?_eq_getElem (by simpa using h)]
    rfl
  · rw [getElem?_neg m p.toNat h, List.getElem?_eq_none (by simpa using h)]
theorem bAt_ext (hs : x.size = y.size) (h : ∀ j : Nat, j < x.size → bAt x (j : Int) = bAt y (j : Int)) : x = y := by
  have e : x.toList = y.toList := List.ext_getElem? fun j => by
    by_cases hj : j < x.size
    · have h1 := h j hj
      rw [bAt_list, bAt_list] at h1
      have h2 : j < x.toList.length := by rw [bl_len]; exact hj
      have h3 : j < y.toList.length := by rw [bl_len, ← hs]; exact hj
      have e1 : ((j : Int)).toNat = j := rfl
      rw [e1, List.getElem?_eq_getElem h2, List.getElem?_eq_getElem h3] at h1
      rw [List.getElem?_eq_getElem h2, List.getElem?_eq_getElem h3]
      exact congrArg some h1
    · rw [List.getElem?_eq_none (by rw [bl_len]; omega), List.getElem?_eq_none (by rw [bl_len]; omega)]
  rw [ByteArray.toList_eq, ByteArray.toList_eq] at e
  exact ByteArray.ext (Array.toList_inj.1 e)
theorem setB_list (code : ByteArray) (sig : Int) (b : ByteArray) : (setB code sig b).toList = code.toList.take sig.toNat ++ (b.toList ++ code.toList.drop (sig + 1).toNat) := by
  have h : code.data.size = code.size := rfl
  simp only [setB, ByteArray.toList_eq, ByteArray.data_append, ByteArray.data_extract, Array.toList_append, Array.toList_extract, List.append_assoc]
  simp [h, List.extract_eq_take_drop]
  rw [List.take_of_length_le (by simp [h])]
theorem setB_size (h0 : 0 ≤ sig) (h1 : sig < code.size) (hb : b.size = 1) : (setB code sig b).size = code.size := by
  rw [← bl_len, setB_list]
  simp only [List.length_append, List.length_take, List.length_drop, bl_len, hb]
  omega
theorem setB_at (h0 : 0 ≤ sig) (h1 : sig < code.size) (hb : b.size = 1) (hj : j < code.size) : bAt (setB code sig b) (j : Int) = if (j : Int) = sig then bAt b 0 else bAt code (j : Int) := by
  rw [bAt_list, setB_list, bAt_list, bAt_list]
  have hl := bl_len code
  have hbl := bl_len b
  have e1 : ((j : Int)).toNat = j := rfl
  rw [e1]
  by_cases e : (j : Int) = sig
  · rw [if_pos e, List.getElem?_append_right (by rw [List.length_take]; omega), List.getElem?_append_left (by rw [List.length_take]; omega)]
    rw [show j - (code.toList.take sig.toNat).length = ((0 : Int)).toNat by rw [List.length_take]; show _ = 0; omega]
  · rw [if_neg e]
    by_cases h : (j : Int) < sig
    · rw [List.getElem?_append_left (by rw [List.length_take]; omega), List.getElem?_take, if_pos (by omega)]
    · rw [List.getElem?_append_right (by rw [List.length_take]; omega), List.getElem?_append_right (by rw [List.length_take]; omega), List.getElem?_drop]
      congr 2
      rw [List.length_take]
      omega
theorem bits_at (h : BitsL x n) (hj : j < x.size) : bAt x (j : Int) = 48 ∨ bAt x (j : Int) = 49 := by
  have h2 : j < x.toList.length := by rw [bl_len]; exact hj
  rw [bAt_list]
  have e1 : ((j : Int)).toNat = j := rfl
  rw [e1, List.getElem?_eq_getElem h2]
  exact h.1 _ (List.getElem_mem h2)
theorem bitS_0 (b : Bool) : bAt (bitS b) 0 = if b = true then 49 else 48 := by cases b <;> rfl
theorem bitS_size (b : Bool) : (bitS b).size = 1 := rfl
theorem bit_dec {c : UInt8} {b : Bool} (h : c = 48 ∨ c = 49) : decide (c = 49) = b ↔ c = if b = true then 49 else 48 := by
  rcases h with rfl | rfl <;> cases b <;> decide
theorem fit_neg (hx : BitsL x n) (hy : BitsL y n) (hs : a.2.1 < 0) : Fit a x y ↔ x = y := by
  have hsz : x.size = y.size := by have := hx.2; have := hy.2; omega
  constructor
  · intro h
    refine bAt_ext hsz fun j hj => ?_
    have := h j hj
    unfold FitAt at this
    rwa [if_neg (by omega)] at this
  · rintro rfl j hj
    unfold FitAt
    rw [if_neg (by omega)]
theorem fit_set (hx : BitsL x n) (hy : BitsL y n) (hs : ¬ a.2.1 < 0) (hn : a.2.1 < n) : Fit a x y ↔ x = setB y a.2.1 (bitS (!a.2.2.1)) ∧ y = setB x a.2.1 (bitS a.2.2.1) := by
  have hxs := hx.2
  have hys := hy.2
  have z1 := setB_size (code := y) (sig := a.2.1) (b := bitS (!a.2.2.1)) (by omega) (by omega) (bitS_size _)
  have z2 := setB_size (code := x) (sig := a.2.1) (b := bitS a.2.2.1) (by omega) (by omega) (bitS_size _)
  have g1 := fun (j : Nat) hj => setB_at (j := j) (code := y) (sig := a.2.1) (b := bitS (!a.2.2.1)) (by omega) (by omega) (bitS_size _) hj
  have g2 := fun (j : Nat) hj => setB_at (j := j) (code := x) (sig := a.2.1) (b := bitS a.2.2.1) (by omega) (by omega) (bitS_size _) hj
  constructor
  · intro h
    constructor
    · refine bAt_ext (by omega) fun j hj => ?_
      rw [g1 j (by omega), bitS_0]
      have h1 := h j hj
      unfold FitAt at h1
      split
      · rename_i e
        rw [if_pos e] at h1
        exact (bit_dec (bits_at hx hj)).1 h1.1
      · rename_i e
        rwa [if_neg e] at h1
    · refine bAt_ext (by omega) fun j hj => ?_
      rw [g2 j (by omega), bitS_0]
      have h1 := h j (by omega)
      unfold FitAt at h1
      split
      · rename_i e
        rw [if_pos e] at h1
        exact (bit_dec (bits_at hy hj)).1 h1.2
      · rename_i e
        rw [if_neg e] at h1
        exact h1.symm
  · rintro ⟨e1, e2⟩ j hj
    have h1 := g1 j (by omega)
    have h2 := g2 j hj
    rw [← e1, bitS_0] at h1
    rw [← e2, bitS_0] at h2
    unfold FitAt
    split
    · rename_i e
      rw [if_pos e] at h1 h2
      exact ⟨(bit_dec (bits_at hx hj)).2 h1, (bit_dec (bits_at hy (by omega))).2 h2⟩
    · rename_i e
      rwa [if_neg e] at h1
theorem arc_no1 (h : ¬ (0 ≤ a.1 ∧ a.1 ≤ (c.2.1.length : Int) - 1)) : false = decide (ArcOk c a) := (decide_eq_false fun g => h g.1).symm
theorem arc_no2 (h : ¬ (0 ≤ a.2.2.2 ∧ a.2.2.2 ≤ (c.2.1.length : Int) - 1)) : false = decide (ArcOk c a) := (decide_eq_false fun g => h g.2.1).symm
theorem arc_no3 (h : ¬ LabI (c.1.length : Int) (a.2.1, a.2.2.1)) : false = decide (ArcOk c a) := (decide_eq_false fun g => h g.2.2.1).symm
theorem lab_lt (h3 : LabI (c.1.length : Int) (a.2.1, a.2.2.1)) (hs : ¬ a.2.1 < 0) : a.2.1 < (c.1.length : Int) := by
  rcases h3 with h | h
  · have h : 0 ≤ a.2.1 ∧ a.2.1 ≤ (c.1.length : Int) - 1 := h; omega
  · have h : a.2.1 = -1 := h.1; omega
section
variable (h1 : 0 ≤ a.1 ∧ a.1 ≤ (c.2.1.length : Int) - 1) (h2 : 0 ≤ a.2.2.2 ∧ a.2.2.2 ≤ (c.2.1.length : Int) - 1) (h3 : LabI (c.1.length : Int) (a.2.1, a.2.2.1)) (hx : c.2.1[a.1.toNat]? = some x) (hy : c.2.1[a.2.2.2.toNat]? = some y)
include h1 h2 h3 hx hy
theorem arc_fit : ArcOk c a ↔ Fit a x y := by
  unfold ArcOk
  rw [code_get hx, code_get hy]
  exact ⟨fun g => g.2.2.2, fun g => ⟨h1, h2, h3, g⟩⟩
theorem arc_neg (hb : ∀ x ∈ c.2.1, BitsL x (c.1.length : Int)) (hs : a.2.1 < 0) : decide (x = y) = decide (ArcOk c a) := decide_eq_decide.2 (by rw [arc_fit h1 h2 h3 hx hy, fit_neg (hb x (List.mem_of_getElem? hx)) (hb y (List.mem_of_getElem? hy)) hs])
theorem arc_set1 (hb : ∀ x ∈ c.2.1, BitsL x (c.1.length : Int)) (hs : ¬ a.2.1 < 0) (h : ¬ x = setB y a.2.1 (bitS (!a.2.2.1))) : false = decide (ArcOk c a) := (decide_eq_false fun g => by
  rw [arc_fit h1 h2 h3 hx hy, fit_set (hb x (List.mem_of_getElem? hx)) (hb y (List.mem_of_getElem? hy)) hs (lab_lt h3 hs)] at g
  exact h g.1).symm
theorem arc_set2 (hb : ∀ x ∈ c.2.1, BitsL x (c.1.length : Int)) (hs : ¬ a.2.1 < 0) (h : x = setB y a.2.1 (bitS (!a.2.2.1))) : decide (y = setB x a.2.1 (bitS a.2.2.1)) = decide (ArcOk c a) := decide_eq_decide.2 (by
  rw [arc_fit h1 h2 h3 hx hy, fit_set (hb x (List.mem_of_getElem? hx)) (hb y (List.mem_of_getElem? hy)) hs (lab_lt h3 hs)]
  exact ⟨fun g => ⟨h, g⟩, fun g => g.2⟩)
end
end

set_option maxRecDepth 100000 in
set_option maxHeartbeats 4000000 in
theorem fc_spec_l5Arc (c : (List (ByteArray × Int)) × List ByteArray × (List (Int × Int × Bool × Int))) (a : Int × Int × Bool × Int) (hcd : ∀ x ∈ c.2.1, BitsL x (c.1.length : Int)) (hc1 : c.1.length ≤ 1000) : FC Try.prog 170 [(true, [.dat (.sl 129 (.pr .str .int)) c.1, .dat (.sl 9 .str) c.2.1, .dat (.sl 170 (.pr .int (.pr .int (.pr .bool .int)))) c.2.2]), (true, [dI a.1, dI a.2.1, dB a.2.2.1, dI a.2.2.2])] [] 0 (Pure (lf (dB (decide (ArcOk c a))))) := by
 refine FC.O_all fun O_ hO => FC.ren (FC.of Try.func170 rfl rfl fun A_ hn_ hk_ => ?_)
 obtain ⟨w0_, N0_, X_, n_, k0_, h0_, f0_⟩ := A_
 obtain rfl : n_ = 76 := hn_.trans Try.ntmps170
 obtain rfl : k0_ = 0 := hk_
 refine AC.fact (fact_ag (x := .tmp 1) (i := 0) (Ev.tmp rfl) rfl) fun hi1 => ?_
 refine AC.fact (fact_ag (x := .tmp 1) (i := 1) (Ev.tmp rfl) rfl) fun hi2 => ?_
 refine AC.fact (fact_ag (x := .tmp 1) (i := 3) (Ev.tmp rfl) rfl) fun hi3 => ?_
 refine AC.sr ?_
 refine AL.cons rfl (Does.box 0 (Ev.tmp rfl) rfl rfl (Fresh.of rfl) (nlr rfl)) ?_
 refine AL.cons rfl (Does.box 1 (Ev.tmp rfl) rfl rfl (Fresh.of rfl) (nlr rfl)) ?_
 refine AL.cons rfl (Does.assignC Evl.bool rfl) ?_
 refine AL.nilS ?_
 refine AC.seq ?_
 refine AC.sr ?_
 refine AL.cons rfl (Does.fieldP (Evl.tmp rfl) fld_170_0 rfl rfl) ?_
 refine AL.cons rfl (Does.loadP (Evl.tmp rfl) rfl tsh_3 rfl rfl) ?_
 refine AL.cons rfl (Does.fieldP (Evl.tmp rfl) fld_77_1 rfl rfl) ?_
 refine AL.cons rfl (Does.loadP (Evl.tmp rfl) rfl tsh_67 rfl rfl) ?_
 refine AL.fact (fact_len (x := .tmp 10) (Evl.tmp rfl)) fun hl4 => ?_
 refine AL.cons rfl (Does.len (Evl.tmp rfl) rfl und_67) ?_
 refine AL.cons rfl (Does.sub (Evl.tmp rfl) (Evl.int rfl) rfl (by omega)) ?_
 refine AL.cons rfl (Does.call (fc_spec_l1In a.1 0 ((c.2.1.length : Int) - 1)) enters_105 ⟨_, _, rfl, (Ev.tmp rfl), ⟨_, _, rfl, (Evl.ev (Evl.int rfl)), ⟨_, _, rfl, (Ev.tmp rfl), rfl⟩⟩⟩ rfl rfl) ?_
 refine AL.cons rfl (Does.not (Evl.tmp rfl) rfl) ?_
 refine AL.cons rfl (Does.move rfl rfl) ?_
 cases hb5 : (decide (0 ≤ a.1 ∧ a.1 ≤ ((c.2.1.length : Int) - 1)))
 ·have _h := hb5
  have hb5' : ¬ (0 ≤ a.1 ∧ a.1 ≤ ((c.2.1.length : Int) - 1)) := of_decide_eq_false hb5
  refine AL.guard_no (b := false) rfl rfl rfl ?_ rfl
  refine AL.guard_no (b := false) rfl rfl rfl ?_ rfl
  refine AL.guard_no (b := false) rfl rfl rfl ?_ rfl
  refine AL.guard_no (b := false) rfl rfl rfl ?_ rfl
  refine AL.guard_no (b := false) rfl rfl rfl ?_ rfl
  refine AL.guard_no (b := false) rfl rfl rfl ?_ rfl
  refine AL.guard_no (b := false) rfl rfl rfl ?_ rfl
  refine AL.guard_no (b := false) rfl rfl rfl ?_ rfl
  refine AL.cons rfl (Does.pickT (Evl.tmp rfl) (Evl.ev Evl.bool) rfl) ?_
  refine AL.cons rfl (Does.move rfl rfl) ?_
  refine AL.guard_no (b := false) rfl rfl rfl ?_ rfl
  refine AL.guard_no (b := false) rfl rfl rfl ?_ rfl
  refine AL.guard_no (b := false) rfl rfl rfl ?_ rfl
  refine AL.guard_no (b := false) rfl rfl rfl ?_ rfl
  refine AL.guard_no (b := false) rfl rfl rfl ?_ rfl
  refine AL.guard_no (b := false) rfl rfl rfl ?_ rfl
  refine AL.guard_no (b := false) rfl rfl rfl ?_ rfl
  refine AL.guard_no (b := false) rfl rfl rfl ?_ rfl
  refine AL.guard_no (b := false) rfl rfl rfl ?_ rfl
  refine AL.guard_no (b := false) rfl rfl rfl ?_ rfl
  refine AL.cons rfl (Does.pickT (Evl.tmp rfl) (Evl.ev Evl.bool) rfl) ?_
  refine AL.nilS ?_
  refine AC.condT (Evl.tmp rfl) ?_
  refine AC.sr ?_
  refine AL.cons rfl (Does.assignC Evl.bool rfl) ?_
  refine AL.nilS ?_
  refine AC.ret ?_
  subst hO
  have e6 : (false : Bool) = (decide (ArcOk c a)) := by
   exact arc_no1 (by assumption)
  exact fin_pure (Res.one rfl (Rs.tmp rfl)) ((congrArg (fun z_ => lf (dB z_)) e6)) rfl
 ·have _h := hb5
  have hb5' : (0 ≤ a.1 ∧ a.1 ≤ ((c.2.1.length : Int) - 1)) := of_decide_eq_true hb5
  refine AL.guard_yes rfl rfl rfl (Does.fieldP (Evl.tmp rfl) fld_170_3 rfl rfl) ?_
  refine AL.guard_yes rfl rfl rfl (Does.loadP (Evl.tmp rfl) rfl tsh_3 rfl rfl) ?_
  refine AL.guard_yes rfl rfl rfl (Does.fieldP (Evl.tmp rfl) fld_77_1 rfl rfl) ?_
  refine AL.guard_yes rfl rfl rfl (Does.loadP (Evl.tmp rfl) rfl tsh_67 rfl rfl) ?_
  refine AL.fact (fact_len (x := .tmp 19) (Evl.tmp rfl)) fun hl7 => ?_
  refine AL.guard_yes rfl rfl rfl (Does.len (Evl.tmp rfl) rfl und_67) ?_
  refine AL.guard_yes rfl rfl rfl (Does.sub (Evl.tmp rfl) (Evl.int rfl) rfl (by omega)) ?_
  refine AL.guard_yes rfl rfl rfl (Does.call (fc_spec_l1In a.2.2.2 0 ((c.2.1.length : Int) - 1)) enters_105 ⟨_, _, rfl, (Ev.tmp rfl), ⟨_, _, rfl, (Evl.ev (Evl.int rfl)), ⟨_, _, rfl, (Ev.tmp rfl), rfl⟩⟩⟩ rfl rfl) ?_
  refine AL.guard_yes rfl rfl rfl (Does.not (Evl.tmp rfl) rfl) ?_
  refine AL.cons rfl (Does.pickF (Evl.tmp rfl) (Ev.tmp rfl) rfl) ?_
  refine AL.cons rfl (Does.move rfl rfl) ?_
  cases hb8 : (decide (0 ≤ a.2.2.2 ∧ a.2.2.2 ≤ ((c.2.1.length : Int) - 1)))
  ·have _h := hb8
   have hb8' : ¬ (0 ≤ a.2.2.2 ∧ a.2.2.2 ≤ ((c.2.1.length : Int) - 1)) := of_decide_eq_false hb8
   refine AL.guard_no (b := false) rfl rfl rfl ?_ rfl
   refine AL.guard_no (b := false) rfl rfl rfl ?_ rfl
   refine AL.guard_no (b := false) rfl rfl rfl ?_ rfl
   refine AL.guard_no (b := false) rfl rfl rfl ?_ rfl
   refine AL.guard_no (b := false) rfl rfl rfl ?_ rfl
   refine AL.guard_no (b := false) rfl rfl rfl ?_ rfl
   refine AL.guard_no (b := false) rfl rfl rfl ?_ rfl
   refine AL.guard_no (b := false) rfl rfl rfl ?_ rfl
   refine AL.guard_no (b := false) rfl rfl rfl ?_ rfl
   refine AL.guard_no (b := false) rfl rfl rfl ?_ rfl
   refine AL.cons rfl (Does.pickT (Evl.tmp rfl) (Evl.ev Evl.bool) rfl) ?_
   refine AL.nilS ?_
   refine AC.condT (Evl.tmp rfl) ?_
   refine AC.sr ?_
   refine AL.cons rfl (Does.assignC Evl.bool rfl) ?_
   refine AL.nilS ?_
   refine AC.ret ?_
   subst hO
   have e9 : (false : Bool) = (decide (ArcOk c a)) := by
    exact arc_no2 (by assumption)
   exact fin_pure (Res.one rfl (Rs.tmp rfl)) ((congrArg (fun z_ => lf (dB z_)) e9)) rfl
  ·have _h := hb8
   have hb8' : (0 ≤ a.2.2.2 ∧ a.2.2.2 ≤ ((c.2.1.length : Int) - 1)) := of_decide_eq_true hb8
   refine AL.guard_yes rfl rfl rfl (Does.fieldP (Evl.tmp rfl) fld_170_1 rfl rfl) ?_
   refine AL.guard_yes rfl rfl rfl (Does.loadP (Evl.tmp rfl) rfl tsh_3 rfl rfl) ?_
   refine AL.guard_yes rfl rfl rfl (Does.fieldP (Evl.tmp rfl) fld_170_2 rfl rfl) ?_
   refine AL.guard_yes rfl rfl rfl (Does.loadP (Evl.tmp rfl) rfl tsh_4 rfl rfl) ?_
   refine AL.guard_yes rfl rfl rfl (Does.build bld_131 ⟨_, _, rfl, (Ev.tmp rfl), ⟨_, _, rfl, (Ev.tmp rfl), rfl⟩⟩ (List.all_eq_true.1 rfl) rfl rfl) ?_
   refine AL.guard_yes rfl rfl rfl (Does.fieldP (Evl.tmp rfl) fld_77_0 rfl rfl) ?_
   refine AL.guard_yes rfl rfl rfl (Does.loadP (Evl.tmp rfl) rfl tsh_29 rfl rfl) ?_
   refine AL.fact (fact_len (x := .tmp 32) (Evl.tmp rfl)) fun hl10 => ?_
   refine AL.guard_yes rfl rfl rfl (Does.len (Evl.tmp rfl) rfl und_29) ?_
   refine AL.guard_yes rfl rfl rfl (Does.call (fc_spec_l2Label (a.2.1, a.2.2.1) (c.1.length : Int) (by omega)) enters_119 ⟨_, _, rfl, (Ev.tmp rfl), ⟨_, _, rfl, (Ev.tmp rfl), rfl⟩⟩ rfl rfl) ?_
   refine AL.guard_yes rfl rfl rfl (Does.not (Evl.tmp rfl) rfl) ?_
   refine AL.cons rfl (Does.pickF (Evl.tmp rfl) (Ev.tmp rfl) rfl) ?_
   refine AL.nilS ?_
   cases hb11 : (decide (LabI (c.1.length : Int) (a.2.1, a.2.2.1)))
   ·have _h := hb11
    have hb11' : ¬ (LabI (c.1.length : Int) (a.2.1, a.2.2.1)) := of_decide_eq_false hb11
    refine AC.condT (Evl.tmp rfl) ?_
    refine AC.sr ?_
    refine AL.cons rfl (Does.assignC Evl.bool rfl) ?_
    refine AL.nilS ?_
    refine AC.ret ?_
    subst hO
    have e12 : (false : Bool) = (decide (ArcOk c a)) := by
     exact arc_no3 (by assumption)
    exact fin_pure (Res.one rfl (Rs.tmp rfl)) ((congrArg (fun z_ => lf (dB z_)) e12)) rfl
   ·have _h := hb11
    have hb11' : (LabI (c.1.length : Int) (a.2.1, a.2.2.1)) := of_decide_eq_true hb11
    refine AC.condF (Evl.tmp rfl) ?_
    refine AC.skipS ?_
    refine AC.seq ?_
    obtain ⟨cx, hx14⟩ : ∃ z, c.2.1[(a.1).toNat]? = some z := ⟨_, List.getElem?_eq_getElem (by omega)⟩
    have hzcx := (hcd _ (List.mem_of_getElem? hx14)).2
    obtain ⟨cy, hx16⟩ : ∃ z, c.2.1[(a.2.2.2).toNat]? = some z := ⟨_, List.getElem?_eq_getElem (by omega)⟩
    have hzcy := (hcd _ (List.mem_of_getElem? hx16)).2
    refine AC.drawL [⟨some 37, lf (.ptr 0 1), []⟩, ⟨some 38, lf (.dat (.sl 9 .str) c.2.1), []⟩, ⟨some 39, lf (.ptr 1 0), []⟩, ⟨some 40, lf (dI a.1), []⟩, ⟨some 41, lf (.elt .str cx 0), []⟩, ⟨some 42, lf (dS cx), []⟩, ⟨some 43, lf (.ptr 0 1), []⟩, ⟨some 44, lf (.dat (.sl 9 .str) c.2.1), []⟩, ⟨some 45, lf (.ptr 1 3), []⟩, ⟨some 46, lf (dI a.2.2.2), []⟩, ⟨some 47, lf (.elt .str cy 0), []⟩, ⟨some 48, lf (dS cy), []⟩, ⟨some 5, lf (dS cx), []⟩, ⟨some 6, lf (dS cy), []⟩] [[], [0], [], [2], [0, 1, 2, 3], [0, 1, 2, 3, 4], [], [6], [], [8], [6, 7, 8, 9], [6, 7, 8, 9, 10], [0, 1, 2, 3, 4, 5], [0, 1, 2, 3, 4, 5, 6, 7, 8, 9, 10, 11, 12]] mixed rfl (by kernel_rfl) ?_ ?_
    · refine ⟨fun s_ hs => Acts.of1 rfl (Does.fieldP (Evl.tmp (hs.tm 2 rfl)) fld_77_1 (by rw [(hs.en 0 rfl)]; rfl) rfl) rfl, fun s_ hs => Acts.of1 rfl (Does.loadP (Evl.tmp (hs.tm 37 rfl)) (hs.en 0 rfl) tsh_67 rfl rfl) rfl, fun s_ hs => Acts.of1 rfl (Does.fieldP (Evl.tmp (hs.tm 3 rfl)) fld_170_0 (by rw [(hs.en 1 rfl)]; rfl) rfl) rfl, fun s_ hs => Acts.of1 rfl (Does.loadP (Evl.tmp (hs.tm 39 rfl)) (hs.en 1 rfl) tsh_3 rfl rfl) rfl, fun s_ hs => Acts.of1 rfl (Does.indexE (Evl.tmp (hs.tm 38 rfl)) (Evl.tmp (hs.tm 40 rfl)) und_67 tsh_9 rfl (by omega) hx14) rfl, fun s_ hs => Acts.of1 rfl (Does.loadE (Evl.tmp (hs.tm 41 rfl)) tsh_9 rfl rfl) rfl, fun s_ hs => Acts.of1 rfl (Does.fieldP (Evl.tmp (hs.tm 2 rfl)) fld_77_1 (by rw [(hs.en 0 rfl)]; rfl) rfl) rfl, fun s_ hs => Acts.of1 rfl (Does.loadP (Evl.tmp (hs.tm 43 rfl)) (hs.en 0 rfl) tsh_67 rfl rfl) rfl, fun s_ hs => Acts.of1 rfl (Does.fieldP (Evl.tmp (hs.tm 3 rfl)) fld_170_3 (by rw [(hs.en 1 rfl)]; rfl) rfl) rfl, fun s_ hs => Acts.of1 rfl (Does.loadP (Evl.tmp (hs.tm 45 rfl)) (hs.en 1 rfl) tsh_3 rfl rfl) rfl, fun s_ hs => Acts.of1 rfl (Does.indexE (Evl.tmp (hs.tm 44 rfl)) (Evl.tmp (hs.tm 46 rfl)) und_67 tsh_9 rfl (by omega) hx16) rfl, fun s_ hs => Acts.of1 rfl (Does.loadE (Evl.tmp (hs.tm 47 rfl)) tsh_9 rfl rfl) rfl, fun s_ hs => Acts.of1 rfl (Does.assign (hs.tm 42 rfl) rfl) rfl, fun s_ hs => Acts.of1 rfl (Does.assign (hs.tm 48 rfl) rfl) rfl, trivial⟩
    refine (?_ : AC _ _ _ _ _)
    refine AC.wk (s' := _) (Wk.refl _ _) ?_
    refine AC.seq ?_
    refine AC.sr ?_
    refine AL.cons rfl (Does.fieldP (Evl.tmp rfl) fld_170_1 rfl rfl) ?_
    refine AL.cons rfl (Does.loadP (Evl.tmp rfl) rfl tsh_3 rfl rfl) ?_
    refine AL.cons rfl (Does.lss (Evl.tmp rfl) (Evl.int rfl) rfl) ?_
    refine AL.nilS ?_
    cases hb17 : (decide (a.2.1 < 0))
    ·have _h := hb17
     have hb17' : ¬ (a.2.1 < 0) := of_decide_eq_false hb17
     refine AC.condF (Evl.tmp rfl) ?_
     refine AC.skipS ?_
     refine AC.seq ?_
     have hsl := lab_lt (c := c) (a := a) (by assumption) (by assumption)
     cases hb18 : (decide (cx = (setB cy a.2.1 (bitS (!a.2.2.1)))))
     ·have _h := hb18
      have hb18' : ¬ (cx = (setB cy a.2.1 (bitS (!a.2.2.1)))) := of_decide_eq_false hb18
      refine AC.drawL [⟨some 55, lf (dS cx), []⟩, ⟨some 56, lf (dS cy), []⟩, ⟨some 57, lf (.ptr 1 1), []⟩, ⟨some 58, lf (dI a.2.1), []⟩, ⟨some 59, lf (.ptr 1 2), []⟩, ⟨some 60, lf (dB a.2.2.1), []⟩, ⟨some 61, lf (dB (!a.2.2.1)), []⟩, ⟨some 62, lf (dS (bitS (!a.2.2.1))), []⟩, ⟨some 63, lf (dS (setB cy a.2.1 (bitS (!a.2.2.1)))), []⟩, ⟨some 64, lf (dB false), []⟩, ⟨some 65, lf (dB false), []⟩, ⟨some 66, lf (.val undef), []⟩, ⟨some 67, lf (.val undef), []⟩, ⟨some 68, lf (.val undef), []⟩, ⟨some 69, lf (.val undef), []⟩, ⟨some 70, lf (.val undef), []⟩, ⟨some 71, lf (.val undef), []⟩, ⟨some 72, lf (.val undef), []⟩, ⟨some 73, lf (.val undef), []⟩, ⟨some 74, lf (.val undef), []⟩, ⟨some 75, lf (dB false), []⟩, ⟨some 4, lf (dB false), []⟩] [[], [], [], [2], [], [4], [4, 5], [4, 5, 6], [1, 2, 3, 4, 5, 6, 7], [0, 1, 2, 3, 4, 5, 6, 7, 8], [0, 1, 2, 3, 4, 5, 6, 7, 8, 9], [0, 1, 2, 3, 4, 5, 6, 7, 8, 9, 10], [0, 1, 2, 3, 4, 5, 6, 7, 8, 9, 10], [0, 1, 2, 3, 4, 5, 6, 7, 8, 9, 10], [0, 1, 2, 3, 4, 5, 6, 7, 8, 9, 10, 13], [0, 1, 2, 3, 4, 5, 6, 7, 8, 9, 10], [0, 1, 2, 3, 4, 5, 6, 7, 8, 9, 10, 15], [0, 1, 2, 3, 4, 5, 6, 7, 8, 9, 10, 15, 16], [0, 1, 2, 3, 4, 5, 6, 7, 8, 9, 10, 12, 13, 14, 15, 16, 17], [0, 1, 2, 3, 4, 5, 6, 7, 8, 9, 10, 11, 12, 13, 14, 15, 16, 17, 18], [0, 1, 2, 3, 4, 5, 6, 7, 8, 9, 10, 11, 12, 13, 14, 15, 16, 17, 18, 19], [0, 1, 2, 3, 4, 5, 6, 7, 8, 9, 10, 11, 12, 13, 14, 15, 16, 17, 18, 19, 20]] mixed rfl (by kernel_rfl) ?_ ?_
      · refine ⟨fun s_ hs => Acts.of1 rfl (Does.move (hs.tm 5 rfl) rfl) rfl, fun s_ hs => Acts.of1 rfl (Does.move (hs.tm 6 rfl) rfl) rfl, fun s_ hs => Acts.of1 rfl (Does.fieldP (Evl.tmp (hs.tm 3 rfl)) fld_170_1 (by rw [(hs.en 1 rfl)]; rfl) rfl) rfl, fun s_ hs => Acts.of1 rfl (Does.loadP (Evl.tmp (hs.tm 57 rfl)) (hs.en 1 rfl) tsh_3 rfl rfl) rfl, fun s_ hs => Acts.of1 rfl (Does.fieldP (Evl.tmp (hs.tm 3 rfl)) fld_170_2 (by rw [(hs.en 1 rfl)]; rfl) rfl) rfl, fun s_ hs => Acts.of1 rfl (Does.loadP (Evl.tmp (hs.tm 59 rfl)) (hs.en 1 rfl) tsh_4 rfl rfl) rfl, fun s_ hs => Acts.of1 rfl (Does.not (Evl.tmp (hs.tm 60 rfl)) rfl) rfl, fun s_ hs => Acts.of1 rfl (Does.call (fc_spec_l5Bit (!a.2.2.1)) enters_217 ⟨_, _, rfl, (Ev.tmp (hs.tm 61 rfl)), rfl⟩ rfl rfl) rfl, fun s_ hs => Acts.of1 rfl (Does.call (fc_spec_l5Set cy a.2.1 (bitS (!a.2.2.1)) (by omega) ⟨by omega, by rw [bitS_size]; decide⟩) enters_216 ⟨_, _, rfl, (Ev.tmp (hs.tm 56 rfl)), ⟨_, _, rfl, (Ev.tmp (hs.tm 58 rfl)), ⟨_, _, rfl, (Ev.tmp (hs.tm 62 rfl)), rfl⟩⟩⟩ rfl rfl) rfl, fun s_ hs => Acts.of1 rfl (Does.asB (hb18) (Does.eqlS (Evl.tmp (hs.tm 55 rfl)) (Evl.tmp (hs.tm 63 rfl)) rfl)) rfl, fun s_ hs => Acts.of1 rfl (Does.move (hs.tm 64 rfl) rfl) rfl, fun s_ hs => Acts.no (b := true) rfl rfl (hs.tm 65 rfl) rfl rfl, fun s_ hs => Acts.no (b := true) rfl rfl (hs.tm 65 rfl) rfl rfl, fun s_ hs => Acts.no (b := true) rfl rfl (hs.tm 65 rfl) rfl rfl, fun s_ hs => Acts.no (b := true) rfl rfl (hs.tm 65 rfl) rfl rfl, fun s_ hs => Acts.no (b := true) rfl rfl (hs.tm 65 rfl) rfl rfl, fun s_ hs => Acts.no (b := true) rfl rfl (hs.tm 65 rfl) rfl rfl, fun s_ hs => Acts.no (b := true) rfl rfl (hs.tm 65 rfl) rfl rfl, fun s_ hs => Acts.no (b := true) rfl rfl (hs.tm 65 rfl) rfl rfl, fun s_ hs => Acts.no (b := true) rfl rfl (hs.tm 65 rfl) rfl rfl, fun s_ hs => Acts.of1 rfl (Does.pickF (Evl.tmp (hs.tm 65 rfl)) (Evl.ev Evl.bool) rfl) rfl, fun s_ hs => Acts.of1 rfl (Does.assign (hs.tm 75 rfl) rfl) rfl, trivial⟩
      refine (?_ : AC _ _ _ _ _)
      refine AC.wk (s' := _) (Wk.refl _ _) ?_
      refine AC.ret ?_
      subst hO
      have e19 : (false : Bool) = (decide (ArcOk c a)) := by
       exact arc_set1 (by assumption) (by assumption) (by assumption) (x := cx) (y := cy) (by assumption) (by assumption) hcd (by assumption) (by assumption)
      exact fin_pure (Res.one rfl (Rs.tmp rfl)) ((congrArg (fun z_ => lf (dB z_)) e19)) rfl
     ·have _h := hb18
      have hb18' : (cx = (setB cy a.2.1 (bitS (!a.2.2.1)))) := of_decide_eq_true hb18
      refine AC.drawL [⟨some 55, lf (dS cx), []⟩, ⟨some 56, lf (dS cy), []⟩, ⟨some 57, lf (.ptr 1 1), []⟩, ⟨some 58, lf (dI a.2.1), []⟩, ⟨some 59, lf (.ptr 1 2), []⟩, ⟨some 60, lf (dB a.2.2.1), []⟩, ⟨some 61, lf (dB (!a.2.2.1)), []⟩, ⟨some 62, lf (dS (bitS (!a.2.2.1))), []⟩, ⟨some 63, lf (dS (setB cy a.2.1 (bitS (!a.2.2.1)))), []⟩, ⟨some 64, lf (dB true), []⟩, ⟨some 65, lf (dB true), []⟩, ⟨some 66, lf (dS cy), []⟩, ⟨some 67, lf (dS cx), []⟩, ⟨some 68, lf (.ptr 1 1), []⟩, ⟨some 69, lf (dI a.2.1), []⟩, ⟨some 70, lf (.ptr 1 2), []⟩, ⟨some 71, lf (dB a.2.2.1), []⟩, ⟨some 72, lf (dS (bitS a.2.2.1)), []⟩, ⟨some 73, lf (dS (setB cx a.2.1 (bitS a.2.2.1))), []⟩, ⟨some 74, lf (dB (decide (cy = (setB cx a.2.1 (bitS a.2.2.1))))), []⟩, ⟨some 75, lf (dB (decide (cy = (setB cx a.2.1 (bitS a.2.2.1))))), []⟩, ⟨some 4, lf (dB (decide (cy = (setB cx a.2.1 (bitS a.2.2.1))))), []⟩] [[], [], [], [2], [], [4], [4, 5], [4, 5, 6], [1, 2, 3, 4, 5, 6, 7], [0, 1, 2, 3, 4, 5, 6, 7, 8], [0, 1, 2, 3, 4, 5, 6, 7, 8, 9], [0, 1, 2, 3, 4, 5, 6, 7, 8, 9, 10], [0, 1, 2, 3, 4, 5, 6, 7, 8, 9, 10], [0, 1, 2, 3, 4, 5, 6, 7, 8, 9, 10], [0, 1, 2, 3, 4, 5, 6, 7, 8, 9, 10, 13], [0, 1, 2, 3, 4, 5, 6, 7, 8, 9, 10], [0, 1, 2, 3, 4, 5, 6, 7, 8, 9, 10, 15], [0, 1, 2, 3, 4, 5, 6, 7, 8, 9, 10, 15, 16], [0, 1, 2, 3, 4, 5, 6, 7, 8, 9, 10, 12, 13, 14, 15, 16, 17], [0, 1, 2, 3, 4, 5, 6, 7, 8, 9, 10, 11, 12, 13, 14, 15, 16, 17, 18], [0, 1, 2, 3, 4, 5, 6, 7, 8, 9, 10, 11, 12, 13, 14, 15, 16, 17, 18, 19], [0, 1, 2, 3, 4, 5, 6, 7, 8, 9, 10, 11, 12, 13, 14, 15, 16, 17, 18, 19, 20]] mixed rfl (by kernel_rfl) ?_ ?_
      · refine ⟨fun s_ hs => Acts.of1 rfl (Does.move (hs.tm 5 rfl) rfl) rfl, fun s_ hs => Acts.of1 rfl (Does.move (hs.tm 6 rfl) rfl) rfl, fun s_ hs => Acts.of1 rfl (Does.fieldP (Evl.tmp (hs.tm 3 rfl)) fld_170_1 (by rw [(hs.en 1 rfl)]; rfl) rfl) rfl, fun s_ hs => Acts.of1 rfl (Does.loadP (Evl.tmp (hs.tm 57 rfl)) (hs.en 1 rfl) tsh_3 rfl rfl) rfl, fun s_ hs => Acts.of1 rfl (Does.fieldP (Evl.tmp (hs.tm 3 rfl)) fld_170_2 (by rw [(hs.en 1 rfl)]; rfl) rfl) rfl, fun s_ hs => Acts.of1 rfl (Does.loadP (Evl.tmp (hs.tm 59 rfl)) (hs.en 1 rfl) tsh_4 rfl rfl) rfl, fun s_ hs => Acts.of1 rfl (Does.not (Evl.tmp (hs.tm 60 rfl)) rfl) rfl, fun s_ hs => Acts.of1 rfl (Does.call (fc_spec_l5Bit (!a.2.2.1)) enters_217 ⟨_, _, rfl, (Ev.tmp (hs.tm 61 rfl)), rfl⟩ rfl rfl) rfl, fun s_ hs => Acts.of1 rfl (Does.call (fc_spec_l5Set cy a.2.1 (bitS (!a.2.2.1)) (by omega) ⟨by omega, by rw [bitS_size]; decide⟩) enters_216 ⟨_, _, rfl, (Ev.tmp (hs.tm 56 rfl)), ⟨_, _, rfl, (Ev.tmp (hs.tm 58 rfl)), ⟨_, _, rfl, (Ev.tmp (hs.tm 62 rfl)), rfl⟩⟩⟩ rfl rfl) rfl, fun s_ hs => Acts.of1 rfl (Does.asB (hb18) (Does.eqlS (Evl.tmp (hs.tm 55 rfl)) (Evl.tmp (hs.tm 63 rfl)) rfl)) rfl, fun s_ hs => Acts.of1 rfl (Does.move (hs.tm 64 rfl) rfl) rfl, fun s_ hs => Acts.yes1 rfl rfl (hs.tm 65 rfl) (Does.move (hs.tm 6 rfl) rfl) rfl, fun s_ hs => Acts.yes1 rfl rfl (hs.tm 65 rfl) (Does.move (hs.tm 5 rfl) rfl) rfl, fun s_ hs => Acts.yes1 rfl rfl (hs.tm 65 rfl) (Does.fieldP (Evl.tmp (hs.tm 3 rfl)) fld_170_1 (by rw [(hs.en 1 rfl)]; rfl) rfl) rfl, fun s_ hs => Acts.yes1 rfl rfl (hs.tm 65 rfl) (Does.loadP (Evl.tmp (hs.tm 68 rfl)) (hs.en 1 rfl) tsh_3 rfl rfl) rfl, fun s_ hs => Acts.yes1 rfl rfl (hs.tm 65 rfl) (Does.fieldP (Evl.tmp (hs.tm 3 rfl)) fld_170_2 (by rw [(hs.en 1 rfl)]; rfl) rfl) rfl, fun s_ hs => Acts.yes1 rfl rfl (hs.tm 65 rfl) (Does.loadP (Evl.tmp (hs.tm 70 rfl)) (hs.en 1 rfl) tsh_4 rfl rfl) rfl, fun s_ hs => Acts.yes1 rfl rfl (hs.tm 65 rfl) (Does.call (fc_spec_l5Bit a.2.2.1) enters_217 ⟨_, _, rfl, (Ev.tmp (hs.tm 71 rfl)), rfl⟩ rfl rfl) rfl, fun s_ hs => Acts.yes1 rfl rfl (hs.tm 65 rfl) (Does.call (fc_spec_l5Set cx a.2.1 (bitS a.2.2.1) (by omega) ⟨by omega, by rw [bitS_size]; decide⟩) enters_216 ⟨_, _, rfl, (Ev.tmp (hs.tm 67 rfl)), ⟨_, _, rfl, (Ev.tmp (hs.tm 69 rfl)), ⟨_, _, rfl, (Ev.tmp (hs.tm 72 rfl)), rfl⟩⟩⟩ rfl rfl) rfl, fun s_ hs => Acts.yes1 rfl rfl (hs.tm 65 rfl) (Does.eqlS (Evl.tmp (hs.tm 66 rfl)) (Evl.tmp (hs.tm 73 rfl)) rfl) rfl, fun s_ hs => Acts.of1 rfl (Does.pickT (Evl.tmp (hs.tm 65 rfl)) (Ev.tmp (hs.tm 74 rfl)) rfl) rfl, fun s_ hs => Acts.of1 rfl (Does.assign (hs.tm 75 rfl) rfl) rfl, trivial⟩
      refine (?_ : AC _ _ _ _ _)
      refine AC.wk (s' := _) (Wk.refl _ _) ?_
      refine AC.ret ?_
      subst hO
      have e20 : (decide (cy = (setB cx a.2.1 (bitS a.2.2.1))) : Bool) = (decide (ArcOk c a)) := by
       exact arc_set2 (by assumption) (by assumption) (by assumption) (x := cx) (y := cy) (by assumption) (by assumption) hcd (by assumption) (by assumption)
      exact fin_pure (Res.one rfl (Rs.tmp rfl)) ((congrArg (fun z_ => lf (dB z_)) e20)) rfl
    ·have _h := hb17
     have hb17' : (a.2.1 < 0) := of_decide_eq_true hb17
     refine AC.condT (Evl.tmp rfl) ?_
     refine AC.sr ?_
     refine AL.cons rfl (Does.move rfl rfl) ?_
     refine AL.cons rfl (Does.move rfl rfl) ?_
     refine AL.cons rfl (Does.eqlS (Evl.tmp rfl) (Evl.tmp rfl) rfl) ?_
     refine AL.cons rfl (Does.assign rfl rfl) ?_
     refine AL.nilS ?_
     refine AC.ret ?_
     subst hO
     have e21 : (decide (cx = cy) : Bool) = (decide (ArcOk c a)) := by
      exact arc_neg (by assumption) (by assumption) (by assumption) (x := cx) (y := cy) (by assumption) (by assumption) hcd (by assumption)
     exact fin_pure (Res.one rfl (Rs.tmp rfl)) ((congrArg (fun z_ => lf (dB z_)) e21)) rfl

end Go.Proofs.Ytbelopdphlllnaa
