/- Walks over abstract states: codes, edges and arcs of state graphs. -/
import Derived.Test.YtbelopdphlllnaaWr
set_option linter.unusedSimpArgs false
set_option linter.unusedVariables false
namespace Go.Proofs.Ytbelopdphlllnaa
open Go.RowKit

theorem Does.asB {A : Amb} {P : Program} {o : Oper} {s : St} {d : Nat} {b b' : Bool} (e : b = b') (h : Does A P o s (s.put d (lf (dB b)))) : Does A P o s (s.put d (lf (dB b'))) := e ▸ h
abbrev DSg := List (ByteArray × Int) × List ByteArray × List DAr
theorem fc_impl_areSignals (ss : List DSignal) [Decidable (SigsOk ss)] : FC Try.prog 109 [(false, [.dat (.sl 129 tSignal) ss])] [] 0 (Pure (lf (dB (decide (SigsOk ss))))) := FC.ofB fun gh w vs h => by
  obtain ⟨v, rfl, hr⟩ := h.leaf1
  exact (areSignals_any v ss w hr).mono fun _ _ h => retB_dec h
theorem fc_spec_l2Signals (ss : List DSignal) [Decidable (SigsOk ss)] : FC Try.prog 96 [(false, [.dat (.sl 129 tSignal) ss])] [] 0 (Pure (lf (dB (decide (SigsOk ss))))) := FC.ofB fun gh w vs h => by
  obtain ⟨v, rfl, hr⟩ := h.leaf1
  exact (l2Signals_any v ss w hr).mono fun _ _ h => retB_dec h
def LabI (n : Int) (l : DLabel) : Prop := (0 ≤ l.1 ∧ l.1 ≤ n - 1) ∨ (l.1 = -1 ∧ l.2 = false)
instance (n : Int) (l : DLabel) : Decidable (LabI n l) := inferInstanceAs (Decidable (_ ∨ _))
/-- A code: so many bits. -/
def BitsL (s : ByteArray) (n : Int) : Prop := (∀ c ∈ s.toList, c = 48 ∨ c = 49) ∧ (s.size : Int) = n
instance (s : ByteArray) (n : Int) : Decidable (BitsL s n) := inferInstanceAs (Decidable (_ ∧ _))
section
variable {n : Int} {l : DLabel} {s x y : ByteArray} {k : Nat} {c d : UInt8} {a : DAr}
theorem lab_yes (h : 0 ≤ l.1 ∧ l.1 ≤ n - 1) : true = decide (LabI n l) := (decide_eq_true (.inl h)).symm
theorem lab_edge (h : ¬ (0 ≤ l.1 ∧ l.1 ≤ n - 1)) : Ty.beq tLabel l (-1, false) = decide (LabI n l) := by
  rw [Bool.eq_iff_iff, Ty.beq_iff, decide_eq_true_eq]
  constructor
  · rintro rfl; exact .inr ⟨rfl, rfl⟩
  · rintro (h1 | h1)
    · exact absurd h1 h
    · exact Prod.ext h1.1 h1.2
theorem lab_l2 (h : ¬ (0 ≤ l.1 ∧ l.1 ≤ n - 1)) (h1 : l.1 = -1) : (!l.2) = decide (LabI n l) := by
  rw [Bool.eq_iff_iff, decide_eq_true_eq]
  constructor
  · intro h2; exact .inr ⟨h1, by simpa using h2⟩
  · rintro (h2 | h2)
    · exact absurd h2 h
    · simp [h2.2]
theorem lab_no (h : ¬ (0 ≤ l.1 ∧ l.1 ≤ n - 1)) (h1 : ¬ l.1 = -1) : false = decide (LabI n l) := (decide_eq_false (by rintro (h2 | h2); exact h h2; exact h1 h2.1)).symm
theorem list_at (h : s[((k : Int)).toNat]? = some c) : s.toList[k]? = some c := by
  have h : s[k]? = some c := h
  rw [ByteArray.toList_eq]
  obtain ⟨hk, h2⟩ : ∃ hk : k < s.size, s[k] = c := by
    by_cases hk : k < s.size
    · rw [getElem?_pos s k hk] at h; exact ⟨hk, Option.some.inj h⟩
    · rw [getElem?_neg s k hk] at h; cases h
  rw [List.getElem?_eq_getElem (by simpa using hk)]
  rw [← h2]; simp; rfl
theorem bits_step (hB : ∀ j, j < k → ∀ c, s.toList[j]? = some c → c = 48 ∨ c = 49) (hx : s[((k : Int)).toNat]? = some c) (h : c = 48 ∨ c = 49) : ∀ j, j < k + 1 → ∀ c, s.toList[j]? = some c → c = 48 ∨ c = 49 := fun j hj d hd => by
  by_cases e : j = k
  · subst e; rw [list_at hx] at hd; cases hd; exact h
  · exact hB j (by omega) d hd
theorem bits_no (hx : s[((k : Int)).toNat]? = some c) (h1 : ¬ c = 48) (h2 : ¬ c = 49) : false = decide (BitsL s n) := (decide_eq_false fun h => by
  rcases h.1 c (List.mem_of_getElem? (list_at hx)) with h | h
  · exact h1 h
  · exact h2 h).symm
theorem bits_fin (hB : ∀ j, j < k → ∀ c, s.toList[j]? = some c → c = 48 ∨ c = 49) (hk : s.size ≤ k) : decide ((s.size : Int) = n) = decide (BitsL s n) := decide_eq_decide.2 ⟨fun h => ⟨fun c hc => by
    obtain ⟨j, hj⟩ := List.mem_iff_getElem?.1 hc
    have := (List.getElem?_eq_some_iff.1 hj).1
    rw [bl_len] at this
    exact hB j (by omega) c hj, h⟩, fun h => h.2⟩
/-- An arc's two codes at one place. -/
def FitAt (a : DAr) (x y : ByteArray) (j : Nat) : Prop := if (j : Int) = a.2.1 then (decide (bAt x j = 49) = !a.2.2.1 ∧ decide (bAt y j = 49) = a.2.2.1) else bAt x j = bAt y j
instance (a : DAr) (x y : ByteArray) (j : Nat) : Decidable (FitAt a x y j) := by unfold FitAt; exact inferInstance
def Fit (a : DAr) (x y : ByteArray) : Prop := ∀ j, j < x.size → FitAt a x y j
instance (a : DAr) (x y : ByteArray) : Decidable (Fit a x y) := by unfold Fit; exact inferInstance
theorem fit_step (hF : ∀ j, j < k → FitAt a x y j) (h : FitAt a x y k) : ∀ j, j < k + 1 → FitAt a x y j := fun j hj => by
  by_cases e : j = k
  · subst e; exact h
  · exact hF j (by omega)
theorem fit_no (hk : k < x.size) (h : ¬ FitAt a x y k) : false = decide (Fit a x y) := (decide_eq_false fun h1 => h (h1 k hk)).symm
theorem fit_yes (hF : ∀ j, j < k → FitAt a x y j) (hk : x.size ≤ k) : true = decide (Fit a x y) := (decide_eq_true fun j hj => hF j (by omega)).symm
theorem fitAt_ne (h : ¬ (k : Int) = a.2.1) (hx : x[((k : Int)).toNat]? = some c) (hy : y[((k : Int)).toNat]? = some d) : FitAt a x y k ↔ c = d := by
  unfold FitAt; rw [if_neg h, bAt_get hx, bAt_get hy]
theorem fitAt_eq (h : (k : Int) = a.2.1) (hx : x[((k : Int)).toNat]? = some c) (hy : y[((k : Int)).toNat]? = some d) : FitAt a x y k ↔ (decide (c = 49) = !a.2.2.1 ∧ decide (d = 49) = a.2.2.1) := by
  unfold FitAt; rw [if_pos h, bAt_get hx, bAt_get hy]
theorem fitAt_eq1 (h : (k : Int) = a.2.1) (hx : x[((k : Int)).toNat]? = some c) (h1 : (decide (c = 49) == a.2.2.1) = true) : ¬ FitAt a x y k := by
  unfold FitAt; rw [if_pos h, bAt_get hx]
  rintro ⟨h2, _⟩
  rw [h2] at h1
  cases ha : a.2.2.1 <;> rw [ha] at h1 <;> cases h1
theorem fitAt_eq2 (h : (k : Int) = a.2.1) (hy : y[((k : Int)).toNat]? = some d) (h1 : (decide (d = 49) == a.2.2.1) = false) : ¬ FitAt a x y k := by
  unfold FitAt; rw [if_pos h, bAt_get hy]
  rintro ⟨_, h2⟩
  rw [h2] at h1
  cases ha : a.2.2.1 <;> rw [ha] at h1 <;> cases h1
theorem fitAt_eq3 (h : (k : Int) = a.2.1) (hx : x[((k : Int)).toNat]? = some c) (hy : y[((k : Int)).toNat]? = some d) (h1 : (decide (c = 49) == a.2.2.1) = false) (h2 : (decide (d = 49) == a.2.2.1) = true) : FitAt a x y k := by
  rw [fitAt_eq h hx hy]
  cases ha : a.2.2.1 <;> rw [ha] at h1 h2 <;> cases hc : decide (c = 49) <;> rw [hc] at h1 <;> cases hd : decide (d = 49) <;> rw [hd] at h2 <;> first | exact ⟨rfl, rfl⟩ | exact absurd h1 (by decide) | exact absurd h2 (by decide)
def setB (code : ByteArray) (sig : Int) (b : ByteArray) : ByteArray := (code.extract 0 sig.toNat ++ b) ++ code.extract (sig + 1).toNat code.size
end

set_option maxRecDepth 100000 in
set_option maxHeartbeats 4000000 in
theorem fc_impl_isEdge (l : Int × Bool) (n : Int) (hn : 0 ≤ n ∧ n ≤ 1000000) : FC Try.prog 112 [(true, [dI l.1, dB l.2]), (false, [dI n])] [] 0 (Pure (lf (dB (decide (LabI n l))))) := by
 refine FC.O_all fun O_ hO => FC.ren (FC.of Try.func112 rfl rfl fun A_ hn_ hk_ => ?_)
 obtain ⟨w0_, N0_, X_, n_, k0_, h0_, f0_⟩ := A_
 obtain rfl : n_ = 15 := hn_.trans Try.ntmps112
 obtain rfl : k0_ = 0 := hk_
 refine AC.fact (fact_ag (x := .tmp 0) (i := 0) (Ev.tmp rfl) rfl) fun hi1 => ?_
 refine AC.fact (fact_int (x := .tmp 1) (Evl.tmp rfl)) fun hi2 => ?_
 refine AC.sr ?_
 refine AL.cons rfl (Does.box 0 (Ev.tmp rfl) rfl rfl (Fresh.of rfl) (nlr rfl)) ?_
 refine AL.cons rfl (Does.assignC Evl.bool rfl) ?_
 refine AL.nilS ?_
 refine AC.sr ?_
 refine AL.cons rfl (Does.fieldP (Evl.tmp rfl) fld_131_0 rfl rfl) ?_
 refine AL.cons rfl (Does.loadP (Evl.tmp rfl) rfl tsh_3 rfl rfl) ?_
 refine AL.cons rfl (Does.move rfl rfl) ?_
 refine AL.cons rfl (Does.sub (Evl.tmp rfl) (Evl.int rfl) rfl (by omega)) ?_
 refine AL.cons rfl (Does.call (fc_impl_within l.1 0 (n - 1)) enters_58 ⟨_, _, rfl, (Ev.tmp rfl), ⟨_, _, rfl, (Evl.ev (Evl.int rfl)), ⟨_, _, rfl, (Ev.tmp rfl), rfl⟩⟩⟩ rfl rfl) ?_
 refine AL.cons rfl (Does.move rfl rfl) ?_
 cases hb3 : (decide (0 ≤ l.1 ∧ l.1 ≤ (n - 1)))
 ·have _h := hb3
  have hb3' : ¬ (0 ≤ l.1 ∧ l.1 ≤ (n - 1)) := of_decide_eq_false hb3
  refine AL.guard_yes rfl rfl rfl (Does.loadPA (Evl.tmp rfl) rfl tsh_131 rfl rfl) ?_
  refine AL.guard_yes rfl rfl rfl (Does.build bld_131 ⟨_, _, rfl, (Evl.ev (Evl.int rfl)), rfl⟩ (List.all_eq_true.1 rfl) rfl rfl) ?_
  refine AL.guard_yes rfl rfl rfl (Does.eqlG eqt_131 eqg_131 (Ev.tmp rfl) (Ev.tmp rfl) (p := l) (q := ((-1), false)) rfl rfl rfl) ?_
  refine AL.cons rfl (Does.pickF (Evl.tmp rfl) (Ev.tmp rfl) rfl) ?_
  refine AL.cons rfl (Does.assign rfl rfl) ?_
  refine AL.nilS ?_
  refine AC.ret ?_
  subst hO
  have e4 : (Ty.beq (.pr .int .bool) l ((-1), false) : Bool) = (decide (LabI n l)) := by
   exact lab_edge (by assumption)
  exact fin_pure (Res.one rfl (Rs.tmp rfl)) ((congrArg (fun z_ => lf (dB z_)) e4)) rfl
 ·have _h := hb3
  have hb3' : (0 ≤ l.1 ∧ l.1 ≤ (n - 1)) := of_decide_eq_true hb3
  refine AL.guard_no (b := false) rfl rfl rfl ?_ rfl
  refine AL.guard_no (b := false) rfl rfl rfl ?_ rfl
  refine AL.guard_no (b := false) rfl rfl rfl ?_ rfl
  refine AL.cons rfl (Does.pickT (Evl.tmp rfl) (Evl.ev Evl.bool) rfl) ?_
  refine AL.cons rfl (Does.assign rfl rfl) ?_
  refine AL.nilS ?_
  refine AC.ret ?_
  subst hO
  have e5 : (true : Bool) = (decide (LabI n l)) := by
   exact lab_yes (by assumption)
  exact fin_pure (Res.one rfl (Rs.tmp rfl)) ((congrArg (fun z_ => lf (dB z_)) e5)) rfl

set_option maxRecDepth 100000 in
set_option maxHeartbeats 4000000 in
theorem fc_spec_l2Label (l : Int × Bool) (n : Int) (hn : 0 ≤ n ∧ n ≤ 1000000) : FC Try.prog 119 [(true, [dI l.1, dB l.2]), (false, [dI n])] [] 0 (Pure (lf (dB (decide (LabI n l))))) := by
 refine FC.O_all fun O_ hO => FC.ren (FC.of Try.func119 rfl rfl fun A_ hn_ hk_ => ?_)
 obtain ⟨w0_, N0_, X_, n_, k0_, h0_, f0_⟩ := A_
 obtain rfl : n_ = 20 := hn_.trans Try.ntmps119
 obtain rfl : k0_ = 0 := hk_
 refine AC.fact (fact_ag (x := .tmp 0) (i := 0) (Ev.tmp rfl) rfl) fun hi1 => ?_
 refine AC.fact (fact_int (x := .tmp 1) (Evl.tmp rfl)) fun hi2 => ?_
 refine AC.sr ?_
 refine AL.cons rfl (Does.box 0 (Ev.tmp rfl) rfl rfl (Fresh.of rfl) (nlr rfl)) ?_
 refine AL.cons rfl (Does.assignC Evl.bool rfl) ?_
 refine AL.nilS ?_
 refine AC.sr ?_
 refine AL.cons rfl (Does.fieldP (Evl.tmp rfl) fld_131_0 rfl rfl) ?_
 refine AL.cons rfl (Does.loadP (Evl.tmp rfl) rfl tsh_3 rfl rfl) ?_
 refine AL.cons rfl (Does.move rfl rfl) ?_
 refine AL.cons rfl (Does.sub (Evl.tmp rfl) (Evl.int rfl) rfl (by omega)) ?_
 refine AL.cons rfl (Does.call (fc_spec_l1In l.1 0 (n - 1)) enters_105 ⟨_, _, rfl, (Ev.tmp rfl), ⟨_, _, rfl, (Evl.ev (Evl.int rfl)), ⟨_, _, rfl, (Ev.tmp rfl), rfl⟩⟩⟩ rfl rfl) ?_
 refine AL.cons rfl (Does.move rfl rfl) ?_
 cases hb3 : (decide (0 ≤ l.1 ∧ l.1 ≤ (n - 1)))
 ·have _h := hb3
  have hb3' : ¬ (0 ≤ l.1 ∧ l.1 ≤ (n - 1)) := of_decide_eq_false hb3
  refine AL.guard_yes rfl rfl rfl (Does.fieldP (Evl.tmp rfl) fld_131_0 rfl rfl) ?_
  refine AL.guard_yes rfl rfl rfl (Does.loadP (Evl.tmp rfl) rfl tsh_3 rfl rfl) ?_
  refine AL.guard_yes rfl rfl rfl (Does.eql (Evl.tmp rfl) (Evl.int rfl) rfl) ?_
  refine AL.guard_yes rfl rfl rfl (Does.move rfl rfl) ?_
  cases hb4 : (decide (l.1 = (-1)))
  ·have _h := hb4
   have hb4' : ¬ (l.1 = (-1)) := of_decide_eq_false hb4
   refine AL.guard_no (b := true) rfl rfl rfl ?_ rfl
   refine AL.guard_no (b := true) rfl rfl rfl ?_ rfl
   refine AL.guard_no (b := true) rfl rfl rfl ?_ rfl
   refine AL.guard_yes rfl rfl rfl (Does.pickF (Evl.tmp rfl) (Evl.ev Evl.bool) rfl) ?_
   refine AL.cons rfl (Does.pickF (Evl.tmp rfl) (Ev.tmp rfl) rfl) ?_
   refine AL.cons rfl (Does.assign rfl rfl) ?_
   refine AL.nilS ?_
   refine AC.ret ?_
   subst hO
   have e5 : (false : Bool) = (decide (LabI n l)) := by
    exact lab_no (by assumption) (by assumption)
   exact fin_pure (Res.one rfl (Rs.tmp rfl)) ((congrArg (fun z_ => lf (dB z_)) e5)) rfl
  ·have _h := hb4
   have hb4' : (l.1 = (-1)) := of_decide_eq_true hb4
   refine AL.guard_yes rfl rfl rfl (Does.fieldP (Evl.tmp rfl) fld_131_1 rfl rfl) ?_
   refine AL.guard_yes rfl rfl rfl (Does.loadP (Evl.tmp rfl) rfl tsh_4 rfl rfl) ?_
   refine AL.guard_yes rfl rfl rfl (Does.not (Evl.tmp rfl) rfl) ?_
   refine AL.guard_yes rfl rfl rfl (Does.pickT (Evl.tmp rfl) (Ev.tmp rfl) rfl) ?_
   refine AL.cons rfl (Does.pickF (Evl.tmp rfl) (Ev.tmp rfl) rfl) ?_
   refine AL.cons rfl (Does.assign rfl rfl) ?_
   refine AL.nilS ?_
   refine AC.ret ?_
   subst hO
   have e6 : (!l.2 : Bool) = (decide (LabI n l)) := by
    exact lab_l2 (by assumption) (by assumption)
   exact fin_pure (Res.one rfl (Rs.tmp rfl)) ((congrArg (fun z_ => lf (dB z_)) e6)) rfl
 ·have _h := hb3
  have hb3' : (0 ≤ l.1 ∧ l.1 ≤ (n - 1)) := of_decide_eq_true hb3
  refine AL.guard_no (b := false) rfl rfl rfl ?_ rfl
  refine AL.guard_no (b := false) rfl rfl rfl ?_ rfl
  refine AL.guard_no (b := false) rfl rfl rfl ?_ rfl
  refine AL.guard_no (b := false) rfl rfl rfl ?_ rfl
  refine AL.guard_un rfl rfl rfl ?_ rfl
  refine AL.guard_un rfl rfl rfl ?_ rfl
  refine AL.guard_un rfl rfl rfl ?_ rfl
  refine AL.guard_no (b := false) rfl rfl rfl ?_ rfl
  refine AL.cons rfl (Does.pickT (Evl.tmp rfl) (Evl.ev Evl.bool) rfl) ?_
  refine AL.cons rfl (Does.assign rfl rfl) ?_
  refine AL.nilS ?_
  refine AC.ret ?_
  subst hO
  have e7 : (true : Bool) = (decide (LabI n l)) := by
   exact lab_yes (by assumption)
  exact fin_pure (Res.one rfl (Rs.tmp rfl)) ((congrArg (fun z_ => lf (dB z_)) e7)) rfl

set_option maxRecDepth 100000 in
set_option maxHeartbeats 4000000 in
theorem fc_impl_isBits (s : ByteArray) (n : Int)  : FC Try.prog 157 [(false, [dS s]), (false, [dI n])] [] 0 (Pure (lf (dB (decide (BitsL s n))))) := by
 refine FC.O_all fun O_ hO => FC.ren (FC.of Try.func157 rfl rfl fun A_ hn_ hk_ => ?_)
 obtain ⟨w0_, N0_, X_, n_, k0_, h0_, f0_⟩ := A_
 obtain rfl : n_ = 26 := hn_.trans Try.ntmps157
 obtain rfl : k0_ = 0 := hk_
 refine AC.fact (fact_int (x := .tmp 1) (Evl.tmp rfl)) fun hi1 => ?_
 refine AC.sr ?_
 refine AL.cons rfl (Does.assignC Evl.bool rfl) ?_
 refine AL.nilS ?_
 refine AC.seq ?_
 refine AC.sr ?_
 refine AL.cons rfl (Does.assignC (Evl.int rfl) rfl) ?_
 refine AL.nilS ?_
 refine AC.block ?_
 refine AC.loopW (fun m_ s_ => ∃ (k : Nat), k ≤ s.size ∧ m_ = s.size - k ∧ (∀ j, j < k → ∀ c, s.toList[j]? = some c → c = 48 ∨ c = 49) ∧ s_ = ⟨[(0, lf (dS s)), (1, lf (dI n)), (5, lf (dI (k : Int)))], []⟩) ⟨0, Nat.zero_le _, rfl, (fun j hj => absurd hj (Nat.not_lt_zero j)), rfl⟩ ?_ ?_
 · exact Wk.of [] rfl ⟨rfl, rfl, rfl, trivial⟩ trivial rfl rfl
 rintro m_ s_ ⟨k, hk2, hm3, hB, rfl⟩
 refine AC.seq ?_
 refine AC.sr ?_
 refine AL.cons rfl (Does.move rfl rfl) ?_
 refine AL.cons rfl (Does.move rfl rfl) ?_
 refine AL.fact (fact_lenS (x := .tmp 7) (Evl.tmp rfl)) fun hl4 => ?_
 refine AL.cons rfl (Does.lenS (Evl.tmp rfl) rfl und_9) ?_
 refine AL.cons rfl (Does.lss (Evl.tmp rfl) (Evl.tmp rfl) rfl) ?_
 refine AL.nilS ?_
 cases hb5 : (decide ((k : Int) < (s.size : Int)))
 ·have _h := hb5
  have hb5' : ¬ ((k : Int) < (s.size : Int)) := of_decide_eq_false hb5
  refine AC.condF (Evl.tmp rfl) ?_
  refine AC.exit ?_
  refine (?_ : AC _ _ _ _ _)
  refine AC.sr ?_
  refine AL.cons rfl (Does.move rfl rfl) ?_
  refine AL.fact (fact_lenS (x := .tmp 22) (Evl.tmp rfl)) fun hl6 => ?_
  refine AL.cons rfl (Does.lenS (Evl.tmp rfl) rfl und_9) ?_
  refine AL.cons rfl (Does.move rfl rfl) ?_
  refine AL.cons rfl (Does.eql (Evl.tmp rfl) (Evl.tmp rfl) rfl) ?_
  refine AL.cons rfl (Does.assign rfl rfl) ?_
  refine AL.nilS ?_
  refine AC.ret ?_
  subst hO
  have e7 : (decide ((s.size : Int) = n) : Bool) = (decide (BitsL s n)) := by
   exact bits_fin hB (by omega)
  exact fin_pure (Res.one rfl (Rs.tmp rfl)) ((congrArg (fun z_ => lf (dB z_)) e7)) rfl
 ·have _h := hb5
  have hb5' : ((k : Int) < (s.size : Int)) := of_decide_eq_true hb5
  refine AC.condT (Evl.tmp rfl) ?_
  refine AC.skipS ?_
  refine AC.seq ?_
  refine AC.block ?_
  refine AC.sr ?_
  refine AL.cons rfl (Does.move rfl rfl) ?_
  refine AL.cons rfl (Does.move rfl rfl) ?_
  obtain ⟨c8, hc9⟩ : ∃ z, s[((k : Int)).toNat]? = some z := ⟨_, getElem?_pos _ _ (by omega)⟩
  refine AL.cons rfl (Does.indexS (Evl.tmp rfl) (Evl.tmp rfl) rfl und_9 (by omega) hc9) ?_
  refine AL.cons rfl (Does.neqU (Evl.tmp rfl) (Evl.u8 48 rfl) rfl) ?_
  refine AL.cons rfl (Does.move rfl rfl) ?_
  cases hb10 : (!decide (c8 = 48))
  ·have _h := hb10
   have hb10' : (c8 = 48) := nd_false hb10
   refine AL.guard_no (b := true) rfl rfl rfl ?_ rfl
   refine AL.guard_no (b := true) rfl rfl rfl ?_ rfl
   refine AL.guard_no (b := true) rfl rfl rfl ?_ rfl
   refine AL.guard_no (b := true) rfl rfl rfl ?_ rfl
   refine AL.cons rfl (Does.pickF (Evl.tmp rfl) (Evl.ev Evl.bool) rfl) ?_
   refine AL.nilS ?_
   refine AC.condF (Evl.tmp rfl) ?_
   refine AC.skip ?_
   refine (?_ : AC _ _ _ _ _)
   refine AC.region ?_
   refine AL.cons rfl (Does.move rfl rfl) ?_
   refine AL.cons rfl (Does.add (Evl.tmp rfl) (Evl.int rfl) rfl (by omega)) ?_
   refine AL.cons rfl (Does.assign rfl rfl) ?_
   refine AL.nil ?_
   refine lend ⟨k + 1, by omega, rfl, (bits_step hB (by assumption) (by first | exact .inl (by assumption) | exact .inr (by assumption))), rfl⟩ (by omega) ?_
   exact Wk.of [] rfl ⟨rfl, rfl, rfl, trivial⟩ trivial rfl rfl
  ·have _h := hb10
   have hb10' : ¬ (c8 = 48) := nd_true hb10
   refine AL.guard_yes rfl rfl rfl (Does.move rfl rfl) ?_
   refine AL.guard_yes rfl rfl rfl (Does.move rfl rfl) ?_
   refine AL.guard_yes rfl rfl rfl (Does.indexS (Evl.tmp rfl) (Evl.tmp rfl) rfl und_9 (by omega) hc9) ?_
   refine AL.guard_yes rfl rfl rfl (Does.neqU (Evl.tmp rfl) (Evl.u8 49 rfl) rfl) ?_
   refine AL.cons rfl (Does.pickT (Evl.tmp rfl) (Ev.tmp rfl) rfl) ?_
   refine AL.nilS ?_
   cases hb11 : (!decide (c8 = 49))
   ·have _h := hb11
    have hb11' : (c8 = 49) := nd_false hb11
    refine AC.condF (Evl.tmp rfl) ?_
    refine AC.skip ?_
    refine (?_ : AC _ _ _ _ _)
    refine AC.region ?_
    refine AL.cons rfl (Does.move rfl rfl) ?_
    refine AL.cons rfl (Does.add (Evl.tmp rfl) (Evl.int rfl) rfl (by omega)) ?_
    refine AL.cons rfl (Does.assign rfl rfl) ?_
    refine AL.nil ?_
    refine lend ⟨k + 1, by omega, rfl, (bits_step hB (by assumption) (by first | exact .inl (by assumption) | exact .inr (by assumption))), rfl⟩ (by omega) ?_
    exact Wk.of [] rfl ⟨rfl, rfl, rfl, trivial⟩ trivial rfl rfl
   ·have _h := hb11
    have hb11' : ¬ (c8 = 49) := nd_true hb11
    refine AC.condT (Evl.tmp rfl) ?_
    refine AC.sr ?_
    refine AL.cons rfl (Does.assignC Evl.bool rfl) ?_
    refine AL.nilS ?_
    refine AC.ret ?_
    subst hO
    have e12 : (false : Bool) = (decide (BitsL s n)) := by
     exact bits_no (k := k) (by assumption) (by assumption) (by assumption)
    exact fin_pure (Res.one rfl (Rs.tmp rfl)) ((congrArg (fun z_ => lf (dB z_)) e12)) rfl

set_option maxRecDepth 100000 in
set_option maxHeartbeats 4000000 in
theorem fc_spec_l5Code (s : ByteArray) (n : Int)  : FC Try.prog 169 [(false, [dS s]), (false, [dI n])] [] 0 (Pure (lf (dB (decide (BitsL s n))))) := by
 refine FC.O_all fun O_ hO => FC.ren (FC.of Try.func169 rfl rfl fun A_ hn_ hk_ => ?_)
 obtain ⟨w0_, N0_, X_, n_, k0_, h0_, f0_⟩ := A_
 obtain rfl : n_ = 26 := hn_.trans Try.ntmps169
 obtain rfl : k0_ = 0 := hk_
 refine AC.fact (fact_int (x := .tmp 1) (Evl.tmp rfl)) fun hi1 => ?_
 refine AC.sr ?_
 refine AL.cons rfl (Does.assignC Evl.bool rfl) ?_
 refine AL.nilS ?_
 refine AC.seq ?_
 refine AC.sr ?_
 refine AL.cons rfl (Does.assignC (Evl.int rfl) rfl) ?_
 refine AL.nilS ?_
 refine AC.block ?_
 refine AC.loopW (fun m_ s_ => ∃ (k : Nat), k ≤ s.size ∧ m_ = s.size - k ∧ (∀ j, j < k → ∀ c, s.toList[j]? = some c → c = 48 ∨ c = 49) ∧ s_ = ⟨[(0, lf (dS s)), (1, lf (dI n)), (5, lf (dI (k : Int)))], []⟩) ⟨0, Nat.zero_le _, rfl, (fun j hj => absurd hj (Nat.not_lt_zero j)), rfl⟩ ?_ ?_
 · exact Wk.of [] rfl ⟨rfl, rfl, rfl, trivial⟩ trivial rfl rfl
 rintro m_ s_ ⟨k, hk2, hm3, hB, rfl⟩
 refine AC.seq ?_
 refine AC.sr ?_
 refine AL.cons rfl (Does.move rfl rfl) ?_
 refine AL.cons rfl (Does.move rfl rfl) ?_
 refine AL.fact (fact_lenS (x := .tmp 7) (Evl.tmp rfl)) fun hl4 => ?_
 refine AL.cons rfl (Does.lenS (Evl.tmp rfl) rfl und_9) ?_
 refine AL.cons rfl (Does.lss (Evl.tmp rfl) (Evl.tmp rfl) rfl) ?_
 refine AL.nilS ?_
 cases hb5 : (decide ((k : Int) < (s.size : Int)))
 ·have _h := hb5
  have hb5' : ¬ ((k : Int) < (s.size : Int)) := of_decide_eq_false hb5
  refine AC.condF (Evl.tmp rfl) ?_
  refine AC.exit ?_
  refine (?_ : AC _ _ _ _ _)
  refine AC.sr ?_
  refine AL.cons rfl (Does.move rfl rfl) ?_
  refine AL.fact (fact_lenS (x := .tmp 22) (Evl.tmp rfl)) fun hl6 => ?_
  refine AL.cons rfl (Does.lenS (Evl.tmp rfl) rfl und_9) ?_
  refine AL.cons rfl (Does.move rfl rfl) ?_
  refine AL.cons rfl (Does.eql (Evl.tmp rfl) (Evl.tmp rfl) rfl) ?_
  refine AL.cons rfl (Does.assign rfl rfl) ?_
  refine AL.nilS ?_
  refine AC.ret ?_
  subst hO
  have e7 : (decide ((s.size : Int) = n) : Bool) = (decide (BitsL s n)) := by
   exact bits_fin hB (by omega)
  exact fin_pure (Res.one rfl (Rs.tmp rfl)) ((congrArg (fun z_ => lf (dB z_)) e7)) rfl
 ·have _h := hb5
  have hb5' : ((k : Int) < (s.size : Int)) := of_decide_eq_true hb5
  refine AC.condT (Evl.tmp rfl) ?_
  refine AC.skipS ?_
  refine AC.seq ?_
  refine AC.block ?_
  refine AC.sr ?_
  refine AL.cons rfl (Does.move rfl rfl) ?_
  refine AL.cons rfl (Does.move rfl rfl) ?_
  obtain ⟨c8, hc9⟩ : ∃ z, s[((k : Int)).toNat]? = some z := ⟨_, getElem?_pos _ _ (by omega)⟩
  refine AL.cons rfl (Does.indexS (Evl.tmp rfl) (Evl.tmp rfl) rfl und_9 (by omega) hc9) ?_
  refine AL.cons rfl (Does.neqU (Evl.tmp rfl) (Evl.u8 48 rfl) rfl) ?_
  refine AL.cons rfl (Does.move rfl rfl) ?_
  cases hb10 : (!decide (c8 = 48))
  ·have _h := hb10
   have hb10' : (c8 = 48) := nd_false hb10
   refine AL.guard_no (b := true) rfl rfl rfl ?_ rfl
   refine AL.guard_no (b := true) rfl rfl rfl ?_ rfl
   refine AL.guard_no (b := true) rfl rfl rfl ?_ rfl
   refine AL.guard_no (b := true) rfl rfl rfl ?_ rfl
   refine AL.cons rfl (Does.pickF (Evl.tmp rfl) (Evl.ev Evl.bool) rfl) ?_
   refine AL.nilS ?_
   refine AC.condF (Evl.tmp rfl) ?_
   refine AC.skip ?_
   refine (?_ : AC _ _ _ _ _)
   refine AC.region ?_
   refine AL.cons rfl (Does.move rfl rfl) ?_
   refine AL.cons rfl (Does.add (Evl.tmp rfl) (Evl.int rfl) rfl (by omega)) ?_
   refine AL.cons rfl (Does.assign rfl rfl) ?_
   refine AL.nil ?_
   refine lend ⟨k + 1, by omega, rfl, (bits_step hB (by assumption) (by first | exact .inl (by assumption) | exact .inr (by assumption))), rfl⟩ (by omega) ?_
   exact Wk.of [] rfl ⟨rfl, rfl, rfl, trivial⟩ trivial rfl rfl
  ·have _h := hb10
   have hb10' : ¬ (c8 = 48) := nd_true hb10
   refine AL.guard_yes rfl rfl rfl (Does.move rfl rfl) ?_
   refine AL.guard_yes rfl rfl rfl (Does.move rfl rfl) ?_
   refine AL.guard_yes rfl rfl rfl (Does.indexS (Evl.tmp rfl) (Evl.tmp rfl) rfl und_9 (by omega) hc9) ?_
   refine AL.guard_yes rfl rfl rfl (Does.neqU (Evl.tmp rfl) (Evl.u8 49 rfl) rfl) ?_
   refine AL.cons rfl (Does.pickT (Evl.tmp rfl) (Ev.tmp rfl) rfl) ?_
   refine AL.nilS ?_
   cases hb11 : (!decide (c8 = 49))
   ·have _h := hb11
    have hb11' : (c8 = 49) := nd_false hb11
    refine AC.condF (Evl.tmp rfl) ?_
    refine AC.skip ?_
    refine (?_ : AC _ _ _ _ _)
    refine AC.region ?_
    refine AL.cons rfl (Does.move rfl rfl) ?_
    refine AL.cons rfl (Does.add (Evl.tmp rfl) (Evl.int rfl) rfl (by omega)) ?_
    refine AL.cons rfl (Does.assign rfl rfl) ?_
    refine AL.nil ?_
    refine lend ⟨k + 1, by omega, rfl, (bits_step hB (by assumption) (by first | exact .inl (by assumption) | exact .inr (by assumption))), rfl⟩ (by omega) ?_
    exact Wk.of [] rfl ⟨rfl, rfl, rfl, trivial⟩ trivial rfl rfl
   ·have _h := hb11
    have hb11' : ¬ (c8 = 49) := nd_true hb11
    refine AC.condT (Evl.tmp rfl) ?_
    refine AC.sr ?_
    refine AL.cons rfl (Does.assignC Evl.bool rfl) ?_
    refine AL.nilS ?_
    refine AC.ret ?_
    subst hO
    have e12 : (false : Bool) = (decide (BitsL s n)) := by
     exact bits_no (k := k) (by assumption) (by assumption) (by assumption)
    exact fin_pure (Res.one rfl (Rs.tmp rfl)) ((congrArg (fun z_ => lf (dB z_)) e12)) rfl

set_option maxRecDepth 100000 in
set_option maxHeartbeats 4000000 in
theorem fc_impl_fitsCodes (a : Int × Int × Bool × Int) (x : ByteArray) (y : ByteArray) (hxy : x.size ≤ y.size) : FC Try.prog 180 [(true, [dI a.1, dI a.2.1, dB a.2.2.1, dI a.2.2.2]), (false, [dS x]), (false, [dS y])] [] 0 (Pure (lf (dB (decide (Fit a x y))))) := by
 refine FC.O_all fun O_ hO => FC.ren (FC.of Try.func180 rfl rfl fun A_ hn_ hk_ => ?_)
 obtain ⟨w0_, N0_, X_, n_, k0_, h0_, f0_⟩ := A_
 obtain rfl : n_ = 43 := hn_.trans Try.ntmps180
 obtain rfl : k0_ = 0 := hk_
 refine AC.fact (fact_ag (x := .tmp 0) (i := 0) (Ev.tmp rfl) rfl) fun hi1 => ?_
 refine AC.fact (fact_ag (x := .tmp 0) (i := 1) (Ev.tmp rfl) rfl) fun hi2 => ?_
 refine AC.fact (fact_ag (x := .tmp 0) (i := 3) (Ev.tmp rfl) rfl) fun hi3 => ?_
 refine AC.sr ?_
 refine AL.cons rfl (Does.box 0 (Ev.tmp rfl) rfl rfl (Fresh.of rfl) (nlr rfl)) ?_
 refine AL.cons rfl (Does.assignC Evl.bool rfl) ?_
 refine AL.nilS ?_
 refine AC.seq ?_
 refine AC.sr ?_
 refine AL.cons rfl (Does.move rfl rfl) ?_
 refine AL.fact (fact_lenS (x := .tmp 8) (Evl.tmp rfl)) fun hl4 => ?_
 refine AL.cons rfl (Does.lenS (Evl.tmp rfl) rfl und_9) ?_
 refine AL.cons rfl (Does.moveC (Evl.int rfl) rfl) ?_
 refine AL.nilS ?_
 refine AC.block ?_
 refine AC.loopW (fun m_ s_ => ∃ (k : Nat), k ≤ x.size ∧ m_ = x.size - k ∧ (∀ j, j < k → FitAt a x y j) ∧ s_ = ⟨[(1, lf (dS x)), (2, lf (dS y)), (3, lf (.ptr 0 0)), (9, lf (dI (x.size : Int))), (10, lf (dI (k : Int)))], [(0, some (.box 170 [dI a.1, dI a.2.1, dB a.2.2.1, dI a.2.2.2]))]⟩) ⟨0, Nat.zero_le _, rfl, (fun j hj => absurd hj (Nat.not_lt_zero j)), rfl⟩ ?_ ?_
 · exact Wk.of [(0, 0)] rfl ⟨rfl, rfl, rfl, rfl, rfl, trivial⟩ ⟨rfl, trivial⟩ rfl rfl
 rintro m_ s_ ⟨k, hk5, hm6, hF, rfl⟩
 refine AC.sr ?_
 refine AL.cons rfl (Does.lss (Evl.tmp rfl) (Evl.tmp rfl) rfl) ?_
 refine AL.nilS ?_
 refine AC.seq ?_
 cases hb7 : (decide ((k : Int) < (x.size : Int)))
 ·have _h := hb7
  have hb7' : ¬ ((k : Int) < (x.size : Int)) := of_decide_eq_false hb7
  refine AC.condF (Evl.tmp rfl) ?_
  refine AC.exit ?_
  refine (?_ : AC _ _ _ _ _)
  refine AC.sr ?_
  refine AL.cons rfl (Does.assignC Evl.bool rfl) ?_
  refine AL.nilS ?_
  refine AC.ret ?_
  subst hO
  have e8 : (true : Bool) = (decide (Fit a x y)) := by
   exact fit_yes hF (by omega)
  exact fin_pure (Res.one rfl (Rs.tmp rfl)) ((congrArg (fun z_ => lf (dB z_)) e8)) rfl
 ·have _h := hb7
  have hb7' : ((k : Int) < (x.size : Int)) := of_decide_eq_true hb7
  refine AC.condT (Evl.tmp rfl) ?_
  refine AC.skipS ?_
  refine AC.seq ?_
  refine AC.block ?_
  refine AC.sr ?_
  refine AL.cons rfl (Does.move rfl rfl) ?_
  refine AL.cons rfl (Does.assign rfl rfl) ?_
  refine AL.nilS ?_
  refine AC.block ?_
  refine AC.sr ?_
  refine AL.cons rfl (Does.move rfl rfl) ?_
  refine AL.cons rfl (Does.fieldP (Evl.tmp rfl) fld_170_1 rfl rfl) ?_
  refine AL.cons rfl (Does.loadP (Evl.tmp rfl) rfl tsh_3 rfl rfl) ?_
  refine AL.cons rfl (Does.neq (Evl.tmp rfl) (Evl.tmp rfl) rfl) ?_
  refine AL.cons rfl (Does.assign rfl rfl) ?_
  refine AL.nilS ?_
  cases hb9 : (!decide ((k : Int) = a.2.1))
  ·have _h := hb9
   have hb9' : ((k : Int) = a.2.1) := nd_false hb9
   refine AC.condF (Evl.tmp rfl) ?_
   refine AC.seq ?_
   obtain ⟨c10, hc11⟩ : ∃ z, x[((k : Int)).toNat]? = some z := ⟨_, getElem?_pos _ _ (by omega)⟩
   cases hb12 : ((decide (c10 = 49)) == a.2.2.1)
   ·have _h := hb12
    obtain ⟨c13, hc14⟩ : ∃ z, y[((k : Int)).toNat]? = some z := ⟨_, getElem?_pos _ _ (by omega)⟩
    refine AC.drawL [⟨some 26, lf (dS x), []⟩, ⟨some 27, lf (dI (k : Int)), []⟩, ⟨some 28, lf (.dat .u8 c10), []⟩, ⟨some 29, lf (dB (decide (c10 = 49))), []⟩, ⟨some 30, lf (.ptr 0 2), []⟩, ⟨some 31, lf (dB a.2.2.1), []⟩, ⟨some 32, lf (dB false), []⟩, ⟨some 33, lf (dB false), []⟩, ⟨some 34, lf (dS y), []⟩, ⟨some 35, lf (dI (k : Int)), []⟩, ⟨some 36, lf (.dat .u8 c13), []⟩, ⟨some 37, lf (dB (decide (c13 = 49))), []⟩, ⟨some 38, lf (.ptr 0 2), []⟩, ⟨some 39, lf (dB a.2.2.1), []⟩, ⟨some 40, lf (dB (!((decide (c13 = 49)) == a.2.2.1))), []⟩, ⟨some 41, lf (dB (!((decide (c13 = 49)) == a.2.2.1))), []⟩, ⟨some 25, lf (dB (!((decide (c13 = 49)) == a.2.2.1))), []⟩] [[], [], [0, 1], [0, 1, 2], [], [4], [0, 1, 2, 3, 4, 5], [0, 1, 2, 3, 4, 5, 6], [0, 1, 2, 3, 4, 5, 6, 7], [0, 1, 2, 3, 4, 5, 6, 7], [0, 1, 2, 3, 4, 5, 6, 7, 8, 9], [0, 1, 2, 3, 4, 5, 6, 7, 8, 9, 10], [0, 1, 2, 3, 4, 5, 6, 7], [0, 1, 2, 3, 4, 5, 6, 7, 12], [0, 1, 2, 3, 4, 5, 6, 7, 8, 9, 10, 11, 12, 13], [0, 1, 2, 3, 4, 5, 6, 7, 8, 9, 10, 11, 12, 13, 14], [0, 1, 2, 3, 4, 5, 6, 7, 8, 9, 10, 11, 12, 13, 14, 15]] mixed rfl (by kernel_rfl) ?_ ?_
    · refine ⟨fun s_ hs => Acts.of1 rfl (Does.move (hs.tm 1 rfl) rfl) rfl, fun s_ hs => Acts.of1 rfl (Does.move (hs.tm 7 rfl) rfl) rfl, fun s_ hs => Acts.of1 rfl (Does.indexS (Evl.tmp (hs.tm 26 rfl)) (Evl.tmp (hs.tm 27 rfl)) rfl und_9 (by omega) hc11) rfl, fun s_ hs => Acts.of1 rfl (Does.eqlU (Evl.tmp (hs.tm 28 rfl)) (Evl.u8 49 rfl) rfl) rfl, fun s_ hs => Acts.of1 rfl (Does.fieldP (Evl.tmp (hs.tm 3 rfl)) fld_170_2 (by rw [(hs.en 0 rfl)]; rfl) rfl) rfl, fun s_ hs => Acts.of1 rfl (Does.loadP (Evl.tmp (hs.tm 30 rfl)) (hs.en 0 rfl) tsh_4 rfl rfl) rfl, fun s_ hs => Acts.of1 rfl (Does.asB (hb12) (Does.eqlB (Evl.tmp (hs.tm 29 rfl)) (Evl.tmp (hs.tm 31 rfl)) rfl und_4)) rfl, fun s_ hs => Acts.of1 rfl (Does.move (hs.tm 32 rfl) rfl) rfl, fun s_ hs => Acts.yes1 rfl rfl (hs.tm 33 rfl) (Does.move (hs.tm 2 rfl) rfl) rfl, fun s_ hs => Acts.yes1 rfl rfl (hs.tm 33 rfl) (Does.move (hs.tm 7 rfl) rfl) rfl, fun s_ hs => Acts.yes1 rfl rfl (hs.tm 33 rfl) (Does.indexS (Evl.tmp (hs.tm 34 rfl)) (Evl.tmp (hs.tm 35 rfl)) rfl und_9 (by omega) hc14) rfl, fun s_ hs => Acts.yes1 rfl rfl (hs.tm 33 rfl) (Does.eqlU (Evl.tmp (hs.tm 36 rfl)) (Evl.u8 49 rfl) rfl) rfl, fun s_ hs => Acts.yes1 rfl rfl (hs.tm 33 rfl) (Does.fieldP (Evl.tmp (hs.tm 3 rfl)) fld_170_2 (by rw [(hs.en 0 rfl)]; rfl) rfl) rfl, fun s_ hs => Acts.yes1 rfl rfl (hs.tm 33 rfl) (Does.loadP (Evl.tmp (hs.tm 38 rfl)) (hs.en 0 rfl) tsh_4 rfl rfl) rfl, fun s_ hs => Acts.yes1 rfl rfl (hs.tm 33 rfl) (Does.neqB (Evl.tmp (hs.tm 37 rfl)) (Evl.tmp (hs.tm 39 rfl)) rfl und_4) rfl, fun s_ hs => Acts.of1 rfl (Does.pickF (Evl.tmp (hs.tm 33 rfl)) (Ev.tmp (hs.tm 40 rfl)) rfl) rfl, fun s_ hs => Acts.of1 rfl (Does.assign (hs.tm 41 rfl) rfl) rfl, trivial⟩
    refine (?_ : AC _ _ _ _ _)
    refine AC.wk (s' := _) (Wk.refl _ _) ?_
    cases hb15 : ((decide (c13 = 49)) == a.2.2.1)
    ·have _h := hb15
     refine AC.condT (Evl.tmp rfl) ?_
     refine AC.sr ?_
     refine AL.cons rfl (Does.assignC Evl.bool rfl) ?_
     refine AL.nilS ?_
     refine AC.ret ?_
     subst hO
     have e16 : (false : Bool) = (decide (Fit a x y)) := by
      exact fit_no (k := k) (by omega) (fun h => by first | exact absurd ((fitAt_ne (by assumption) (by assumption) (by assumption)).1 h) (by assumption) | exact fitAt_eq1 (by assumption) (by assumption) (by assumption) h | exact fitAt_eq2 (by assumption) (by assumption) (by assumption) h)
     exact fin_pure (Res.one rfl (Rs.tmp rfl)) ((congrArg (fun z_ => lf (dB z_)) e16)) rfl
    ·have _h := hb15
     refine AC.condF (Evl.tmp rfl) ?_
     refine AC.skip ?_
     refine (?_ : AC _ _ _ _ _)
     refine AC.region ?_
     refine AL.cons rfl (Does.add (Evl.tmp rfl) (Evl.int rfl) rfl (by omega)) ?_
     refine AL.cons rfl (Does.move rfl rfl) ?_
     refine AL.nil ?_
     refine lend ⟨k + 1, by omega, rfl, (fit_step hF (by first | exact (fitAt_ne (by assumption) (by assumption) (by assumption)).2 (by assumption) | exact fitAt_eq3 (by assumption) (by assumption) (by assumption) (by assumption) (by assumption))), rfl⟩ (by omega) ?_
     exact Wk.of [(0, 0)] rfl ⟨rfl, rfl, rfl, rfl, rfl, trivial⟩ ⟨rfl, trivial⟩ rfl rfl
   ·have _h := hb12
    refine AC.drawL [⟨some 26, lf (dS x), []⟩, ⟨some 27, lf (dI (k : Int)), []⟩, ⟨some 28, lf (.dat .u8 c10), []⟩, ⟨some 29, lf (dB (decide (c10 = 49))), []⟩, ⟨some 30, lf (.ptr 0 2), []⟩, ⟨some 31, lf (dB a.2.2.1), []⟩, ⟨some 32, lf (dB true), []⟩, ⟨some 33, lf (dB true), []⟩, ⟨some 34, lf (.val undef), []⟩, ⟨some 35, lf (.val undef), []⟩, ⟨some 36, lf (.val undef), []⟩, ⟨some 37, lf (.val undef), []⟩, ⟨some 38, lf (.val undef), []⟩, ⟨some 39, lf (.val undef), []⟩, ⟨some 40, lf (.val undef), []⟩, ⟨some 41, lf (dB true), []⟩, ⟨some 25, lf (dB true), []⟩] [[], [], [0, 1], [0, 1, 2], [], [4], [0, 1, 2, 3, 4, 5], [0, 1, 2, 3, 4, 5, 6], [0, 1, 2, 3, 4, 5, 6, 7], [0, 1, 2, 3, 4, 5, 6, 7], [0, 1, 2, 3, 4, 5, 6, 7, 8, 9], [0, 1, 2, 3, 4, 5, 6, 7, 8, 9, 10], [0, 1, 2, 3, 4, 5, 6, 7], [0, 1, 2, 3, 4, 5, 6, 7, 12], [0, 1, 2, 3, 4, 5, 6, 7, 8, 9, 10, 11, 12, 13], [0, 1, 2, 3, 4, 5, 6, 7, 8, 9, 10, 11, 12, 13, 14], [0, 1, 2, 3, 4, 5, 6, 7, 8, 9, 10, 11, 12, 13, 14, 15]] mixed rfl (by kernel_rfl) ?_ ?_
    · refine ⟨fun s_ hs => Acts.of1 rfl (Does.move (hs.tm 1 rfl) rfl) rfl, fun s_ hs => Acts.of1 rfl (Does.move (hs.tm 7 rfl) rfl) rfl, fun s_ hs => Acts.of1 rfl (Does.indexS (Evl.tmp (hs.tm 26 rfl)) (Evl.tmp (hs.tm 27 rfl)) rfl und_9 (by omega) hc11) rfl, fun s_ hs => Acts.of1 rfl (Does.eqlU (Evl.tmp (hs.tm 28 rfl)) (Evl.u8 49 rfl) rfl) rfl, fun s_ hs => Acts.of1 rfl (Does.fieldP (Evl.tmp (hs.tm 3 rfl)) fld_170_2 (by rw [(hs.en 0 rfl)]; rfl) rfl) rfl, fun s_ hs => Acts.of1 rfl (Does.loadP (Evl.tmp (hs.tm 30 rfl)) (hs.en 0 rfl) tsh_4 rfl rfl) rfl, fun s_ hs => Acts.of1 rfl (Does.asB (hb12) (Does.eqlB (Evl.tmp (hs.tm 29 rfl)) (Evl.tmp (hs.tm 31 rfl)) rfl und_4)) rfl, fun s_ hs => Acts.of1 rfl (Does.move (hs.tm 32 rfl) rfl) rfl, fun s_ hs => Acts.no (b := false) rfl rfl (hs.tm 33 rfl) rfl rfl, fun s_ hs => Acts.no (b := false) rfl rfl (hs.tm 33 rfl) rfl rfl, fun s_ hs => Acts.no (b := false) rfl rfl (hs.tm 33 rfl) rfl rfl, fun s_ hs => Acts.no (b := false) rfl rfl (hs.tm 33 rfl) rfl rfl, fun s_ hs => Acts.no (b := false) rfl rfl (hs.tm 33 rfl) rfl rfl, fun s_ hs => Acts.no (b := false) rfl rfl (hs.tm 33 rfl) rfl rfl, fun s_ hs => Acts.no (b := false) rfl rfl (hs.tm 33 rfl) rfl rfl, fun s_ hs => Acts.of1 rfl (Does.pickT (Evl.tmp (hs.tm 33 rfl)) (Evl.ev Evl.bool) rfl) rfl, fun s_ hs => Acts.of1 rfl (Does.assign (hs.tm 41 rfl) rfl) rfl, trivial⟩
    refine (?_ : AC _ _ _ _ _)
    refine AC.wk (s' := _) (Wk.refl _ _) ?_
    refine AC.condT (Evl.tmp rfl) ?_
    refine AC.sr ?_
    refine AL.cons rfl (Does.assignC Evl.bool rfl) ?_
    refine AL.nilS ?_
    refine AC.ret ?_
    subst hO
    have e17 : (false : Bool) = (decide (Fit a x y)) := by
     exact fit_no (k := k) (by omega) (fun h => by first | exact absurd ((fitAt_ne (by assumption) (by assumption) (by assumption)).1 h) (by assumption) | exact fitAt_eq1 (by assumption) (by assumption) (by assumption) h | exact fitAt_eq2 (by assumption) (by assumption) (by assumption) h)
    exact fin_pure (Res.one rfl (Rs.tmp rfl)) ((congrArg (fun z_ => lf (dB z_)) e17)) rfl
  ·have _h := hb9
   have hb9' : ¬ ((k : Int) = a.2.1) := nd_true hb9
   refine AC.condT (Evl.tmp rfl) ?_
   refine AC.seq ?_
   obtain ⟨c18, hc19⟩ : ∃ z, x[((k : Int)).toNat]? = some z := ⟨_, getElem?_pos _ _ (by omega)⟩
   obtain ⟨c20, hc21⟩ : ∃ z, y[((k : Int)).toNat]? = some z := ⟨_, getElem?_pos _ _ (by omega)⟩
   refine AC.drawL [⟨some 18, lf (dS x), []⟩, ⟨some 19, lf (dI (k : Int)), []⟩, ⟨some 20, lf (.dat .u8 c18), []⟩, ⟨some 21, lf (dS y), []⟩, ⟨some 22, lf (dI (k : Int)), []⟩, ⟨some 23, lf (.dat .u8 c20), []⟩, ⟨some 24, lf (dB (!decide (c18 = c20))), []⟩] [[], [], [0, 1], [], [], [3, 4], [0, 1, 2, 3, 4, 5]] mixed rfl (by kernel_rfl) ?_ ?_
   · refine ⟨fun s_ hs => Acts.of1 rfl (Does.move (hs.tm 1 rfl) rfl) rfl, fun s_ hs => Acts.of1 rfl (Does.move (hs.tm 7 rfl) rfl) rfl, fun s_ hs => Acts.of1 rfl (Does.indexS (Evl.tmp (hs.tm 18 rfl)) (Evl.tmp (hs.tm 19 rfl)) rfl und_9 (by omega) hc19) rfl, fun s_ hs => Acts.of1 rfl (Does.move (hs.tm 2 rfl) rfl) rfl, fun s_ hs => Acts.of1 rfl (Does.move (hs.tm 7 rfl) rfl) rfl, fun s_ hs => Acts.of1 rfl (Does.indexS (Evl.tmp (hs.tm 21 rfl)) (Evl.tmp (hs.tm 22 rfl)) rfl und_9 (by omega) hc21) rfl, fun s_ hs => Acts.of1 rfl (Does.neqU (Evl.tmp (hs.tm 20 rfl)) (Evl.tmp (hs.tm 23 rfl)) rfl) rfl, trivial⟩
   refine (?_ : AC _ _ _ _ _)
   refine AC.wk (s' := _) (Wk.refl _ _) ?_
   cases hb22 : (!decide (c18 = c20))
   ·have _h := hb22
    have hb22' : (c18 = c20) := nd_false hb22
    refine AC.condF (Evl.tmp rfl) ?_
    refine AC.skip ?_
    refine (?_ : AC _ _ _ _ _)
    refine AC.region ?_
    refine AL.cons rfl (Does.add (Evl.tmp rfl) (Evl.int rfl) rfl (by omega)) ?_
    refine AL.cons rfl (Does.move rfl rfl) ?_
    refine AL.nil ?_
    refine lend ⟨k + 1, by omega, rfl, (fit_step hF (by first | exact (fitAt_ne (by assumption) (by assumption) (by assumption)).2 (by assumption) | exact fitAt_eq3 (by assumption) (by assumption) (by assumption) (by assumption) (by assumption))), rfl⟩ (by omega) ?_
    exact Wk.of [(0, 0)] rfl ⟨rfl, rfl, rfl, rfl, rfl, trivial⟩ ⟨rfl, trivial⟩ rfl rfl
   ·have _h := hb22
    have hb22' : ¬ (c18 = c20) := nd_true hb22
    refine AC.condT (Evl.tmp rfl) ?_
    refine AC.sr ?_
    refine AL.cons rfl (Does.assignC Evl.bool rfl) ?_
    refine AL.nilS ?_
    refine AC.ret ?_
    subst hO
    have e23 : (false : Bool) = (decide (Fit a x y)) := by
     exact fit_no (k := k) (by omega) (fun h => by first | exact absurd ((fitAt_ne (by assumption) (by assumption) (by assumption)).1 h) (by assumption) | exact fitAt_eq1 (by assumption) (by assumption) (by assumption) h | exact fitAt_eq2 (by assumption) (by assumption) (by assumption) h)
    exact fin_pure (Res.one rfl (Rs.tmp rfl)) ((congrArg (fun z_ => lf (dB z_)) e23)) rfl

set_option maxRecDepth 100000 in
set_option maxHeartbeats 4000000 in
theorem fc_spec_l5Set (code : ByteArray) (sig : Int) (b : ByteArray) (hs : 0 ≤ sig ∧ sig < (code.size : Int)) (hb : code.size ≤ 1000000 ∧ b.size ≤ 1000000) : FC Try.prog 216 [(false, [dS code]), (false, [dI sig]), (false, [dS b])] [] 0 (Pure (lf (dS (setB code sig b)))) := by
 refine FC.O_all fun O_ hO => FC.ren (FC.of Try.func216 rfl rfl fun A_ hn_ hk_ => ?_)
 obtain ⟨w0_, N0_, X_, n_, k0_, h0_, f0_⟩ := A_
 obtain rfl : n_ = 17 := hn_.trans Try.ntmps216
 obtain rfl : k0_ = 0 := hk_
 refine AC.fact (fact_int (x := .tmp 1) (Evl.tmp rfl)) fun hi1 => ?_
 refine AC.sr ?_
 refine AL.cons rfl (Does.assignC (Evl.str rfl) rfl) ?_
 refine AL.nilS ?_
 refine AC.seq ?_
 refine AC.drawL [⟨some 7, lf (dS code), []⟩, ⟨some 8, lf (dI sig), []⟩, ⟨some 9, lf (dS (code.extract 0 (sig).toNat)), []⟩, ⟨some 10, lf (dS b), []⟩, ⟨some 11, lf (dS ((code.extract 0 (sig).toNat) ++ b)), []⟩, ⟨some 12, lf (dS code), []⟩, ⟨some 13, lf (dI sig), []⟩, ⟨some 14, lf (dI (sig + 1)), []⟩, ⟨some 15, lf (dS (code.extract (sig + 1).toNat code.size)), []⟩, ⟨some 16, lf (dS (((code.extract 0 (sig).toNat) ++ b) ++ (code.extract (sig + 1).toNat code.size))), []⟩, ⟨some 6, lf (dS (((code.extract 0 (sig).toNat) ++ b) ++ (code.extract (sig + 1).toNat code.size))), []⟩] [[], [], [0, 1], [], [0, 1, 2, 3], [], [], [6], [5, 6, 7], [0, 1, 2, 3, 4, 5, 6, 7, 8], [0, 1, 2, 3, 4, 5, 6, 7, 8, 9]] mixed rfl (by kernel_rfl) ?_ ?_
 · refine ⟨fun s_ hs => Acts.of1 rfl (Does.move (hs.tm 0 rfl) rfl) rfl, fun s_ hs => Acts.of1 rfl (Does.move (hs.tm 1 rfl) rfl) rfl, fun s_ hs => Acts.of1 rfl (show Does _ _ _ _ (St.put _ 9 (lf (dS (code.extract 0 (sig).toNat)))) from Does.sliceS (l := none) (h := (some sig)) (Evl.tmp (hs.tm 7 rfl)) (by exact trivial) (by exact (Evl.tmp (hs.tm 8 rfl))) und_9 rfl (by first | omega | (simp only [Option.getD_none, Option.getD_some]; omega)) (by first | omega | (simp only [Option.getD_none, Option.getD_some]; omega)) (by first | omega | (simp only [Option.getD_none, Option.getD_some]; omega))) rfl, fun s_ hs => Acts.of1 rfl (Does.move (hs.tm 2 rfl) rfl) rfl, fun s_ hs => Acts.of1 rfl (Does.addS (Evl.tmp (hs.tm 9 rfl)) (Evl.tmp (hs.tm 10 rfl)) rfl (by first | omega | (simp only [ByteArray.size_append, ByteArray.size_extract]; omega))) rfl, fun s_ hs => Acts.of1 rfl (Does.move (hs.tm 0 rfl) rfl) rfl, fun s_ hs => Acts.of1 rfl (Does.move (hs.tm 1 rfl) rfl) rfl, fun s_ hs => Acts.of1 rfl (Does.add (Evl.tmp (hs.tm 13 rfl)) (Evl.int rfl) rfl (by omega)) rfl, fun s_ hs => Acts.of1 rfl (show Does _ _ _ _ (St.put _ 15 (lf (dS (code.extract (sig + 1).toNat code.size)))) from Does.sliceS (l := (some (sig + 1))) (h := none) (Evl.tmp (hs.tm 12 rfl)) (by exact (Evl.tmp (hs.tm 14 rfl))) (by exact trivial) und_9 rfl (by first | omega | (simp only [Option.getD_none, Option.getD_some]; omega)) (by first | omega | (simp only [Option.getD_none, Option.getD_some]; omega)) (by first | omega | (simp only [Option.getD_none, Option.getD_some]; omega))) rfl, fun s_ hs => Acts.of1 rfl (Does.addS (Evl.tmp (hs.tm 11 rfl)) (Evl.tmp (hs.tm 15 rfl)) rfl (by first | omega | (simp only [ByteArray.size_append, ByteArray.size_extract]; omega))) rfl, fun s_ hs => Acts.of1 rfl (Does.assign (hs.tm 16 rfl) rfl) rfl, trivial⟩
 refine (?_ : AC _ _ _ _ _)
 refine AC.wk (s' := _) (Wk.refl _ _) ?_
 refine AC.ret ?_
 subst hO
 have e2 : (((code.extract 0 (sig).toNat) ++ b) ++ (code.extract (sig + 1).toNat code.size) : ByteArray) = (setB code sig b) := by
  rfl
 exact fin_pure (Res.one rfl (Rs.tmp rfl)) ((congrArg (fun z_ => lf (dS z_)) e2)) rfl

end Go.Proofs.Ytbelopdphlllnaa
