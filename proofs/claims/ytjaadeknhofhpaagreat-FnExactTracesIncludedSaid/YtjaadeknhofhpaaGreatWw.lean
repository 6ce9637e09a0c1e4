/- Walks over abstract states: valid reachability graphs, dead transitions, deadlocks. -/
import Derived.Test.YtjaadeknhofhpaaGreatWq
set_option linter.unusedSimpArgs false
set_option linter.unusedVariables false
set_option linter.unusedSectionVars false
namespace Go.Proofs.YtjaadeknhofhpaaGreat
open Go.RowKit
set_option maxRecDepth 100000
set_option maxHeartbeats 4000000

abbrev DRg := List ByteArray × List DMv
instance (n m : Nat) (v : DMv) : Decidable (MvOk n m v) := inferInstanceAs (Decidable (_ ∧ _))
def GoodR (r : DRg) : Prop := (1 ≤ r.1.length ∧ r.1.length ≤ 300) ∧ r.2.length ≤ 4000 ∧ r.1.Nodup ∧ ∀ v ∈ r.2, MvOk r.1.length 24 v
instance (r : DRg) : Decidable (GoodR r) := inferInstanceAs (Decidable (_ ∧ _))
def seenL (l : List ByteArray) : List (ByteArray × Bool) := l.foldl (fun m x => mset .str m x true) []
section
variable {r : DRg} {k : Nat} {x y : ByteArray} {v : DMv} {l : List ByteArray} {m : List (ByteArray × Bool)}
end
/-- The numbers below k at which f does not hold. -/
def freeI (f : Int → Bool) : Nat → List Int
  | 0 => []
  | k + 1 => freeI f k ++ (if f (k : Int) = true then [] else [(k : Int)])
section
variable {f : Int → Bool} {k n : Nat} {α : Type _} {l : List α} {p : α → Bool} {x : α}
end
def byT (r : DRg) (t : Int) : Bool := r.2.any fun v => decide (v.2.1 = t)
def fromK (r : DRg) (t : Int) : Bool := r.2.any fun v => decide (v.1 = t)
def mfV (r : DRg) (k : Int) : List DMv × Bool := if GoodR r ∧ 0 ≤ k ∧ k < r.1.length then (r.2.filter fun v => decide (v.1 = k), true) else ([], false)
def dlV (r : DRg) : List Int × Bool := if GoodR r then (freeI (fromK r) r.1.length, true) else ([], false)
section
variable [∀ s, Decidable (StgOk s)]
def dtV (s : DSTG) (r : DRg) : List Int × Bool := if StgOk s ∧ GoodR r then (freeI (byT r) s.2.2.1.length, true) else ([], false)
end
def filtK (k : Int) (ms : List DMv) : List DMv := ms.filter fun v => decide (v.1 = k)
end Go.Proofs.YtjaadeknhofhpaaGreat

/- Walks over abstract states: codes, edges and arcs of state graphs. -/
namespace Go.Proofs.YtjaadeknhofhpaaGreat
open Go.RowKit
set_option maxRecDepth 100000
set_option maxHeartbeats 4000000

theorem Does.asB {A : Amb} {P : Program} {o : Oper} {s : St} {d : Nat} {b b' : Bool} (e : b = b') (h : Does A P o s (s.put d (lf (dB b)))) : Does A P o s (s.put d (lf (dB b'))) := e ▸ h
abbrev DSg := List (ByteArray × Int) × List ByteArray × List DAr
theorem fc_impl_areSignals (ss : List DSignal) [Decidable (SigsOk ss)] : FC Tryz.prog 164 [(false, [.dat (.sl 90 tSignal) ss])] [] 0 (Pure (lf (dB (decide (SigsOk ss))))) := FC.ofB fun gh w vs h => by
  obtain ⟨v, rfl, hr⟩ := h.leaf1
  exact (areSignals_any v ss w hr).mono fun _ _ h => retB_dec h
theorem fc_spec_l2Signals (ss : List DSignal) [Decidable (SigsOk ss)] : FC Tryz.prog 171 [(false, [.dat (.sl 90 tSignal) ss])] [] 0 (Pure (lf (dB (decide (SigsOk ss))))) := FC.ofB fun gh w vs h => by
  obtain ⟨v, rfl, hr⟩ := h.leaf1
  exact (l2Signals_any v ss w hr).mono fun _ _ h => retB_dec h
def LabI (n : Int) (l : DLabel) : Prop := (0 ≤ l.1 ∧ l.1 ≤ n - 1) ∨ (l.1 = -1 ∧ l.2 = false)
instance (n : Int) (l : DLabel) : Decidable (LabI n l) := inferInstanceAs (Decidable (_ ∨ _))
/-- A code: so many bits. -/
def BitsL (s : ByteArray) (n : Int) : Prop := (∀ c ∈ s.toList, c = 48 ∨ c = 49) ∧ (s.size : Int) = n
instance (s : ByteArray) (n : Int) : Decidable (BitsL s n) := inferInstanceAs (Decidable (_ ∧ _))
section
variable {n : Int} {l : DLabel} {s x y : ByteArray} {k : Nat} {c d : UInt8} {a : DAr}
theorem lab_yes (h : 0 ≤ l.1 ∧ l.1 ≤ n - 1) : true = decide (LabI n l) := (decide_eq_true (.inl h)).symm
theorem lab_edge (h : ¬ (0 ≤ l.1 ∧ l.1 ≤ n - 1)) : Ty.beq tLabel l (-1, false) = decide (LabI n l) := by
  rw [Bool.eq_iff_iff, Ty.beq_iff, decide_eq_true_eq]
  constructor
  · rintro rfl; exact .inr ⟨rfl, rfl⟩
  · rintro (h1 | h1)
    · exact absurd h1 h
    · exact Prod.ext h1.1 h1.2
theorem lab_l2 (h : ¬ (0 ≤ l.1 ∧ l.1 ≤ n - 1)) (h1 : l.1 = -1) : (!l.2) = decide (LabI n l) := by
  rw [Bool.eq_iff_iff, decide_eq_true_eq]
  constructor
  · intro h2; exact .inr ⟨h1, by simpa using h2⟩
  · rintro (h2 | h2)
    · exact absurd h2 h
    · simp [h2.2]
theorem lab_no (h : ¬ (0 ≤ l.1 ∧ l.1 ≤ n - 1)) (h1 : ¬ l.1 = -1) : false = decide (LabI n l) := (decide_eq_false (by rintro (h2 | h2); exact h h2; exact h1 h2.1)).symm
theorem list_at (h : s[((k : Int)).toNat]? = some c) : s.toList[k]? = some c := by
  have h : s[k]? = some c := h
  rw [ByteArray.toList_eq]
  obtain ⟨hk, h2⟩ : ∃ hk : k < s.size, s[k] = c := by
    by_cases hk : k < s.size
    · rw [getElem?_pos s k hk] at h; exact ⟨hk, Option.some.inj h⟩
    · rw [getElem?_neg s k hk] at h; cases h
  rw [List.getElem?_eq_getElem (by simpa using hk)]
  rw [← h2]; simp; rfl
theorem bits_step (hB : ∀ j, j < k → ∀ c, s.toList[j]? = some c → c = 48 ∨ c = 49) (hx : s[((k : Int)).toNat]? = some c) (h : c = 48 ∨ c = 49) : ∀ j, j < k + 1 → ∀ c, s.toList[j]? = some c → c = 48 ∨ c = 49 := fun j hj d hd => by
  by_cases e : j = k
  · subst e; rw [list_at hx] at hd; cases hd; exact h
  · exact hB j (by omega) d hd
theorem bits_no (hx : s[((k : Int)).toNat]? = some c) (h1 : ¬ c = 48) (h2 : ¬ c = 49) : false = decide (BitsL s n) := (decide_eq_false fun h => by
  rcases h.1 c (List.mem_of_getElem? (list_at hx)) with h | h
  · exact h1 h
  · exact h2 h).symm
theorem bits_fin (hB : ∀ j, j < k → ∀ c, s.toList[j]? = some c → c = 48 ∨ c = 49) (hk : s.size ≤ k) : decide ((s.size : Int) = n) = decide (BitsL s n) := decide_eq_decide.2 ⟨fun h => ⟨fun c hc => by
    obtain ⟨j, hj⟩ := List.mem_iff_getElem?.1 hc
    have := (List.getElem?_eq_some_iff.1 hj).1
    rw [bl_len] at this
    exact hB j (by omega) c hj, h⟩, fun h => h.2⟩
/-- An arc's two codes at one place. -/
def FitAt (a : DAr) (x y : ByteArray) (j : Nat) : Prop := if (j : Int) = a.2.1 then (decide (bAt x j = 49) = !a.2.2.1 ∧ decide (bAt y j = 49) = a.2.2.1) else bAt x j = bAt y j
instance (a : DAr) (x y : ByteArray) (j : Nat) : Decidable (FitAt a x y j) := by unfold FitAt; exact inferInstance
def Fit (a : DAr) (x y : ByteArray) : Prop := ∀ j, j < x.size → FitAt a x y j
instance (a : DAr) (x y : ByteArray) : Decidable (Fit a x y) := by unfold Fit; exact inferInstance
theorem fit_step (hF : ∀ j, j < k → FitAt a x y j) (h : FitAt a x y k) : ∀ j, j < k + 1 → FitAt a x y j := fun j hj => by
  by_cases e : j = k
  · subst e; exact h
  · exact hF j (by omega)
theorem fit_no (hk : k < x.size) (h : ¬ FitAt a x y k) : false = decide (Fit a x y) := (decide_eq_false fun h1 => h (h1 k hk)).symm
theorem fit_yes (hF : ∀ j, j < k → FitAt a x y j) (hk : x.size ≤ k) : true = decide (Fit a x y) := (decide_eq_true fun j hj => hF j (by omega)).symm
theorem fitAt_ne (h : ¬ (k : Int) = a.2.1) (hx : x[((k : Int)).toNat]? = some c) (hy : y[((k : Int)).toNat]? = some d) : FitAt a x y k ↔ c = d := by
  unfold FitAt; rw [if_neg h, bAt_get hx, bAt_get hy]
theorem fitAt_eq (h : (k : Int) = a.2.1) (hx : x[((k : Int)).toNat]? = some c) (hy : y[((k : Int)).toNat]? = some d) : FitAt a x y k ↔ (decide (c = 49) = !a.2.2.1 ∧ decide (d = 49) = a.2.2.1) := by
  unfold FitAt; rw [if_pos h, bAt_get hx, bAt_get hy]
theorem fitAt_eq1 (h : (k : Int) = a.2.1) (hx : x[((k : Int)).toNat]? = some c) (h1 : (decide (c = 49) == a.2.2.1) = true) : ¬ FitAt a x y k := by
  unfold FitAt; rw [if_pos h, bAt_get hx]
  rintro ⟨h2, _⟩
  rw [h2] at h1
  cases ha : a.2.2.1 <;> rw [ha] at h1 <;> cases h1
theorem fitAt_eq2 (h : (k : Int) = a.2.1) (hy : y[((k : Int)).toNat]? = some d) (h1 : (decide (d = 49) == a.2.2.1) = false) : ¬ FitAt a x y k := by
  unfold FitAt; rw [if_pos h, bAt_get hy]
  rintro ⟨_, h2⟩
  rw [h2] at h1
  cases ha : a.2.2.1 <;> rw [ha] at h1 <;> cases h1
theorem fitAt_eq3 (h : (k : Int) = a.2.1) (hx : x[((k : Int)).toNat]? = some c) (hy : y[((k : Int)).toNat]? = some d) (h1 : (decide (c = 49) == a.2.2.1) = false) (h2 : (decide (d = 49) == a.2.2.1) = true) : FitAt a x y k := by
  rw [fitAt_eq h hx hy]
  cases ha : a.2.2.1 <;> rw [ha] at h1 h2 <;> cases hc : decide (c = 49) <;> rw [hc] at h1 <;> cases hd : decide (d = 49) <;> rw [hd] at h2 <;> first | exact ⟨rfl, rfl⟩ | exact absurd h1 (by decide) | exact absurd h2 (by decide)
def setB (code : ByteArray) (sig : Int) (b : ByteArray) : ByteArray := (code.extract 0 sig.toNat ++ b) ++ code.extract (sig + 1).toNat code.size
end

theorem fc_impl_isEdge (l : Int × Bool) (n : Int) (hn : 0 ≤ n ∧ n ≤ 1000000) : FC Tryz.prog 167 [(true, [dI l.1, dB l.2]), (false, [dI n])] [] 0 (Pure (lB (decide (LabI n l)))) := by
 refine FC.go Tryz.func167 rfl rfl Tryz.ntmps167 fun O_ hO w0_ N0_ X_ h0_ f0_ => ?_
 refine AC.fact (fact_ag (x := .tmp 0) (i := 0) (Ev.tmp rfl) rfl) fun hi1 => AC.fact (fact_int (x := .tmp 1) (Evl.tmp rfl)) fun hi2 => ?_
 refine w_ ?_
 refine xbx 0 ?_
 iterate 7 refine w_ ?_
 refine lc (dK (fc_impl_within l.1 0 (n - 1)) enters_84) ?_
 refine w_ ?_
 cases hb3 : (decide (0 ≤ l.1 ∧ l.1 ≤ (n - 1)))
 ·have hb3' := of_decide_eq_false hb3
  refine w_ ?_
  refine lgy rfl rfl (Does.build bld_55 ⟨_, _, rfl, (Evl.ev (Evl.int rfl)), rfl⟩ (List.all_eq_true.1 rfl) rfl rfl) <| lgy rfl rfl (Does.eqlG eqt_55 eqg_55 (Ev.tmp rfl) (Ev.tmp rfl) (p := l) (q := ((-1), false)) rfl rfl rfl) ?_
  iterate 3 refine w_ ?_
  refine AC.ret ?_
  subst hO
  have e4 : (Ty.beq (.pr .int .bool) l ((-1), false) : Bool) = (decide (LabI n l)) := by
   exact lab_edge (by assumption)
  exact fin_pure (Res.one rfl (Rs.tmp rfl)) ((congrArg (fun z_ => lB z_) e4)) rfl
 ·have hb3' := of_decide_eq_true hb3
  iterate 6 refine w_ ?_
  refine AC.ret ?_
  subst hO
  have e5 : (true : Bool) = (decide (LabI n l)) := by
   exact lab_yes (by assumption)
  exact fin_pure (Res.one rfl (Rs.tmp rfl)) ((congrArg (fun z_ => lB z_) e5)) rfl

theorem fc_spec_l2Label (l : Int × Bool) (n : Int) (hn : 0 ≤ n ∧ n ≤ 1000000) : FC Tryz.prog 169 [(true, [dI l.1, dB l.2]), (false, [dI n])] [] 0 (Pure (lB (decide (LabI n l)))) := by
 refine FC.go Tryz.func169 rfl rfl Tryz.ntmps169 fun O_ hO w0_ N0_ X_ h0_ f0_ => ?_
 refine AC.fact (fact_ag (x := .tmp 0) (i := 0) (Ev.tmp rfl) rfl) fun hi1 => AC.fact (fact_int (x := .tmp 1) (Evl.tmp rfl)) fun hi2 => ?_
 refine w_ ?_
 refine xbx 0 ?_
 iterate 7 refine w_ ?_
 refine lc (dK (fc_spec_l1In l.1 0 (n - 1)) enters_174) ?_
 refine w_ ?_
 cases hb3 : (decide (0 ≤ l.1 ∧ l.1 ≤ (n - 1)))
 ·have hb3' := of_decide_eq_false hb3
  iterate 4 refine w_ ?_
  cases hb4 : (decide (l.1 = (-1)))
  ·have hb4' := of_decide_eq_false hb4
   iterate 7 refine w_ ?_
   refine AC.ret ?_
   subst hO
   have e5 : (false : Bool) = (decide (LabI n l)) := by
    exact lab_no (by assumption) (by assumption)
   exact fin_pure (Res.one rfl (Rs.tmp rfl)) ((congrArg (fun z_ => lB z_) e5)) rfl
  ·have hb4' := of_decide_eq_true hb4
   iterate 7 refine w_ ?_
   refine AC.ret ?_
   subst hO
   have e6 : (!l.2 : Bool) = (decide (LabI n l)) := by
    exact lab_l2 (by assumption) (by assumption)
   exact fin_pure (Res.one rfl (Rs.tmp rfl)) ((congrArg (fun z_ => lB z_) e6)) rfl
 ·have hb3' := of_decide_eq_true hb3
  iterate 4 refine w_ ?_
  refine AL.guard_un rfl rfl rfl ?_ rfl
  refine AL.guard_un rfl rfl rfl ?_ rfl
  refine AL.guard_un rfl rfl rfl ?_ rfl
  iterate 4 refine w_ ?_
  refine AC.ret ?_
  subst hO
  have e7 : (true : Bool) = (decide (LabI n l)) := by
   exact lab_yes (by assumption)
  exact fin_pure (Res.one rfl (Rs.tmp rfl)) ((congrArg (fun z_ => lB z_) e7)) rfl

theorem fc_impl_isBits (s : ByteArray) (n : Int)  : FC Tryz.prog 176 [(false, [dS s]), (false, [dI n])] [] 0 (Pure (lB (decide (BitsL s n)))) := by
 refine FC.go Tryz.func176 rfl rfl Tryz.ntmps176 fun O_ hO w0_ N0_ X_ h0_ f0_ => ?_
 refine AC.fact (fact_int (x := .tmp 1) (Evl.tmp rfl)) fun hi1 => ?_
 iterate 8 refine w_ ?_
 refine AC.loopW (fun m_ s_ => ∃ (k : Nat), k ≤ s.size ∧ m_ = s.size - k ∧ (∀ j, j < k → ∀ c, s.toList[j]? = some c → c = 48 ∨ c = 49) ∧ s_ = ⟨[(0, lf (dS s)), (1, lI n), (5, lI (k : Int))], []⟩) ⟨0, Nat.zero_le _, rfl, (fun j hj => absurd hj (Nat.not_lt_zero j)), rfl⟩ ?_ ?_
 · exact Wk.of [] rfl ⟨rfl, rfl, rfl, trivial⟩ trivial rfl rfl
 rintro m_ s_ ⟨k, hk2, hm3, hB, rfl⟩
 iterate 4 refine w_ ?_
 refine AL.fact (fact_lenS (x := .tmp 7) (Evl.tmp rfl)) fun hl4 => lc (Does.lenS (Evl.tmp rfl) rfl und_9) ?_
 iterate 2 refine w_ ?_
 cases hb5 : (decide ((k : Int) < (s.size : Int)))
 ·have hb5' := of_decide_eq_false hb5
  refine w_ ?_
  refine AC.exit ?_
  refine (?_ : AC _ _ _ _ _)
  iterate 2 refine w_ ?_
  refine AL.fact (fact_lenS (x := .tmp 22) (Evl.tmp rfl)) fun hl6 => lc (Does.lenS (Evl.tmp rfl) rfl und_9) ?_
  iterate 4 refine w_ ?_
  refine AC.ret ?_
  subst hO
  have e7 : (decide ((s.size : Int) = n) : Bool) = (decide (BitsL s n)) := by
   exact bits_fin hB (by omega)
  exact fin_pure (Res.one rfl (Rs.tmp rfl)) ((congrArg (fun z_ => lB z_) e7)) rfl
 ·have hb5' := of_decide_eq_true hb5
  iterate 7 refine w_ ?_
  obtain ⟨c8, hc9⟩ : ∃ z, s[((k : Int)).toNat]? = some z := ⟨_, getElem?_pos _ _ (by omega)⟩
  refine w_ ?_
  refine lc (Does.neqU (Evl.tmp rfl) (Evl.u8 48 rfl) rfl) ?_
  refine w_ ?_
  cases hb10 : (!decide (c8 = 48))
  ·have hb10' : (c8 = 48) := nd_false hb10
   iterate 7 refine w_ ?_
   refine AC.skip ?_
   refine (?_ : AC _ _ _ _ _)
   iterate 4 refine w_ ?_
   refine AL.nil <| lend ⟨k + 1, by omega, rfl, (bits_step hB (by assumption) (by first | exact .inl (by assumption) | exact .inr (by assumption))), rfl⟩ (by omega) ?_
   exact Wk.of [] rfl ⟨rfl, rfl, rfl, trivial⟩ trivial rfl rfl
  ·have hb10' : ¬ (c8 = 48) := nd_true hb10
   iterate 3 refine w_ ?_
   refine lgy rfl rfl (Does.neqU (Evl.tmp rfl) (Evl.u8 49 rfl) rfl) ?_
   iterate 2 refine w_ ?_
   cases hb11 : (!decide (c8 = 49))
   ·have hb11' : (c8 = 49) := nd_false hb11
    refine w_ ?_
    refine AC.skip ?_
    refine (?_ : AC _ _ _ _ _)
    iterate 4 refine w_ ?_
    refine AL.nil <| lend ⟨k + 1, by omega, rfl, (bits_step hB (by assumption) (by first | exact .inl (by assumption) | exact .inr (by assumption))), rfl⟩ (by omega) ?_
    exact Wk.of [] rfl ⟨rfl, rfl, rfl, trivial⟩ trivial rfl rfl
   ·have hb11' : ¬ (c8 = 49) := nd_true hb11
    iterate 4 refine w_ ?_
    refine AC.ret ?_
    subst hO
    have e12 : (false : Bool) = (decide (BitsL s n)) := by
     exact bits_no (k := k) (by assumption) (by assumption) (by assumption)
    exact fin_pure (Res.one rfl (Rs.tmp rfl)) ((congrArg (fun z_ => lB z_) e12)) rfl

theorem fc_spec_l5Code (s : ByteArray) (n : Int)  : FC Tryz.prog 181 [(false, [dS s]), (false, [dI n])] [] 0 (Pure (lB (decide (BitsL s n)))) := by
 refine FC.go Tryz.func181 rfl rfl Tryz.ntmps181 fun O_ hO w0_ N0_ X_ h0_ f0_ => ?_
 refine AC.fact (fact_int (x := .tmp 1) (Evl.tmp rfl)) fun hi1 => ?_
 iterate 8 refine w_ ?_
 refine AC.loopW (fun m_ s_ => ∃ (k : Nat), k ≤ s.size ∧ m_ = s.size - k ∧ (∀ j, j < k → ∀ c, s.toList[j]? = some c → c = 48 ∨ c = 49) ∧ s_ = ⟨[(0, lf (dS s)), (1, lI n), (5, lI (k : Int))], []⟩) ⟨0, Nat.zero_le _, rfl, (fun j hj => absurd hj (Nat.not_lt_zero j)), rfl⟩ ?_ ?_
 · exact Wk.of [] rfl ⟨rfl, rfl, rfl, trivial⟩ trivial rfl rfl
 rintro m_ s_ ⟨k, hk2, hm3, hB, rfl⟩
 iterate 4 refine w_ ?_
 refine AL.fact (fact_lenS (x := .tmp 7) (Evl.tmp rfl)) fun hl4 => lc (Does.lenS (Evl.tmp rfl) rfl und_9) ?_
 iterate 2 refine w_ ?_
 cases hb5 : (decide ((k : Int) < (s.size : Int)))
 ·have hb5' := of_decide_eq_false hb5
  refine w_ ?_
  refine AC.exit ?_
  refine (?_ : AC _ _ _ _ _)
  iterate 2 refine w_ ?_
  refine AL.fact (fact_lenS (x := .tmp 22) (Evl.tmp rfl)) fun hl6 => lc (Does.lenS (Evl.tmp rfl) rfl und_9) ?_
  iterate 4 refine w_ ?_
  refine AC.ret ?_
  subst hO
  have e7 : (decide ((s.size : Int) = n) : Bool) = (decide (BitsL s n)) := by
   exact bits_fin hB (by omega)
  exact fin_pure (Res.one rfl (Rs.tmp rfl)) ((congrArg (fun z_ => lB z_) e7)) rfl
 ·have hb5' := of_decide_eq_true hb5
  iterate 7 refine w_ ?_
  obtain ⟨c8, hc9⟩ : ∃ z, s[((k : Int)).toNat]? = some z := ⟨_, getElem?_pos _ _ (by omega)⟩
  refine w_ ?_
  refine lc (Does.neqU (Evl.tmp rfl) (Evl.u8 48 rfl) rfl) ?_
  refine w_ ?_
  cases hb10 : (!decide (c8 = 48))
  ·have hb10' : (c8 = 48) := nd_false hb10
   iterate 7 refine w_ ?_
   refine AC.skip ?_
   refine (?_ : AC _ _ _ _ _)
   iterate 4 refine w_ ?_
   refine AL.nil <| lend ⟨k + 1, by omega, rfl, (bits_step hB (by assumption) (by first | exact .inl (by assumption) | exact .inr (by assumption))), rfl⟩ (by omega) ?_
   exact Wk.of [] rfl ⟨rfl, rfl, rfl, trivial⟩ trivial rfl rfl
  ·have hb10' : ¬ (c8 = 48) := nd_true hb10
   iterate 3 refine w_ ?_
   refine lgy rfl rfl (Does.neqU (Evl.tmp rfl) (Evl.u8 49 rfl) rfl) ?_
   iterate 2 refine w_ ?_
   cases hb11 : (!decide (c8 = 49))
   ·have hb11' : (c8 = 49) := nd_false hb11
    refine w_ ?_
    refine AC.skip ?_
    refine (?_ : AC _ _ _ _ _)
    iterate 4 refine w_ ?_
    refine AL.nil <| lend ⟨k + 1, by omega, rfl, (bits_step hB (by assumption) (by first | exact .inl (by assumption) | exact .inr (by assumption))), rfl⟩ (by omega) ?_
    exact Wk.of [] rfl ⟨rfl, rfl, rfl, trivial⟩ trivial rfl rfl
   ·have hb11' : ¬ (c8 = 49) := nd_true hb11
    iterate 4 refine w_ ?_
    refine AC.ret ?_
    subst hO
    have e12 : (false : Bool) = (decide (BitsL s n)) := by
     exact bits_no (k := k) (by assumption) (by assumption) (by assumption)
    exact fin_pure (Res.one rfl (Rs.tmp rfl)) ((congrArg (fun z_ => lB z_) e12)) rfl

theorem fc_impl_fitsCodes (a : Int × Int × Bool × Int) (x : ByteArray) (y : ByteArray) (hxy : x.size ≤ y.size) : FC Tryz.prog 177 [(true, [dI a.1, dI a.2.1, dB a.2.2.1, dI a.2.2.2]), (false, [dS x]), (false, [dS y])] [] 0 (Pure (lB (decide (Fit a x y)))) := by
 refine FC.go Tryz.func177 rfl rfl Tryz.ntmps177 fun O_ hO w0_ N0_ X_ h0_ f0_ => ?_
 refine AC.fact (fact_ag (x := .tmp 0) (i := 0) (Ev.tmp rfl) rfl) fun hi1 => AC.fact (fact_ag (x := .tmp 0) (i := 1) (Ev.tmp rfl) rfl) fun hi2 => AC.fact (fact_ag (x := .tmp 0) (i := 3) (Ev.tmp rfl) rfl) fun hi3 => ?_
 refine w_ ?_
 refine xbx 0 ?_
 iterate 5 refine w_ ?_
 refine AL.fact (fact_lenS (x := .tmp 8) (Evl.tmp rfl)) fun hl4 => lc (Does.lenS (Evl.tmp rfl) rfl und_9) ?_
 iterate 3 refine w_ ?_
 refine AC.loopW (fun m_ s_ => ∃ (k : Nat), k ≤ x.size ∧ m_ = x.size - k ∧ (∀ j, j < k → FitAt a x y j) ∧ s_ = ⟨[(1, lf (dS x)), (2, lf (dS y)), (3, lP 0 0), (9, lI (x.size : Int)), (10, lI (k : Int))], [(0, some (.box 106 [dI a.1, dI a.2.1, dB a.2.2.1, dI a.2.2.2]))]⟩) ⟨0, Nat.zero_le _, rfl, (fun j hj => absurd hj (Nat.not_lt_zero j)), rfl⟩ ?_ ?_
 · exact Wk.of [] rfl ⟨rfl, rfl, rfl, rfl, rfl, trivial⟩ ⟨rfl, trivial⟩ rfl rfl
 rintro m_ s_ ⟨k, hk5, hm6, hF, rfl⟩
 iterate 4 refine w_ ?_
 cases hb7 : (decide ((k : Int) < (x.size : Int)))
 ·have hb7' := of_decide_eq_false hb7
  refine w_ ?_
  refine AC.exit ?_
  refine (?_ : AC _ _ _ _ _)
  iterate 3 refine w_ ?_
  refine AC.ret ?_
  subst hO
  have e8 : (true : Bool) = (decide (Fit a x y)) := by
   exact fit_yes hF (by omega)
  exact fin_pure (Res.one rfl (Rs.tmp rfl)) ((congrArg (fun z_ => lB z_) e8)) rfl
 ·have hb7' := of_decide_eq_true hb7
  iterate 16 refine w_ ?_
  cases hb9 : (!decide ((k : Int) = a.2.1))
  ·have hb9' : ((k : Int) = a.2.1) := nd_false hb9
   refine w_ ?_
   obtain ⟨c10, hc11⟩ : ∃ z, x[((k : Int)).toNat]? = some z := ⟨_, getElem?_pos _ _ (by omega)⟩
   cases hb12 : ((decide (c10 = 49)) == a.2.2.1)
   ·obtain ⟨c13, hc14⟩ : ∃ z, y[((k : Int)).toNat]? = some z := ⟨_, getElem?_pos _ _ (by omega)⟩
    apply dW [io 26 _, io 27 _, io 28 _, io 29 (lB (decide (c10 = 49))), io 30 _, io 31 _, io 32 (lB false), io 33 _, io 34 _, io 35 _, io 36 _, io 37 (lB (decide (c13 = 49))), io 38 _, io 39 _, io 40 (lB (!((decide (c13 = 49)) == a.2.2.1))), io 41 _, io 25 _] [0, 1, 0, 0, 15, 15, 0, 0, 0, 256, 0, 0, 3840, 3840, 0, 0, 0]
    iterate 3 refine z_ ?_
    refine zz (fun _ h_ => ac (Does.eqlU (h_.v rfl) (Evl.u8 49 rfl) rfl) rfl) ?_
    iterate 2 refine z_ ?_
    refine zz (fun _ h_ => ac (Does.asB (hb12) (Does.eqlB (h_.v rfl) (h_.v rfl) rfl und_4)) rfl) ?_
    iterate 4 refine z_ ?_
    refine zz (fun _ h_ => day rfl (h_.k rfl) (Does.eqlU (h_.v rfl) (Evl.u8 49 rfl) rfl) rfl) ?_
    iterate 2 refine z_ ?_
    refine zz (fun _ h_ => day rfl (h_.k rfl) (Does.neqB (h_.v rfl) (h_.v rfl) rfl und_4) rfl) ?_
    iterate 2 refine z_ ?_
    exact zN
    cases hb15 : ((decide (c13 = 49)) == a.2.2.1)
    ·iterate 4 refine w_ ?_
     refine AC.ret ?_
     subst hO
     have e16 : (false : Bool) = (decide (Fit a x y)) := by
      exact fit_no (k := k) (by omega) (fun h => by first | exact absurd ((fitAt_ne (by assumption) (by assumption) (by assumption)).1 h) (by assumption) | exact fitAt_eq1 (by assumption) (by assumption) (by assumption) h | exact fitAt_eq2 (by assumption) (by assumption) (by assumption) h)
     exact fin_pure (Res.one rfl (Rs.tmp rfl)) ((congrArg (fun z_ => lB z_) e16)) rfl
    ·refine w_ ?_
     refine AC.skip ?_
     refine (?_ : AC _ _ _ _ _)
     iterate 3 refine w_ ?_
     refine AL.nil <| lend ⟨k + 1, by omega, rfl, (fit_step hF (by first | exact (fitAt_ne (by assumption) (by assumption) (by assumption)).2 (by assumption) | exact fitAt_eq3 (by assumption) (by assumption) (by assumption) (by assumption) (by assumption))), rfl⟩ (by omega) ?_
     exact Wk.of [] rfl ⟨rfl, rfl, rfl, rfl, rfl, trivial⟩ ⟨rfl, trivial⟩ rfl rfl
   ·apply dW [io 26 _, io 27 _, io 28 _, io 29 (lB (decide (c10 = 49))), io 30 _, io 31 _, io 32 (lB true), io 33 _, io 34 _, io 35 _, io 36 _, io 37 _, io 38 _, io 39 _, io 40 _, io 41 _, io 25 _] [0, 1, 0, 0, 15, 15, 0, 0, 0, 256, 0, 0, 3840, 3840, 0, 0, 0]
    iterate 3 refine z_ ?_
    refine zz (fun _ h_ => ac (Does.eqlU (h_.v rfl) (Evl.u8 49 rfl) rfl) rfl) ?_
    iterate 2 refine z_ ?_
    refine zz (fun _ h_ => ac (Does.asB (hb12) (Does.eqlB (h_.v rfl) (h_.v rfl) rfl und_4)) rfl) ?_
    iterate 10 refine z_ ?_
    exact zN
    iterate 4 refine w_ ?_
    refine AC.ret ?_
    subst hO
    have e17 : (false : Bool) = (decide (Fit a x y)) := by
     exact fit_no (k := k) (by omega) (fun h => by first | exact absurd ((fitAt_ne (by assumption) (by assumption) (by assumption)).1 h) (by assumption) | exact fitAt_eq1 (by assumption) (by assumption) (by assumption) h | exact fitAt_eq2 (by assumption) (by assumption) (by assumption) h)
    exact fin_pure (Res.one rfl (Rs.tmp rfl)) ((congrArg (fun z_ => lB z_) e17)) rfl
  ·have hb9' : ¬ ((k : Int) = a.2.1) := nd_true hb9
   refine w_ ?_
   obtain ⟨c18, hc19⟩ : ∃ z, x[((k : Int)).toNat]? = some z := ⟨_, getElem?_pos _ _ (by omega)⟩
   obtain ⟨c20, hc21⟩ : ∃ z, y[((k : Int)).toNat]? = some z := ⟨_, getElem?_pos _ _ (by omega)⟩
   apply dW [io 18 _, io 19 _, io 20 _, io 21 _, io 22 _, io 23 _, io 24 _] [0, 1, 0, 7, 15, 7, 0]
   iterate 7 refine z_ ?_
   exact zN
   cases hb22 : (!decide (c18 = c20))
   ·have hb22' : (c18 = c20) := nd_false hb22
    refine w_ ?_
    refine AC.skip ?_
    refine (?_ : AC _ _ _ _ _)
    iterate 3 refine w_ ?_
    refine AL.nil <| lend ⟨k + 1, by omega, rfl, (fit_step hF (by first | exact (fitAt_ne (by assumption) (by assumption) (by assumption)).2 (by assumption) | exact fitAt_eq3 (by assumption) (by assumption) (by assumption) (by assumption) (by assumption))), rfl⟩ (by omega) ?_
    exact Wk.of [] rfl ⟨rfl, rfl, rfl, rfl, rfl, trivial⟩ ⟨rfl, trivial⟩ rfl rfl
   ·have hb22' : ¬ (c18 = c20) := nd_true hb22
    iterate 4 refine w_ ?_
    refine AC.ret ?_
    subst hO
    have e23 : (false : Bool) = (decide (Fit a x y)) := by
     exact fit_no (k := k) (by omega) (fun h => by first | exact absurd ((fitAt_ne (by assumption) (by assumption) (by assumption)).1 h) (by assumption) | exact fitAt_eq1 (by assumption) (by assumption) (by assumption) h | exact fitAt_eq2 (by assumption) (by assumption) (by assumption) h)
    exact fin_pure (Res.one rfl (Rs.tmp rfl)) ((congrArg (fun z_ => lB z_) e23)) rfl

theorem fc_spec_l5Set (code : ByteArray) (sig : Int) (b : ByteArray) (hs : 0 ≤ sig ∧ sig < (code.size : Int)) (hb : code.size ≤ 1000000 ∧ b.size ≤ 1000000) : FC Tryz.prog 271 [(false, [dS code]), (false, [dI sig]), (false, [dS b])] [] 0 (Pure (lf (dS (setB code sig b)))) := by
 refine FC.go Tryz.func271 rfl rfl Tryz.ntmps271 fun O_ hO w0_ N0_ X_ h0_ f0_ => ?_
 refine AC.fact (fact_int (x := .tmp 1) (Evl.tmp rfl)) fun hi1 => ?_
 iterate 3 refine w_ ?_
 apply dW [io 7 _, io 8 _, io 9 (lf (dS (code.extract 0 (sig).toNat))), io 10 _, io 11 (lf (dS ((code.extract 0 (sig).toNat) ++ b))), io 12 _, io 13 _, io 14 _, io 15 (lf (dS (code.extract (sig + 1).toNat code.size))), io 16 (lf (dS (((code.extract 0 (sig).toNat) ++ b) ++ (code.extract (sig + 1).toNat code.size)))), io 6 _] [0, 1, 0, 7, 0, 31, 63, 63, 31, 0, 0]
 iterate 2 refine z_ ?_
 refine zz (fun _ h_ => ac (show Does _ _ _ _ (St.put _ 9 (lf (dS (code.extract 0 (sig).toNat)))) from Does.sliceS (l := none) (h := (some sig)) (h_.v rfl) (by exact trivial) (by exact (h_.v rfl)) und_9 rfl (by first | omega | (simp only [Option.getD_none, Option.getD_some]; omega)) (by first | omega | (simp only [Option.getD_none, Option.getD_some]; omega)) (by first | omega | (simp only [Option.getD_none, Option.getD_some]; omega))) rfl) ?_
 refine z_ ?_
 refine zz (fun _ h_ => ac (Does.addS (h_.v rfl) (h_.v rfl) rfl (by first | omega | (simp only [ByteArray.size_append, ByteArray.size_extract]; omega))) rfl) ?_
 iterate 3 refine z_ ?_
 refine zz (fun _ h_ => ac (show Does _ _ _ _ (St.put _ 15 (lf (dS (code.extract (sig + 1).toNat code.size)))) from Does.sliceS (l := (some (sig + 1))) (h := none) (h_.v rfl) (by exact (h_.v rfl)) (by exact trivial) und_9 rfl (by first | omega | (simp only [Option.getD_none, Option.getD_some]; omega)) (by first | omega | (simp only [Option.getD_none, Option.getD_some]; omega)) (by first | omega | (simp only [Option.getD_none, Option.getD_some]; omega))) rfl) <| zz (fun _ h_ => ac (Does.addS (h_.v rfl) (h_.v rfl) rfl (by first | omega | (simp only [ByteArray.size_append, ByteArray.size_extract]; omega))) rfl) ?_
 refine z_ ?_
 exact zN
 refine AC.ret ?_
 subst hO
 have e2 : (((code.extract 0 (sig).toNat) ++ b) ++ (code.extract (sig + 1).toNat code.size) : ByteArray) = (setB code sig b) := by
  rfl
 exact fin_pure (Res.one rfl (Rs.tmp rfl)) ((congrArg (fun z_ => lf (dS z_)) e2)) rfl

end Go.Proofs.YtjaadeknhofhpaaGreat

/- Walks over abstract states: arcs of state graphs. -/
namespace Go.Proofs.YtjaadeknhofhpaaGreat
open Go.RowKit
set_option maxRecDepth 100000
set_option maxHeartbeats 4000000

def codeAt (c : DSg) (i : Int) : ByteArray := (c.2.1[i.toNat]?).getD ByteArray.empty
def ArcOk (c : DSg) (a : DAr) : Prop := (0 ≤ a.1 ∧ a.1 ≤ (c.2.1.length : Int) - 1) ∧ (0 ≤ a.2.2.2 ∧ a.2.2.2 ≤ (c.2.1.length : Int) - 1) ∧ LabI (c.1.length : Int) (a.2.1, a.2.2.1) ∧ Fit a (codeAt c a.1) (codeAt c a.2.2.2)
instance (c : DSg) (a : DAr) : Decidable (ArcOk c a) := inferInstanceAs (Decidable (_ ∧ _))
section
variable {c : DSg} {a : DAr} {x y b code : ByteArray} {n sig p : Int} {j k m : Nat}
theorem code_get (h : c.2.1[p.toNat]? = some x) : codeAt c p = x := by unfold codeAt; rw [h]; rfl
theorem bAt_list (m : ByteArray) (p : Int) : bAt m p = (m.toList[p.toNat]?).getD 0 := by
  unfold bAt
  rw [ByteArray.toList_eq]
  by_cases h : p.toNat < m.size
  · rw [getElem?_pos m p.toNat h, List.getElem?_eq_getElem (by simpa using h)]
    rfl
  · rw [getElem?_neg m p.toNat h, List.getElem?_eq_none (by simpa using h)]
theorem bAt_ext (hs : x.size = y.size) (h : ∀ j : Nat, j < x.size → bAt x (j : Int) = bAt y (j : Int)) : x = y := by
  have e : x.toList = y.toList := List.ext_getElem? fun j => by
    by_cases hj : j < x.size
    · have h1 := h j hj
      rw [bAt_list, bAt_list] at h1
      have h2 : j < x.toList.length := by rw [bl_len]; exact hj
      have h3 : j < y.toList.length := by rw [bl_len, ← hs]; exact hj
      have e1 : ((j : Int)).toNat = j := rfl
      rw [e1, List.getElem?_eq_getElem h2, List.getElem?_eq_getElem h3] at h1
      rw [List.getElem?_eq_getElem h2, List.getElem?_eq_getElem h3]
      exact congrArg some h1
    · rw [List.getElem?_eq_none (by rw [bl_len]; omega), List.getElem?_eq_none (by rw [bl_len]; omega)]
  rw [ByteArray.toList_eq, ByteArray.toList_eq] at e
  exact ByteArray.ext (Array.toList_inj.1 e)
theorem setB_list (code : ByteArray) (sig : Int) (b : ByteArray) : (setB code sig b).toList = code.toList.take sig.toNat ++ (b.toList ++ code.toList.drop (sig + 1).toNat) := by
  have h : code.data.size = code.size := rfl
  simp only [setB, ByteArray.toList_eq, ByteArray.data_append, ByteArray.data_extract, Array.toList_append, Array.toList_extract, List.append_assoc]
  simp [h, List.extract_eq_take_drop]
  rw [List.take_of_length_le (by simp [h])]
theorem setB_size (h0 : 0 ≤ sig) (h1 : sig < code.size) (hb : b.size = 1) : (setB code sig b).size = code.size := by
  rw [← bl_len, setB_list]
  simp only [List.length_append, List.length_take, List.length_drop, bl_len, hb]
  omega
theorem setB_at (h0 : 0 ≤ sig) (h1 : sig < code.size) (hb : b.size = 1) (hj : j < code.size) : bAt (setB code sig b) (j : Int) = if (j : Int) = sig then bAt b 0 else bAt code (j : Int) := by
  rw [bAt_list, setB_list, bAt_list, bAt_list]
  have hl := bl_len code
  have hbl := bl_len b
  have e1 : ((j : Int)).toNat = j := rfl
  rw [e1]
  by_cases e : (j : Int) = sig
  · rw [if_pos e, List.getElem?_append_right (by rw [List.length_take]; omega), List.getElem?_append_left (by rw [List.length_take]; omega)]
    rw [show j - (code.toList.take sig.toNat).length = ((0 : Int)).toNat by rw [List.length_take]; show _ = 0; omega]
  · rw [if_neg e]
    by_cases h : (j : Int) < sig
    · rw [List.getElem?_append_left (by rw [List.length_take]; omega), List.getElem?_take, if_pos (by omega)]
    · rw [List.getElem?_append_right (by rw [List.length_take]; omega), List.getElem?_append_right (by rw [List.length_take]; omega), List.getElem?_drop]
      congr 2
      rw [List.length_take]
      omega
theorem bits_at (h : BitsL x n) (hj : j < x.size) : bAt x (j : Int) = 48 ∨ bAt x (j : Int) = 49 := by
  have h2 : j < x.toList.length := by rw [bl_len]; exact hj
  rw [bAt_list]
  have e1 : ((j : Int)).toNat = j := rfl
  rw [e1, List.getElem?_eq_getElem h2]
  exact h.1 _ (List.getElem_mem h2)
theorem bitS_0 (b : Bool) : bAt (bitS b) 0 = if b = true then 49 else 48 := by cases b <;> rfl
theorem bitS_size (b : Bool) : (bitS b).size = 1 := rfl
theorem bit_dec {c : UInt8} {b : Bool} (h : c = 48 ∨ c = 49) : decide (c = 49) = b ↔ c = if b = true then 49 else 48 := by
  rcases h with rfl | rfl <;> cases b <;> decide
theorem fit_neg (hx : BitsL x n) (hy : BitsL y n) (hs : a.2.1 < 0) : Fit a x y ↔ x = y := by
  have hsz : x.size = y.size := by have := hx.2; have := hy.2; omega
  constructor
  · intro h
    refine bAt_ext hsz fun j hj => ?_
    have := h j hj
    unfold FitAt at this
    rwa [if_neg (by omega)] at this
  · rintro rfl j hj
    unfold FitAt
    rw [if_neg (by omega)]
theorem fit_set (hx : BitsL x n) (hy : BitsL y n) (hs : ¬ a.2.1 < 0) (hn : a.2.1 < n) : Fit a x y ↔ x = setB y a.2.1 (bitS (!a.2.2.1)) ∧ y = setB x a.2.1 (bitS a.2.2.1) := by
  have hxs := hx.2
  have hys := hy.2
  have z1 := setB_size (code := y) (sig := a.2.1) (b := bitS (!a.2.2.1)) (by omega) (by omega) (bitS_size _)
  have z2 := setB_size (code := x) (sig := a.2.1) (b := bitS a.2.2.1) (by omega) (by omega) (bitS_size _)
  have g1 := fun (j : Nat) hj => setB_at (j := j) (code := y) (sig := a.2.1) (b := bitS (!a.2.2.1)) (by omega) (by omega) (bitS_size _) hj
  have g2 := fun (j : Nat) hj => setB_at (j := j) (code := x) (sig := a.2.1) (b := bitS a.2.2.1) (by omega) (by omega) (bitS_size _) hj
  constructor
  · intro h
    constructor
    · refine bAt_ext (by omega) fun j hj => ?_
      rw [g1 j (by omega), bitS_0]
      have h1 := h j hj
      unfold FitAt at h1
      split
      · rename_i e
        rw [if_pos e] at h1
        exact (bit_dec (bits_at hx hj)).1 h1.1
      · rename_i e
        rwa [if_neg e] at h1
    · refine bAt_ext (by omega) fun j hj => ?_
      rw [g2 j (by omega), bitS_0]
      have h1 := h j (by omega)
      unfold FitAt at h1
      split
      · rename_i e
        rw [if_pos e] at h1
        exact (bit_dec (bits_at hy hj)).1 h1.2
      · rename_i e
        rw [if_neg e] at h1
        exact h1.symm
  · rintro ⟨e1, e2⟩ j hj
    have h1 := g1 j (by omega)
    have h2 := g2 j hj
    rw [← e1, bitS_0] at h1
    rw [← e2, bitS_0] at h2
    unfold FitAt
    split
    · rename_i e
      rw [if_pos e] at h1 h2
      exact ⟨(bit_dec (bits_at hx hj)).2 h1, (bit_dec (bits_at hy (by omega))).2 h2⟩
    · rename_i e
      rwa [if_neg e] at h1
theorem arc_no1 (h : ¬ (0 ≤ a.1 ∧ a.1 ≤ (c.2.1.length : Int) - 1)) : false = decide (ArcOk c a) := (decide_eq_false fun g => h g.1).symm
theorem arc_no2 (h : ¬ (0 ≤ a.2.2.2 ∧ a.2.2.2 ≤ (c.2.1.length : Int) - 1)) : false = decide (ArcOk c a) := (decide_eq_false fun g => h g.2.1).symm
theorem arc_no3 (h : ¬ LabI (c.1.length : Int) (a.2.1, a.2.2.1)) : false = decide (ArcOk c a) := (decide_eq_false fun g => h g.2.2.1).symm
theorem lab_lt (h3 : LabI (c.1.length : Int) (a.2.1, a.2.2.1)) (hs : ¬ a.2.1 < 0) : a.2.1 < (c.1.length : Int) := by
  rcases h3 with h | h
  · have h : 0 ≤ a.2.1 ∧ a.2.1 ≤ (c.1.length : Int) - 1 := h; omega
  · have h : a.2.1 = -1 := h.1; omega
section
variable (h1 : 0 ≤ a.1 ∧ a.1 ≤ (c.2.1.length : Int) - 1) (h2 : 0 ≤ a.2.2.2 ∧ a.2.2.2 ≤ (c.2.1.length : Int) - 1) (h3 : LabI (c.1.length : Int) (a.2.1, a.2.2.1)) (hx : c.2.1[a.1.toNat]? = some x) (hy : c.2.1[a.2.2.2.toNat]? = some y)
include h1 h2 h3 hx hy
theorem arc_fit : ArcOk c a ↔ Fit a x y := by
  unfold ArcOk
  rw [code_get hx, code_get hy]
  exact ⟨fun g => g.2.2.2, fun g => ⟨h1, h2, h3, g⟩⟩
theorem arc_neg (hb : ∀ x ∈ c.2.1, BitsL x (c.1.length : Int)) (hs : a.2.1 < 0) : decide (x = y) = decide (ArcOk c a) := decide_eq_decide.2 (by rw [arc_fit h1 h2 h3 hx hy, fit_neg (hb x (List.mem_of_getElem? hx)) (hb y (List.mem_of_getElem? hy)) hs])
theorem arc_set1 (hb : ∀ x ∈ c.2.1, BitsL x (c.1.length : Int)) (hs : ¬ a.2.1 < 0) (h : ¬ x = setB y a.2.1 (bitS (!a.2.2.1))) : false = decide (ArcOk c a) := (decide_eq_false fun g => by
  rw [arc_fit h1 h2 h3 hx hy, fit_set (hb x (List.mem_of_getElem? hx)) (hb y (List.mem_of_getElem? hy)) hs (lab_lt h3 hs)] at g
  exact h g.1).symm
theorem arc_set2 (hb : ∀ x ∈ c.2.1, BitsL x (c.1.length : Int)) (hs : ¬ a.2.1 < 0) (h : x = setB y a.2.1 (bitS (!a.2.2.1))) : decide (y = setB x a.2.1 (bitS a.2.2.1)) = decide (ArcOk c a) := decide_eq_decide.2 (by
  rw [arc_fit h1 h2 h3 hx hy, fit_set (hb x (List.mem_of_getElem? hx)) (hb y (List.mem_of_getElem? hy)) hs (lab_lt h3 hs)]
  exact ⟨fun g => ⟨h, g⟩, fun g => g.2⟩)
end
end

theorem fc_spec_l5Arc (c : (List (ByteArray × Int)) × List ByteArray × (List (Int × Int × Bool × Int))) (a : Int × Int × Bool × Int) (hcd : ∀ x ∈ c.2.1, BitsL x (c.1.length : Int)) (hc1 : c.1.length ≤ 1000) : FC Tryz.prog 182 [(true, [.dat (.sl 90 (.pr .str .int)) c.1, .dat (.sl 9 .str) c.2.1, .dat (.sl 106 (.pr .int (.pr .int (.pr .bool .int)))) c.2.2]), (true, [dI a.1, dI a.2.1, dB a.2.2.1, dI a.2.2.2])] [] 0 (Pure (lB (decide (ArcOk c a)))) := by
 refine FC.go Tryz.func182 rfl rfl Tryz.ntmps182 fun O_ hO w0_ N0_ X_ h0_ f0_ => ?_
 refine AC.fact (fact_ag (x := .tmp 1) (i := 0) (Ev.tmp rfl) rfl) fun hi1 => AC.fact (fact_ag (x := .tmp 1) (i := 1) (Ev.tmp rfl) rfl) fun hi2 => AC.fact (fact_ag (x := .tmp 1) (i := 3) (Ev.tmp rfl) rfl) fun hi3 => ?_
 refine w_ ?_
 refine xbx 0 ?_
 refine xbx 1 ?_
 iterate 8 refine w_ ?_
 refine AL.fact (fact_len (x := .tmp 10) (Evl.tmp rfl)) fun hl4 => ?_
 iterate 2 refine w_ ?_
 refine lc (dK (fc_spec_l1In a.1 0 ((c.2.1.length : Int) - 1)) enters_174) ?_
 iterate 2 refine w_ ?_
 cases hb5 : (decide (0 ≤ a.1 ∧ a.1 ≤ ((c.2.1.length : Int) - 1)))
 ·have hb5' := of_decide_eq_false hb5
  iterate 26 refine w_ ?_
  refine AC.ret ?_
  subst hO
  have e6 : (false : Bool) = (decide (ArcOk c a)) := by
   exact arc_no1 (by assumption)
  exact fin_pure (Res.one rfl (Rs.tmp rfl)) ((congrArg (fun z_ => lB z_) e6)) rfl
 ·have hb5' := of_decide_eq_true hb5
  iterate 4 refine w_ ?_
  refine AL.fact (fact_len (x := .tmp 19) (Evl.tmp rfl)) fun hl7 => ?_
  iterate 2 refine w_ ?_
  refine lgy rfl rfl (dK (fc_spec_l1In a.2.2.2 0 ((c.2.1.length : Int) - 1)) enters_174) ?_
  iterate 3 refine w_ ?_
  cases hb8 : (decide (0 ≤ a.2.2.2 ∧ a.2.2.2 ≤ ((c.2.1.length : Int) - 1)))
  ·have hb8' := of_decide_eq_false hb8
   iterate 16 refine w_ ?_
   refine AC.ret ?_
   subst hO
   have e9 : (false : Bool) = (decide (ArcOk c a)) := by
    exact arc_no2 (by assumption)
   exact fin_pure (Res.one rfl (Rs.tmp rfl)) ((congrArg (fun z_ => lB z_) e9)) rfl
  ·have hb8' := of_decide_eq_true hb8
   iterate 4 refine w_ ?_
   refine lgy rfl rfl (Does.build bld_55 ⟨_, _, rfl, (Ev.tmp rfl), ⟨_, _, rfl, (Ev.tmp rfl), rfl⟩⟩ (List.all_eq_true.1 rfl) rfl rfl) ?_
   iterate 2 refine w_ ?_
   refine AL.fact (fact_len (x := .tmp 32) (Evl.tmp rfl)) fun hl10 => ?_
   refine w_ ?_
   refine lgy rfl rfl (dK (fc_spec_l2Label (a.2.1, a.2.2.1) (c.1.length : Int) (by omega)) enters_169) ?_
   iterate 3 refine w_ ?_
   cases hb11 : (decide (LabI (c.1.length : Int) (a.2.1, a.2.2.1)))
   ·have hb11' := of_decide_eq_false hb11
    iterate 4 refine w_ ?_
    refine AC.ret ?_
    subst hO
    have e12 : (false : Bool) = (decide (ArcOk c a)) := by
     exact arc_no3 (by assumption)
    exact fin_pure (Res.one rfl (Rs.tmp rfl)) ((congrArg (fun z_ => lB z_) e12)) rfl
   ·have hb11' := of_decide_eq_true hb11
    iterate 2 refine w_ ?_
    obtain ⟨cx, hx14⟩ : ∃ z, c.2.1[(a.1).toNat]? = some z := ⟨_, List.getElem?_eq_getElem (by omega)⟩
    have hzcx := (hcd _ (List.mem_of_getElem? hx14)).2
    obtain ⟨cy, hx16⟩ : ∃ z, c.2.1[(a.2.2.2).toNat]? = some z := ⟨_, List.getElem?_eq_getElem (by omega)⟩
    have hzcy := (hcd _ (List.mem_of_getElem? hx16)).2
    apply dW [io 37 _, io 38 _, io 39 _, io 40 _, io 41 _, io 42 _, io 43 _, io 44 _, io 45 _, io 46 _, io 47 _, io 48 _, io 5 _, io 6 _] [0, 0, 3, 3, 0, 0, 63, 63, 255, 255, 63, 63, 4032, 0]
    iterate 14 refine z_ ?_
    exact zN
    iterate 6 refine w_ ?_
    cases hb17 : (decide (a.2.1 < 0))
    ·have hb17' := of_decide_eq_false hb17
     iterate 2 refine w_ ?_
     have hsl := lab_lt (c := c) (a := a) (by assumption) (by assumption)
     cases hb18 : (decide (cx = (setB cy a.2.1 (bitS (!a.2.2.1)))))
     ·have hb18' := of_decide_eq_false hb18
      apply dW [io 55 _, io 56 _, io 57 _, io 58 _, io 59 _, io 60 _, io 61 _, io 62 (lf (dS (bitS (!a.2.2.1)))), io 63 (lf (dS (setB cy a.2.1 (bitS (!a.2.2.1))))), io 64 (lB false), io 65 _, io 66 _, io 67 _, io 68 _, io 69 _, io 70 _, io 71 _, io 72 _, io 73 _, io 74 _, io 75 _, io 4 _] [0, 1, 3, 3, 15, 15, 15, 15, 1, 0, 0, 0, 2048, 6144, 6144, 30720, 30720, 30720, 2048, 0, 0, 0]
      iterate 7 refine z_ ?_
      refine zz (fun _ h_ => ac (dK (fc_spec_l5Bit (!a.2.2.1)) enters_272) rfl) ?_
      refine zz (fun _ h_ => ac (dK (fc_spec_l5Set cy a.2.1 (bitS (!a.2.2.1)) (by omega) ⟨by omega, by rw [bitS_size]; decide⟩) enters_271) rfl) ?_
      refine zz (fun _ h_ => ac (Does.asB (hb18) (Does.eqlS (h_.v rfl) (h_.v rfl) rfl)) rfl) ?_
      iterate 12 refine z_ ?_
      exact zN
      refine AC.ret ?_
      subst hO
      have e19 : (false : Bool) = (decide (ArcOk c a)) := by
       exact arc_set1 (by assumption) (by assumption) (by assumption) (x := cx) (y := cy) (by assumption) (by assumption) hcd (by assumption) (by assumption)
      exact fin_pure (Res.one rfl (Rs.tmp rfl)) ((congrArg (fun z_ => lB z_) e19)) rfl
     ·have hb18' := of_decide_eq_true hb18
      apply dW [io 55 _, io 56 _, io 57 _, io 58 _, io 59 _, io 60 _, io 61 _, io 62 (lf (dS (bitS (!a.2.2.1)))), io 63 (lf (dS (setB cy a.2.1 (bitS (!a.2.2.1))))), io 64 (lB true), io 65 _, io 66 _, io 67 _, io 68 _, io 69 _, io 70 _, io 71 _, io 72 (lf (dS (bitS a.2.2.1))), io 73 (lf (dS (setB cx a.2.1 (bitS a.2.2.1)))), io 74 _, io 75 _, io 4 _] [0, 1, 3, 3, 15, 15, 15, 15, 1, 0, 0, 0, 2048, 6144, 6144, 30720, 30720, 30720, 2048, 0, 0, 0]
      iterate 7 refine z_ ?_
      refine zz (fun _ h_ => ac (dK (fc_spec_l5Bit (!a.2.2.1)) enters_272) rfl) ?_
      refine zz (fun _ h_ => ac (dK (fc_spec_l5Set cy a.2.1 (bitS (!a.2.2.1)) (by omega) ⟨by omega, by rw [bitS_size]; decide⟩) enters_271) rfl) ?_
      refine zz (fun _ h_ => ac (Does.asB (hb18) (Does.eqlS (h_.v rfl) (h_.v rfl) rfl)) rfl) ?_
      iterate 7 refine z_ ?_
      refine zz (fun _ h_ => day rfl (h_.k rfl) (dK (fc_spec_l5Bit a.2.2.1) enters_272) rfl) ?_
      refine zz (fun _ h_ => day rfl (h_.k rfl) (dK (fc_spec_l5Set cx a.2.1 (bitS a.2.2.1) (by omega) ⟨by omega, by rw [bitS_size]; decide⟩) enters_271) rfl) ?_
      iterate 3 refine z_ ?_
      exact zN
      refine AC.ret ?_
      subst hO
      have e20 : (decide (cy = (setB cx a.2.1 (bitS a.2.2.1))) : Bool) = (decide (ArcOk c a)) := by
       exact arc_set2 (by assumption) (by assumption) (by assumption) (x := cx) (y := cy) (by assumption) (by assumption) hcd (by assumption) (by assumption)
      exact fin_pure (Res.one rfl (Rs.tmp rfl)) ((congrArg (fun z_ => lB z_) e20)) rfl
    ·have hb17' := of_decide_eq_true hb17
     iterate 7 refine w_ ?_
     refine AC.ret ?_
     subst hO
     have e21 : (decide (cx = cy) : Bool) = (decide (ArcOk c a)) := by
      exact arc_neg (by assumption) (by assumption) (by assumption) (x := cx) (y := cy) (by assumption) (by assumption) hcd (by assumption)
     exact fin_pure (Res.one rfl (Rs.tmp rfl)) ((congrArg (fun z_ => lB z_) e21)) rfl

end Go.Proofs.YtjaadeknhofhpaaGreat
