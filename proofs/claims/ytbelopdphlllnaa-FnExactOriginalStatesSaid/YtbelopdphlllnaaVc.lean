/- Walks over abstract states: partitions of state graphs. -/
import Derived.Test.YtbelopdphlllnaaVb
set_option linter.unusedSimpArgs false
set_option linter.unusedVariables false
namespace Go.Proofs.Ytbelopdphlllnaa
open Go.RowKit

theorem fc_impl_isName (s : ByteArray) [Decidable (NameOk s)] : FC Try.prog 131 [(false, [dS s])] [] 0 (Pure (lf (dB (decide (NameOk s))))) := FC.ofB fun gh w vs h => by
  obtain ⟨v, rfl, hr⟩ := h.leaf1
  obtain ⟨rfl, hs⟩ := hr.str_
  exact (isName_any s w hs).mono fun _ _ h => retB_dec h
theorem fc_spec_l2Name (s : ByteArray) [Decidable (NameOk s)] : FC Try.prog 125 [(false, [dS s])] [] 0 (Pure (lf (dB (decide (NameOk s))))) := FC.ofB fun gh w vs h => by
  obtain ⟨v, rfl, hr⟩ := h.leaf1
  obtain ⟨rfl, hs⟩ := hr.str_
  exact (l2Name_any s w hs).mono fun _ _ h => retB_dec h
/-- The signs that may follow one another. -/
def mayF (a b : UInt8) : Bool := decide (a = b) || (decide (a = 48) && decide (b = 43)) || (decide (a = 43) && decide (b = 49)) || (decide (a = 49) && decide (b = 45)) || (decide (a = 45) && decide (b = 48)) || (decide (a = 43) && decide (b = 45)) || (decide (a = 45) && decide (b = 43))
def SignL (s : ByteArray) : Prop := ∀ x ∈ s.toList, x = 48 ∨ x = 43 ∨ x = 49 ∨ x = 45
instance (s : ByteArray) : Decidable (SignL s) := inferInstanceAs (Decidable (∀ x ∈ s.toList, x = 48 ∨ x = 43 ∨ x = 49 ∨ x = 45))
def SignsOk (c : DSg) (s : ByteArray) : Prop := SignL s ∧ s.size = c.2.1.length ∧ SgOk c
instance (c : DSg) (s : ByteArray) [Decidable (SgOk c)] : Decidable (SignsOk c s) := inferInstanceAs (Decidable (_ ∧ _))
def partV (c : DSg) (s : ByteArray) : Bool := c.2.2.all fun a => mayF (bAt s a.1) (bAt s a.2.2.2)
def delV (s : ByteArray) (a : DAr) : Bool := (decide (bAt s a.1 = 43) && (decide (bAt s a.2.2.2 = 49) || decide (bAt s a.2.2.2 = 45))) || (decide (bAt s a.1 = 45) && (decide (bAt s a.2.2.2 = 48) || decide (bAt s a.2.2.2 = 43)))
def okP (c : DSg) (s : ByteArray) [Decidable (SgOk c)] : Bool := decide (SignsOk c s) && partV c s
theorem okP_iff {c : DSg} {s : ByteArray} [Decidable (SgOk c)] : okP c s = true ↔ SignsOk c s ∧ partV c s = true := by unfold okP; rw [Bool.and_eq_true, decide_eq_true_eq]
theorem okP_no {c : DSg} {s : ByteArray} [Decidable (SgOk c)] (h : ¬ SignsOk c s) : false = okP c s := by unfold okP; rw [decide_eq_false h]; rfl
theorem okP_yes {c : DSg} {s : ByteArray} [Decidable (SgOk c)] (h : SignsOk c s) : partV c s = okP c s := by unfold okP; rw [decide_eq_true h]; rfl
def fromA (as_ : List DAr) (q : Int) : List DAr := as_.filter fun a => decide (a.1 = q)
def roundS : ByteArray := ⟨#[48, 43, 49, 45, 48]⟩
theorem ba2 {a b c d : UInt8} : (⟨#[a, b]⟩ : ByteArray) = ⟨#[c, d]⟩ ↔ a = c ∧ b = d := by simp [ByteArray.mk.injEq]
section
variable {a b x : UInt8} {k i : Nat} {s : ByteArray} {c : DSg} {l : List DAr} {e : DAr} {q : Int}
theorem roundS_at (k : Nat) (h : k < 5) : bAt roundS (k : Int) = [(48 : UInt8), 43, 49, 45, 48][k]! := by
  match k, h with
  | 0, _ => rfl
  | 1, _ => rfl
  | 2, _ => rfl
  | 3, _ => rfl
  | 4, _ => rfl
theorem next_yes (hk : (k : Int) + 1 < 5) (h1 : bAt roundS (k : Int) = a) (h2 : bAt roundS ((k : Int) + 1) = b) : true = mayF a b := by
  rw [show ((k : Int) + 1) = ((k + 1 : Nat) : Int) by omega, roundS_at _ (by omega)] at h2
  rw [roundS_at _ (by omega)] at h1
  subst h1 h2
  match k, hk with
  | 0, _ => rfl
  | 1, _ => rfl
  | 2, _ => rfl
  | 3, _ => rfl
  | n + 4, h => omega
theorem may_no (h0 : ¬ (a = 48 ∧ b = 43)) (h1 : ¬ (a = 43 ∧ b = 49)) (h2 : ¬ (a = 49 ∧ b = 45)) (h3 : ¬ (a = 45 ∧ b = 48)) (h4 : ¬ (a = 43 ∧ b = 45)) (h5 : ¬ (a = 45 ∧ b = 43)) : decide (a = b) = mayF a b := by
  have f : ∀ {p q : UInt8}, ¬ (a = p ∧ b = q) → (decide (a = p) && decide (b = q)) = false := fun {p q} h => by
    rw [Bool.and_eq_false_iff, decide_eq_false_iff_not, decide_eq_false_iff_not]
    by_cases e : a = p
    · exact .inr fun e2 => h ⟨e, e2⟩
    · exact .inl e
  unfold mayF
  rw [f h0, f h1, f h2, f h3, f h4, f h5]
  simp
theorem next_no (hN : ∀ j : Nat, j < k → ¬ (bAt roundS (j : Int) = a ∧ bAt roundS ((j : Int) + 1) = b)) (hk : ¬ (k : Int) + 1 < 5) (h1 : ¬ (a = 43 ∧ b = 45)) (h2 : ¬ (a = 45 ∧ b = 43)) : decide (a = b) = mayF a b := by
  have g : ∀ j : Nat, j < 4 → ¬ ([(48 : UInt8), 43, 49, 45, 48][j]! = a ∧ [(48 : UInt8), 43, 49, 45, 48][j + 1]! = b) := fun j hj h => by
    refine hN j (by omega) ?_
    rw [show ((j : Int) + 1) = ((j + 1 : Nat) : Int) by omega, roundS_at _ (by omega), roundS_at _ (by omega)]
    exact h
  have g0 : ¬ (48 = a ∧ 43 = b) := g 0 (by omega)
  have g1 : ¬ (43 = a ∧ 49 = b) := g 1 (by omega)
  have g2 : ¬ (49 = a ∧ 45 = b) := g 2 (by omega)
  have g3 : ¬ (45 = a ∧ 48 = b) := g 3 (by omega)
  exact may_no (fun h => g0 ⟨h.1.symm, h.2.symm⟩) (fun h => g1 ⟨h.1.symm, h.2.symm⟩) (fun h => g2 ⟨h.1.symm, h.2.symm⟩) (fun h => g3 ⟨h.1.symm, h.2.symm⟩) h1 h2
theorem next_step (hN : ∀ j : Nat, j < k → ¬ (bAt roundS (j : Int) = a ∧ bAt roundS ((j : Int) + 1) = b)) (h : ¬ (bAt roundS (k : Int) = a ∧ bAt roundS ((k : Int) + 1) = b)) : ∀ j : Nat, j < k + 1 → ¬ (bAt roundS (j : Int) = a ∧ bAt roundS ((j : Int) + 1) = b) := fun j hj => by
  by_cases e : j = k
  · subst e; exact h
  · exact hN j (by omega)
theorem sign_step (hB : ∀ j, j < k → ∀ x, s.toList[j]? = some x → x = 48 ∨ x = 43 ∨ x = 49 ∨ x = 45) (hx : s[((k : Int)).toNat]? = some x) (h : x = 48 ∨ x = 43 ∨ x = 49 ∨ x = 45) : ∀ j, j < k + 1 → ∀ x, s.toList[j]? = some x → x = 48 ∨ x = 43 ∨ x = 49 ∨ x = 45 := fun j hj d hd => by
  by_cases e : j = k
  · subst e; rw [list_at hx] at hd; cases hd; exact h
  · exact hB j (by omega) d hd
theorem sign_all (hB : ∀ j, j < k → ∀ x, s.toList[j]? = some x → x = 48 ∨ x = 43 ∨ x = 49 ∨ x = 45) (hk : s.size ≤ k) : SignL s := fun x hx => by
  obtain ⟨j, hj⟩ := List.mem_iff_getElem?.1 hx
  have := (List.getElem?_eq_some_iff.1 hj).1
  rw [bl_len] at this
  exact hB j (by omega) x hj
section
variable [Decidable (SignsOk c s)]
theorem signs_no1 (hx : s[((k : Int)).toNat]? = some x) (h : ¬ (x = 48 ∨ x = 43 ∨ x = 49 ∨ x = 45)) : false = decide (SignsOk c s) := (decide_eq_false fun g => h (g.1 x (List.mem_of_getElem? (list_at hx)))).symm
theorem signs_no2 (h : ¬ (s.size : Int) = (c.2.1.length : Int)) : false = decide (SignsOk c s) := (decide_eq_false fun g => h (by rw [g.2.1])).symm
theorem signs_no3 (h : ¬ SgOk c) : false = decide (SignsOk c s) := (decide_eq_false fun g => h g.2.2).symm
theorem signs_fin [Decidable (SgOk c)] (hB : ∀ j, j < k → ∀ x, s.toList[j]? = some x → x = 48 ∨ x = 43 ∨ x = 49 ∨ x = 45) (hk : s.size ≤ k) (h : (s.size : Int) = (c.2.1.length : Int)) : decide (SgOk c) = decide (SignsOk c s) := decide_eq_decide.2 ⟨fun g => ⟨sign_all hB hk, by omega, g⟩, fun g => g.2.2⟩
theorem signs_fin2 (hB : ∀ j, j < k → ∀ x, s.toList[j]? = some x → x = 48 ∨ x = 43 ∨ x = 49 ∨ x = 45) (hk : s.size ≤ k) (g : SgOk c) : decide ((s.size : Int) = (c.2.1.length : Int)) = decide (SignsOk c s) := decide_eq_decide.2 ⟨fun h => ⟨sign_all hB hk, by omega, g⟩, fun g => by rw [g.2.1]⟩
end
theorem SignsOk.at_ (h : SignsOk c s) (ha : e ∈ c.2.2) : (0 ≤ e.1 ∧ e.1 < (s.size : Int)) ∧ 0 ≤ e.2.2.2 ∧ e.2.2.2 < (s.size : Int) := by
  have h1 := arc_inr (h.2.2.arcs e ha)
  rw [h.2.1]
  exact h1
theorem part_eq : (!(c.2.2.any fun a => !mayF (bAt s a.1) (bAt s a.2.2.2))) = partV c s := by
  unfold partV
  rw [Bool.eq_iff_iff, Bool.not_eq_true', List.any_eq_false, List.all_eq_true]
  constructor
  · intro h a ha; have := h a ha; simpa using this
  · intro h a ha; have := h a ha; simpa using this
theorem part_no (hx : c.2.2[k]? = some e) (h : mayF (bAt s e.1) (bAt s e.2.2.2) = false) : false = partV c s := by
  refine (List.all_eq_false.2 ⟨e, List.mem_of_getElem? hx, ?_⟩).symm
  rw [h]; decide
theorem part_yes (hP : ∀ j, j < k → ∀ a, c.2.2[j]? = some a → mayF (bAt s a.1) (bAt s a.2.2.2) = true) (hk : c.2.2.length ≤ k) : true = partV c s := (List.all_eq_true.2 fun a ha => by
  obtain ⟨j, hj⟩ := List.mem_iff_getElem?.1 ha
  have := (List.getElem?_eq_some_iff.1 hj).1
  exact hP j (by omega) a hj).symm
theorem part_step (hP : ∀ j, j < k → ∀ a, c.2.2[j]? = some a → mayF (bAt s a.1) (bAt s a.2.2.2) = true) (hx : c.2.2[k]? = some e) (h : mayF (bAt s e.1) (bAt s e.2.2.2) = true) : ∀ j, j < k + 1 → ∀ a, c.2.2[j]? = some a → mayF (bAt s a.1) (bAt s a.2.2.2) = true := fun j hj a ha => by
  by_cases e2 : j = k
  · subst e2; rw [hx] at ha; cases ha; exact h
  · exact hP j (by omega) a ha
theorem from_yes (hx : l[i]? = some e) (h : e.1 = q) : fromA (l.take i) q ++ [e] = fromA (l.take (i + 1)) q := by
  unfold fromA
  rw [take_snoc hx, List.filter_append]; simp [h]
theorem from_no (hx : l[i]? = some e) (h : ¬ e.1 = q) : fromA (l.take i) q = fromA (l.take (i + 1)) q := by
  unfold fromA
  rw [take_snoc hx, List.filter_append]; simp [h]
theorem from_len : (fromA l q).length ≤ l.length := List.length_filter_le ..
theorem from_mem : e ∈ fromA l q ↔ e ∈ l ∧ e.1 = q := by unfold fromA; rw [List.mem_filter, decide_eq_true_eq]
end

set_option maxRecDepth 100000 in
set_option maxHeartbeats 4000000 in
theorem fc_impl_mayFollow (a : UInt8) (b : UInt8)  : FC Try.prog 220 [(false, [.dat .u8 a]), (false, [.dat .u8 b])] [] 0 (Pure (lf (dB (mayF a b)))) := by
 refine FC.O_all fun O_ hO => FC.ren (FC.of Try.func220 rfl rfl fun A_ hn_ hk_ => ?_)
 obtain ⟨w0_, N0_, X_, n_, k0_, h0_, f0_⟩ := A_
 obtain rfl : n_ = 19 := hn_.trans Try.ntmps220
 obtain rfl : k0_ = 0 := hk_
 refine AC.sr ?_
 refine AL.cons rfl (Does.assignC Evl.bool rfl) ?_
 refine AL.nilS ?_
 refine AC.seq ?_
 refine AC.sr ?_
 refine AL.cons rfl (Does.move rfl rfl) ?_
 refine AL.cons rfl (Does.move rfl rfl) ?_
 refine AL.cons rfl (Does.buildSlice 0 (e := .u8) und_156 tsh_5 zer_5 rfl ⟨_, _, rfl, (Ev.tmp rfl), ⟨_, _, rfl, (Ev.tmp rfl), rfl⟩⟩ (List.all_eq_true.1 rfl) ⟨_, _, _, _, rfl, ⟨rfl, rfl⟩, ⟨_, _, _, _, rfl, ⟨rfl, rfl⟩, ⟨rfl, rfl⟩, rfl⟩, rfl⟩ (by decide) rfl rfl (Fresh.of rfl) (nlr rfl)) ?_
 refine AL.cons rfl (Does.ofBytes (ys := [a, b]) (Evl.repO (Evl.tmp rfl) rfl) und_156 und_5 und_9 rfl) ?_
 refine AL.nilS ?_
 refine AC.block ?_
 refine AC.seq ?_
 refine AC.sr ?_
 refine AL.cons rfl (Does.eqlS (Evl.tmp rfl) (Evl.str rfl) rfl) ?_
 refine AL.cons rfl (Does.assign rfl rfl) ?_
 refine AL.nilS ?_
 cases hb1 : (decide ((⟨#[a, b]⟩ : ByteArray) = (⟨#[48, 43]⟩ : ByteArray)))
 ·have _h := hb1
  have hb1' : ¬ ((⟨#[a, b]⟩ : ByteArray) = (⟨#[48, 43]⟩ : ByteArray)) := of_decide_eq_false hb1
  refine AC.condF (Evl.tmp rfl) ?_
  refine AC.sr ?_
  refine AL.cons rfl (Does.eqlS (Evl.tmp rfl) (Evl.str rfl) rfl) ?_
  refine AL.cons rfl (Does.assign rfl rfl) ?_
  refine AL.nilS ?_
  cases hb2 : (decide ((⟨#[a, b]⟩ : ByteArray) = (⟨#[43, 49]⟩ : ByteArray)))
  ·have _h := hb2
   have hb2' : ¬ ((⟨#[a, b]⟩ : ByteArray) = (⟨#[43, 49]⟩ : ByteArray)) := of_decide_eq_false hb2
   refine AC.condF (Evl.tmp rfl) ?_
   refine AC.sr ?_
   refine AL.cons rfl (Does.eqlS (Evl.tmp rfl) (Evl.str rfl) rfl) ?_
   refine AL.cons rfl (Does.assign rfl rfl) ?_
   refine AL.nilS ?_
   cases hb3 : (decide ((⟨#[a, b]⟩ : ByteArray) = (⟨#[49, 45]⟩ : ByteArray)))
   ·have _h := hb3
    have hb3' : ¬ ((⟨#[a, b]⟩ : ByteArray) = (⟨#[49, 45]⟩ : ByteArray)) := of_decide_eq_false hb3
    refine AC.condF (Evl.tmp rfl) ?_
    refine AC.sr ?_
    refine AL.cons rfl (Does.eqlS (Evl.tmp rfl) (Evl.str rfl) rfl) ?_
    refine AL.cons rfl (Does.assign rfl rfl) ?_
    refine AL.nilS ?_
    cases hb4 : (decide ((⟨#[a, b]⟩ : ByteArray) = (⟨#[45, 48]⟩ : ByteArray)))
    ·have _h := hb4
     have hb4' : ¬ ((⟨#[a, b]⟩ : ByteArray) = (⟨#[45, 48]⟩ : ByteArray)) := of_decide_eq_false hb4
     refine AC.condF (Evl.tmp rfl) ?_
     refine AC.sr ?_
     refine AL.cons rfl (Does.eqlS (Evl.tmp rfl) (Evl.str rfl) rfl) ?_
     refine AL.cons rfl (Does.assign rfl rfl) ?_
     refine AL.nilS ?_
     cases hb5 : (decide ((⟨#[a, b]⟩ : ByteArray) = (⟨#[43, 45]⟩ : ByteArray)))
     ·have _h := hb5
      have hb5' : ¬ ((⟨#[a, b]⟩ : ByteArray) = (⟨#[43, 45]⟩ : ByteArray)) := of_decide_eq_false hb5
      refine AC.condF (Evl.tmp rfl) ?_
      refine AC.region ?_
      refine AL.cons rfl (Does.eqlS (Evl.tmp rfl) (Evl.str rfl) rfl) ?_
      refine AL.cons rfl (Does.assign rfl rfl) ?_
      refine AL.nilS ?_
      cases hb6 : (decide ((⟨#[a, b]⟩ : ByteArray) = (⟨#[45, 43]⟩ : ByteArray)))
      ·have _h := hb6
       have hb6' : ¬ ((⟨#[a, b]⟩ : ByteArray) = (⟨#[45, 43]⟩ : ByteArray)) := of_decide_eq_false hb6
       refine AC.condF (Evl.tmp rfl) ?_
       refine AC.skip ?_
       refine (?_ : AC _ _ _ _ _)
       refine AC.sr ?_
       refine AL.cons rfl (Does.move rfl rfl) ?_
       refine AL.cons rfl (Does.move rfl rfl) ?_
       refine AL.cons rfl (Does.eqlU (Evl.tmp rfl) (Evl.tmp rfl) rfl) ?_
       refine AL.cons rfl (Does.assign rfl rfl) ?_
       refine AL.nilS ?_
       refine AC.ret ?_
       subst hO
       have e7 : (decide (a = b) : Bool) = (mayF a b) := by
        exact may_no (fun h => by have := ba2.2 h; contradiction) (fun h => by have := ba2.2 h; contradiction) (fun h => by have := ba2.2 h; contradiction) (fun h => by have := ba2.2 h; contradiction) (fun h => by have := ba2.2 h; contradiction) (fun h => by have := ba2.2 h; contradiction)
       exact fin_pure (Res.one rfl (Rs.tmp rfl)) ((congrArg (fun z_ => lf (dB z_)) e7)) rfl
      ·have _h := hb6
       have hb6' : ((⟨#[a, b]⟩ : ByteArray) = (⟨#[45, 43]⟩ : ByteArray)) := of_decide_eq_true hb6
       refine AC.condT (Evl.tmp rfl) ?_
       refine AC.sr ?_
       refine AL.cons rfl (Does.assignC Evl.bool rfl) ?_
       refine AL.nilS ?_
       refine AC.ret ?_
       subst hO
       have e8 : (true : Bool) = (mayF a b) := by
        (unfold mayF; simp only [ba2] at *; simp_all; done)
       exact fin_pure (Res.one rfl (Rs.tmp rfl)) ((congrArg (fun z_ => lf (dB z_)) e8)) rfl
     ·have _h := hb5
      have hb5' : ((⟨#[a, b]⟩ : ByteArray) = (⟨#[43, 45]⟩ : ByteArray)) := of_decide_eq_true hb5
      refine AC.condT (Evl.tmp rfl) ?_
      refine AC.skipS ?_
      refine AC.condT (Evl.tmp rfl) ?_
      refine AC.sr ?_
      refine AL.cons rfl (Does.assignC Evl.bool rfl) ?_
      refine AL.nilS ?_
      refine AC.ret ?_
      subst hO
      have e9 : (true : Bool) = (mayF a b) := by
       (unfold mayF; simp only [ba2] at *; simp_all; done)
      exact fin_pure (Res.one rfl (Rs.tmp rfl)) ((congrArg (fun z_ => lf (dB z_)) e9)) rfl
    ·have _h := hb4
     have hb4' : ((⟨#[a, b]⟩ : ByteArray) = (⟨#[45, 48]⟩ : ByteArray)) := of_decide_eq_true hb4
     refine AC.condT (Evl.tmp rfl) ?_
     refine AC.skipS ?_
     refine AC.condT (Evl.tmp rfl) ?_
     refine AC.sr ?_
     refine AL.cons rfl (Does.assignC Evl.bool rfl) ?_
     refine AL.nilS ?_
     refine AC.ret ?_
     subst hO
     have e10 : (true : Bool) = (mayF a b) := by
      (unfold mayF; simp only [ba2] at *; simp_all; done)
     exact fin_pure (Res.one rfl (Rs.tmp rfl)) ((congrArg (fun z_ => lf (dB z_)) e10)) rfl
   ·have _h := hb3
    have hb3' : ((⟨#[a, b]⟩ : ByteArray) = (⟨#[49, 45]⟩ : ByteArray)) := of_decide_eq_true hb3
    refine AC.condT (Evl.tmp rfl) ?_
    refine AC.skipS ?_
    refine AC.condT (Evl.tmp rfl) ?_
    refine AC.sr ?_
    refine AL.cons rfl (Does.assignC Evl.bool rfl) ?_
    refine AL.nilS ?_
    refine AC.ret ?_
    subst hO
    have e11 : (true : Bool) = (mayF a b) := by
     (unfold mayF; simp only [ba2] at *; simp_all; done)
    exact fin_pure (Res.one rfl (Rs.tmp rfl)) ((congrArg (fun z_ => lf (dB z_)) e11)) rfl
  ·have _h := hb2
   have hb2' : ((⟨#[a, b]⟩ : ByteArray) = (⟨#[43, 49]⟩ : ByteArray)) := of_decide_eq_true hb2
   refine AC.condT (Evl.tmp rfl) ?_
   refine AC.skipS ?_
   refine AC.condT (Evl.tmp rfl) ?_
   refine AC.sr ?_
   refine AL.cons rfl (Does.assignC Evl.bool rfl) ?_
   refine AL.nilS ?_
   refine AC.ret ?_
   subst hO
   have e12 : (true : Bool) = (mayF a b) := by
    (unfold mayF; simp only [ba2] at *; simp_all; done)
   exact fin_pure (Res.one rfl (Rs.tmp rfl)) ((congrArg (fun z_ => lf (dB z_)) e12)) rfl
 ·have _h := hb1
  have hb1' : ((⟨#[a, b]⟩ : ByteArray) = (⟨#[48, 43]⟩ : ByteArray)) := of_decide_eq_true hb1
  refine AC.condT (Evl.tmp rfl) ?_
  refine AC.skipS ?_
  refine AC.condT (Evl.tmp rfl) ?_
  refine AC.sr ?_
  refine AL.cons rfl (Does.assignC Evl.bool rfl) ?_
  refine AL.nilS ?_
  refine AC.ret ?_
  subst hO
  have e13 : (true : Bool) = (mayF a b) := by
   (unfold mayF; simp only [ba2] at *; simp_all; done)
  exact fin_pure (Res.one rfl (Rs.tmp rfl)) ((congrArg (fun z_ => lf (dB z_)) e13)) rfl

set_option maxRecDepth 100000 in
set_option maxHeartbeats 4000000 in
theorem fc_spec_l11Next (a : UInt8) (b : UInt8)  : FC Try.prog 211 [(false, [.dat .u8 a]), (false, [.dat .u8 b])] [] 0 (Pure (lf (dB (mayF a b)))) := by
 have hrs : (⟨#[48, 43, 49, 45, 48]⟩ : ByteArray).size = 5 := rfl
 refine FC.O_all fun O_ hO => FC.ren (FC.of Try.func211 rfl rfl fun A_ hn_ hk_ => ?_)
 obtain ⟨w0_, N0_, X_, n_, k0_, h0_, f0_⟩ := A_
 obtain rfl : n_ = 44 := hn_.trans Try.ntmps211
 obtain rfl : k0_ = 0 := hk_
 refine AC.sr ?_
 refine AL.cons rfl (Does.assignC Evl.bool rfl) ?_
 refine AL.nilS ?_
 refine AC.sr ?_
 refine AL.cons rfl (Does.assignC (Evl.str rfl) rfl) ?_
 refine AL.nilS ?_
 refine AC.join1 (fun s_ => (¬ (a = 43 ∧ b = 45)) ∧ (¬ (a = 45 ∧ b = 43)) ∧ s_ = ⟨[(0, lf (.dat .u8 a)), (1, lf (.dat .u8 b)), (5, lf (dS (⟨#[48, 43, 49, 45, 48]⟩ : ByteArray)))], []⟩) ?_ fun J1 => ?_
 ·rintro s_ ⟨hq1, hq2, rfl⟩
  refine AC.seq ?_
  refine AC.sr ?_
  refine AL.cons rfl (Does.assignC (Evl.int rfl) rfl) ?_
  refine AL.nilS ?_
  refine AC.block ?_
  refine AC.loopW (fun m_ s_ => ∃ (k : Nat), k ≤ 5 ∧ m_ = 5 - k ∧ (∀ j : Nat, j < k → ¬ (bAt roundS (j : Int) = a ∧ bAt roundS ((j : Int) + 1) = b)) ∧ s_ = ⟨[(0, lf (.dat .u8 a)), (1, lf (.dat .u8 b)), (5, lf (dS (⟨#[48, 43, 49, 45, 48]⟩ : ByteArray))), (6, lf (dI (k : Int)))], []⟩) ⟨0, Nat.zero_le _, rfl, (fun j hj => absurd hj (Nat.not_lt_zero j)), rfl⟩ ?_ ?_
  · exact Wk.of [] rfl ⟨rfl, rfl, rfl, rfl, trivial⟩ trivial rfl rfl
  rintro m_ s_ ⟨k, hk2, hm3, hN, rfl⟩
  refine AC.seq ?_
  refine AC.sr ?_
  refine AL.cons rfl (Does.move rfl rfl) ?_
  refine AL.cons rfl (Does.add (Evl.tmp rfl) (Evl.int rfl) rfl (by omega)) ?_
  refine AL.cons rfl (Does.move rfl rfl) ?_
  refine AL.fact (fact_lenS (x := .tmp 23) (Evl.tmp rfl)) fun hl4 => ?_
  refine AL.cons rfl (Does.lenS (Evl.tmp rfl) rfl und_9) ?_
  refine AL.cons rfl (Does.lss (Evl.tmp rfl) (Evl.tmp rfl) rfl) ?_
  refine AL.nilS ?_
  cases hb5 : (decide (((k : Int) + 1) < ((⟨#[48, 43, 49, 45, 48]⟩ : ByteArray).size : Int)))
  ·have _h := hb5
   have hb5' : ¬ (((k : Int) + 1) < ((⟨#[48, 43, 49, 45, 48]⟩ : ByteArray).size : Int)) := of_decide_eq_false hb5
   refine AC.condF (Evl.tmp rfl) ?_
   refine AC.exit ?_
   refine (?_ : AC _ _ _ _ _)
   refine AC.sr ?_
   refine AL.cons rfl (Does.move rfl rfl) ?_
   refine AL.cons rfl (Does.move rfl rfl) ?_
   refine AL.cons rfl (Does.eqlU (Evl.tmp rfl) (Evl.tmp rfl) rfl) ?_
   refine AL.cons rfl (Does.assign rfl rfl) ?_
   refine AL.nilS ?_
   refine AC.ret ?_
   subst hO
   have e6 : (decide (a = b) : Bool) = (mayF a b) := by
    exact next_no hN (by omega) hq1 hq2
   exact fin_pure (Res.one rfl (Rs.tmp rfl)) ((congrArg (fun z_ => lf (dB z_)) e6)) rfl
  ·have _h := hb5
   have hb5' : (((k : Int) + 1) < ((⟨#[48, 43, 49, 45, 48]⟩ : ByteArray).size : Int)) := of_decide_eq_true hb5
   refine AC.condT (Evl.tmp rfl) ?_
   refine AC.skipS ?_
   refine AC.seq ?_
   refine AC.block ?_
   refine AC.sr ?_
   refine AL.cons rfl (Does.move rfl rfl) ?_
   refine AL.cons rfl (Does.move rfl rfl) ?_
   obtain ⟨c7, hc8⟩ : ∃ z, (⟨#[48, 43, 49, 45, 48]⟩ : ByteArray)[((k : Int)).toNat]? = some z := ⟨_, getElem?_pos _ _ (by omega)⟩
   refine AL.cons rfl (Does.indexS (Evl.tmp rfl) (Evl.tmp rfl) rfl und_9 (by omega) hc8) ?_
   refine AL.cons rfl (Does.move rfl rfl) ?_
   refine AL.cons rfl (Does.eqlU (Evl.tmp rfl) (Evl.tmp rfl) rfl) ?_
   refine AL.cons rfl (Does.move rfl rfl) ?_
   cases hb9 : (decide (c7 = a))
   ·have _h := hb9
    have hb9' : ¬ (c7 = a) := of_decide_eq_false hb9
    refine AL.guard_no (b := true) rfl rfl rfl ?_ rfl
    refine AL.guard_no (b := true) rfl rfl rfl ?_ rfl
    refine AL.guard_no (b := true) rfl rfl rfl ?_ rfl
    refine AL.guard_no (b := true) rfl rfl rfl ?_ rfl
    refine AL.guard_no (b := true) rfl rfl rfl ?_ rfl
    refine AL.guard_no (b := true) rfl rfl rfl ?_ rfl
    refine AL.cons rfl (Does.pickF (Evl.tmp rfl) (Evl.ev Evl.bool) rfl) ?_
    refine AL.nilS ?_
    refine AC.condF (Evl.tmp rfl) ?_
    refine AC.skip ?_
    refine (?_ : AC _ _ _ _ _)
    refine AC.region ?_
    refine AL.cons rfl (Does.move rfl rfl) ?_
    refine AL.cons rfl (Does.add (Evl.tmp rfl) (Evl.int rfl) rfl (by omega)) ?_
    refine AL.cons rfl (Does.assign rfl rfl) ?_
    refine AL.nil ?_
    refine lend ⟨k + 1, by omega, rfl, (next_step hN (fun h => by obtain ⟨h1, h2⟩ := h; rw [show roundS = (⟨#[48, 43, 49, 45, 48]⟩ : ByteArray) from rfl] at h1 h2; first | (rw [bAt_get (by assumption)] at h1; contradiction) | (rw [bAt_get (by assumption)] at h2; contradiction))), rfl⟩ (by omega) ?_
    exact Wk.of [] rfl ⟨rfl, rfl, rfl, rfl, trivial⟩ trivial rfl rfl
   ·have _h := hb9
    have hb9' : (c7 = a) := of_decide_eq_true hb9
    refine AL.guard_yes rfl rfl rfl (Does.move rfl rfl) ?_
    refine AL.guard_yes rfl rfl rfl (Does.move rfl rfl) ?_
    refine AL.guard_yes rfl rfl rfl (Does.add (Evl.tmp rfl) (Evl.int rfl) rfl (by omega)) ?_
    obtain ⟨c10, hc11⟩ : ∃ z, (⟨#[48, 43, 49, 45, 48]⟩ : ByteArray)[((k : Int) + 1).toNat]? = some z := ⟨_, getElem?_pos _ _ (by omega)⟩
    refine AL.guard_yes rfl rfl rfl (Does.indexS (Evl.tmp rfl) (Evl.tmp rfl) rfl und_9 (by omega) hc11) ?_
    refine AL.guard_yes rfl rfl rfl (Does.move rfl rfl) ?_
    refine AL.guard_yes rfl rfl rfl (Does.eqlU (Evl.tmp rfl) (Evl.tmp rfl) rfl) ?_
    refine AL.cons rfl (Does.pickT (Evl.tmp rfl) (Ev.tmp rfl) rfl) ?_
    refine AL.nilS ?_
    cases hb12 : (decide (c10 = b))
    ·have _h := hb12
     have hb12' : ¬ (c10 = b) := of_decide_eq_false hb12
     refine AC.condF (Evl.tmp rfl) ?_
     refine AC.skip ?_
     refine (?_ : AC _ _ _ _ _)
     refine AC.region ?_
     refine AL.cons rfl (Does.move rfl rfl) ?_
     refine AL.cons rfl (Does.add (Evl.tmp rfl) (Evl.int rfl) rfl (by omega)) ?_
     refine AL.cons rfl (Does.assign rfl rfl) ?_
     refine AL.nil ?_
     refine lend ⟨k + 1, by omega, rfl, (next_step hN (fun h => by obtain ⟨h1, h2⟩ := h; rw [show roundS = (⟨#[48, 43, 49, 45, 48]⟩ : ByteArray) from rfl] at h1 h2; first | (rw [bAt_get (by assumption)] at h1; contradiction) | (rw [bAt_get (by assumption)] at h2; contradiction))), rfl⟩ (by omega) ?_
     exact Wk.of [] rfl ⟨rfl, rfl, rfl, rfl, trivial⟩ trivial rfl rfl
    ·have _h := hb12
     have hb12' : (c10 = b) := of_decide_eq_true hb12
     refine AC.condT (Evl.tmp rfl) ?_
     refine AC.sr ?_
     refine AL.cons rfl (Does.assignC Evl.bool rfl) ?_
     refine AL.nilS ?_
     refine AC.ret ?_
     subst hO
     have e13 : (true : Bool) = (mayF a b) := by
      exact next_yes (k := k) (by omega) ((bAt_get (m := roundS) (by assumption)).trans (by assumption)) ((bAt_get (m := roundS) (by assumption)).trans (by assumption))
     exact fin_pure (Res.one rfl (Rs.tmp rfl)) ((congrArg (fun z_ => lf (dB z_)) e13)) rfl
 ·refine AC.seq ?_
  refine AC.sr ?_
  refine AL.cons rfl (Does.move rfl rfl) ?_
  refine AL.cons rfl (Does.eqlU (Evl.tmp rfl) (Evl.u8 43 rfl) rfl) ?_
  refine AL.cons rfl (Does.move rfl rfl) ?_
  cases hb14 : (decide (a = 43))
  ·have _h := hb14
   have hb14' : ¬ (a = 43) := of_decide_eq_false hb14
   refine AL.guard_no (b := true) rfl rfl rfl ?_ rfl
   refine AL.guard_no (b := true) rfl rfl rfl ?_ rfl
   refine AL.cons rfl (Does.pickF (Evl.tmp rfl) (Evl.ev Evl.bool) rfl) ?_
   refine AL.cons rfl (Does.move rfl rfl) ?_
   refine AL.guard_yes rfl rfl rfl (Does.move rfl rfl) ?_
   refine AL.guard_yes rfl rfl rfl (Does.eqlU (Evl.tmp rfl) (Evl.u8 45 rfl) rfl) ?_
   refine AL.guard_yes rfl rfl rfl (Does.move rfl rfl) ?_
   cases hb15 : (decide (a = 45))
   ·have _h := hb15
    have hb15' : ¬ (a = 45) := of_decide_eq_false hb15
    refine AL.guard_no (b := true) rfl rfl rfl ?_ rfl
    refine AL.guard_no (b := true) rfl rfl rfl ?_ rfl
    refine AL.guard_yes rfl rfl rfl (Does.pickF (Evl.tmp rfl) (Evl.ev Evl.bool) rfl) ?_
    refine AL.cons rfl (Does.pickF (Evl.tmp rfl) (Ev.tmp rfl) rfl) ?_
    refine AL.nilS ?_
    refine AC.condF (Evl.tmp rfl) ?_
    refine AC.skipS ?_
    refine jend (J1 _ ⟨(fun h => by obtain ⟨h1, h2⟩ := h; contradiction), (fun h => by obtain ⟨h1, h2⟩ := h; contradiction), rfl⟩) ?_
    exact Wk.of [] rfl ⟨rfl, rfl, rfl, trivial⟩ trivial rfl rfl
   ·have _h := hb15
    have hb15' : (a = 45) := of_decide_eq_true hb15
    refine AL.guard_yes rfl rfl rfl (Does.move rfl rfl) ?_
    refine AL.guard_yes rfl rfl rfl (Does.eqlU (Evl.tmp rfl) (Evl.u8 43 rfl) rfl) ?_
    refine AL.guard_yes rfl rfl rfl (Does.pickT (Evl.tmp rfl) (Ev.tmp rfl) rfl) ?_
    refine AL.cons rfl (Does.pickF (Evl.tmp rfl) (Ev.tmp rfl) rfl) ?_
    refine AL.nilS ?_
    cases hb16 : (decide (b = 43))
    ·have _h := hb16
     have hb16' : ¬ (b = 43) := of_decide_eq_false hb16
     refine AC.condF (Evl.tmp rfl) ?_
     refine AC.skipS ?_
     refine jend (J1 _ ⟨(fun h => by obtain ⟨h1, h2⟩ := h; contradiction), (fun h => by obtain ⟨h1, h2⟩ := h; contradiction), rfl⟩) ?_
     exact Wk.of [] rfl ⟨rfl, rfl, rfl, trivial⟩ trivial rfl rfl
    ·have _h := hb16
     have hb16' : (b = 43) := of_decide_eq_true hb16
     refine AC.condT (Evl.tmp rfl) ?_
     refine AC.sr ?_
     refine AL.cons rfl (Does.assignC Evl.bool rfl) ?_
     refine AL.nilS ?_
     refine AC.ret ?_
     subst hO
     have e17 : (true : Bool) = (mayF a b) := by
      (unfold mayF; simp_all; done)
     exact fin_pure (Res.one rfl (Rs.tmp rfl)) ((congrArg (fun z_ => lf (dB z_)) e17)) rfl
  ·have _h := hb14
   have hb14' : (a = 43) := of_decide_eq_true hb14
   refine AL.guard_yes rfl rfl rfl (Does.move rfl rfl) ?_
   refine AL.guard_yes rfl rfl rfl (Does.eqlU (Evl.tmp rfl) (Evl.u8 45 rfl) rfl) ?_
   refine AL.cons rfl (Does.pickT (Evl.tmp rfl) (Ev.tmp rfl) rfl) ?_
   refine AL.cons rfl (Does.move rfl rfl) ?_
   cases hb18 : (decide (b = 45))
   ·have _h := hb18
    have hb18' : ¬ (b = 45) := of_decide_eq_false hb18
    refine AL.guard_yes rfl rfl rfl (Does.move rfl rfl) ?_
    refine AL.guard_yes rfl rfl rfl (Does.eqlU (Evl.tmp rfl) (Evl.u8 45 rfl) rfl) ?_
    refine AL.guard_yes rfl rfl rfl (Does.move rfl rfl) ?_
    have hb19 : (decide (a = 45)) = false := decide_eq_false fun h_ => absurd ((of_decide_eq_true (hb14)).symm.trans h_) (by decide)
    have hb19' : ¬ (a = 45) := of_decide_eq_false hb19
    try rw [hb19]
    refine AL.guard_no (b := true) rfl rfl rfl ?_ rfl
    refine AL.guard_no (b := true) rfl rfl rfl ?_ rfl
    refine AL.guard_yes rfl rfl rfl (Does.pickF (Evl.tmp rfl) (Evl.ev Evl.bool) rfl) ?_
    refine AL.cons rfl (Does.pickF (Evl.tmp rfl) (Ev.tmp rfl) rfl) ?_
    refine AL.nilS ?_
    refine AC.condF (Evl.tmp rfl) ?_
    refine AC.skipS ?_
    refine jend (J1 _ ⟨(fun h => by obtain ⟨h1, h2⟩ := h; contradiction), (fun h => by obtain ⟨h1, h2⟩ := h; contradiction), rfl⟩) ?_
    exact Wk.of [] rfl ⟨rfl, rfl, rfl, trivial⟩ trivial rfl rfl
   ·have _h := hb18
    have hb18' : (b = 45) := of_decide_eq_true hb18
    refine AL.guard_no (b := false) rfl rfl rfl ?_ rfl
    refine AL.guard_no (b := false) rfl rfl rfl ?_ rfl
    refine AL.guard_no (b := false) rfl rfl rfl ?_ rfl
    refine AL.guard_un rfl rfl rfl ?_ rfl
    refine AL.guard_un rfl rfl rfl ?_ rfl
    refine AL.guard_no (b := false) rfl rfl rfl ?_ rfl
    refine AL.cons rfl (Does.pickT (Evl.tmp rfl) (Evl.ev Evl.bool) rfl) ?_
    refine AL.nilS ?_
    refine AC.condT (Evl.tmp rfl) ?_
    refine AC.sr ?_
    refine AL.cons rfl (Does.assignC Evl.bool rfl) ?_
    refine AL.nilS ?_
    refine AC.ret ?_
    subst hO
    have e20 : (true : Bool) = (mayF a b) := by
     (unfold mayF; simp_all; done)
    exact fin_pure (Res.one rfl (Rs.tmp rfl)) ((congrArg (fun z_ => lf (dB z_)) e20)) rfl

set_option maxRecDepth 100000 in
set_option maxHeartbeats 4000000 in
theorem fc_impl_isDelayed (a : Int × Int × Bool × Int) (s : ByteArray) (h1 : 0 ≤ a.1 ∧ a.1 < (s.size : Int)) (h2 : 0 ≤ a.2.2.2 ∧ a.2.2.2 < (s.size : Int)) : FC Try.prog 178 [(true, [dI a.1, dI a.2.1, dB a.2.2.1, dI a.2.2.2]), (false, [dS s])] [] 0 (Pure (lf (dB (delV s a)))) := by
 refine FC.O_all fun O_ hO => FC.ren (FC.of Try.func178 rfl rfl fun A_ hn_ hk_ => ?_)
 obtain ⟨w0_, N0_, X_, n_, k0_, h0_, f0_⟩ := A_
 obtain rfl : n_ = 37 := hn_.trans Try.ntmps178
 obtain rfl : k0_ = 0 := hk_
 refine AC.fact (fact_ag (x := .tmp 0) (i := 0) (Ev.tmp rfl) rfl) fun hi1 => ?_
 refine AC.fact (fact_ag (x := .tmp 0) (i := 1) (Ev.tmp rfl) rfl) fun hi2 => ?_
 refine AC.fact (fact_ag (x := .tmp 0) (i := 3) (Ev.tmp rfl) rfl) fun hi3 => ?_
 refine AC.sr ?_
 refine AL.cons rfl (Does.box 0 (Ev.tmp rfl) rfl rfl (Fresh.of rfl) (nlr rfl)) ?_
 refine AL.cons rfl (Does.assignC Evl.bool rfl) ?_
 refine AL.nilS ?_
 refine AC.seq ?_
 obtain ⟨c4, hc5⟩ : ∃ z, s[(a.1).toNat]? = some z := ⟨_, getElem?_pos _ _ (by omega)⟩
 obtain ⟨c6, hc7⟩ : ∃ z, s[(a.2.2.2).toNat]? = some z := ⟨_, getElem?_pos _ _ (by omega)⟩
 refine AC.drawL [⟨some 7, lf (dS s), []⟩, ⟨some 8, lf (.ptr 0 0), []⟩, ⟨some 9, lf (dI a.1), []⟩, ⟨some 10, lf (.dat .u8 c4), []⟩, ⟨some 11, lf (dS s), []⟩, ⟨some 12, lf (.ptr 0 3), []⟩, ⟨some 13, lf (dI a.2.2.2), []⟩, ⟨some 14, lf (.dat .u8 c6), []⟩, ⟨some 5, lf (.dat .u8 c4), []⟩, ⟨some 6, lf (.dat .u8 c6), []⟩] [[], [], [1], [0, 1, 2], [], [], [5], [4, 5, 6], [0, 1, 2, 3], [0, 1, 2, 3, 4, 5, 6, 7, 8]] mixed rfl (by kernel_rfl) ?_ ?_
 · refine ⟨fun s_ hs => Acts.of1 rfl (Does.move (hs.tm 1 rfl) rfl) rfl, fun s_ hs => Acts.of1 rfl (Does.fieldP (Evl.tmp (hs.tm 2 rfl)) fld_170_0 (by rw [(hs.en 0 rfl)]; rfl) rfl) rfl, fun s_ hs => Acts.of1 rfl (Does.loadP (Evl.tmp (hs.tm 8 rfl)) (hs.en 0 rfl) tsh_3 rfl rfl) rfl, fun s_ hs => Acts.of1 rfl (Does.indexS (Evl.tmp (hs.tm 7 rfl)) (Evl.tmp (hs.tm 9 rfl)) rfl und_9 (by omega) hc5) rfl, fun s_ hs => Acts.of1 rfl (Does.move (hs.tm 1 rfl) rfl) rfl, fun s_ hs => Acts.of1 rfl (Does.fieldP (Evl.tmp (hs.tm 2 rfl)) fld_170_3 (by rw [(hs.en 0 rfl)]; rfl) rfl) rfl, fun s_ hs => Acts.of1 rfl (Does.loadP (Evl.tmp (hs.tm 12 rfl)) (hs.en 0 rfl) tsh_3 rfl rfl) rfl, fun s_ hs => Acts.of1 rfl (Does.indexS (Evl.tmp (hs.tm 11 rfl)) (Evl.tmp (hs.tm 13 rfl)) rfl und_9 (by omega) hc7) rfl, fun s_ hs => Acts.of1 rfl (Does.assign (hs.tm 10 rfl) rfl) rfl, fun s_ hs => Acts.of1 rfl (Does.assign (hs.tm 14 rfl) rfl) rfl, trivial⟩
 refine (?_ : AC _ _ _ _ _)
 refine AC.wk (s' := _) (Wk.refl _ _) ?_
 refine AC.sr ?_
 refine AL.cons rfl (Does.move rfl rfl) ?_
 refine AL.cons rfl (Does.eqlU (Evl.tmp rfl) (Evl.u8 43 rfl) rfl) ?_
 refine AL.cons rfl (Does.move rfl rfl) ?_
 cases hb8 : (decide (c4 = 43))
 ·have _h := hb8
  have hb8' : ¬ (c4 = 43) := of_decide_eq_false hb8
  refine AL.guard_no (b := true) rfl rfl rfl ?_ rfl
  refine AL.guard_no (b := true) rfl rfl rfl ?_ rfl
  refine AL.guard_no (b := true) rfl rfl rfl ?_ rfl
  refine AL.guard_un rfl rfl rfl ?_ rfl
  refine AL.guard_un rfl rfl rfl ?_ rfl
  refine AL.guard_no (b := true) rfl rfl rfl ?_ rfl
  refine AL.cons rfl (Does.pickF (Evl.tmp rfl) (Evl.ev Evl.bool) rfl) ?_
  refine AL.cons rfl (Does.move rfl rfl) ?_
  refine AL.guard_yes rfl rfl rfl (Does.move rfl rfl) ?_
  refine AL.guard_yes rfl rfl rfl (Does.eqlU (Evl.tmp rfl) (Evl.u8 45 rfl) rfl) ?_
  refine AL.guard_yes rfl rfl rfl (Does.move rfl rfl) ?_
  cases hb9 : (decide (c4 = 45))
  ·have _h := hb9
   have hb9' : ¬ (c4 = 45) := of_decide_eq_false hb9
   refine AL.guard_no (b := true) rfl rfl rfl ?_ rfl
   refine AL.guard_no (b := true) rfl rfl rfl ?_ rfl
   refine AL.guard_no (b := true) rfl rfl rfl ?_ rfl
   refine AL.guard_un rfl rfl rfl ?_ rfl
   refine AL.guard_un rfl rfl rfl ?_ rfl
   refine AL.guard_no (b := true) rfl rfl rfl ?_ rfl
   refine AL.guard_yes rfl rfl rfl (Does.pickF (Evl.tmp rfl) (Evl.ev Evl.bool) rfl) ?_
   refine AL.cons rfl (Does.pickF (Evl.tmp rfl) (Ev.tmp rfl) rfl) ?_
   refine AL.cons rfl (Does.assign rfl rfl) ?_
   refine AL.nilS ?_
   refine AC.ret ?_
   subst hO
   have e10 : (false : Bool) = (delV s a) := by
    (unfold delV; rw [bAt_get (p := a.1) (by assumption), bAt_get (p := a.2.2.2) (by assumption)]; simp_all; done)
   exact fin_pure (Res.one rfl (Rs.tmp rfl)) ((congrArg (fun z_ => lf (dB z_)) e10)) rfl
  ·have _h := hb9
   have hb9' : (c4 = 45) := of_decide_eq_true hb9
   refine AL.guard_yes rfl rfl rfl (Does.move rfl rfl) ?_
   refine AL.guard_yes rfl rfl rfl (Does.eqlU (Evl.tmp rfl) (Evl.u8 48 rfl) rfl) ?_
   refine AL.guard_yes rfl rfl rfl (Does.move rfl rfl) ?_
   cases hb11 : (decide (c6 = 48))
   ·have _h := hb11
    have hb11' : ¬ (c6 = 48) := of_decide_eq_false hb11
    refine AL.guard_yes rfl rfl rfl (Does.move rfl rfl) ?_
    refine AL.guard_yes rfl rfl rfl (Does.eqlU (Evl.tmp rfl) (Evl.u8 43 rfl) rfl) ?_
    refine AL.guard_yes rfl rfl rfl (Does.pickF (Evl.tmp rfl) (Ev.tmp rfl) rfl) ?_
    refine AL.guard_yes rfl rfl rfl (Does.pickT (Evl.tmp rfl) (Ev.tmp rfl) rfl) ?_
    refine AL.cons rfl (Does.pickF (Evl.tmp rfl) (Ev.tmp rfl) rfl) ?_
    refine AL.cons rfl (Does.assign rfl rfl) ?_
    refine AL.nilS ?_
    refine AC.ret ?_
    subst hO
    have e12 : (decide (c6 = 43) : Bool) = (delV s a) := by
     (unfold delV; rw [bAt_get (p := a.1) (by assumption), bAt_get (p := a.2.2.2) (by assumption)]; simp_all; done)
    exact fin_pure (Res.one rfl (Rs.tmp rfl)) ((congrArg (fun z_ => lf (dB z_)) e12)) rfl
   ·have _h := hb11
    have hb11' : (c6 = 48) := of_decide_eq_true hb11
    refine AL.guard_no (b := false) rfl rfl rfl ?_ rfl
    refine AL.guard_no (b := false) rfl rfl rfl ?_ rfl
    refine AL.guard_yes rfl rfl rfl (Does.pickT (Evl.tmp rfl) (Evl.ev Evl.bool) rfl) ?_
    refine AL.guard_yes rfl rfl rfl (Does.pickT (Evl.tmp rfl) (Ev.tmp rfl) rfl) ?_
    refine AL.cons rfl (Does.pickF (Evl.tmp rfl) (Ev.tmp rfl) rfl) ?_
    refine AL.cons rfl (Does.assign rfl rfl) ?_
    refine AL.nilS ?_
    refine AC.ret ?_
    subst hO
    have e13 : (true : Bool) = (delV s a) := by
     (unfold delV; rw [bAt_get (p := a.1) (by assumption), bAt_get (p := a.2.2.2) (by assumption)]; simp_all; done)
    exact fin_pure (Res.one rfl (Rs.tmp rfl)) ((congrArg (fun z_ => lf (dB z_)) e13)) rfl
 ·have _h := hb8
  have hb8' : (c4 = 43) := of_decide_eq_true hb8
  refine AL.guard_yes rfl rfl rfl (Does.move rfl rfl) ?_
  refine AL.guard_yes rfl rfl rfl (Does.eqlU (Evl.tmp rfl) (Evl.u8 49 rfl) rfl) ?_
  refine AL.guard_yes rfl rfl rfl (Does.move rfl rfl) ?_
  cases hb14 : (decide (c6 = 49))
  ·have _h := hb14
   have hb14' : ¬ (c6 = 49) := of_decide_eq_false hb14
   refine AL.guard_yes rfl rfl rfl (Does.move rfl rfl) ?_
   refine AL.guard_yes rfl rfl rfl (Does.eqlU (Evl.tmp rfl) (Evl.u8 45 rfl) rfl) ?_
   refine AL.guard_yes rfl rfl rfl (Does.pickF (Evl.tmp rfl) (Ev.tmp rfl) rfl) ?_
   refine AL.cons rfl (Does.pickT (Evl.tmp rfl) (Ev.tmp rfl) rfl) ?_
   refine AL.cons rfl (Does.move rfl rfl) ?_
   cases hb15 : (decide (c6 = 45))
   ·have _h := hb15
    have hb15' : ¬ (c6 = 45) := of_decide_eq_false hb15
    refine AL.guard_yes rfl rfl rfl (Does.move rfl rfl) ?_
    refine AL.guard_yes rfl rfl rfl (Does.eqlU (Evl.tmp rfl) (Evl.u8 45 rfl) rfl) ?_
    refine AL.guard_yes rfl rfl rfl (Does.move rfl rfl) ?_
    have hb16 : (decide (c4 = 45)) = false := decide_eq_false fun h_ => absurd ((of_decide_eq_true (hb8)).symm.trans h_) (by decide)
    have hb16' : ¬ (c4 = 45) := of_decide_eq_false hb16
    try rw [hb16]
    refine AL.guard_no (b := true) rfl rfl rfl ?_ rfl
    refine AL.guard_no (b := true) rfl rfl rfl ?_ rfl
    refine AL.guard_no (b := true) rfl rfl rfl ?_ rfl
    refine AL.guard_un rfl rfl rfl ?_ rfl
    refine AL.guard_un rfl rfl rfl ?_ rfl
    refine AL.guard_no (b := true) rfl rfl rfl ?_ rfl
    refine AL.guard_yes rfl rfl rfl (Does.pickF (Evl.tmp rfl) (Evl.ev Evl.bool) rfl) ?_
    refine AL.cons rfl (Does.pickF (Evl.tmp rfl) (Ev.tmp rfl) rfl) ?_
    refine AL.cons rfl (Does.assign rfl rfl) ?_
    refine AL.nilS ?_
    refine AC.ret ?_
    subst hO
    have e17 : (false : Bool) = (delV s a) := by
     (unfold delV; rw [bAt_get (p := a.1) (by assumption), bAt_get (p := a.2.2.2) (by assumption)]; simp_all; done)
    exact fin_pure (Res.one rfl (Rs.tmp rfl)) ((congrArg (fun z_ => lf (dB z_)) e17)) rfl
   ·have _h := hb15
    have hb15' : (c6 = 45) := of_decide_eq_true hb15
    refine AL.guard_no (b := false) rfl rfl rfl ?_ rfl
    refine AL.guard_no (b := false) rfl rfl rfl ?_ rfl
    refine AL.guard_no (b := false) rfl rfl rfl ?_ rfl
    refine AL.guard_un rfl rfl rfl ?_ rfl
    refine AL.guard_un rfl rfl rfl ?_ rfl
    refine AL.guard_un rfl rfl rfl ?_ rfl
    refine AL.guard_un rfl rfl rfl ?_ rfl
    refine AL.guard_un rfl rfl rfl ?_ rfl
    refine AL.guard_un rfl rfl rfl ?_ rfl
    refine AL.guard_no (b := false) rfl rfl rfl ?_ rfl
    refine AL.cons rfl (Does.pickT (Evl.tmp rfl) (Evl.ev Evl.bool) rfl) ?_
    refine AL.cons rfl (Does.assign rfl rfl) ?_
    refine AL.nilS ?_
    refine AC.ret ?_
    subst hO
    have e18 : (true : Bool) = (delV s a) := by
     (unfold delV; rw [bAt_get (p := a.1) (by assumption), bAt_get (p := a.2.2.2) (by assumption)]; simp_all; done)
    exact fin_pure (Res.one rfl (Rs.tmp rfl)) ((congrArg (fun z_ => lf (dB z_)) e18)) rfl
  ·have _h := hb14
   have hb14' : (c6 = 49) := of_decide_eq_true hb14
   refine AL.guard_no (b := false) rfl rfl rfl ?_ rfl
   refine AL.guard_no (b := false) rfl rfl rfl ?_ rfl
   refine AL.guard_yes rfl rfl rfl (Does.pickT (Evl.tmp rfl) (Evl.ev Evl.bool) rfl) ?_
   refine AL.cons rfl (Does.pickT (Evl.tmp rfl) (Ev.tmp rfl) rfl) ?_
   refine AL.cons rfl (Does.move rfl rfl) ?_
   refine AL.guard_no (b := false) rfl rfl rfl ?_ rfl
   refine AL.guard_no (b := false) rfl rfl rfl ?_ rfl
   refine AL.guard_no (b := false) rfl rfl rfl ?_ rfl
   refine AL.guard_un rfl rfl rfl ?_ rfl
   refine AL.guard_un rfl rfl rfl ?_ rfl
   refine AL.guard_un rfl rfl rfl ?_ rfl
   refine AL.guard_un rfl rfl rfl ?_ rfl
   refine AL.guard_un rfl rfl rfl ?_ rfl
   refine AL.guard_un rfl rfl rfl ?_ rfl
   refine AL.guard_no (b := false) rfl rfl rfl ?_ rfl
   refine AL.cons rfl (Does.pickT (Evl.tmp rfl) (Evl.ev Evl.bool) rfl) ?_
   refine AL.cons rfl (Does.assign rfl rfl) ?_
   refine AL.nilS ?_
   refine AC.ret ?_
   subst hO
   have e19 : (true : Bool) = (delV s a) := by
    (unfold delV; rw [bAt_get (p := a.1) (by assumption), bAt_get (p := a.2.2.2) (by assumption)]; simp_all; done)
   exact fin_pure (Res.one rfl (Rs.tmp rfl)) ((congrArg (fun z_ => lf (dB z_)) e19)) rfl

set_option maxRecDepth 100000 in
set_option maxHeartbeats 4000000 in
theorem fc_spec_l11Waits (s : ByteArray) (a : Int × Int × Bool × Int) (h1 : 0 ≤ a.1 ∧ a.1 < (s.size : Int)) (h2 : 0 ≤ a.2.2.2 ∧ a.2.2.2 < (s.size : Int)) : FC Try.prog 214 [(false, [dS s]), (true, [dI a.1, dI a.2.1, dB a.2.2.1, dI a.2.2.2])] [] 0 (Pure (lf (dB (delV s a)))) := by
 refine FC.O_all fun O_ hO => FC.ren (FC.of Try.func214 rfl rfl fun A_ hn_ hk_ => ?_)
 obtain ⟨w0_, N0_, X_, n_, k0_, h0_, f0_⟩ := A_
 obtain rfl : n_ = 37 := hn_.trans Try.ntmps214
 obtain rfl : k0_ = 0 := hk_
 refine AC.fact (fact_ag (x := .tmp 1) (i := 0) (Ev.tmp rfl) rfl) fun hi1 => ?_
 refine AC.fact (fact_ag (x := .tmp 1) (i := 1) (Ev.tmp rfl) rfl) fun hi2 => ?_
 refine AC.fact (fact_ag (x := .tmp 1) (i := 3) (Ev.tmp rfl) rfl) fun hi3 => ?_
 refine AC.sr ?_
 refine AL.cons rfl (Does.box 0 (Ev.tmp rfl) rfl rfl (Fresh.of rfl) (nlr rfl)) ?_
 refine AL.cons rfl (Does.assignC Evl.bool rfl) ?_
 refine AL.nilS ?_
 refine AC.seq ?_
 obtain ⟨c4, hc5⟩ : ∃ z, s[(a.1).toNat]? = some z := ⟨_, getElem?_pos _ _ (by omega)⟩
 obtain ⟨c6, hc7⟩ : ∃ z, s[(a.2.2.2).toNat]? = some z := ⟨_, getElem?_pos _ _ (by omega)⟩
 refine AC.drawL [⟨some 7, lf (dS s), []⟩, ⟨some 8, lf (.ptr 0 0), []⟩, ⟨some 9, lf (dI a.1), []⟩, ⟨some 10, lf (.dat .u8 c4), []⟩, ⟨some 11, lf (dS s), []⟩, ⟨some 12, lf (.ptr 0 3), []⟩, ⟨some 13, lf (dI a.2.2.2), []⟩, ⟨some 14, lf (.dat .u8 c6), []⟩, ⟨some 5, lf (.dat .u8 c4), []⟩, ⟨some 6, lf (.dat .u8 c6), []⟩] [[], [], [1], [0, 1, 2], [], [], [5], [4, 5, 6], [0, 1, 2, 3], [0, 1, 2, 3, 4, 5, 6, 7, 8]] mixed rfl (by kernel_rfl) ?_ ?_
 · refine ⟨fun s_ hs => Acts.of1 rfl (Does.move (hs.tm 0 rfl) rfl) rfl, fun s_ hs => Acts.of1 rfl (Does.fieldP (Evl.tmp (hs.tm 3 rfl)) fld_170_0 (by rw [(hs.en 0 rfl)]; rfl) rfl) rfl, fun s_ hs => Acts.of1 rfl (Does.loadP (Evl.tmp (hs.tm 8 rfl)) (hs.en 0 rfl) tsh_3 rfl rfl) rfl, fun s_ hs => Acts.of1 rfl (Does.indexS (Evl.tmp (hs.tm 7 rfl)) (Evl.tmp (hs.tm 9 rfl)) rfl und_9 (by omega) hc5) rfl, fun s_ hs => Acts.of1 rfl (Does.move (hs.tm 0 rfl) rfl) rfl, fun s_ hs => Acts.of1 rfl (Does.fieldP (Evl.tmp (hs.tm 3 rfl)) fld_170_3 (by rw [(hs.en 0 rfl)]; rfl) rfl) rfl, fun s_ hs => Acts.of1 rfl (Does.loadP (Evl.tmp (hs.tm 12 rfl)) (hs.en 0 rfl) tsh_3 rfl rfl) rfl, fun s_ hs => Acts.of1 rfl (Does.indexS (Evl.tmp (hs.tm 11 rfl)) (Evl.tmp (hs.tm 13 rfl)) rfl und_9 (by omega) hc7) rfl, fun s_ hs => Acts.of1 rfl (Does.assign (hs.tm 10 rfl) rfl) rfl, fun s_ hs => Acts.of1 rfl (Does.assign (hs.tm 14 rfl) rfl) rfl, trivial⟩
 refine (?_ : AC _ _ _ _ _)
 refine AC.wk (s' := _) (Wk.refl _ _) ?_
 refine AC.sr ?_
 refine AL.cons rfl (Does.move rfl rfl) ?_
 refine AL.cons rfl (Does.eqlU (Evl.tmp rfl) (Evl.u8 43 rfl) rfl) ?_
 refine AL.cons rfl (Does.move rfl rfl) ?_
 cases hb8 : (decide (c4 = 43))
 ·have _h := hb8
  have hb8' : ¬ (c4 = 43) := of_decide_eq_false hb8
  refine AL.guard_no (b := true) rfl rfl rfl ?_ rfl
  refine AL.guard_no (b := true) rfl rfl rfl ?_ rfl
  refine AL.guard_no (b := true) rfl rfl rfl ?_ rfl
  refine AL.guard_un rfl rfl rfl ?_ rfl
  refine AL.guard_un rfl rfl rfl ?_ rfl
  refine AL.guard_no (b := true) rfl rfl rfl ?_ rfl
  refine AL.cons rfl (Does.pickF (Evl.tmp rfl) (Evl.ev Evl.bool) rfl) ?_
  refine AL.cons rfl (Does.move rfl rfl) ?_
  refine AL.guard_yes rfl rfl rfl (Does.move rfl rfl) ?_
  refine AL.guard_yes rfl rfl rfl (Does.eqlU (Evl.tmp rfl) (Evl.u8 45 rfl) rfl) ?_
  refine AL.guard_yes rfl rfl rfl (Does.move rfl rfl) ?_
  cases hb9 : (decide (c4 = 45))
  ·have _h := hb9
   have hb9' : ¬ (c4 = 45) := of_decide_eq_false hb9
   refine AL.guard_no (b := true) rfl rfl rfl ?_ rfl
   refine AL.guard_no (b := true) rfl rfl rfl ?_ rfl
   refine AL.guard_no (b := true) rfl rfl rfl ?_ rfl
   refine AL.guard_un rfl rfl rfl ?_ rfl
   refine AL.guard_un rfl rfl rfl ?_ rfl
   refine AL.guard_no (b := true) rfl rfl rfl ?_ rfl
   refine AL.guard_yes rfl rfl rfl (Does.pickF (Evl.tmp rfl) (Evl.ev Evl.bool) rfl) ?_
   refine AL.cons rfl (Does.pickF (Evl.tmp rfl) (Ev.tmp rfl) rfl) ?_
   refine AL.cons rfl (Does.assign rfl rfl) ?_
   refine AL.nilS ?_
   refine AC.ret ?_
   subst hO
   have e10 : (false : Bool) = (delV s a) := by
    (unfold delV; rw [bAt_get (p := a.1) (by assumption), bAt_get (p := a.2.2.2) (by assumption)]; simp_all; done)
   exact fin_pure (Res.one rfl (Rs.tmp rfl)) ((congrArg (fun z_ => lf (dB z_)) e10)) rfl
  ·have _h := hb9
   have hb9' : (c4 = 45) := of_decide_eq_true hb9
   refine AL.guard_yes rfl rfl rfl (Does.move rfl rfl) ?_
   refine AL.guard_yes rfl rfl rfl (Does.eqlU (Evl.tmp rfl) (Evl.u8 48 rfl) rfl) ?_
   refine AL.guard_yes rfl rfl rfl (Does.move rfl rfl) ?_
   cases hb11 : (decide (c6 = 48))
   ·have _h := hb11
    have hb11' : ¬ (c6 = 48) := of_decide_eq_false hb11
    refine AL.guard_yes rfl rfl rfl (Does.move rfl rfl) ?_
    refine AL.guard_yes rfl rfl rfl (Does.eqlU (Evl.tmp rfl) (Evl.u8 43 rfl) rfl) ?_
    refine AL.guard_yes rfl rfl rfl (Does.pickF (Evl.tmp rfl) (Ev.tmp rfl) rfl) ?_
    refine AL.guard_yes rfl rfl rfl (Does.pickT (Evl.tmp rfl) (Ev.tmp rfl) rfl) ?_
    refine AL.cons rfl (Does.pickF (Evl.tmp rfl) (Ev.tmp rfl) rfl) ?_
    refine AL.cons rfl (Does.assign rfl rfl) ?_
    refine AL.nilS ?_
    refine AC.ret ?_
    subst hO
    have e12 : (decide (c6 = 43) : Bool) = (delV s a) := by
     (unfold delV; rw [bAt_get (p := a.1) (by assumption), bAt_get (p := a.2.2.2) (by assumption)]; simp_all; done)
    exact fin_pure (Res.one rfl (Rs.tmp rfl)) ((congrArg (fun z_ => lf (dB z_)) e12)) rfl
   ·have _h := hb11
    have hb11' : (c6 = 48) := of_decide_eq_true hb11
    refine AL.guard_no (b := false) rfl rfl rfl ?_ rfl
    refine AL.guard_no (b := false) rfl rfl rfl ?_ rfl
    refine AL.guard_yes rfl rfl rfl (Does.pickT (Evl.tmp rfl) (Evl.ev Evl.bool) rfl) ?_
    refine AL.guard_yes rfl rfl rfl (Does.pickT (Evl.tmp rfl) (Ev.tmp rfl) rfl) ?_
    refine AL.cons rfl (Does.pickF (Evl.tmp rfl) (Ev.tmp rfl) rfl) ?_
    refine AL.cons rfl (Does.assign rfl rfl) ?_
    refine AL.nilS ?_
    refine AC.ret ?_
    subst hO
    have e13 : (true : Bool) = (delV s a) := by
     (unfold delV; rw [bAt_get (p := a.1) (by assumption), bAt_get (p := a.2.2.2) (by assumption)]; simp_all; done)
    exact fin_pure (Res.one rfl (Rs.tmp rfl)) ((congrArg (fun z_ => lf (dB z_)) e13)) rfl
 ·have _h := hb8
  have hb8' : (c4 = 43) := of_decide_eq_true hb8
  refine AL.guard_yes rfl rfl rfl (Does.move rfl rfl) ?_
  refine AL.guard_yes rfl rfl rfl (Does.eqlU (Evl.tmp rfl) (Evl.u8 49 rfl) rfl) ?_
  refine AL.guard_yes rfl rfl rfl (Does.move rfl rfl) ?_
  cases hb14 : (decide (c6 = 49))
  ·have _h := hb14
   have hb14' : ¬ (c6 = 49) := of_decide_eq_false hb14
   refine AL.guard_yes rfl rfl rfl (Does.move rfl rfl) ?_
   refine AL.guard_yes rfl rfl rfl (Does.eqlU (Evl.tmp rfl) (Evl.u8 45 rfl) rfl) ?_
   refine AL.guard_yes rfl rfl rfl (Does.pickF (Evl.tmp rfl) (Ev.tmp rfl) rfl) ?_
   refine AL.cons rfl (Does.pickT (Evl.tmp rfl) (Ev.tmp rfl) rfl) ?_
   refine AL.cons rfl (Does.move rfl rfl) ?_
   cases hb15 : (decide (c6 = 45))
   ·have _h := hb15
    have hb15' : ¬ (c6 = 45) := of_decide_eq_false hb15
    refine AL.guard_yes rfl rfl rfl (Does.move rfl rfl) ?_
    refine AL.guard_yes rfl rfl rfl (Does.eqlU (Evl.tmp rfl) (Evl.u8 45 rfl) rfl) ?_
    refine AL.guard_yes rfl rfl rfl (Does.move rfl rfl) ?_
    have hb16 : (decide (c4 = 45)) = false := decide_eq_false fun h_ => absurd ((of_decide_eq_true (hb8)).symm.trans h_) (by decide)
    have hb16' : ¬ (c4 = 45) := of_decide_eq_false hb16
    try rw [hb16]
    refine AL.guard_no (b := true) rfl rfl rfl ?_ rfl
    refine AL.guard_no (b := true) rfl rfl rfl ?_ rfl
    refine AL.guard_no (b := true) rfl rfl rfl ?_ rfl
    refine AL.guard_un rfl rfl rfl ?_ rfl
    refine AL.guard_un rfl rfl rfl ?_ rfl
    refine AL.guard_no (b := true) rfl rfl rfl ?_ rfl
    refine AL.guard_yes rfl rfl rfl (Does.pickF (Evl.tmp rfl) (Evl.ev Evl.bool) rfl) ?_
    refine AL.cons rfl (Does.pickF (Evl.tmp rfl) (Ev.tmp rfl) rfl) ?_
    refine AL.cons rfl (Does.assign rfl rfl) ?_
    refine AL.nilS ?_
    refine AC.ret ?_
    subst hO
    have e17 : (false : Bool) = (delV s a) := by
     (unfold delV; rw [bAt_get (p := a.1) (by assumption), bAt_get (p := a.2.2.2) (by assumption)]; simp_all; done)
    exact fin_pure (Res.one rfl (Rs.tmp rfl)) ((congrArg (fun z_ => lf (dB z_)) e17)) rfl
   ·have _h := hb15
    have hb15' : (c6 = 45) := of_decide_eq_true hb15
    refine AL.guard_no (b := false) rfl rfl rfl ?_ rfl
    refine AL.guard_no (b := false) rfl rfl rfl ?_ rfl
    refine AL.guard_no (b := false) rfl rfl rfl ?_ rfl
    refine AL.guard_un rfl rfl rfl ?_ rfl
    refine AL.guard_un rfl rfl rfl ?_ rfl
    refine AL.guard_un rfl rfl rfl ?_ rfl
    refine AL.guard_un rfl rfl rfl ?_ rfl
    refine AL.guard_un rfl rfl rfl ?_ rfl
    refine AL.guard_un rfl rfl rfl ?_ rfl
    refine AL.guard_no (b := false) rfl rfl rfl ?_ rfl
    refine AL.cons rfl (Does.pickT (Evl.tmp rfl) (Evl.ev Evl.bool) rfl) ?_
    refine AL.cons rfl (Does.assign rfl rfl) ?_
    refine AL.nilS ?_
    refine AC.ret ?_
    subst hO
    have e18 : (true : Bool) = (delV s a) := by
     (unfold delV; rw [bAt_get (p := a.1) (by assumption), bAt_get (p := a.2.2.2) (by assumption)]; simp_all; done)
    exact fin_pure (Res.one rfl (Rs.tmp rfl)) ((congrArg (fun z_ => lf (dB z_)) e18)) rfl
  ·have _h := hb14
   have hb14' : (c6 = 49) := of_decide_eq_true hb14
   refine AL.guard_no (b := false) rfl rfl rfl ?_ rfl
   refine AL.guard_no (b := false) rfl rfl rfl ?_ rfl
   refine AL.guard_yes rfl rfl rfl (Does.pickT (Evl.tmp rfl) (Evl.ev Evl.bool) rfl) ?_
   refine AL.cons rfl (Does.pickT (Evl.tmp rfl) (Ev.tmp rfl) rfl) ?_
   refine AL.cons rfl (Does.move rfl rfl) ?_
   refine AL.guard_no (b := false) rfl rfl rfl ?_ rfl
   refine AL.guard_no (b := false) rfl rfl rfl ?_ rfl
   refine AL.guard_no (b := false) rfl rfl rfl ?_ rfl
   refine AL.guard_un rfl rfl rfl ?_ rfl
   refine AL.guard_un rfl rfl rfl ?_ rfl
   refine AL.guard_un rfl rfl rfl ?_ rfl
   refine AL.guard_un rfl rfl rfl ?_ rfl
   refine AL.guard_un rfl rfl rfl ?_ rfl
   refine AL.guard_un rfl rfl rfl ?_ rfl
   refine AL.guard_no (b := false) rfl rfl rfl ?_ rfl
   refine AL.cons rfl (Does.pickT (Evl.tmp rfl) (Evl.ev Evl.bool) rfl) ?_
   refine AL.cons rfl (Does.assign rfl rfl) ?_
   refine AL.nilS ?_
   refine AC.ret ?_
   subst hO
   have e19 : (true : Bool) = (delV s a) := by
    (unfold delV; rw [bAt_get (p := a.1) (by assumption), bAt_get (p := a.2.2.2) (by assumption)]; simp_all; done)
   exact fin_pure (Res.one rfl (Rs.tmp rfl)) ((congrArg (fun z_ => lf (dB z_)) e19)) rfl

set_option maxRecDepth 100000 in
set_option maxHeartbeats 4000000 in
theorem fc_impl_labelOfArc (a : Int × Int × Bool × Int)  : FC Try.prog 179 [(true, [dI a.1, dI a.2.1, dB a.2.2.1, dI a.2.2.2])] [] 0 (Pure (ag [dI a.2.1, dB a.2.2.1])) := by
 refine FC.O_all fun O_ hO => FC.ren (FC.of Try.func179 rfl rfl fun A_ hn_ hk_ => ?_)
 obtain ⟨w0_, N0_, X_, n_, k0_, h0_, f0_⟩ := A_
 obtain rfl : n_ = 8 := hn_.trans Try.ntmps179
 obtain rfl : k0_ = 0 := hk_
 refine AC.fact (fact_ag (x := .tmp 0) (i := 0) (Ev.tmp rfl) rfl) fun hi1 => ?_
 refine AC.fact (fact_ag (x := .tmp 0) (i := 1) (Ev.tmp rfl) rfl) fun hi2 => ?_
 refine AC.fact (fact_ag (x := .tmp 0) (i := 3) (Ev.tmp rfl) rfl) fun hi3 => ?_
 refine AC.sr ?_
 refine AL.cons rfl (Does.box 0 (Ev.tmp rfl) rfl rfl (Fresh.of rfl) (nlr rfl)) ?_
 refine AL.cons rfl (Does.alloc 1 (.pr .int .bool) zer_131 rfl rfl (Fresh.of rfl) (nlr rfl)) ?_
 refine AL.nilS ?_
 refine AC.sr ?_
 refine AL.cons rfl (Does.fieldP (Evl.tmp rfl) fld_170_1 rfl rfl) ?_
 refine AL.cons rfl (Does.loadP (Evl.tmp rfl) rfl tsh_3 rfl rfl) ?_
 refine AL.cons rfl (Does.fieldP (Evl.tmp rfl) fld_170_2 rfl rfl) ?_
 refine AL.cons rfl (Does.loadP (Evl.tmp rfl) rfl tsh_4 rfl rfl) ?_
 refine AL.cons rfl (Does.build bld_131 ⟨_, _, rfl, (Ev.tmp rfl), ⟨_, _, rfl, (Ev.tmp rfl), rfl⟩⟩ (List.all_eq_true.1 rfl) rfl rfl) ?_
 refine AL.cons rfl (Does.storeP (Evl.tmp rfl) rfl (Ev.tmp rfl) rfl tsh_131 rfl) ?_
 refine AL.nilS ?_
 refine AC.ret ?_
 subst hO
 exact fin_pure (Res.one rfl (Rs.cell rfl rfl tsh_131 rfl)) rfl rfl

set_option maxRecDepth 100000 in
set_option maxHeartbeats 4000000 in
theorem fc_impl_areSigns (c : (List (ByteArray × Int)) × List ByteArray × (List (Int × Int × Bool × Int))) (s : ByteArray) [∀ c, Decidable (SgOk c)]  : FC Try.prog 172 [(true, [.dat (.sl 129 (.pr .str .int)) c.1, .dat (.sl 9 .str) c.2.1, .dat (.sl 170 (.pr .int (.pr .int (.pr .bool .int)))) c.2.2]), (false, [dS s])] [] 0 (Pure (lf (dB (decide (SignsOk c s))))) := by
 refine FC.O_all fun O_ hO => FC.ren (FC.of Try.func172 rfl rfl fun A_ hn_ hk_ => ?_)
 obtain ⟨w0_, N0_, X_, n_, k0_, h0_, f0_⟩ := A_
 obtain rfl : n_ = 40 := hn_.trans Try.ntmps172
 obtain rfl : k0_ = 0 := hk_
 refine AC.sr ?_
 refine AL.cons rfl (Does.box 0 (Ev.tmp rfl) rfl rfl (Fresh.of rfl) (nlr rfl)) ?_
 refine AL.cons rfl (Does.assignC Evl.bool rfl) ?_
 refine AL.nilS ?_
 refine AC.seq ?_
 refine AC.sr ?_
 refine AL.cons rfl (Does.assignC (Evl.int rfl) rfl) ?_
 refine AL.nilS ?_
 refine AC.block ?_
 refine AC.loopW (fun m_ s_ => ∃ (k : Nat), k ≤ s.size ∧ m_ = s.size - k ∧ (∀ j, j < k → ∀ x, s.toList[j]? = some x → x = 48 ∨ x = 43 ∨ x = 49 ∨ x = 45) ∧ s_ = ⟨[(1, lf (dS s)), (2, lf (.ptr 0 0)), (5, lf (dI (k : Int)))], [(0, some (.box 77 [.dat (.sl 129 (.pr .str .int)) c.1, .dat (.sl 9 .str) c.2.1, .dat (.sl 170 (.pr .int (.pr .int (.pr .bool .int)))) c.2.2]))]⟩) ⟨0, Nat.zero_le _, rfl, (fun j hj => absurd hj (Nat.not_lt_zero j)), rfl⟩ ?_ ?_
 · exact Wk.of [(0, 0)] rfl ⟨rfl, rfl, rfl, trivial⟩ ⟨rfl, trivial⟩ rfl rfl
 rintro m_ s_ ⟨k, hk1, hm2, hB, rfl⟩
 refine AC.seq ?_
 refine AC.sr ?_
 refine AL.cons rfl (Does.move rfl rfl) ?_
 refine AL.cons rfl (Does.move rfl rfl) ?_
 refine AL.fact (fact_lenS (x := .tmp 8) (Evl.tmp rfl)) fun hl3 => ?_
 refine AL.cons rfl (Does.lenS (Evl.tmp rfl) rfl und_9) ?_
 refine AL.cons rfl (Does.lss (Evl.tmp rfl) (Evl.tmp rfl) rfl) ?_
 refine AL.nilS ?_
 cases hb4 : (decide ((k : Int) < (s.size : Int)))
 ·have _h := hb4
  have hb4' : ¬ ((k : Int) < (s.size : Int)) := of_decide_eq_false hb4
  refine AC.condF (Evl.tmp rfl) ?_
  refine AC.exit ?_
  refine (?_ : AC _ _ _ _ _)
  refine AC.sr ?_
  refine AL.cons rfl (Does.move rfl rfl) ?_
  refine AL.fact (fact_lenS (x := .tmp 30) (Evl.tmp rfl)) fun hl5 => ?_
  refine AL.cons rfl (Does.lenS (Evl.tmp rfl) rfl und_9) ?_
  refine AL.cons rfl (Does.fieldP (Evl.tmp rfl) fld_77_1 rfl rfl) ?_
  refine AL.cons rfl (Does.loadP (Evl.tmp rfl) rfl tsh_67 rfl rfl) ?_
  refine AL.fact (fact_len (x := .tmp 33) (Evl.tmp rfl)) fun hl6 => ?_
  refine AL.cons rfl (Does.len (Evl.tmp rfl) rfl und_67) ?_
  refine AL.cons rfl (Does.eql (Evl.tmp rfl) (Evl.tmp rfl) rfl) ?_
  refine AL.cons rfl (Does.move rfl rfl) ?_
  cases hb7 : (decide ((s.size : Int) = (c.2.1.length : Int)))
  ·have _h := hb7
   have hb7' : ¬ ((s.size : Int) = (c.2.1.length : Int)) := of_decide_eq_false hb7
   refine AL.guard_no (b := true) rfl rfl rfl ?_ rfl
   refine AL.guard_no (b := true) rfl rfl rfl ?_ rfl
   refine AL.cons rfl (Does.pickF (Evl.tmp rfl) (Evl.ev Evl.bool) rfl) ?_
   refine AL.cons rfl (Does.assign rfl rfl) ?_
   refine AL.nilS ?_
   refine AC.ret ?_
   subst hO
   have e8 : (false : Bool) = (decide (SignsOk c s)) := by
    exact signs_no2 (by assumption)
   exact fin_pure (Res.one rfl (Rs.tmp rfl)) ((congrArg (fun z_ => lf (dB z_)) e8)) rfl
  ·have _h := hb7
   have hb7' : ((s.size : Int) = (c.2.1.length : Int)) := of_decide_eq_true hb7
   refine AL.guard_yes rfl rfl rfl (Does.loadPA (Evl.tmp rfl) rfl tsh_77 rfl rfl) ?_
   refine AL.guard_yes rfl rfl rfl (Does.call (fc_impl_IsValidStateGraph c) enters_136 ⟨_, _, rfl, (Ev.tmp rfl), rfl⟩ rfl rfl) ?_
   refine AL.cons rfl (Does.pickT (Evl.tmp rfl) (Ev.tmp rfl) rfl) ?_
   refine AL.cons rfl (Does.assign rfl rfl) ?_
   refine AL.nilS ?_
   refine AC.ret ?_
   subst hO
   have e9 : (decide (SgOk c) : Bool) = (decide (SignsOk c s)) := by
    exact signs_fin hB (by omega) (by assumption)
   exact fin_pure (Res.one rfl (Rs.tmp rfl)) ((congrArg (fun z_ => lf (dB z_)) e9)) rfl
 ·have _h := hb4
  have hb4' : ((k : Int) < (s.size : Int)) := of_decide_eq_true hb4
  refine AC.condT (Evl.tmp rfl) ?_
  refine AC.skipS ?_
  refine AC.seq ?_
  refine AC.block ?_
  refine AC.sr ?_
  refine AL.cons rfl (Does.move rfl rfl) ?_
  refine AL.cons rfl (Does.move rfl rfl) ?_
  obtain ⟨c10, hc11⟩ : ∃ z, s[((k : Int)).toNat]? = some z := ⟨_, getElem?_pos _ _ (by omega)⟩
  refine AL.cons rfl (Does.indexS (Evl.tmp rfl) (Evl.tmp rfl) rfl und_9 (by omega) hc11) ?_
  refine AL.cons rfl (Does.assign rfl rfl) ?_
  refine AL.nilS ?_
  refine AC.sr ?_
  refine AL.cons rfl (Does.move rfl rfl) ?_
  refine AL.cons rfl (Does.neqU (Evl.tmp rfl) (Evl.u8 48 rfl) rfl) ?_
  refine AL.cons rfl (Does.move rfl rfl) ?_
  cases hb12 : (!decide (c10 = 48))
  ·have _h := hb12
   have hb12' : (c10 = 48) := nd_false hb12
   refine AL.guard_no (b := true) rfl rfl rfl ?_ rfl
   refine AL.guard_no (b := true) rfl rfl rfl ?_ rfl
   refine AL.cons rfl (Does.pickF (Evl.tmp rfl) (Evl.ev Evl.bool) rfl) ?_
   refine AL.cons rfl (Does.move rfl rfl) ?_
   refine AL.guard_no (b := true) rfl rfl rfl ?_ rfl
   refine AL.guard_no (b := true) rfl rfl rfl ?_ rfl
   refine AL.cons rfl (Does.pickF (Evl.tmp rfl) (Evl.ev Evl.bool) rfl) ?_
   refine AL.cons rfl (Does.move rfl rfl) ?_
   refine AL.guard_no (b := true) rfl rfl rfl ?_ rfl
   refine AL.guard_no (b := true) rfl rfl rfl ?_ rfl
   refine AL.cons rfl (Does.pickF (Evl.tmp rfl) (Evl.ev Evl.bool) rfl) ?_
   refine AL.nilS ?_
   refine AC.condF (Evl.tmp rfl) ?_
   refine AC.skip ?_
   refine (?_ : AC _ _ _ _ _)
   refine AC.region ?_
   refine AL.cons rfl (Does.move rfl rfl) ?_
   refine AL.cons rfl (Does.add (Evl.tmp rfl) (Evl.int rfl) rfl (by omega)) ?_
   refine AL.cons rfl (Does.assign rfl rfl) ?_
   refine AL.nil ?_
   refine lend ⟨k + 1, by omega, rfl, (sign_step hB (by assumption) (by first | exact .inl (by assumption) | exact .inr (.inl (by assumption)) | exact .inr (.inr (.inl (by assumption))) | exact .inr (.inr (.inr (by assumption))))), rfl⟩ (by omega) ?_
   exact Wk.of [(0, 0)] rfl ⟨rfl, rfl, rfl, trivial⟩ ⟨rfl, trivial⟩ rfl rfl
  ·have _h := hb12
   have hb12' : ¬ (c10 = 48) := nd_true hb12
   refine AL.guard_yes rfl rfl rfl (Does.move rfl rfl) ?_
   refine AL.guard_yes rfl rfl rfl (Does.neqU (Evl.tmp rfl) (Evl.u8 43 rfl) rfl) ?_
   refine AL.cons rfl (Does.pickT (Evl.tmp rfl) (Ev.tmp rfl) rfl) ?_
   refine AL.cons rfl (Does.move rfl rfl) ?_
   cases hb13 : (!decide (c10 = 43))
   ·have _h := hb13
    have hb13' : (c10 = 43) := nd_false hb13
    refine AL.guard_no (b := true) rfl rfl rfl ?_ rfl
    refine AL.guard_no (b := true) rfl rfl rfl ?_ rfl
    refine AL.cons rfl (Does.pickF (Evl.tmp rfl) (Evl.ev Evl.bool) rfl) ?_
    refine AL.cons rfl (Does.move rfl rfl) ?_
    refine AL.guard_no (b := true) rfl rfl rfl ?_ rfl
    refine AL.guard_no (b := true) rfl rfl rfl ?_ rfl
    refine AL.cons rfl (Does.pickF (Evl.tmp rfl) (Evl.ev Evl.bool) rfl) ?_
    refine AL.nilS ?_
    refine AC.condF (Evl.tmp rfl) ?_
    refine AC.skip ?_
    refine (?_ : AC _ _ _ _ _)
    refine AC.region ?_
    refine AL.cons rfl (Does.move rfl rfl) ?_
    refine AL.cons rfl (Does.add (Evl.tmp rfl) (Evl.int rfl) rfl (by omega)) ?_
    refine AL.cons rfl (Does.assign rfl rfl) ?_
    refine AL.nil ?_
    refine lend ⟨k + 1, by omega, rfl, (sign_step hB (by assumption) (by first | exact .inl (by assumption) | exact .inr (.inl (by assumption)) | exact .inr (.inr (.inl (by assumption))) | exact .inr (.inr (.inr (by assumption))))), rfl⟩ (by omega) ?_
    exact Wk.of [(0, 0)] rfl ⟨rfl, rfl, rfl, trivial⟩ ⟨rfl, trivial⟩ rfl rfl
   ·have _h := hb13
    have hb13' : ¬ (c10 = 43) := nd_true hb13
    refine AL.guard_yes rfl rfl rfl (Does.move rfl rfl) ?_
    refine AL.guard_yes rfl rfl rfl (Does.neqU (Evl.tmp rfl) (Evl.u8 49 rfl) rfl) ?_
    refine AL.cons rfl (Does.pickT (Evl.tmp rfl) (Ev.tmp rfl) rfl) ?_
    refine AL.cons rfl (Does.move rfl rfl) ?_
    cases hb14 : (!decide (c10 = 49))
    ·have _h := hb14
     have hb14' : (c10 = 49) := nd_false hb14
     refine AL.guard_no (b := true) rfl rfl rfl ?_ rfl
     refine AL.guard_no (b := true) rfl rfl rfl ?_ rfl
     refine AL.cons rfl (Does.pickF (Evl.tmp rfl) (Evl.ev Evl.bool) rfl) ?_
     refine AL.nilS ?_
     refine AC.condF (Evl.tmp rfl) ?_
     refine AC.skip ?_
     refine (?_ : AC _ _ _ _ _)
     refine AC.region ?_
     refine AL.cons rfl (Does.move rfl rfl) ?_
     refine AL.cons rfl (Does.add (Evl.tmp rfl) (Evl.int rfl) rfl (by omega)) ?_
     refine AL.cons rfl (Does.assign rfl rfl) ?_
     refine AL.nil ?_
     refine lend ⟨k + 1, by omega, rfl, (sign_step hB (by assumption) (by first | exact .inl (by assumption) | exact .inr (.inl (by assumption)) | exact .inr (.inr (.inl (by assumption))) | exact .inr (.inr (.inr (by assumption))))), rfl⟩ (by omega) ?_
     exact Wk.of [(0, 0)] rfl ⟨rfl, rfl, rfl, trivial⟩ ⟨rfl, trivial⟩ rfl rfl
    ·have _h := hb14
     have hb14' : ¬ (c10 = 49) := nd_true hb14
     refine AL.guard_yes rfl rfl rfl (Does.move rfl rfl) ?_
     refine AL.guard_yes rfl rfl rfl (Does.neqU (Evl.tmp rfl) (Evl.u8 45 rfl) rfl) ?_
     refine AL.cons rfl (Does.pickT (Evl.tmp rfl) (Ev.tmp rfl) rfl) ?_
     refine AL.nilS ?_
     cases hb15 : (!decide (c10 = 45))
     ·have _h := hb15
      have hb15' : (c10 = 45) := nd_false hb15
      refine AC.condF (Evl.tmp rfl) ?_
      refine AC.skip ?_
      refine (?_ : AC _ _ _ _ _)
      refine AC.region ?_
      refine AL.cons rfl (Does.move rfl rfl) ?_
      refine AL.cons rfl (Does.add (Evl.tmp rfl) (Evl.int rfl) rfl (by omega)) ?_
      refine AL.cons rfl (Does.assign rfl rfl) ?_
      refine AL.nil ?_
      refine lend ⟨k + 1, by omega, rfl, (sign_step hB (by assumption) (by first | exact .inl (by assumption) | exact .inr (.inl (by assumption)) | exact .inr (.inr (.inl (by assumption))) | exact .inr (.inr (.inr (by assumption))))), rfl⟩ (by omega) ?_
      exact Wk.of [(0, 0)] rfl ⟨rfl, rfl, rfl, trivial⟩ ⟨rfl, trivial⟩ rfl rfl
     ·have _h := hb15
      have hb15' : ¬ (c10 = 45) := nd_true hb15
      refine AC.condT (Evl.tmp rfl) ?_
      refine AC.sr ?_
      refine AL.cons rfl (Does.assignC Evl.bool rfl) ?_
      refine AL.nilS ?_
      refine AC.ret ?_
      subst hO
      have e16 : (false : Bool) = (decide (SignsOk c s)) := by
       exact signs_no1 (k := k) (by assumption) (by rintro (h | h | h | h) <;> contradiction)
      exact fin_pure (Res.one rfl (Rs.tmp rfl)) ((congrArg (fun z_ => lf (dB z_)) e16)) rfl

set_option maxRecDepth 100000 in
set_option maxHeartbeats 4000000 in
theorem fc_spec_l11Form (c : (List (ByteArray × Int)) × List ByteArray × (List (Int × Int × Bool × Int))) (s : ByteArray) [∀ c, Decidable (SgOk c)]  : FC Try.prog 165 [(true, [.dat (.sl 129 (.pr .str .int)) c.1, .dat (.sl 9 .str) c.2.1, .dat (.sl 170 (.pr .int (.pr .int (.pr .bool .int)))) c.2.2]), (false, [dS s])] [] 0 (Pure (lf (dB (decide (SignsOk c s))))) := by
 refine FC.O_all fun O_ hO => FC.ren (FC.of Try.func165 rfl rfl fun A_ hn_ hk_ => ?_)
 obtain ⟨w0_, N0_, X_, n_, k0_, h0_, f0_⟩ := A_
 obtain rfl : n_ = 44 := hn_.trans Try.ntmps165
 obtain rfl : k0_ = 0 := hk_
 refine AC.sr ?_
 refine AL.cons rfl (Does.box 0 (Ev.tmp rfl) rfl rfl (Fresh.of rfl) (nlr rfl)) ?_
 refine AL.cons rfl (Does.assignC Evl.bool rfl) ?_
 refine AL.nilS ?_
 refine AC.seq ?_
 refine AC.sr ?_
 refine AL.cons rfl (Does.assignC (Evl.int rfl) rfl) ?_
 refine AL.nilS ?_
 refine AC.block ?_
 refine AC.loopW (fun m_ s_ => ∃ (k : Nat), k ≤ s.size ∧ m_ = s.size - k ∧ (∀ j, j < k → ∀ x, s.toList[j]? = some x → x = 48 ∨ x = 43 ∨ x = 49 ∨ x = 45) ∧ s_ = ⟨[(1, lf (dS s)), (2, lf (.ptr 0 0)), (5, lf (dI (k : Int)))], [(0, some (.box 77 [.dat (.sl 129 (.pr .str .int)) c.1, .dat (.sl 9 .str) c.2.1, .dat (.sl 170 (.pr .int (.pr .int (.pr .bool .int)))) c.2.2]))]⟩) ⟨0, Nat.zero_le _, rfl, (fun j hj => absurd hj (Nat.not_lt_zero j)), rfl⟩ ?_ ?_
 · exact Wk.of [(0, 0)] rfl ⟨rfl, rfl, rfl, trivial⟩ ⟨rfl, trivial⟩ rfl rfl
 rintro m_ s_ ⟨k, hk1, hm2, hB, rfl⟩
 refine AC.seq ?_
 refine AC.sr ?_
 refine AL.cons rfl (Does.move rfl rfl) ?_
 refine AL.cons rfl (Does.move rfl rfl) ?_
 refine AL.fact (fact_lenS (x := .tmp 7) (Evl.tmp rfl)) fun hl3 => ?_
 refine AL.cons rfl (Does.lenS (Evl.tmp rfl) rfl und_9) ?_
 refine AL.cons rfl (Does.lss (Evl.tmp rfl) (Evl.tmp rfl) rfl) ?_
 refine AL.nilS ?_
 cases hb4 : (decide ((k : Int) < (s.size : Int)))
 ·have _h := hb4
  have hb4' : ¬ ((k : Int) < (s.size : Int)) := of_decide_eq_false hb4
  refine AC.condF (Evl.tmp rfl) ?_
  refine AC.exit ?_
  refine (?_ : AC _ _ _ _ _)
  refine AC.sr ?_
  refine AL.cons rfl (Does.loadPA (Evl.tmp rfl) rfl tsh_77 rfl rfl) ?_
  refine AL.cons rfl (Does.call (fc_spec_l5Good c) enters_128 ⟨_, _, rfl, (Ev.tmp rfl), rfl⟩ rfl rfl) ?_
  refine AL.cons rfl (Does.move rfl rfl) ?_
  cases hb5 : (decide (SgOk c))
  ·have _h := hb5
   have hb5' : ¬ (SgOk c) := of_decide_eq_false hb5
   refine AL.guard_no (b := true) rfl rfl rfl ?_ rfl
   refine AL.guard_no (b := true) rfl rfl rfl ?_ rfl
   refine AL.guard_no (b := true) rfl rfl rfl ?_ rfl
   refine AL.guard_no (b := true) rfl rfl rfl ?_ rfl
   refine AL.guard_no (b := true) rfl rfl rfl ?_ rfl
   refine AL.guard_no (b := true) rfl rfl rfl ?_ rfl
   refine AL.cons rfl (Does.pickF (Evl.tmp rfl) (Evl.ev Evl.bool) rfl) ?_
   refine AL.cons rfl (Does.assign rfl rfl) ?_
   refine AL.nilS ?_
   refine AC.ret ?_
   subst hO
   have e6 : (false : Bool) = (decide (SignsOk c s)) := by
    exact signs_no3 (by assumption)
   exact fin_pure (Res.one rfl (Rs.tmp rfl)) ((congrArg (fun z_ => lf (dB z_)) e6)) rfl
  ·have _h := hb5
   have hb5' : (SgOk c) := of_decide_eq_true hb5
   refine AL.guard_yes rfl rfl rfl (Does.move rfl rfl) ?_
   refine AL.fact (fact_lenS (x := .tmp 37) (Evl.tmp rfl)) fun hl7 => ?_
   refine AL.guard_yes rfl rfl rfl (Does.lenS (Evl.tmp rfl) rfl und_9) ?_
   refine AL.guard_yes rfl rfl rfl (Does.fieldP (Evl.tmp rfl) fld_77_1 rfl rfl) ?_
   refine AL.guard_yes rfl rfl rfl (Does.loadP (Evl.tmp rfl) rfl tsh_67 rfl rfl) ?_
   refine AL.fact (fact_len (x := .tmp 40) (Evl.tmp rfl)) fun hl8 => ?_
   refine AL.guard_yes rfl rfl rfl (Does.len (Evl.tmp rfl) rfl und_67) ?_
   refine AL.guard_yes rfl rfl rfl (Does.eql (Evl.tmp rfl) (Evl.tmp rfl) rfl) ?_
   refine AL.cons rfl (Does.pickT (Evl.tmp rfl) (Ev.tmp rfl) rfl) ?_
   refine AL.cons rfl (Does.assign rfl rfl) ?_
   refine AL.nilS ?_
   refine AC.ret ?_
   subst hO
   have e9 : (decide ((s.size : Int) = (c.2.1.length : Int)) : Bool) = (decide (SignsOk c s)) := by
    exact signs_fin2 hB (by omega) (by assumption)
   exact fin_pure (Res.one rfl (Rs.tmp rfl)) ((congrArg (fun z_ => lf (dB z_)) e9)) rfl
 ·have _h := hb4
  have hb4' : ((k : Int) < (s.size : Int)) := of_decide_eq_true hb4
  refine AC.condT (Evl.tmp rfl) ?_
  refine AC.skipS ?_
  refine AC.seq ?_
  refine AC.block ?_
  refine AC.sr ?_
  refine AL.cons rfl (Does.move rfl rfl) ?_
  refine AL.cons rfl (Does.move rfl rfl) ?_
  obtain ⟨c10, hc11⟩ : ∃ z, s[((k : Int)).toNat]? = some z := ⟨_, getElem?_pos _ _ (by omega)⟩
  refine AL.cons rfl (Does.indexS (Evl.tmp rfl) (Evl.tmp rfl) rfl und_9 (by omega) hc11) ?_
  refine AL.cons rfl (Does.neqU (Evl.tmp rfl) (Evl.u8 48 rfl) rfl) ?_
  refine AL.cons rfl (Does.move rfl rfl) ?_
  cases hb12 : (!decide (c10 = 48))
  ·have _h := hb12
   have hb12' : (c10 = 48) := nd_false hb12
   refine AL.guard_no (b := true) rfl rfl rfl ?_ rfl
   refine AL.guard_no (b := true) rfl rfl rfl ?_ rfl
   refine AL.guard_no (b := true) rfl rfl rfl ?_ rfl
   refine AL.guard_no (b := true) rfl rfl rfl ?_ rfl
   refine AL.cons rfl (Does.pickF (Evl.tmp rfl) (Evl.ev Evl.bool) rfl) ?_
   refine AL.cons rfl (Does.move rfl rfl) ?_
   refine AL.guard_no (b := true) rfl rfl rfl ?_ rfl
   refine AL.guard_no (b := true) rfl rfl rfl ?_ rfl
   refine AL.guard_no (b := true) rfl rfl rfl ?_ rfl
   refine AL.guard_no (b := true) rfl rfl rfl ?_ rfl
   refine AL.cons rfl (Does.pickF (Evl.tmp rfl) (Evl.ev Evl.bool) rfl) ?_
   refine AL.cons rfl (Does.move rfl rfl) ?_
   refine AL.guard_no (b := true) rfl rfl rfl ?_ rfl
   refine AL.guard_no (b := true) rfl rfl rfl ?_ rfl
   refine AL.guard_no (b := true) rfl rfl rfl ?_ rfl
   refine AL.guard_no (b := true) rfl rfl rfl ?_ rfl
   refine AL.cons rfl (Does.pickF (Evl.tmp rfl) (Evl.ev Evl.bool) rfl) ?_
   refine AL.nilS ?_
   refine AC.condF (Evl.tmp rfl) ?_
   refine AC.skip ?_
   refine (?_ : AC _ _ _ _ _)
   refine AC.region ?_
   refine AL.cons rfl (Does.move rfl rfl) ?_
   refine AL.cons rfl (Does.add (Evl.tmp rfl) (Evl.int rfl) rfl (by omega)) ?_
   refine AL.cons rfl (Does.assign rfl rfl) ?_
   refine AL.nil ?_
   refine lend ⟨k + 1, by omega, rfl, (sign_step hB (by assumption) (by first | exact .inl (by assumption) | exact .inr (.inl (by assumption)) | exact .inr (.inr (.inl (by assumption))) | exact .inr (.inr (.inr (by assumption))))), rfl⟩ (by omega) ?_
   exact Wk.of [(0, 0)] rfl ⟨rfl, rfl, rfl, trivial⟩ ⟨rfl, trivial⟩ rfl rfl
  ·have _h := hb12
   have hb12' : ¬ (c10 = 48) := nd_true hb12
   refine AL.guard_yes rfl rfl rfl (Does.move rfl rfl) ?_
   refine AL.guard_yes rfl rfl rfl (Does.move rfl rfl) ?_
   refine AL.guard_yes rfl rfl rfl (Does.indexS (Evl.tmp rfl) (Evl.tmp rfl) rfl und_9 (by omega) hc11) ?_
   refine AL.guard_yes rfl rfl rfl (Does.neqU (Evl.tmp rfl) (Evl.u8 43 rfl) rfl) ?_
   refine AL.cons rfl (Does.pickT (Evl.tmp rfl) (Ev.tmp rfl) rfl) ?_
   refine AL.cons rfl (Does.move rfl rfl) ?_
   cases hb13 : (!decide (c10 = 43))
   ·have _h := hb13
    have hb13' : (c10 = 43) := nd_false hb13
    refine AL.guard_no (b := true) rfl rfl rfl ?_ rfl
    refine AL.guard_no (b := true) rfl rfl rfl ?_ rfl
    refine AL.guard_no (b := true) rfl rfl rfl ?_ rfl
    refine AL.guard_no (b := true) rfl rfl rfl ?_ rfl
    refine AL.cons rfl (Does.pickF (Evl.tmp rfl) (Evl.ev Evl.bool) rfl) ?_
    refine AL.cons rfl (Does.move rfl rfl) ?_
    refine AL.guard_no (b := true) rfl rfl rfl ?_ rfl
    refine AL.guard_no (b := true) rfl rfl rfl ?_ rfl
    refine AL.guard_no (b := true) rfl rfl rfl ?_ rfl
    refine AL.guard_no (b := true) rfl rfl rfl ?_ rfl
    refine AL.cons rfl (Does.pickF (Evl.tmp rfl) (Evl.ev Evl.bool) rfl) ?_
    refine AL.nilS ?_
    refine AC.condF (Evl.tmp rfl) ?_
    refine AC.skip ?_
    refine (?_ : AC _ _ _ _ _)
    refine AC.region ?_
    refine AL.cons rfl (Does.move rfl rfl) ?_
    refine AL.cons rfl (Does.add (Evl.tmp rfl) (Evl.int rfl) rfl (by omega)) ?_
    refine AL.cons rfl (Does.assign rfl rfl) ?_
    refine AL.nil ?_
    refine lend ⟨k + 1, by omega, rfl, (sign_step hB (by assumption) (by first | exact .inl (by assumption) | exact .inr (.inl (by assumption)) | exact .inr (.inr (.inl (by assumption))) | exact .inr (.inr (.inr (by assumption))))), rfl⟩ (by omega) ?_
    exact Wk.of [(0, 0)] rfl ⟨rfl, rfl, rfl, trivial⟩ ⟨rfl, trivial⟩ rfl rfl
   ·have _h := hb13
    have hb13' : ¬ (c10 = 43) := nd_true hb13
    refine AL.guard_yes rfl rfl rfl (Does.move rfl rfl) ?_
    refine AL.guard_yes rfl rfl rfl (Does.move rfl rfl) ?_
    refine AL.guard_yes rfl rfl rfl (Does.indexS (Evl.tmp rfl) (Evl.tmp rfl) rfl und_9 (by omega) hc11) ?_
    refine AL.guard_yes rfl rfl rfl (Does.neqU (Evl.tmp rfl) (Evl.u8 49 rfl) rfl) ?_
    refine AL.cons rfl (Does.pickT (Evl.tmp rfl) (Ev.tmp rfl) rfl) ?_
    refine AL.cons rfl (Does.move rfl rfl) ?_
    cases hb14 : (!decide (c10 = 49))
    ·have _h := hb14
     have hb14' : (c10 = 49) := nd_false hb14
     refine AL.guard_no (b := true) rfl rfl rfl ?_ rfl
     refine AL.guard_no (b := true) rfl rfl rfl ?_ rfl
     refine AL.guard_no (b := true) rfl rfl rfl ?_ rfl
     refine AL.guard_no (b := true) rfl rfl rfl ?_ rfl
     refine AL.cons rfl (Does.pickF (Evl.tmp rfl) (Evl.ev Evl.bool) rfl) ?_
     refine AL.nilS ?_
     refine AC.condF (Evl.tmp rfl) ?_
     refine AC.skip ?_
     refine (?_ : AC _ _ _ _ _)
     refine AC.region ?_
     refine AL.cons rfl (Does.move rfl rfl) ?_
     refine AL.cons rfl (Does.add (Evl.tmp rfl) (Evl.int rfl) rfl (by omega)) ?_
     refine AL.cons rfl (Does.assign rfl rfl) ?_
     refine AL.nil ?_
     refine lend ⟨k + 1, by omega, rfl, (sign_step hB (by assumption) (by first | exact .inl (by assumption) | exact .inr (.inl (by assumption)) | exact .inr (.inr (.inl (by assumption))) | exact .inr (.inr (.inr (by assumption))))), rfl⟩ (by omega) ?_
     exact Wk.of [(0, 0)] rfl ⟨rfl, rfl, rfl, trivial⟩ ⟨rfl, trivial⟩ rfl rfl
    ·have _h := hb14
     have hb14' : ¬ (c10 = 49) := nd_true hb14
     refine AL.guard_yes rfl rfl rfl (Does.move rfl rfl) ?_
     refine AL.guard_yes rfl rfl rfl (Does.move rfl rfl) ?_
     refine AL.guard_yes rfl rfl rfl (Does.indexS (Evl.tmp rfl) (Evl.tmp rfl) rfl und_9 (by omega) hc11) ?_
     refine AL.guard_yes rfl rfl rfl (Does.neqU (Evl.tmp rfl) (Evl.u8 45 rfl) rfl) ?_
     refine AL.cons rfl (Does.pickT (Evl.tmp rfl) (Ev.tmp rfl) rfl) ?_
     refine AL.nilS ?_
     cases hb15 : (!decide (c10 = 45))
     ·have _h := hb15
      have hb15' : (c10 = 45) := nd_false hb15
      refine AC.condF (Evl.tmp rfl) ?_
      refine AC.skip ?_
      refine (?_ : AC _ _ _ _ _)
      refine AC.region ?_
      refine AL.cons rfl (Does.move rfl rfl) ?_
      refine AL.cons rfl (Does.add (Evl.tmp rfl) (Evl.int rfl) rfl (by omega)) ?_
      refine AL.cons rfl (Does.assign rfl rfl) ?_
      refine AL.nil ?_
      refine lend ⟨k + 1, by omega, rfl, (sign_step hB (by assumption) (by first | exact .inl (by assumption) | exact .inr (.inl (by assumption)) | exact .inr (.inr (.inl (by assumption))) | exact .inr (.inr (.inr (by assumption))))), rfl⟩ (by omega) ?_
      exact Wk.of [(0, 0)] rfl ⟨rfl, rfl, rfl, trivial⟩ ⟨rfl, trivial⟩ rfl rfl
     ·have _h := hb15
      have hb15' : ¬ (c10 = 45) := nd_true hb15
      refine AC.condT (Evl.tmp rfl) ?_
      refine AC.sr ?_
      refine AL.cons rfl (Does.assignC Evl.bool rfl) ?_
      refine AL.nilS ?_
      refine AC.ret ?_
      subst hO
      have e16 : (false : Bool) = (decide (SignsOk c s)) := by
       exact signs_no1 (k := k) (by assumption) (by rintro (h | h | h | h) <;> contradiction)
      exact fin_pure (Res.one rfl (Rs.tmp rfl)) ((congrArg (fun z_ => lf (dB z_)) e16)) rfl

set_option maxRecDepth 100000 in
set_option maxHeartbeats 4000000 in
theorem fc_impl_isPartition_1 (a : Int × Int × Bool × Int) (s : ByteArray) (h1 : 0 ≤ a.1 ∧ a.1 < (s.size : Int)) (h2 : 0 ≤ a.2.2.2 ∧ a.2.2.2 < (s.size : Int)) : FC Try.prog 219 [(true, [dI a.1, dI a.2.1, dB a.2.2.1, dI a.2.2.2]), (false, [.ptr 0 0])] [(0, some (.box 9 [dS s]))] 1 (Is (lf (dB (!mayF (bAt s a.1) (bAt s a.2.2.2)))) [(0, some (.box 9 [dS s]))]) := by
 refine FC.O_all fun O_ hO => FC.ren (FC.of Try.func219 rfl rfl fun A_ hn_ hk_ => ?_)
 obtain ⟨w0_, N0_, X_, n_, k0_, h0_, f0_⟩ := A_
 obtain rfl : n_ = 14 := hn_.trans Try.ntmps219
 obtain rfl : k0_ = 1 := hk_
 refine AC.fact (fact_ag (x := .tmp 0) (i := 0) (Ev.tmp rfl) rfl) fun hi1 => ?_
 refine AC.fact (fact_ag (x := .tmp 0) (i := 1) (Ev.tmp rfl) rfl) fun hi2 => ?_
 refine AC.fact (fact_ag (x := .tmp 0) (i := 3) (Ev.tmp rfl) rfl) fun hi3 => ?_
 refine AC.sr ?_
 refine AL.cons rfl (Does.box 1 (Ev.tmp rfl) rfl rfl (Fresh.of rfl) (nlr rfl)) ?_
 refine AL.cons rfl (Does.assignC Evl.bool rfl) ?_
 refine AL.nilS ?_
 refine AC.seq ?_
 obtain ⟨c4, hc5⟩ : ∃ z, s[(a.1).toNat]? = some z := ⟨_, getElem?_pos _ _ (by omega)⟩
 obtain ⟨c6, hc7⟩ : ∃ z, s[(a.2.2.2).toNat]? = some z := ⟨_, getElem?_pos _ _ (by omega)⟩
 refine AC.drawL [⟨some 4, lf (dS s), []⟩, ⟨some 5, lf (.ptr 1 0), []⟩, ⟨some 6, lf (dI a.1), []⟩, ⟨some 7, lf (.dat .u8 c4), []⟩, ⟨some 8, lf (dS s), []⟩, ⟨some 9, lf (.ptr 1 3), []⟩, ⟨some 10, lf (dI a.2.2.2), []⟩, ⟨some 11, lf (.dat .u8 c6), []⟩, ⟨some 12, lf (dB (mayF c4 c6)), []⟩, ⟨some 13, lf (dB (!(mayF c4 c6))), []⟩, ⟨some 3, lf (dB (!(mayF c4 c6))), []⟩] [[], [], [1], [0, 1, 2], [], [], [5], [4, 5, 6], [0, 1, 2, 3, 4, 5, 6, 7], [0, 1, 2, 3, 4, 5, 6, 7, 8], [0, 1, 2, 3, 4, 5, 6, 7, 8, 9]] mixed rfl (by kernel_rfl) ?_ ?_
 · refine ⟨fun s_ hs => Acts.of1 rfl (Does.loadP (Evl.tmp (hs.tm 1 rfl)) (hs.en 0 rfl) tsh_9 rfl rfl) rfl, fun s_ hs => Acts.of1 rfl (Does.fieldP (Evl.tmp (hs.tm 2 rfl)) fld_170_0 (by rw [(hs.en 1 rfl)]; rfl) rfl) rfl, fun s_ hs => Acts.of1 rfl (Does.loadP (Evl.tmp (hs.tm 5 rfl)) (hs.en 1 rfl) tsh_3 rfl rfl) rfl, fun s_ hs => Acts.of1 rfl (Does.indexS (Evl.tmp (hs.tm 4 rfl)) (Evl.tmp (hs.tm 6 rfl)) rfl und_9 (by omega) hc5) rfl, fun s_ hs => Acts.of1 rfl (Does.loadP (Evl.tmp (hs.tm 1 rfl)) (hs.en 0 rfl) tsh_9 rfl rfl) rfl, fun s_ hs => Acts.of1 rfl (Does.fieldP (Evl.tmp (hs.tm 2 rfl)) fld_170_3 (by rw [(hs.en 1 rfl)]; rfl) rfl) rfl, fun s_ hs => Acts.of1 rfl (Does.loadP (Evl.tmp (hs.tm 9 rfl)) (hs.en 1 rfl) tsh_3 rfl rfl) rfl, fun s_ hs => Acts.of1 rfl (Does.indexS (Evl.tmp (hs.tm 8 rfl)) (Evl.tmp (hs.tm 10 rfl)) rfl und_9 (by omega) hc7) rfl, fun s_ hs => Acts.of1 rfl (Does.call (fc_impl_mayFollow c4 c6) enters_220 ⟨_, _, rfl, (Ev.tmp (hs.tm 7 rfl)), ⟨_, _, rfl, (Ev.tmp (hs.tm 11 rfl)), rfl⟩⟩ rfl rfl) rfl, fun s_ hs => Acts.of1 rfl (Does.not (Evl.tmp (hs.tm 12 rfl)) rfl) rfl, fun s_ hs => Acts.of1 rfl (Does.assign (hs.tm 13 rfl) rfl) rfl, trivial⟩
 refine (?_ : AC _ _ _ _ _)
 refine AC.wk (s' := _) (Wk.refl _ _) ?_
 refine AC.ret ?_
 subst hO
 have e8 : (!(mayF c4 c6) : Bool) = (!mayF (bAt s a.1) (bAt s a.2.2.2)) := by
  (rw [bAt_get (by assumption), bAt_get (by assumption)])
 exact fin_is _ _ [(0, 0)] (Res.one rfl (Rs.tmp rfl)) ((congrArg (fun z_ => lf (dB z_)) e8)) ⟨rfl, trivial⟩ rfl rfl

set_option maxRecDepth 100000 in
set_option maxHeartbeats 4000000 in
theorem fc_IndexFunc_Arc_part (l : List (Int × Int × Bool × Int)) (s : ByteArray) (hp : ∀ a ∈ l, (0 ≤ a.1 ∧ a.1 < (s.size : Int)) ∧ 0 ≤ a.2.2.2 ∧ a.2.2.2 < (s.size : Int)) : FC Try.prog 238 [(false, [.dat (.sl 170 (.pr .int (.pr .int (.pr .bool .int)))) l]), (false, [.clo 219 [0]])] [(0, some (.box 9 [dS s]))] 1 (Is (lf (dI (idxF (fun a : DAr => !mayF (bAt s a.1) (bAt s a.2.2.2)) l))) [(0, some (.box 9 [dS s]))]) := by
 refine FC.O_all fun O_ hO => FC.ren (FC.of Try.func238 rfl rfl fun A_ hn_ hk_ => ?_)
 obtain ⟨w0_, N0_, X_, n_, k0_, h0_, f0_⟩ := A_
 obtain rfl : n_ = 19 := hn_.trans Try.ntmps238
 obtain rfl : k0_ = 1 := hk_
 refine AC.sr ?_
 refine AL.cons rfl (Does.assignC (Evl.int rfl) rfl) ?_
 refine AL.nilS ?_
 refine AC.seq ?_
 refine AC.sr ?_
 refine AL.cons rfl (Does.move rfl rfl) ?_
 refine AL.fact (fact_len (x := .tmp 6) (Evl.tmp rfl)) fun hl1 => ?_
 refine AL.cons rfl (Does.len (Evl.tmp rfl) rfl und_75) ?_
 refine AL.cons rfl (Does.moveC (Evl.int rfl) rfl) ?_
 refine AL.nilS ?_
 refine AC.block ?_
 refine AC.loopW (fun m_ s_ => ∃ (k : Nat), k ≤ l.length ∧ m_ = l.length - k ∧ (NoneTo (fun a : DAr => !mayF (bAt s a.1) (bAt s a.2.2.2)) l k) ∧ s_ = ⟨[(0, lf (.dat (.sl 170 (.pr .int (.pr .int (.pr .bool .int)))) l)), (1, lf (.clo 219 [0])), (7, lf (dI (l.length : Int))), (8, lf (dI (k : Int)))], [(0, some (.box 9 [dS s]))]⟩) ⟨0, Nat.zero_le _, rfl, NoneTo.zero, rfl⟩ ?_ ?_
 · exact Wk.of [(0, 0)] rfl ⟨rfl, rfl, rfl, rfl, trivial⟩ ⟨rfl, trivial⟩ rfl rfl
 rintro m_ s_ ⟨k, hk2, hm3, hno, rfl⟩
 refine AC.sr ?_
 refine AL.cons rfl (Does.lss (Evl.tmp rfl) (Evl.tmp rfl) rfl) ?_
 refine AL.nilS ?_
 refine AC.seq ?_
 cases hb4 : (decide ((k : Int) < (l.length : Int)))
 ·have _h := hb4
  have hb4' : ¬ ((k : Int) < (l.length : Int)) := of_decide_eq_false hb4
  refine AC.condF (Evl.tmp rfl) ?_
  refine AC.exit ?_
  refine (?_ : AC _ _ _ _ _)
  refine AC.sr ?_
  refine AL.cons rfl (Does.assignC (Evl.int rfl) rfl) ?_
  refine AL.nilS ?_
  refine AC.ret ?_
  subst hO
  have e5 : ((-1) : Int) = (idxF (fun a : DAr => !mayF (bAt s a.1) (bAt s a.2.2.2)) l) := by
   first | exact (hno.no (by omega)).symm
  exact fin_is _ _ [(0, 0)] (Res.one rfl (Rs.tmp rfl)) ((congrArg (fun z_ => lf (dI z_)) e5)) ⟨rfl, trivial⟩ rfl rfl
 ·have _h := hb4
  have hb4' : ((k : Int) < (l.length : Int)) := of_decide_eq_true hb4
  refine AC.condT (Evl.tmp rfl) ?_
  refine AC.skipS ?_
  refine AC.seq ?_
  refine AC.block ?_
  refine AC.sr ?_
  refine AL.cons rfl (Does.move rfl rfl) ?_
  refine AL.cons rfl (Does.assign rfl rfl) ?_
  refine AL.nilS ?_
  refine AC.sr ?_
  refine AL.cons rfl (Does.move rfl rfl) ?_
  refine AL.cons rfl (Does.move rfl rfl) ?_
  refine AL.cons rfl (Does.move rfl rfl) ?_
  obtain ⟨x6, hx7⟩ : ∃ z, l[k]? = some z := ⟨_, List.getElem?_eq_getElem (by omega)⟩
  refine AL.cons rfl (Does.indexE (Evl.tmp rfl) (Evl.tmp rfl) und_75 tsh_170 rfl (by omega) hx7) ?_
  refine AL.cons rfl (Does.loadEA (Evl.tmp rfl) tsh_170 rfl rfl) ?_
  refine AL.cons rfl (Does.callF (args0 := [(true, [dI x6.1, dI x6.2.1, dB x6.2.2.1, dI x6.2.2.2])]) (caps := [0]) 1 [(0, 0)] (fc_impl_isPartition_1 x6 s (hp _ (List.mem_of_getElem? hx7)).1 (hp _ (List.mem_of_getElem? hx7)).2) enters_219 rfl (Evl.tmp rfl) rfl rfl ⟨_, _, rfl, (Ev.tmp rfl), rfl⟩ ⟨rfl, trivial⟩ rfl ⟨trivial, trivial⟩ (nlr rfl)) ?_
  refine AL.nilS ?_
  cases hb8 : (mayF (bAt s x6.1) (bAt s x6.2.2.2))
  ·have _h := hb8
   refine AC.condT (Evl.tmp rfl) ?_
   refine AC.sr ?_
   refine AL.cons rfl (Does.move rfl rfl) ?_
   refine AL.cons rfl (Does.assign rfl rfl) ?_
   refine AL.nilS ?_
   refine AC.ret ?_
   subst hO
   have e9 : ((k : Int) : Int) = (idxF (fun a : DAr => !mayF (bAt s a.1) (bAt s a.2.2.2)) l) := by
    exact (hno.at hx7 (by simp [*])).symm
   exact fin_is _ _ [(0, 0)] (Res.one rfl (Rs.tmp rfl)) ((congrArg (fun z_ => lf (dI z_)) e9)) ⟨rfl, trivial⟩ rfl rfl
  ·have _h := hb8
   refine AC.condF (Evl.tmp rfl) ?_
   refine AC.skip ?_
   refine (?_ : AC _ _ _ _ _)
   refine AC.region ?_
   refine AL.cons rfl (Does.add (Evl.tmp rfl) (Evl.int rfl) rfl (by omega)) ?_
   refine AL.cons rfl (Does.move rfl rfl) ?_
   refine AL.nil ?_
   refine lend ⟨k + 1, by omega, rfl, hno.step hx7 (by simp [*]), rfl⟩ (by omega) ?_
   exact Wk.of [(0, 0)] rfl ⟨rfl, rfl, rfl, rfl, trivial⟩ ⟨rfl, trivial⟩ rfl rfl

set_option maxRecDepth 100000 in
set_option maxHeartbeats 4000000 in
theorem fc_ContainsFunc_Arc_part (l : List (Int × Int × Bool × Int)) (s : ByteArray) (hp : ∀ a ∈ l, (0 ≤ a.1 ∧ a.1 < (s.size : Int)) ∧ 0 ≤ a.2.2.2 ∧ a.2.2.2 < (s.size : Int)) : FC Try.prog 218 [(false, [.dat (.sl 170 (.pr .int (.pr .int (.pr .bool .int)))) l]), (false, [.clo 219 [0]])] [(0, some (.box 9 [dS s]))] 1 (Is (lf (dB (l.any (fun a : DAr => !mayF (bAt s a.1) (bAt s a.2.2.2))))) [(0, some (.box 9 [dS s]))]) := by
 refine FC.O_all fun O_ hO => FC.ren (FC.of Try.func218 rfl rfl fun A_ hn_ hk_ => ?_)
 obtain ⟨w0_, N0_, X_, n_, k0_, h0_, f0_⟩ := A_
 obtain rfl : n_ = 9 := hn_.trans Try.ntmps218
 obtain rfl : k0_ = 1 := hk_
 refine AC.sr ?_
 refine AL.cons rfl (Does.assignC Evl.bool rfl) ?_
 refine AL.nilS ?_
 refine AC.sr ?_
 refine AL.cons rfl (Does.move rfl rfl) ?_
 refine AL.cons rfl (Does.move rfl rfl) ?_
 refine AL.cons rfl (Does.callP 1 [(0, 0)] (fc_IndexFunc_Arc_part l s hp) enters_238 ⟨_, _, rfl, (Ev.tmp rfl), ⟨_, _, rfl, (Ev.tmp rfl), rfl⟩⟩ ⟨rfl, trivial⟩ rfl ⟨trivial, trivial⟩ (nlr rfl)) ?_
 refine AL.cons rfl (Does.geq (Evl.tmp rfl) (Evl.int rfl) rfl) ?_
 refine AL.cons rfl (Does.assign rfl rfl) ?_
 refine AL.nilS ?_
 refine AC.ret ?_
 subst hO
 have e1 : (decide (0 ≤ (idxF (fun a : DAr => !mayF (bAt s a.1) (bAt s a.2.2.2)) l)) : Bool) = (l.any (fun a : DAr => !mayF (bAt s a.1) (bAt s a.2.2.2))) := by
  exact idxF_any _ _
 exact fin_is _ _ [(0, 0)] (Res.one rfl (Rs.tmp rfl)) ((congrArg (fun z_ => lf (dB z_)) e1)) ⟨rfl, trivial⟩ rfl rfl

set_option maxRecDepth 100000 in
set_option maxHeartbeats 4000000 in
theorem fc_impl_isPartition (c : (List (ByteArray × Int)) × List ByteArray × (List (Int × Int × Bool × Int))) (s : ByteArray) (hs : SignsOk c s) : FC Try.prog 173 [(true, [.dat (.sl 129 (.pr .str .int)) c.1, .dat (.sl 9 .str) c.2.1, .dat (.sl 170 (.pr .int (.pr .int (.pr .bool .int)))) c.2.2]), (false, [dS s])] [] 0 (Pure (lf (dB (partV c s)))) := by
 refine FC.O_all fun O_ hO => FC.ren (FC.of Try.func173 rfl rfl fun A_ hn_ hk_ => ?_)
 obtain ⟨w0_, N0_, X_, n_, k0_, h0_, f0_⟩ := A_
 obtain rfl : n_ = 10 := hn_.trans Try.ntmps173
 obtain rfl : k0_ = 0 := hk_
 refine AC.sr ?_
 refine AL.cons rfl (Does.box 0 (Ev.tmp rfl) rfl rfl (Fresh.of rfl) (nlr rfl)) ?_
 refine AL.cons rfl (Does.box 1 (Ev.tmp rfl) rfl rfl (Fresh.of rfl) (nlr rfl)) ?_
 refine AL.cons rfl (Does.assignC Evl.bool rfl) ?_
 refine AL.nilS ?_
 refine AC.sr ?_
 refine AL.cons rfl (Does.fieldP (Evl.tmp rfl) fld_77_2 rfl rfl) ?_
 refine AL.cons rfl (Does.loadP (Evl.tmp rfl) rfl tsh_75 rfl rfl) ?_
 refine AL.cons rfl (Does.makeFunc ⟨_, _, rfl, (Evl.tmp rfl), rfl, rfl⟩ rfl) ?_
 refine AL.cons rfl (Does.callP 2 [(0, 1)] (fc_ContainsFunc_Arc_part c.2.2 s (fun a ha => hs.at_ ha)) enters_218 ⟨_, _, rfl, (Ev.tmp rfl), ⟨_, _, rfl, (Ev.tmp rfl), rfl⟩⟩ ⟨rfl, trivial⟩ rfl ⟨trivial, trivial⟩ (nlr rfl)) ?_
 refine AL.cons rfl (Does.not (Evl.tmp rfl) rfl) ?_
 refine AL.cons rfl (Does.assign rfl rfl) ?_
 refine AL.nilS ?_
 refine AC.ret ?_
 subst hO
 have e1 : (!(c.2.2.any (fun a : DAr => !mayF (bAt s a.1) (bAt s a.2.2.2))) : Bool) = (partV c s) := by
  exact part_eq
 exact fin_pure (Res.one rfl (Rs.tmp rfl)) ((congrArg (fun z_ => lf (dB z_)) e1)) rfl

set_option maxRecDepth 100000 in
set_option maxHeartbeats 4000000 in
theorem fc_spec_l11Good (c : (List (ByteArray × Int)) × List ByteArray × (List (Int × Int × Bool × Int))) (s : ByteArray) (hs : SignsOk c s) : FC Try.prog 166 [(true, [.dat (.sl 129 (.pr .str .int)) c.1, .dat (.sl 9 .str) c.2.1, .dat (.sl 170 (.pr .int (.pr .int (.pr .bool .int)))) c.2.2]), (false, [dS s])] [] 0 (Pure (lf (dB (partV c s)))) := by
 refine FC.O_all fun O_ hO => FC.ren (FC.of Try.func166 rfl rfl fun A_ hn_ hk_ => ?_)
 obtain ⟨w0_, N0_, X_, n_, k0_, h0_, f0_⟩ := A_
 obtain rfl : n_ = 25 := hn_.trans Try.ntmps166
 obtain rfl : k0_ = 0 := hk_
 refine AC.sr ?_
 refine AL.cons rfl (Does.box 0 (Ev.tmp rfl) rfl rfl (Fresh.of rfl) (nlr rfl)) ?_
 refine AL.cons rfl (Does.assignC Evl.bool rfl) ?_
 refine AL.nilS ?_
 refine AC.seq ?_
 refine AC.sr ?_
 refine AL.cons rfl (Does.fieldP (Evl.tmp rfl) fld_77_2 rfl rfl) ?_
 refine AL.cons rfl (Does.loadP (Evl.tmp rfl) rfl tsh_75 rfl rfl) ?_
 refine AL.fact (fact_len (x := .tmp 8) (Evl.tmp rfl)) fun hl1 => ?_
 refine AL.cons rfl (Does.len (Evl.tmp rfl) rfl und_75) ?_
 refine AL.cons rfl (Does.moveC (Evl.int rfl) rfl) ?_
 refine AL.nilS ?_
 refine AC.block ?_
 refine AC.loopW (fun m_ s_ => ∃ (k : Nat), k ≤ c.2.2.length ∧ m_ = c.2.2.length - k ∧ (∀ j, j < k → ∀ a, c.2.2[j]? = some a → mayF (bAt s a.1) (bAt s a.2.2.2) = true) ∧ s_ = ⟨[(1, lf (dS s)), (8, lf (.dat (.sl 170 (.pr .int (.pr .int (.pr .bool .int)))) c.2.2)), (9, lf (dI (c.2.2.length : Int))), (10, lf (dI (k : Int)))], []⟩) ⟨0, Nat.zero_le _, rfl, (fun j hj => absurd hj (Nat.not_lt_zero j)), rfl⟩ ?_ ?_
 · exact Wk.of [] rfl ⟨rfl, rfl, rfl, rfl, trivial⟩ trivial rfl rfl
 rintro m_ s_ ⟨k, hk2, hm3, hP, rfl⟩
 refine AC.sr ?_
 refine AL.cons rfl (Does.lss (Evl.tmp rfl) (Evl.tmp rfl) rfl) ?_
 refine AL.nilS ?_
 refine AC.seq ?_
 cases hb4 : (decide ((k : Int) < (c.2.2.length : Int)))
 ·have _h := hb4
  have hb4' : ¬ ((k : Int) < (c.2.2.length : Int)) := of_decide_eq_false hb4
  refine AC.condF (Evl.tmp rfl) ?_
  refine AC.exit ?_
  refine (?_ : AC _ _ _ _ _)
  refine AC.sr ?_
  refine AL.cons rfl (Does.assignC Evl.bool rfl) ?_
  refine AL.nilS ?_
  refine AC.ret ?_
  subst hO
  have e5 : (true : Bool) = (partV c s) := by
   first | exact part_yes hP (by omega)
  exact fin_pure (Res.one rfl (Rs.tmp rfl)) ((congrArg (fun z_ => lf (dB z_)) e5)) rfl
 ·have _h := hb4
  have hb4' : ((k : Int) < (c.2.2.length : Int)) := of_decide_eq_true hb4
  refine AC.condT (Evl.tmp rfl) ?_
  refine AC.skipS ?_
  refine AC.seq ?_
  refine AC.block ?_
  refine AC.sr ?_
  obtain ⟨x6, hx7⟩ : ∃ z, c.2.2[k]? = some z := ⟨_, List.getElem?_eq_getElem (by omega)⟩
  have hatx6 := hs.at_ (List.mem_of_getElem? hx7)
  refine AL.cons rfl (Does.indexE (Evl.tmp rfl) (Evl.tmp rfl) und_75 tsh_170 rfl (by omega) hx7) ?_
  refine AL.cons rfl (Does.loadEA (Evl.tmp rfl) tsh_170 rfl rfl) ?_
  refine AL.cons rfl (Does.alloc 1 (.pr .int (.pr .int (.pr .bool .int))) zer_170 rfl rfl (Fresh.of rfl) (nlr rfl)) ?_
  refine AL.cons rfl (Does.storeP (Evl.tmp rfl) rfl (Ev.tmp rfl) rfl tsh_170 rfl) ?_
  refine AL.nilS ?_
  refine AC.seq ?_
  obtain ⟨c8, hc9⟩ : ∃ z, s[(x6.1).toNat]? = some z := ⟨_, getElem?_pos _ _ (by omega)⟩
  obtain ⟨c10, hc11⟩ : ∃ z, s[(x6.2.2.2).toNat]? = some z := ⟨_, getElem?_pos _ _ (by omega)⟩
  refine AC.drawL [⟨some 14, lf (dS s), []⟩, ⟨some 15, lf (.ptr 1 0), []⟩, ⟨some 16, lf (dI x6.1), []⟩, ⟨some 17, lf (.dat .u8 c8), []⟩, ⟨some 18, lf (dS s), []⟩, ⟨some 19, lf (.ptr 1 3), []⟩, ⟨some 20, lf (dI x6.2.2.2), []⟩, ⟨some 21, lf (.dat .u8 c10), []⟩, ⟨some 22, lf (dB (mayF c8 c10)), []⟩, ⟨some 23, lf (dB (!(mayF c8 c10))), []⟩] [[], [], [1], [0, 1, 2], [], [], [5], [4, 5, 6], [0, 1, 2, 3, 4, 5, 6, 7], [0, 1, 2, 3, 4, 5, 6, 7, 8]] mixed rfl (by kernel_rfl) ?_ ?_
  · refine ⟨fun s_ hs => Acts.of1 rfl (Does.move (hs.tm 1 rfl) rfl) rfl, fun s_ hs => Acts.of1 rfl (Does.fieldP (Evl.tmp (hs.tm 6 rfl)) fld_170_0 (by rw [(hs.en 1 rfl)]; rfl) rfl) rfl, fun s_ hs => Acts.of1 rfl (Does.loadP (Evl.tmp (hs.tm 15 rfl)) (hs.en 1 rfl) tsh_3 rfl rfl) rfl, fun s_ hs => Acts.of1 rfl (Does.indexS (Evl.tmp (hs.tm 14 rfl)) (Evl.tmp (hs.tm 16 rfl)) rfl und_9 (by omega) hc9) rfl, fun s_ hs => Acts.of1 rfl (Does.move (hs.tm 1 rfl) rfl) rfl, fun s_ hs => Acts.of1 rfl (Does.fieldP (Evl.tmp (hs.tm 6 rfl)) fld_170_3 (by rw [(hs.en 1 rfl)]; rfl) rfl) rfl, fun s_ hs => Acts.of1 rfl (Does.loadP (Evl.tmp (hs.tm 19 rfl)) (hs.en 1 rfl) tsh_3 rfl rfl) rfl, fun s_ hs => Acts.of1 rfl (Does.indexS (Evl.tmp (hs.tm 18 rfl)) (Evl.tmp (hs.tm 20 rfl)) rfl und_9 (by omega) hc11) rfl, fun s_ hs => Acts.of1 rfl (Does.call (fc_spec_l11Next c8 c10) enters_211 ⟨_, _, rfl, (Ev.tmp (hs.tm 17 rfl)), ⟨_, _, rfl, (Ev.tmp (hs.tm 21 rfl)), rfl⟩⟩ rfl rfl) rfl, fun s_ hs => Acts.of1 rfl (Does.not (Evl.tmp (hs.tm 22 rfl)) rfl) rfl, trivial⟩
  refine (?_ : AC _ _ _ _ _)
  refine AC.wk (s' := _) (Wk.refl _ _) ?_
  cases hb12 : (mayF c8 c10)
  ·have _h := hb12
   refine AC.condT (Evl.tmp rfl) ?_
   refine AC.sr ?_
   refine AL.cons rfl (Does.assignC Evl.bool rfl) ?_
   refine AL.nilS ?_
   refine AC.ret ?_
   subst hO
   have e13 : (false : Bool) = (partV c s) := by
    exact part_no hx7 (by rw [bAt_get (by assumption), bAt_get (by assumption)]; assumption)
   exact fin_pure (Res.one rfl (Rs.tmp rfl)) ((congrArg (fun z_ => lf (dB z_)) e13)) rfl
  ·have _h := hb12
   refine AC.condF (Evl.tmp rfl) ?_
   refine AC.skip ?_
   refine (?_ : AC _ _ _ _ _)
   refine AC.region ?_
   refine AL.cons rfl (Does.add (Evl.tmp rfl) (Evl.int rfl) rfl (by omega)) ?_
   refine AL.cons rfl (Does.move rfl rfl) ?_
   refine AL.nil ?_
   refine lend ⟨k + 1, by omega, rfl, (part_step hP hx7 (by rw [bAt_get (by assumption), bAt_get (by assumption)]; assumption)), rfl⟩ (by omega) ?_
   exact Wk.of [] rfl ⟨rfl, rfl, rfl, rfl, trivial⟩ trivial rfl rfl

set_option maxRecDepth 100000 in
set_option maxHeartbeats 4000000 in
theorem fc_impl_IsValidPartition (c : (List (ByteArray × Int)) × List ByteArray × (List (Int × Int × Bool × Int))) (s : ByteArray) [∀ c, Decidable (SgOk c)]  : FC Try.prog 130 [(true, [.dat (.sl 129 (.pr .str .int)) c.1, .dat (.sl 9 .str) c.2.1, .dat (.sl 170 (.pr .int (.pr .int (.pr .bool .int)))) c.2.2]), (false, [dS s])] [] 0 (Pure (PV.tup [(false, [dB (okP c s)]), (false, [dB (decide (SignsOk c s))])])) := by
 refine FC.O_all fun O_ hO => FC.ren (FC.of Try.func130 rfl rfl fun A_ hn_ hk_ => ?_)
 obtain ⟨w0_, N0_, X_, n_, k0_, h0_, f0_⟩ := A_
 obtain rfl : n_ = 13 := hn_.trans Try.ntmps130
 obtain rfl : k0_ = 0 := hk_
 refine AC.sr ?_
 refine AL.cons rfl (Does.box 0 (Ev.tmp rfl) rfl rfl (Fresh.of rfl) (nlr rfl)) ?_
 refine AL.cons rfl (Does.assignC Evl.bool rfl) ?_
 refine AL.cons rfl (Does.assignC Evl.bool rfl) ?_
 refine AL.nilS ?_
 refine AC.seq ?_
 refine AC.sr ?_
 refine AL.cons rfl (Does.loadPA (Evl.tmp rfl) rfl tsh_77 rfl rfl) ?_
 refine AL.cons rfl (Does.move rfl rfl) ?_
 refine AL.cons rfl (Does.call (fc_impl_areSigns c s) enters_172 ⟨_, _, rfl, (Ev.tmp rfl), ⟨_, _, rfl, (Ev.tmp rfl), rfl⟩⟩ rfl rfl) ?_
 refine AL.cons rfl (Does.not (Evl.tmp rfl) rfl) ?_
 refine AL.nilS ?_
 cases hb1 : (decide (SignsOk c s))
 ·have _h := hb1
  have hb1' : ¬ (SignsOk c s) := of_decide_eq_false hb1
  refine AC.condT (Evl.tmp rfl) ?_
  refine AC.sr ?_
  refine AL.cons rfl (Does.assignC Evl.bool rfl) ?_
  refine AL.cons rfl (Does.assignC Evl.bool rfl) ?_
  refine AL.nilS ?_
  refine AC.ret ?_
  subst hO
  have e2 : (false : Bool) = (okP c s) := by
   exact okP_no (by assumption)
  have e3 : (false : Bool) = (decide (SignsOk c s)) := by
   exact (decide_eq_false (by assumption)).symm
  exact fin_pure (Res.two rfl (Rs.tmp rfl) (Rs.tmp rfl)) (((congrArg (fun z_ => PV.tup [(false, [dB z_]), (false, [dB false])]) e2)).trans (congrArg (fun z_ => PV.tup [(false, [dB (okP c s)]), (false, [dB z_])]) e3)) rfl
 ·have _h := hb1
  have hb1' : (SignsOk c s) := of_decide_eq_true hb1
  refine AC.condF (Evl.tmp rfl) ?_
  refine AC.skipS ?_
  refine AC.sr ?_
  refine AL.cons rfl (Does.loadPA (Evl.tmp rfl) rfl tsh_77 rfl rfl) ?_
  refine AL.cons rfl (Does.move rfl rfl) ?_
  refine AL.cons rfl (Does.call (fc_impl_isPartition c s (by assumption)) enters_173 ⟨_, _, rfl, (Ev.tmp rfl), ⟨_, _, rfl, (Ev.tmp rfl), rfl⟩⟩ rfl rfl) ?_
  refine AL.cons rfl (Does.assign rfl rfl) ?_
  refine AL.cons rfl (Does.assignC Evl.bool rfl) ?_
  refine AL.nilS ?_
  refine AC.ret ?_
  subst hO
  have e4 : (partV c s : Bool) = (okP c s) := by
   exact okP_yes (by assumption)
  have e5 : (true : Bool) = (decide (SignsOk c s)) := by
   exact (decide_eq_true (by assumption)).symm
  exact fin_pure (Res.two rfl (Rs.tmp rfl) (Rs.tmp rfl)) (((congrArg (fun z_ => PV.tup [(false, [dB z_]), (false, [dB true])]) e4)).trans (congrArg (fun z_ => PV.tup [(false, [dB (okP c s)]), (false, [dB z_])]) e5)) rfl

set_option maxRecDepth 100000 in
set_option maxHeartbeats 4000000 in
theorem fc_spec_l11Asked (c : (List (ByteArray × Int)) × List ByteArray × (List (Int × Int × Bool × Int))) (s : ByteArray) [∀ c, Decidable (SgOk c)]  : FC Try.prog 124 [(true, [.dat (.sl 129 (.pr .str .int)) c.1, .dat (.sl 9 .str) c.2.1, .dat (.sl 170 (.pr .int (.pr .int (.pr .bool .int)))) c.2.2]), (false, [dS s])] [] 0 (Pure (lf (dB (okP c s)))) := by
 refine FC.O_all fun O_ hO => FC.ren (FC.of Try.func124 rfl rfl fun A_ hn_ hk_ => ?_)
 obtain ⟨w0_, N0_, X_, n_, k0_, h0_, f0_⟩ := A_
 obtain rfl : n_ = 13 := hn_.trans Try.ntmps124
 obtain rfl : k0_ = 0 := hk_
 refine AC.sr ?_
 refine AL.cons rfl (Does.box 0 (Ev.tmp rfl) rfl rfl (Fresh.of rfl) (nlr rfl)) ?_
 refine AL.cons rfl (Does.assignC Evl.bool rfl) ?_
 refine AL.nilS ?_
 refine AC.sr ?_
 refine AL.cons rfl (Does.loadPA (Evl.tmp rfl) rfl tsh_77 rfl rfl) ?_
 refine AL.cons rfl (Does.move rfl rfl) ?_
 refine AL.cons rfl (Does.call (fc_spec_l11Form c s) enters_165 ⟨_, _, rfl, (Ev.tmp rfl), ⟨_, _, rfl, (Ev.tmp rfl), rfl⟩⟩ rfl rfl) ?_
 refine AL.cons rfl (Does.move rfl rfl) ?_
 cases hb1 : (decide (SignsOk c s))
 ·have _h := hb1
  have hb1' : ¬ (SignsOk c s) := of_decide_eq_false hb1
  refine AL.guard_no (b := true) rfl rfl rfl ?_ rfl
  refine AL.guard_no (b := true) rfl rfl rfl ?_ rfl
  refine AL.guard_no (b := true) rfl rfl rfl ?_ rfl
  refine AL.cons rfl (Does.pickF (Evl.tmp rfl) (Evl.ev Evl.bool) rfl) ?_
  refine AL.cons rfl (Does.assign rfl rfl) ?_
  refine AL.nilS ?_
  refine AC.ret ?_
  subst hO
  have e2 : (false : Bool) = (okP c s) := by
   exact okP_no (by assumption)
  exact fin_pure (Res.one rfl (Rs.tmp rfl)) ((congrArg (fun z_ => lf (dB z_)) e2)) rfl
 ·have _h := hb1
  have hb1' : (SignsOk c s) := of_decide_eq_true hb1
  refine AL.guard_yes rfl rfl rfl (Does.loadPA (Evl.tmp rfl) rfl tsh_77 rfl rfl) ?_
  refine AL.guard_yes rfl rfl rfl (Does.move rfl rfl) ?_
  refine AL.guard_yes rfl rfl rfl (Does.call (fc_spec_l11Good c s (by assumption)) enters_166 ⟨_, _, rfl, (Ev.tmp rfl), ⟨_, _, rfl, (Ev.tmp rfl), rfl⟩⟩ rfl rfl) ?_
  refine AL.cons rfl (Does.pickT (Evl.tmp rfl) (Ev.tmp rfl) rfl) ?_
  refine AL.cons rfl (Does.assign rfl rfl) ?_
  refine AL.nilS ?_
  refine AC.ret ?_
  subst hO
  have e3 : (partV c s : Bool) = (okP c s) := by
   exact okP_yes (by assumption)
  exact fin_pure (Res.one rfl (Rs.tmp rfl)) ((congrArg (fun z_ => lf (dB z_)) e3)) rfl

end Go.Proofs.Ytbelopdphlllnaa
