/- Walks over abstract states: sameness of slices, the firings of a graph. -/
import Derived.Test.YtnakmhfjafecpaaGreatWr
set_option linter.unusedSimpArgs false
set_option linter.unusedVariables false
set_option linter.unusedSectionVars false
namespace Go.Proofs.YtnakmhfjafecpaaGreat
open Go.RowKit
set_option maxRecDepth 100000
set_option maxHeartbeats 4000000

section
variable {α : Type} [DecidableEq α] {a b : List α} {k : Nat} {x y : α}
theorem eql_no_len (h : ¬ (a.length : Int) = (b.length : Int)) : false = decide (a = b) := (decide_eq_false fun e => h (by rw [e])).symm
theorem eql_no_at (hx : a[k]? = some x) (hy : b[k]? = some y) (h : x ≠ y) : false = decide (a = b) := (decide_eq_false fun e => h (by rw [e, hy] at hx; exact (Option.some.inj hx).symm)).symm
theorem eql_step {α : Type} {a b : List α} {k : Nat} {x y : α} (hE : ∀ j, j < k → a[j]? = b[j]?) (hx : a[k]? = some x) (hy : b[k]? = some y) (h : x = y) : ∀ j, j < k + 1 → a[j]? = b[j]? := fun j hj => by
  by_cases e : j = k
  · rw [e, hx, hy, h]
  · exact hE j (by omega)
theorem eql_yes (hl : (a.length : Int) = (b.length : Int)) (hE : ∀ j, j < k → a[j]? = b[j]?) (hk : a.length ≤ k) : true = decide (a = b) := (decide_eq_true (List.ext_getElem? fun j => by
  by_cases h : j < k
  · exact hE j h
  · rw [List.getElem?_eq_none (by omega), List.getElem?_eq_none (by omega)])).symm
theorem beq_no {t : Ty} {x y : t.Den} (h : Ty.beq t x y = false) : x ≠ y := fun e => by rw [(Ty.beq_iff t x y).2 e] at h; cases h
end
section
variable [∀ s, Decidable (StgOk s)]
def deadX (s : DSTG) : List Int := (dtV s (exploreV s).1).1
def endsX (s : DSTG) : Bool := decide ((0 : Int) < ((dlV (exploreV s).1).1.length : Int))
def frV (s : DSTG) : List Int × Bool × Bool := if (sgV s).2 = true then (deadX s, endsX s, true) else ([], false, false)
theorem frV_no {s : DSTG} (h : (sgV s).2 = false) : frV s = ([], false, false) := if_neg (by rw [h]; decide)
theorem frV_yes {s : DSTG} (h : (sgV s).2 = true) : frV s = (deadX s, endsX s, true) := if_pos h
def pfI (a b : DSTG) : Bool × Bool := if (frV a).2.2 = true ∧ (frV b).2.2 = true ∧ a.2.1 = b.2.1 ∧ a.2.2.1 = b.2.2.1 then (decide ((frV a).1 = (frV b).1) && (!(frV b).2.1 || (frV a).2.1), true) else (false, false)
def pfV (a b : DSTG) : Bool × Bool := if (sgV a).2 = true ∧ (sgV b).2 = true ∧ a.2.1 = b.2.1 ∧ a.2.2.1 = b.2.2.1 then (decide (deadX a = deadX b) && (endsX a || !endsX b), true) else (false, false)
theorem pf_same (a b : DSTG) : pfI a b = pfV a b := by
  unfold pfI pfV
  cases ha : (sgV a).2 with
  | false => rw [frV_no ha]; simp
  | true =>
    cases hb : (sgV b).2 with
    | false => rw [frV_no hb]; simp
    | true => rw [frV_yes ha, frV_yes hb, Bool.or_comm]
section
variable {a b : DSTG}
theorem pfI_no1 (h : (frV a).2.2 = false) : pfV a b = (false, false) := by rw [← pf_same]; exact if_neg fun g => by rw [h] at g; cases g.1
theorem pfI_no2 (h : (frV b).2.2 = false) : pfV a b = (false, false) := by rw [← pf_same]; exact if_neg fun g => by rw [h] at g; cases g.2.1
theorem pfI_no3 (h : ¬ a.2.1 = b.2.1) : pfV a b = (false, false) := by rw [← pf_same]; exact if_neg fun g => h g.2.2.1
theorem pfI_no4 (h : ¬ a.2.2.1 = b.2.2.1) : pfV a b = (false, false) := by rw [← pf_same]; exact if_neg fun g => h g.2.2.2
theorem pfI_yes (h1 : (frV a).2.2 = true) (h2 : (frV b).2.2 = true) (h3 : a.2.1 = b.2.1) (h4 : a.2.2.1 = b.2.2.1) : pfV a b = (decide ((frV a).1 = (frV b).1) && (!(frV b).2.1 || (frV a).2.1), true) := by rw [← pf_same]; exact if_pos ⟨h1, h2, h3, h4⟩
theorem pfI_y1 (h1 : (frV a).2.2 = true) (h2 : (frV b).2.2 = true) (h3 : a.2.1 = b.2.1) (h4 : a.2.2.1 = b.2.2.1) (h : ¬ (frV a).1 = (frV b).1) : pfV a b = (false, true) := by rw [pfI_yes h1 h2 h3 h4, decide_eq_false h]; rfl
theorem pfI_y2 (h1 : (frV a).2.2 = true) (h2 : (frV b).2.2 = true) (h3 : a.2.1 = b.2.1) (h4 : a.2.2.1 = b.2.2.1) (h : (frV a).1 = (frV b).1) (hb : (frV b).2.1 = false) : pfV a b = (true, true) := by rw [pfI_yes h1 h2 h3 h4, decide_eq_true h, hb]; rfl
theorem pfI_y3 (h1 : (frV a).2.2 = true) (h2 : (frV b).2.2 = true) (h3 : a.2.1 = b.2.1) (h4 : a.2.2.1 = b.2.2.1) (h : (frV a).1 = (frV b).1) (hb : (frV b).2.1 = true) : pfV a b = ((frV a).2.1, true) := by rw [pfI_yes h1 h2 h3 h4, decide_eq_true h, hb]; rfl
theorem pfV_no1 (h : (sgV a).2 = false) : pfV a b = (false, false) := if_neg fun g => by rw [h] at g; cases g.1
theorem pfV_no2 (h : (sgV b).2 = false) : pfV a b = (false, false) := if_neg fun g => by rw [h] at g; cases g.2.1
theorem pfV_yes (h1 : (sgV a).2 = true) (h2 : (sgV b).2 = true) (h3 : a.2.1 = b.2.1) (h4 : a.2.2.1 = b.2.2.1) : pfV a b = (decide (deadX a = deadX b) && (endsX a || !endsX b), true) := if_pos ⟨h1, h2, h3, h4⟩
theorem pfV_y1 (h1 : (sgV a).2 = true) (h2 : (sgV b).2 = true) (h3 : a.2.1 = b.2.1) (h4 : a.2.2.1 = b.2.2.1) (h : ¬ deadX a = deadX b) : pfV a b = (false, true) := by rw [pfV_yes h1 h2 h3 h4, decide_eq_false h]; rfl
theorem pfV_y2 (h1 : (sgV a).2 = true) (h2 : (sgV b).2 = true) (h3 : a.2.1 = b.2.1) (h4 : a.2.2.1 = b.2.2.1) (h : deadX a = deadX b) (hb : endsX a = true) : pfV a b = (true, true) := by rw [pfV_yes h1 h2 h3 h4, decide_eq_true h, hb]; rfl
theorem pfV_y3 (h1 : (sgV a).2 = true) (h2 : (sgV b).2 = true) (h3 : a.2.1 = b.2.1) (h4 : a.2.2.1 = b.2.2.1) (h : deadX a = deadX b) (hb : endsX a = false) : pfV a b = (!endsX b, true) := by rw [pfV_yes h1 h2 h3 h4, decide_eq_true h, hb]; rfl
end
end

theorem fc_slices_Equal_impl_Signal_impl_Signal (s1 : List (ByteArray × Int)) (s2 : List (ByteArray × Int))  : FC Tryz.prog 244 [(false, [.dat (.sl 145 (.pr .str .int)) s1]), (false, [.dat (.sl 145 (.pr .str .int)) s2])] [] 0 (Pure (lB (decide (s1 = s2)))) := by
 refine FC.go Tryz.func244 rfl rfl Tryz.ntmps244 fun O_ hO w0_ N0_ X_ h0_ f0_ => ?_
 iterate 6 refine w_ ?_
 refine AL.fact (fact_len (x := .tmp 6) (Evl.tmp rfl)) fun hl1 => ?_
 iterate 2 refine w_ ?_
 refine AL.fact (fact_len (x := .tmp 8) (Evl.tmp rfl)) fun hl2 => ?_
 iterate 3 refine w_ ?_
 cases hb3 : (!decide ((s1.length : Int) = (s2.length : Int)))
 ·have hb3' : ((s1.length : Int) = (s2.length : Int)) := nd_false hb3
  iterate 5 refine w_ ?_
  refine AL.fact (fact_len (x := .tmp 11) (Evl.tmp rfl)) fun hl4 => ?_
  iterate 4 refine w_ ?_
  refine AC.loopW (fun m_ s_ => ∃ (k : Nat), k ≤ s1.length ∧ m_ = s1.length - k ∧ (∀ j, j < k → s1[j]? = s2[j]?) ∧ s_ = ⟨[(0, lf (.dat (.sl 145 (.pr .str .int)) s1)), (1, lf (.dat (.sl 145 (.pr .str .int)) s2)), (12, lI (s1.length : Int)), (13, lI (k : Int))], []⟩) ⟨0, Nat.zero_le _, rfl, (fun j hj => absurd hj (Nat.not_lt_zero j)), rfl⟩ ?_ ?_
  · exact Wk.of [] rfl ⟨rfl, rfl, rfl, rfl, trivial⟩ trivial rfl rfl
  rintro m_ s_ ⟨k, hk5, hm6, hE, rfl⟩
  iterate 4 refine w_ ?_
  cases hb7 : (decide ((k : Int) < (s1.length : Int)))
  ·have hb7' := of_decide_eq_false hb7
   refine w_ ?_
   refine AC.exit ?_
   refine (?_ : AC _ _ _ _ _)
   iterate 3 refine w_ ?_
   refine AC.ret ?_
   subst hO
   have e8 : (true : Bool) = (decide (s1 = s2)) := by
    exact eql_yes (by assumption) hE (by omega)
   exact fin_pure (Res.one rfl (Rs.tmp rfl)) ((congrArg (fun z_ => lB z_) e8)) rfl
  ·have hb7' := of_decide_eq_true hb7
   iterate 8 refine w_ ?_
   obtain ⟨x9, hx10⟩ : ∃ z, s1[k]? = some z := ⟨_, List.getElem?_eq_getElem (by omega)⟩
   obtain ⟨x11, hx12⟩ : ∃ z, s2[k]? = some z := ⟨_, List.getElem?_eq_getElem (by omega)⟩
   refine dw [io 16 (lf (.dat (.sl 145 (.pr .str .int)) s1)), io 17 (lI (k : Int)), io 18 (lf (.elt (.pr .str .int) x9 0)), io 19 (ag [dS x9.1, dI x9.2]), io 20 (lf (.dat (.sl 145 (.pr .str .int)) s2)), io 21 (lI (k : Int)), io 22 (lf (.elt (.pr .str .int) x11 0)), io 23 (ag [dS x11.1, dI x11.2]), io 24 (lB (!(Ty.beq (.pr .str .int) x9 x11)))] [0, 0, 3, 7, 0, 0, 48, 112, 255] mixed rfl (by kernel_rfl) ⟨dxm rfl rfl, dxm rfl rfl, fun _ h_ => ac (Does.indexE (h_.v rfl) (h_.v rfl) und_36 tsh_145 rfl (by omega) hx10) rfl, fun _ h_ => ac (Does.loadEA (h_.v rfl) tsh_145 rfl rfl) rfl, dxm rfl rfl, dxm rfl rfl, fun _ h_ => ac (Does.indexE (h_.v rfl) (h_.v rfl) und_36 tsh_145 rfl (by omega) hx12) rfl, fun _ h_ => ac (Does.loadEA (h_.v rfl) tsh_145 rfl rfl) rfl, fun _ h_ => ac (Does.neqG eqt_145 eqg_145 (h_.w rfl) (h_.w rfl) (p := x9) (q := x11) rfl rfl rfl) rfl, ⟨⟩⟩ ?_
   cases hb13 : (Ty.beq (.pr .str .int) x9 x11)
   ·iterate 4 refine w_ ?_
    refine AC.ret ?_
    subst hO
    have e14 : (false : Bool) = (decide (s1 = s2)) := by
     exact eql_no_at hx10 hx12 (by first | exact beq_no (by assumption) | assumption)
    exact fin_pure (Res.one rfl (Rs.tmp rfl)) ((congrArg (fun z_ => lB z_) e14)) rfl
   ·refine w_ ?_
    refine AC.skip ?_
    refine (?_ : AC _ _ _ _ _)
    iterate 3 refine w_ ?_
    refine AL.nil <| lend ⟨k + 1, by omega, rfl, (eql_step hE hx10 hx12 (by first | exact (Ty.beq_iff _ _ _).1 (by assumption) | assumption)), rfl⟩ (by omega) ?_
    exact Wk.of [] rfl ⟨rfl, rfl, rfl, rfl, trivial⟩ trivial rfl rfl
 ·have hb3' : ¬ ((s1.length : Int) = (s2.length : Int)) := nd_true hb3
  iterate 4 refine w_ ?_
  refine AC.ret ?_
  subst hO
  have e15 : (false : Bool) = (decide (s1 = s2)) := by
   exact eql_no_len (by assumption)
  exact fin_pure (Res.one rfl (Rs.tmp rfl)) ((congrArg (fun z_ => lB z_) e15)) rfl

theorem fc_slices_Equal_impl_Label_impl_Label (s1 : List (Int × Bool)) (s2 : List (Int × Bool))  : FC Tryz.prog 245 [(false, [.dat (.sl 61 (.pr .int .bool)) s1]), (false, [.dat (.sl 61 (.pr .int .bool)) s2])] [] 0 (Pure (lB (decide (s1 = s2)))) := by
 refine FC.go Tryz.func245 rfl rfl Tryz.ntmps245 fun O_ hO w0_ N0_ X_ h0_ f0_ => ?_
 iterate 6 refine w_ ?_
 refine AL.fact (fact_len (x := .tmp 6) (Evl.tmp rfl)) fun hl1 => ?_
 iterate 2 refine w_ ?_
 refine AL.fact (fact_len (x := .tmp 8) (Evl.tmp rfl)) fun hl2 => ?_
 iterate 3 refine w_ ?_
 cases hb3 : (!decide ((s1.length : Int) = (s2.length : Int)))
 ·have hb3' : ((s1.length : Int) = (s2.length : Int)) := nd_false hb3
  iterate 5 refine w_ ?_
  refine AL.fact (fact_len (x := .tmp 11) (Evl.tmp rfl)) fun hl4 => ?_
  iterate 4 refine w_ ?_
  refine AC.loopW (fun m_ s_ => ∃ (k : Nat), k ≤ s1.length ∧ m_ = s1.length - k ∧ (∀ j, j < k → s1[j]? = s2[j]?) ∧ s_ = ⟨[(0, lf (.dat (.sl 61 (.pr .int .bool)) s1)), (1, lf (.dat (.sl 61 (.pr .int .bool)) s2)), (12, lI (s1.length : Int)), (13, lI (k : Int))], []⟩) ⟨0, Nat.zero_le _, rfl, (fun j hj => absurd hj (Nat.not_lt_zero j)), rfl⟩ ?_ ?_
  · exact Wk.of [] rfl ⟨rfl, rfl, rfl, rfl, trivial⟩ trivial rfl rfl
  rintro m_ s_ ⟨k, hk5, hm6, hE, rfl⟩
  iterate 4 refine w_ ?_
  cases hb7 : (decide ((k : Int) < (s1.length : Int)))
  ·have hb7' := of_decide_eq_false hb7
   refine w_ ?_
   refine AC.exit ?_
   refine (?_ : AC _ _ _ _ _)
   iterate 3 refine w_ ?_
   refine AC.ret ?_
   subst hO
   have e8 : (true : Bool) = (decide (s1 = s2)) := by
    exact eql_yes (by assumption) hE (by omega)
   exact fin_pure (Res.one rfl (Rs.tmp rfl)) ((congrArg (fun z_ => lB z_) e8)) rfl
  ·have hb7' := of_decide_eq_true hb7
   iterate 8 refine w_ ?_
   obtain ⟨x9, hx10⟩ : ∃ z, s1[k]? = some z := ⟨_, List.getElem?_eq_getElem (by omega)⟩
   obtain ⟨x11, hx12⟩ : ∃ z, s2[k]? = some z := ⟨_, List.getElem?_eq_getElem (by omega)⟩
   refine dw [io 16 (lf (.dat (.sl 61 (.pr .int .bool)) s1)), io 17 (lI (k : Int)), io 18 (lf (.elt (.pr .int .bool) x9 0)), io 19 (ag [dI x9.1, dB x9.2]), io 20 (lf (.dat (.sl 61 (.pr .int .bool)) s2)), io 21 (lI (k : Int)), io 22 (lf (.elt (.pr .int .bool) x11 0)), io 23 (ag [dI x11.1, dB x11.2]), io 24 (lB (!(Ty.beq (.pr .int .bool) x9 x11)))] [0, 0, 3, 7, 0, 0, 48, 112, 255] mixed rfl (by kernel_rfl) ⟨dxm rfl rfl, dxm rfl rfl, fun _ h_ => ac (Does.indexE (h_.v rfl) (h_.v rfl) und_37 tsh_61 rfl (by omega) hx10) rfl, fun _ h_ => ac (Does.loadEA (h_.v rfl) tsh_61 rfl rfl) rfl, dxm rfl rfl, dxm rfl rfl, fun _ h_ => ac (Does.indexE (h_.v rfl) (h_.v rfl) und_37 tsh_61 rfl (by omega) hx12) rfl, fun _ h_ => ac (Does.loadEA (h_.v rfl) tsh_61 rfl rfl) rfl, fun _ h_ => ac (Does.neqG eqt_61 eqg_61 (h_.w rfl) (h_.w rfl) (p := x9) (q := x11) rfl rfl rfl) rfl, ⟨⟩⟩ ?_
   cases hb13 : (Ty.beq (.pr .int .bool) x9 x11)
   ·iterate 4 refine w_ ?_
    refine AC.ret ?_
    subst hO
    have e14 : (false : Bool) = (decide (s1 = s2)) := by
     exact eql_no_at hx10 hx12 (by first | exact beq_no (by assumption) | assumption)
    exact fin_pure (Res.one rfl (Rs.tmp rfl)) ((congrArg (fun z_ => lB z_) e14)) rfl
   ·refine w_ ?_
    refine AC.skip ?_
    refine (?_ : AC _ _ _ _ _)
    iterate 3 refine w_ ?_
    refine AL.nil <| lend ⟨k + 1, by omega, rfl, (eql_step hE hx10 hx12 (by first | exact (Ty.beq_iff _ _ _).1 (by assumption) | assumption)), rfl⟩ (by omega) ?_
    exact Wk.of [] rfl ⟨rfl, rfl, rfl, rfl, trivial⟩ trivial rfl rfl
 ·have hb3' : ¬ ((s1.length : Int) = (s2.length : Int)) := nd_true hb3
  iterate 4 refine w_ ?_
  refine AC.ret ?_
  subst hO
  have e15 : (false : Bool) = (decide (s1 = s2)) := by
   exact eql_no_len (by assumption)
  exact fin_pure (Res.one rfl (Rs.tmp rfl)) ((congrArg (fun z_ => lB z_) e15)) rfl

theorem fc_slices_Equal_int_int (s1 : List Int) (s2 : List Int)  : FC Tryz.prog 117 [(false, [.dat (.sl 3 .int) s1]), (false, [.dat (.sl 3 .int) s2])] [] 0 (Pure (lB (decide (s1 = s2)))) := by
 refine FC.go Tryz.func117 rfl rfl Tryz.ntmps117 fun O_ hO w0_ N0_ X_ h0_ f0_ => ?_
 iterate 6 refine w_ ?_
 refine AL.fact (fact_len (x := .tmp 6) (Evl.tmp rfl)) fun hl1 => ?_
 iterate 2 refine w_ ?_
 refine AL.fact (fact_len (x := .tmp 8) (Evl.tmp rfl)) fun hl2 => ?_
 iterate 3 refine w_ ?_
 cases hb3 : (!decide ((s1.length : Int) = (s2.length : Int)))
 ·have hb3' : ((s1.length : Int) = (s2.length : Int)) := nd_false hb3
  iterate 5 refine w_ ?_
  refine AL.fact (fact_len (x := .tmp 11) (Evl.tmp rfl)) fun hl4 => ?_
  iterate 4 refine w_ ?_
  refine AC.loopW (fun m_ s_ => ∃ (k : Nat), k ≤ s1.length ∧ m_ = s1.length - k ∧ (∀ j, j < k → s1[j]? = s2[j]?) ∧ s_ = ⟨[(0, lf (.dat (.sl 3 .int) s1)), (1, lf (.dat (.sl 3 .int) s2)), (12, lI (s1.length : Int)), (13, lI (k : Int))], []⟩) ⟨0, Nat.zero_le _, rfl, (fun j hj => absurd hj (Nat.not_lt_zero j)), rfl⟩ ?_ ?_
  · exact Wk.of [] rfl ⟨rfl, rfl, rfl, rfl, trivial⟩ trivial rfl rfl
  rintro m_ s_ ⟨k, hk5, hm6, hE, rfl⟩
  iterate 4 refine w_ ?_
  cases hb7 : (decide ((k : Int) < (s1.length : Int)))
  ·have hb7' := of_decide_eq_false hb7
   refine w_ ?_
   refine AC.exit ?_
   refine (?_ : AC _ _ _ _ _)
   iterate 3 refine w_ ?_
   refine AC.ret ?_
   subst hO
   have e8 : (true : Bool) = (decide (s1 = s2)) := by
    exact eql_yes (by assumption) hE (by omega)
   exact fin_pure (Res.one rfl (Rs.tmp rfl)) ((congrArg (fun z_ => lB z_) e8)) rfl
  ·have hb7' := of_decide_eq_true hb7
   iterate 8 refine w_ ?_
   obtain ⟨x9, hx10⟩ : ∃ z, s1[k]? = some z := ⟨_, List.getElem?_eq_getElem (by omega)⟩
   obtain ⟨x11, hx12⟩ : ∃ z, s2[k]? = some z := ⟨_, List.getElem?_eq_getElem (by omega)⟩
   refine dw [io 16 (lf (.dat (.sl 3 .int) s1)), io 17 (lI (k : Int)), io 18 (lf (.elt .int x9 0)), io 19 (lI x9), io 20 (lf (.dat (.sl 3 .int) s2)), io 21 (lI (k : Int)), io 22 (lf (.elt .int x11 0)), io 23 (lI x11), io 24 (lB (!decide (x9 = x11)))] [0, 0, 3, 7, 0, 0, 48, 112, 255] mixed rfl (by kernel_rfl) ⟨dxm rfl rfl, dxm rfl rfl, fun _ h_ => ac (Does.indexE (h_.v rfl) (h_.v rfl) und_106 tsh_3 rfl (by omega) hx10) rfl, fun _ h_ => ac (Does.loadE (h_.v rfl) tsh_3 rfl rfl) rfl, dxm rfl rfl, dxm rfl rfl, fun _ h_ => ac (Does.indexE (h_.v rfl) (h_.v rfl) und_106 tsh_3 rfl (by omega) hx12) rfl, fun _ h_ => ac (Does.loadE (h_.v rfl) tsh_3 rfl rfl) rfl, fun _ h_ => ac (Does.neq (h_.v rfl) (h_.v rfl) rfl) rfl, ⟨⟩⟩ ?_
   cases hb13 : (!decide (x9 = x11))
   ·have hb13' : (x9 = x11) := nd_false hb13
    refine w_ ?_
    refine AC.skip ?_
    refine (?_ : AC _ _ _ _ _)
    iterate 3 refine w_ ?_
    refine AL.nil <| lend ⟨k + 1, by omega, rfl, (eql_step hE hx10 hx12 (by first | exact (Ty.beq_iff _ _ _).1 (by assumption) | assumption)), rfl⟩ (by omega) ?_
    exact Wk.of [] rfl ⟨rfl, rfl, rfl, rfl, trivial⟩ trivial rfl rfl
   ·have hb13' : ¬ (x9 = x11) := nd_true hb13
    iterate 4 refine w_ ?_
    refine AC.ret ?_
    subst hO
    have e14 : (false : Bool) = (decide (s1 = s2)) := by
     exact eql_no_at hx10 hx12 (by first | exact beq_no (by assumption) | assumption)
    exact fin_pure (Res.one rfl (Rs.tmp rfl)) ((congrArg (fun z_ => lB z_) e14)) rfl
 ·have hb3' : ¬ ((s1.length : Int) = (s2.length : Int)) := nd_true hb3
  iterate 4 refine w_ ?_
  refine AC.ret ?_
  subst hO
  have e15 : (false : Bool) = (decide (s1 = s2)) := by
   exact eql_no_len (by assumption)
  exact fin_pure (Res.one rfl (Rs.tmp rfl)) ((congrArg (fun z_ => lB z_) e15)) rfl

theorem fc_spec_l2SameSignals (a : List (ByteArray × Int)) (b : List (ByteArray × Int))  : FC Tryz.prog 275 [(false, [.dat (.sl 145 (.pr .str .int)) a]), (false, [.dat (.sl 145 (.pr .str .int)) b])] [] 0 (Pure (lB (decide (a = b)))) := by
 refine FC.go Tryz.func275 rfl rfl Tryz.ntmps275 fun O_ hO w0_ N0_ X_ h0_ f0_ => ?_
 iterate 6 refine w_ ?_
 refine AL.fact (fact_len (x := .tmp 6) (Evl.tmp rfl)) fun hl1 => ?_
 iterate 2 refine w_ ?_
 refine AL.fact (fact_len (x := .tmp 8) (Evl.tmp rfl)) fun hl2 => ?_
 iterate 3 refine w_ ?_
 cases hb3 : (!decide ((a.length : Int) = (b.length : Int)))
 ·have hb3' : ((a.length : Int) = (b.length : Int)) := nd_false hb3
  iterate 5 refine w_ ?_
  refine AL.fact (fact_len (x := .tmp 11) (Evl.tmp rfl)) fun hl4 => ?_
  iterate 4 refine w_ ?_
  refine AC.loopW (fun m_ s_ => ∃ (k : Nat), k ≤ a.length ∧ m_ = a.length - k ∧ (∀ j, j < k → a[j]? = b[j]?) ∧ s_ = ⟨[(0, lf (.dat (.sl 145 (.pr .str .int)) a)), (1, lf (.dat (.sl 145 (.pr .str .int)) b)), (12, lI (a.length : Int)), (13, lI (k : Int))], []⟩) ⟨0, Nat.zero_le _, rfl, (fun j hj => absurd hj (Nat.not_lt_zero j)), rfl⟩ ?_ ?_
  · exact Wk.of [] rfl ⟨rfl, rfl, rfl, rfl, trivial⟩ trivial rfl rfl
  rintro m_ s_ ⟨k, hk5, hm6, hE, rfl⟩
  iterate 4 refine w_ ?_
  cases hb7 : (decide ((k : Int) < (a.length : Int)))
  ·have hb7' := of_decide_eq_false hb7
   refine w_ ?_
   refine AC.exit ?_
   refine (?_ : AC _ _ _ _ _)
   iterate 3 refine w_ ?_
   refine AC.ret ?_
   subst hO
   have e8 : (true : Bool) = (decide (a = b)) := by
    exact eql_yes (by assumption) hE (by omega)
   exact fin_pure (Res.one rfl (Rs.tmp rfl)) ((congrArg (fun z_ => lB z_) e8)) rfl
  ·have hb7' := of_decide_eq_true hb7
   iterate 8 refine w_ ?_
   obtain ⟨x9, hx10⟩ : ∃ z, a[k]? = some z := ⟨_, List.getElem?_eq_getElem (by omega)⟩
   obtain ⟨x11, hx12⟩ : ∃ z, b[k]? = some z := ⟨_, List.getElem?_eq_getElem (by omega)⟩
   refine dw [io 16 (lf (.dat (.sl 145 (.pr .str .int)) a)), io 17 (lI (k : Int)), io 18 (lf (.elt (.pr .str .int) x9 0)), io 19 (ag [dS x9.1, dI x9.2]), io 20 (lf (.dat (.sl 145 (.pr .str .int)) b)), io 21 (lI (k : Int)), io 22 (lf (.elt (.pr .str .int) x11 0)), io 23 (ag [dS x11.1, dI x11.2]), io 24 (lB (!(Ty.beq (.pr .str .int) x9 x11)))] [0, 0, 3, 7, 0, 0, 48, 112, 255] mixed rfl (by kernel_rfl) ⟨dxm rfl rfl, dxm rfl rfl, fun _ h_ => ac (Does.indexE (h_.v rfl) (h_.v rfl) und_36 tsh_145 rfl (by omega) hx10) rfl, fun _ h_ => ac (Does.loadEA (h_.v rfl) tsh_145 rfl rfl) rfl, dxm rfl rfl, dxm rfl rfl, fun _ h_ => ac (Does.indexE (h_.v rfl) (h_.v rfl) und_36 tsh_145 rfl (by omega) hx12) rfl, fun _ h_ => ac (Does.loadEA (h_.v rfl) tsh_145 rfl rfl) rfl, fun _ h_ => ac (Does.neqG eqt_145 eqg_145 (h_.w rfl) (h_.w rfl) (p := x9) (q := x11) rfl rfl rfl) rfl, ⟨⟩⟩ ?_
   cases hb13 : (Ty.beq (.pr .str .int) x9 x11)
   ·iterate 4 refine w_ ?_
    refine AC.ret ?_
    subst hO
    have e14 : (false : Bool) = (decide (a = b)) := by
     exact eql_no_at hx10 hx12 (by first | exact beq_no (by assumption) | assumption)
    exact fin_pure (Res.one rfl (Rs.tmp rfl)) ((congrArg (fun z_ => lB z_) e14)) rfl
   ·refine w_ ?_
    refine AC.skip ?_
    refine (?_ : AC _ _ _ _ _)
    iterate 3 refine w_ ?_
    refine AL.nil <| lend ⟨k + 1, by omega, rfl, (eql_step hE hx10 hx12 (by first | exact (Ty.beq_iff _ _ _).1 (by assumption) | assumption)), rfl⟩ (by omega) ?_
    exact Wk.of [] rfl ⟨rfl, rfl, rfl, rfl, trivial⟩ trivial rfl rfl
 ·have hb3' : ¬ ((a.length : Int) = (b.length : Int)) := nd_true hb3
  iterate 4 refine w_ ?_
  refine AC.ret ?_
  subst hO
  have e15 : (false : Bool) = (decide (a = b)) := by
   exact eql_no_len (by assumption)
  exact fin_pure (Res.one rfl (Rs.tmp rfl)) ((congrArg (fun z_ => lB z_) e15)) rfl

theorem fc_spec_l26SameLabels (a : List (Int × Bool)) (b : List (Int × Bool))  : FC Tryz.prog 276 [(false, [.dat (.sl 61 (.pr .int .bool)) a]), (false, [.dat (.sl 61 (.pr .int .bool)) b])] [] 0 (Pure (lB (decide (a = b)))) := by
 refine FC.go Tryz.func276 rfl rfl Tryz.ntmps276 fun O_ hO w0_ N0_ X_ h0_ f0_ => ?_
 iterate 6 refine w_ ?_
 refine AL.fact (fact_len (x := .tmp 6) (Evl.tmp rfl)) fun hl1 => ?_
 iterate 2 refine w_ ?_
 refine AL.fact (fact_len (x := .tmp 8) (Evl.tmp rfl)) fun hl2 => ?_
 iterate 3 refine w_ ?_
 cases hb3 : (!decide ((a.length : Int) = (b.length : Int)))
 ·have hb3' : ((a.length : Int) = (b.length : Int)) := nd_false hb3
  iterate 5 refine w_ ?_
  refine AL.fact (fact_len (x := .tmp 11) (Evl.tmp rfl)) fun hl4 => ?_
  iterate 4 refine w_ ?_
  refine AC.loopW (fun m_ s_ => ∃ (k : Nat), k ≤ a.length ∧ m_ = a.length - k ∧ (∀ j, j < k → a[j]? = b[j]?) ∧ s_ = ⟨[(0, lf (.dat (.sl 61 (.pr .int .bool)) a)), (1, lf (.dat (.sl 61 (.pr .int .bool)) b)), (12, lI (a.length : Int)), (13, lI (k : Int))], []⟩) ⟨0, Nat.zero_le _, rfl, (fun j hj => absurd hj (Nat.not_lt_zero j)), rfl⟩ ?_ ?_
  · exact Wk.of [] rfl ⟨rfl, rfl, rfl, rfl, trivial⟩ trivial rfl rfl
  rintro m_ s_ ⟨k, hk5, hm6, hE, rfl⟩
  iterate 4 refine w_ ?_
  cases hb7 : (decide ((k : Int) < (a.length : Int)))
  ·have hb7' := of_decide_eq_false hb7
   refine w_ ?_
   refine AC.exit ?_
   refine (?_ : AC _ _ _ _ _)
   iterate 3 refine w_ ?_
   refine AC.ret ?_
   subst hO
   have e8 : (true : Bool) = (decide (a = b)) := by
    exact eql_yes (by assumption) hE (by omega)
   exact fin_pure (Res.one rfl (Rs.tmp rfl)) ((congrArg (fun z_ => lB z_) e8)) rfl
  ·have hb7' := of_decide_eq_true hb7
   iterate 8 refine w_ ?_
   obtain ⟨x9, hx10⟩ : ∃ z, a[k]? = some z := ⟨_, List.getElem?_eq_getElem (by omega)⟩
   obtain ⟨x11, hx12⟩ : ∃ z, b[k]? = some z := ⟨_, List.getElem?_eq_getElem (by omega)⟩
   refine dw [io 16 (lf (.dat (.sl 61 (.pr .int .bool)) a)), io 17 (lI (k : Int)), io 18 (lf (.elt (.pr .int .bool) x9 0)), io 19 (ag [dI x9.1, dB x9.2]), io 20 (lf (.dat (.sl 61 (.pr .int .bool)) b)), io 21 (lI (k : Int)), io 22 (lf (.elt (.pr .int .bool) x11 0)), io 23 (ag [dI x11.1, dB x11.2]), io 24 (lB (!(Ty.beq (.pr .int .bool) x9 x11)))] [0, 0, 3, 7, 0, 0, 48, 112, 255] mixed rfl (by kernel_rfl) ⟨dxm rfl rfl, dxm rfl rfl, fun _ h_ => ac (Does.indexE (h_.v rfl) (h_.v rfl) und_37 tsh_61 rfl (by omega) hx10) rfl, fun _ h_ => ac (Does.loadEA (h_.v rfl) tsh_61 rfl rfl) rfl, dxm rfl rfl, dxm rfl rfl, fun _ h_ => ac (Does.indexE (h_.v rfl) (h_.v rfl) und_37 tsh_61 rfl (by omega) hx12) rfl, fun _ h_ => ac (Does.loadEA (h_.v rfl) tsh_61 rfl rfl) rfl, fun _ h_ => ac (Does.neqG eqt_61 eqg_61 (h_.w rfl) (h_.w rfl) (p := x9) (q := x11) rfl rfl rfl) rfl, ⟨⟩⟩ ?_
   cases hb13 : (Ty.beq (.pr .int .bool) x9 x11)
   ·iterate 4 refine w_ ?_
    refine AC.ret ?_
    subst hO
    have e14 : (false : Bool) = (decide (a = b)) := by
     exact eql_no_at hx10 hx12 (by first | exact beq_no (by assumption) | assumption)
    exact fin_pure (Res.one rfl (Rs.tmp rfl)) ((congrArg (fun z_ => lB z_) e14)) rfl
   ·refine w_ ?_
    refine AC.skip ?_
    refine (?_ : AC _ _ _ _ _)
    iterate 3 refine w_ ?_
    refine AL.nil <| lend ⟨k + 1, by omega, rfl, (eql_step hE hx10 hx12 (by first | exact (Ty.beq_iff _ _ _).1 (by assumption) | assumption)), rfl⟩ (by omega) ?_
    exact Wk.of [] rfl ⟨rfl, rfl, rfl, rfl, trivial⟩ trivial rfl rfl
 ·have hb3' : ¬ ((a.length : Int) = (b.length : Int)) := nd_true hb3
  iterate 4 refine w_ ?_
  refine AC.ret ?_
  subst hO
  have e15 : (false : Bool) = (decide (a = b)) := by
   exact eql_no_len (by assumption)
  exact fin_pure (Res.one rfl (Rs.tmp rfl)) ((congrArg (fun z_ => lB z_) e15)) rfl

theorem fc_spec_l1Same (a : List Int) (b : List Int)  : FC Tryz.prog 164 [(false, [.dat (.sl 3 .int) a]), (false, [.dat (.sl 3 .int) b])] [] 0 (Pure (lB (decide (a = b)))) := by
 refine FC.go Tryz.func164 rfl rfl Tryz.ntmps164 fun O_ hO w0_ N0_ X_ h0_ f0_ => ?_
 iterate 6 refine w_ ?_
 refine AL.fact (fact_len (x := .tmp 6) (Evl.tmp rfl)) fun hl1 => ?_
 iterate 2 refine w_ ?_
 refine AL.fact (fact_len (x := .tmp 8) (Evl.tmp rfl)) fun hl2 => ?_
 iterate 3 refine w_ ?_
 cases hb3 : (!decide ((a.length : Int) = (b.length : Int)))
 ·have hb3' : ((a.length : Int) = (b.length : Int)) := nd_false hb3
  iterate 5 refine w_ ?_
  refine AL.fact (fact_len (x := .tmp 11) (Evl.tmp rfl)) fun hl4 => ?_
  iterate 4 refine w_ ?_
  refine AC.loopW (fun m_ s_ => ∃ (k : Nat), k ≤ a.length ∧ m_ = a.length - k ∧ (∀ j, j < k → a[j]? = b[j]?) ∧ s_ = ⟨[(0, lf (.dat (.sl 3 .int) a)), (1, lf (.dat (.sl 3 .int) b)), (12, lI (a.length : Int)), (13, lI (k : Int))], []⟩) ⟨0, Nat.zero_le _, rfl, (fun j hj => absurd hj (Nat.not_lt_zero j)), rfl⟩ ?_ ?_
  · exact Wk.of [] rfl ⟨rfl, rfl, rfl, rfl, trivial⟩ trivial rfl rfl
  rintro m_ s_ ⟨k, hk5, hm6, hE, rfl⟩
  iterate 4 refine w_ ?_
  cases hb7 : (decide ((k : Int) < (a.length : Int)))
  ·have hb7' := of_decide_eq_false hb7
   refine w_ ?_
   refine AC.exit ?_
   refine (?_ : AC _ _ _ _ _)
   iterate 3 refine w_ ?_
   refine AC.ret ?_
   subst hO
   have e8 : (true : Bool) = (decide (a = b)) := by
    exact eql_yes (by assumption) hE (by omega)
   exact fin_pure (Res.one rfl (Rs.tmp rfl)) ((congrArg (fun z_ => lB z_) e8)) rfl
  ·have hb7' := of_decide_eq_true hb7
   iterate 8 refine w_ ?_
   obtain ⟨x9, hx10⟩ : ∃ z, a[k]? = some z := ⟨_, List.getElem?_eq_getElem (by omega)⟩
   obtain ⟨x11, hx12⟩ : ∃ z, b[k]? = some z := ⟨_, List.getElem?_eq_getElem (by omega)⟩
   refine dw [io 16 (lf (.dat (.sl 3 .int) a)), io 17 (lI (k : Int)), io 18 (lf (.elt .int x9 0)), io 19 (lI x9), io 20 (lf (.dat (.sl 3 .int) b)), io 21 (lI (k : Int)), io 22 (lf (.elt .int x11 0)), io 23 (lI x11), io 24 (lB (!decide (x9 = x11)))] [0, 0, 3, 7, 0, 0, 48, 112, 255] mixed rfl (by kernel_rfl) ⟨dxm rfl rfl, dxm rfl rfl, fun _ h_ => ac (Does.indexE (h_.v rfl) (h_.v rfl) und_106 tsh_3 rfl (by omega) hx10) rfl, fun _ h_ => ac (Does.loadE (h_.v rfl) tsh_3 rfl rfl) rfl, dxm rfl rfl, dxm rfl rfl, fun _ h_ => ac (Does.indexE (h_.v rfl) (h_.v rfl) und_106 tsh_3 rfl (by omega) hx12) rfl, fun _ h_ => ac (Does.loadE (h_.v rfl) tsh_3 rfl rfl) rfl, fun _ h_ => ac (Does.neq (h_.v rfl) (h_.v rfl) rfl) rfl, ⟨⟩⟩ ?_
   cases hb13 : (!decide (x9 = x11))
   ·have hb13' : (x9 = x11) := nd_false hb13
    refine w_ ?_
    refine AC.skip ?_
    refine (?_ : AC _ _ _ _ _)
    iterate 3 refine w_ ?_
    refine AL.nil <| lend ⟨k + 1, by omega, rfl, (eql_step hE hx10 hx12 (by first | exact (Ty.beq_iff _ _ _).1 (by assumption) | assumption)), rfl⟩ (by omega) ?_
    exact Wk.of [] rfl ⟨rfl, rfl, rfl, rfl, trivial⟩ trivial rfl rfl
   ·have hb13' : ¬ (x9 = x11) := nd_true hb13
    iterate 4 refine w_ ?_
    refine AC.ret ?_
    subst hO
    have e14 : (false : Bool) = (decide (a = b)) := by
     exact eql_no_at hx10 hx12 (by first | exact beq_no (by assumption) | assumption)
    exact fin_pure (Res.one rfl (Rs.tmp rfl)) ((congrArg (fun z_ => lB z_) e14)) rfl
 ·have hb3' : ¬ ((a.length : Int) = (b.length : Int)) := nd_true hb3
  iterate 4 refine w_ ?_
  refine AC.ret ?_
  subst hO
  have e15 : (false : Bool) = (decide (a = b)) := by
   exact eql_no_len (by assumption)
  exact fin_pure (Res.one rfl (Rs.tmp rfl)) ((congrArg (fun z_ => lB z_) e15)) rfl

theorem fc_impl_firings (s : (Int × (List (List Int × List Int))) × (List (ByteArray × Int)) × (List (Int × Bool)) × ByteArray) [∀ s, Decidable (StgOk s)]  : FC Tryz.prog 243 [(true, [dI s.1.1, .dat (.sl 159 (.pr (.sl 3 .int) (.sl 3 .int))) s.1.2, .dat (.sl 145 (.pr .str .int)) s.2.1, .dat (.sl 61 (.pr .int .bool)) s.2.2.1, dS s.2.2.2])] [] 0 (Is (PV.tup [(false, [.ref 0]), (false, [dB ((frV s).2.1)]), (false, [dB ((frV s).2.2)])]) [(0, some (.arr 3 .int ((frV s).1)))]) := by
 refine FC.go Tryz.func243 rfl rfl Tryz.ntmps243 fun O_ hO w0_ N0_ X_ h0_ f0_ => ?_
 refine AC.fact (fact_ag (x := .tmp 0) (i := 0) (Ev.tmp rfl) rfl) fun hi1 => ?_
 refine w_ ?_
 refine lc (Does.box 0 (Ev.tmp rfl) rfl rfl (Fresh.of rfl) (nlr rfl)) ?_
 iterate 7 refine w_ ?_
 refine lc (Does.callG 1 (fc_impl_BuildStateGraph s) enters_91 ⟨_, _, rfl, (Ev.tmp rfl), rfl⟩ rfl rfl ⟨Fresh.of rfl, Fresh.of rfl, Fresh.of rfl, trivial⟩ (nlr rfl)) ?_
 iterate 3 refine w_ ?_
 refine lc (Does.alloc 4 (.pr (.sl 145 (.pr .str .int)) (.pr (.sl 9 .str) (.sl 179 (.pr .int (.pr .int (.pr .bool .int)))))) zer_59 rfl rfl (Fresh.of rfl) (nlr rfl)) <| lc (Does.storeP (Evl.tmp rfl) rfl (Ev.tmp rfl) rfl tsh_59 rfl) ?_
 iterate 6 refine w_ ?_
 cases hb2 : ((sgV s).2)
 ·iterate 6 refine w_ ?_
  refine AC.wk (Wk.nilS 5 2 3 .int rfl (Fresh.of rfl) (nlr rfl)) <| AC.ret ?_
  subst hO
  have e3 : (false : Bool) = ((frV s).2.1) := by
   (rw [frV_no (by assumption)]; done)
  have e4 : (false : Bool) = ((frV s).2.2) := by
   (rw [frV_no (by assumption)]; done)
  exact fin_is _ _ [(0, 5)] (Res.three rfl (Rs.tmp rfl) (Rs.tmp rfl) (Rs.tmp rfl)) (((congrArg (fun z_ => PV.tup [(false, [.ref 5]), (false, [dB z_]), (false, [dB false])]) e3)).trans (congrArg (fun z_ => PV.tup [(false, [.ref 5]), (false, [dB ((frV s).2.1)]), (false, [dB z_])]) e4)) ⟨(entE (by (rw [frV_no (by assumption)]; done))), trivial⟩ rfl rfl
 ·iterate 4 refine w_ ?_
  refine lc (Does.callG 6 (fc_impl_Explore s) enters_113 ⟨_, _, rfl, (Ev.tmp rfl), rfl⟩ rfl rfl ⟨Fresh.of rfl, Fresh.of rfl, trivial⟩ (nlr rfl)) ?_
  iterate 3 refine w_ ?_
  refine lc (Does.alloc 8 (.pr (.sl 9 .str) (.sl 226 (.pr .int (.pr .int .int)))) zer_98 rfl rfl (Fresh.of rfl) (nlr rfl)) <| lc (Does.storeP (Evl.tmp rfl) rfl (Ev.tmp rfl) rfl tsh_98 rfl) ?_
  iterate 5 refine w_ ?_
  refine lc (Does.callGB 9 (fc_impl_DeadTransitions s ((exploreV s).1)) enters_283 ⟨_, _, rfl, (Ev.b (Ev.tmp rfl)), ⟨_, _, rfl, (Ev.ob (Ev.tmp rfl) ⟨_, _, rfl, .inr ⟨_, _, _, _, rfl, rfl, rfl⟩, ⟨_, _, rfl, .inr ⟨_, _, _, _, rfl, rfl, rfl⟩, rfl⟩⟩), rfl⟩⟩ rfl rfl rfl ⟨Fresh.of rfl, trivial⟩ (nlr rfl)) ?_
  iterate 8 refine w_ ?_
  refine lc (Does.callGB 10 (fc_impl_Deadlocks ((exploreV s).1)) enters_284 ⟨_, _, rfl, (Ev.ob (Ev.tmp rfl) ⟨_, _, rfl, .inr ⟨_, _, _, _, rfl, rfl, rfl⟩, ⟨_, _, rfl, .inr ⟨_, _, _, _, rfl, rfl, rfl⟩, rfl⟩⟩), rfl⟩ rfl rfl rfl ⟨Fresh.of rfl, trivial⟩ (nlr rfl)) ?_
  iterate 15 refine w_ ?_
  refine AC.ret ?_
  subst hO
  have e5 : (decide (0 < (((dlV ((exploreV s).1)).1).length : Int)) : Bool) = ((frV s).2.1) := by
   (rw [frV_yes (by assumption)]; rfl)
  have e6 : (true : Bool) = ((frV s).2.2) := by
   (rw [frV_yes (by assumption)]; done)
  exact fin_is _ _ [(0, 9)] (Res.three rfl (Rs.tmp rfl) (Rs.tmp rfl) (Rs.tmp rfl)) (((congrArg (fun z_ => PV.tup [(false, [.ref 9]), (false, [dB z_]), (false, [dB true])]) e5)).trans (congrArg (fun z_ => PV.tup [(false, [.ref 9]), (false, [dB ((frV s).2.1)]), (false, [dB z_])]) e6)) ⟨(entE (by (rw [frV_yes (by assumption)]; rfl))), trivial⟩ rfl rfl

theorem fc_spec_l26Coded (s : (Int × (List (List Int × List Int))) × (List (ByteArray × Int)) × (List (Int × Bool)) × ByteArray) [∀ s, Decidable (StgOk s)]  : FC Tryz.prog 89 [(true, [dI s.1.1, .dat (.sl 159 (.pr (.sl 3 .int) (.sl 3 .int))) s.1.2, .dat (.sl 145 (.pr .str .int)) s.2.1, .dat (.sl 61 (.pr .int .bool)) s.2.2.1, dS s.2.2.2])] [] 0 (Pure (lB ((sgV s).2))) := by
 refine FC.go Tryz.func89 rfl rfl Tryz.ntmps89 fun O_ hO w0_ N0_ X_ h0_ f0_ => ?_
 refine AC.fact (fact_ag (x := .tmp 0) (i := 0) (Ev.tmp rfl) rfl) fun hi1 => ?_
 refine w_ ?_
 refine lc (Does.box 0 (Ev.tmp rfl) rfl rfl (Fresh.of rfl) (nlr rfl)) ?_
 iterate 4 refine w_ ?_
 refine lc (Does.callG 1 (fc_spec_BuildStateGraph s) enters_163 ⟨_, _, rfl, (Ev.tmp rfl), rfl⟩ rfl rfl ⟨Fresh.of rfl, Fresh.of rfl, Fresh.of rfl, trivial⟩ (nlr rfl)) ?_
 iterate 3 refine w_ ?_
 refine lc (Does.alloc 4 (.pr (.sl 145 (.pr .str .int)) (.pr (.sl 9 .str) (.sl 179 (.pr .int (.pr .int (.pr .bool .int)))))) zer_59 rfl rfl (Fresh.of rfl) (nlr rfl)) <| lc (Does.storeP (Evl.tmp rfl) rfl (Ev.tmp rfl) rfl tsh_59 rfl) ?_
 iterate 6 refine w_ ?_
 refine AC.ret ?_
 subst hO
 exact fin_pure (Res.one rfl (Rs.tmp rfl)) rfl rfl

theorem fc_spec_l26Never (s : (Int × (List (List Int × List Int))) × (List (ByteArray × Int)) × (List (Int × Bool)) × ByteArray) [∀ s, Decidable (StgOk s)]  : FC Tryz.prog 277 [(true, [dI s.1.1, .dat (.sl 159 (.pr (.sl 3 .int) (.sl 3 .int))) s.1.2, .dat (.sl 145 (.pr .str .int)) s.2.1, .dat (.sl 61 (.pr .int .bool)) s.2.2.1, dS s.2.2.2])] [] 0 (Is (PV.tup [(false, [.ref 0]), (false, [dB (endsX s)])]) [(0, some (.arr 3 .int (deadX s)))]) := by
 refine FC.go Tryz.func277 rfl rfl Tryz.ntmps277 fun O_ hO w0_ N0_ X_ h0_ f0_ => ?_
 refine AC.fact (fact_ag (x := .tmp 0) (i := 0) (Ev.tmp rfl) rfl) fun hi1 => ?_
 refine w_ ?_
 refine lc (Does.box 0 (Ev.tmp rfl) rfl rfl (Fresh.of rfl) (nlr rfl)) ?_
 iterate 5 refine w_ ?_
 refine lc (Does.callG 1 (fc_spec_Explore s) enters_52 ⟨_, _, rfl, (Ev.tmp rfl), rfl⟩ rfl rfl ⟨Fresh.of rfl, Fresh.of rfl, trivial⟩ (nlr rfl)) ?_
 iterate 3 refine w_ ?_
 refine lc (Does.alloc 3 (.pr (.sl 9 .str) (.sl 226 (.pr .int (.pr .int .int)))) zer_98 rfl rfl (Fresh.of rfl) (nlr rfl)) <| lc (Does.storeP (Evl.tmp rfl) rfl (Ev.tmp rfl) rfl tsh_98 rfl) ?_
 iterate 5 refine w_ ?_
 refine lc (Does.callGB 4 (fc_spec_DeadTransitions s ((exploreV s).1)) enters_298 ⟨_, _, rfl, (Ev.b (Ev.tmp rfl)), ⟨_, _, rfl, (Ev.ob (Ev.tmp rfl) ⟨_, _, rfl, .inr ⟨_, _, _, _, rfl, rfl, rfl⟩, ⟨_, _, rfl, .inr ⟨_, _, _, _, rfl, rfl, rfl⟩, rfl⟩⟩), rfl⟩⟩ rfl rfl rfl ⟨Fresh.of rfl, trivial⟩ (nlr rfl)) ?_
 iterate 8 refine w_ ?_
 refine lc (Does.callGB 5 (fc_spec_Deadlocks ((exploreV s).1)) enters_299 ⟨_, _, rfl, (Ev.ob (Ev.tmp rfl) ⟨_, _, rfl, .inr ⟨_, _, _, _, rfl, rfl, rfl⟩, ⟨_, _, rfl, .inr ⟨_, _, _, _, rfl, rfl, rfl⟩, rfl⟩⟩), rfl⟩ rfl rfl rfl ⟨Fresh.of rfl, trivial⟩ (nlr rfl)) ?_
 iterate 14 refine w_ ?_
 refine AC.ret ?_
 subst hO
 have e2 : (decide (0 < (((dlV ((exploreV s).1)).1).length : Int)) : Bool) = (endsX s) := by
  rfl
 exact fin_is _ _ [(0, 4)] (Res.two rfl (Rs.tmp rfl) (Rs.tmp rfl)) ((congrArg (fun z_ => PV.tup [(false, [.ref 4]), (false, [dB z_])]) e2)) ⟨(entE (by rfl)), trivial⟩ rfl rfl

theorem fc_impl_PreservesFirings (a : (Int × (List (List Int × List Int))) × (List (ByteArray × Int)) × (List (Int × Bool)) × ByteArray) (b : (Int × (List (List Int × List Int))) × (List (ByteArray × Int)) × (List (Int × Bool)) × ByteArray) [∀ s, Decidable (StgOk s)]  : FC Tryz.prog 175 [(true, [dI a.1.1, .dat (.sl 159 (.pr (.sl 3 .int) (.sl 3 .int))) a.1.2, .dat (.sl 145 (.pr .str .int)) a.2.1, .dat (.sl 61 (.pr .int .bool)) a.2.2.1, dS a.2.2.2]), (true, [dI b.1.1, .dat (.sl 159 (.pr (.sl 3 .int) (.sl 3 .int))) b.1.2, .dat (.sl 145 (.pr .str .int)) b.2.1, .dat (.sl 61 (.pr .int .bool)) b.2.2.1, dS b.2.2.2])] [] 0 (Pure (PV.tup [(false, [dB ((pfV a b).1)]), (false, [dB ((pfV a b).2)])])) := by
 refine FC.go Tryz.func175 rfl rfl Tryz.ntmps175 fun O_ hO w0_ N0_ X_ h0_ f0_ => ?_
 refine AC.fact (fact_ag (x := .tmp 0) (i := 0) (Ev.tmp rfl) rfl) fun hi1 => AC.fact (fact_ag (x := .tmp 1) (i := 0) (Ev.tmp rfl) rfl) fun hi2 => ?_
 refine w_ ?_
 refine lc (Does.box 0 (Ev.tmp rfl) rfl rfl (Fresh.of rfl) (nlr rfl)) <| lc (Does.box 1 (Ev.tmp rfl) rfl rfl (Fresh.of rfl) (nlr rfl)) ?_
 iterate 5 refine w_ ?_
 refine lc (Does.callG 2 (fc_impl_firings a) enters_243 ⟨_, _, rfl, (Ev.tmp rfl), rfl⟩ rfl rfl ⟨Fresh.of rfl, trivial⟩ (nlr rfl)) ?_
 iterate 10 refine w_ ?_
 refine lc (Does.callG 3 (fc_impl_firings b) enters_243 ⟨_, _, rfl, (Ev.tmp rfl), rfl⟩ rfl rfl ⟨Fresh.of rfl, trivial⟩ (nlr rfl)) ?_
 iterate 13 refine w_ ?_
 cases hb3 : ((frV a).2.2)
 ·iterate 25 refine w_ ?_
  refine AC.ret ?_
  subst hO
  have e4 : (false : Bool) = ((pfV a b).1) := by
   (rw [pfI_no1 (by assumption)]; done)
  have e5 : (false : Bool) = ((pfV a b).2) := by
   (rw [pfI_no1 (by assumption)]; done)
  exact fin_pure (Res.two rfl (Rs.tmp rfl) (Rs.tmp rfl)) (((congrArg (fun z_ => PV.tup [(false, [dB z_]), (false, [dB false])]) e4)).trans (congrArg (fun z_ => PV.tup [(false, [dB ((pfV a b).1)]), (false, [dB z_])]) e5)) rfl
 ·iterate 4 refine w_ ?_
  cases hb6 : ((frV b).2.2)
  ·iterate 21 refine w_ ?_
   refine AC.ret ?_
   subst hO
   have e7 : (false : Bool) = ((pfV a b).1) := by
    (rw [pfI_no2 (by assumption)]; done)
   have e8 : (false : Bool) = ((pfV a b).2) := by
    (rw [pfI_no2 (by assumption)]; done)
   exact fin_pure (Res.two rfl (Rs.tmp rfl) (Rs.tmp rfl)) (((congrArg (fun z_ => PV.tup [(false, [dB z_]), (false, [dB false])]) e7)).trans (congrArg (fun z_ => PV.tup [(false, [dB ((pfV a b).1)]), (false, [dB z_])]) e8)) rfl
  ·iterate 4 refine w_ ?_
   refine lgy rfl rfl (Does.call (fc_slices_Equal_impl_Signal_impl_Signal a.2.1 b.2.1) enters_244 ⟨_, _, rfl, (Ev.tmp rfl), ⟨_, _, rfl, (Ev.tmp rfl), rfl⟩⟩ rfl rfl) ?_
   iterate 3 refine w_ ?_
   cases hb9 : (decide (a.2.1 = b.2.1))
   ·have hb9' := of_decide_eq_false hb9
    iterate 13 refine w_ ?_
    refine AC.ret ?_
    subst hO
    have e10 : (false : Bool) = ((pfV a b).1) := by
     (rw [pfI_no3 (by assumption)]; done)
    have e11 : (false : Bool) = ((pfV a b).2) := by
     (rw [pfI_no3 (by assumption)]; done)
    exact fin_pure (Res.two rfl (Rs.tmp rfl) (Rs.tmp rfl)) (((congrArg (fun z_ => PV.tup [(false, [dB z_]), (false, [dB false])]) e10)).trans (congrArg (fun z_ => PV.tup [(false, [dB ((pfV a b).1)]), (false, [dB z_])]) e11)) rfl
   ·have hb9' := of_decide_eq_true hb9
    iterate 4 refine w_ ?_
    refine lgy rfl rfl (Does.call (fc_slices_Equal_impl_Label_impl_Label a.2.2.1 b.2.2.1) enters_245 ⟨_, _, rfl, (Ev.tmp rfl), ⟨_, _, rfl, (Ev.tmp rfl), rfl⟩⟩ rfl rfl) ?_
    iterate 3 refine w_ ?_
    cases hb12 : (decide (a.2.2.1 = b.2.2.1))
    ·have hb12' := of_decide_eq_false hb12
     iterate 5 refine w_ ?_
     refine AC.ret ?_
     subst hO
     have e13 : (false : Bool) = ((pfV a b).1) := by
      (rw [pfI_no4 (by assumption)]; done)
     have e14 : (false : Bool) = ((pfV a b).2) := by
      (rw [pfI_no4 (by assumption)]; done)
     exact fin_pure (Res.two rfl (Rs.tmp rfl) (Rs.tmp rfl)) (((congrArg (fun z_ => PV.tup [(false, [dB z_]), (false, [dB false])]) e13)).trans (congrArg (fun z_ => PV.tup [(false, [dB ((pfV a b).1)]), (false, [dB z_])]) e14)) rfl
    ·have hb12' := of_decide_eq_true hb12
     iterate 5 refine w_ ?_
     refine lc (Does.callB (fc_slices_Equal_int_int ((frV a).1) ((frV b).1)) enters_117 ⟨_, _, rfl, (Evl.ob (Evl.tmp rfl) rfl), ⟨_, _, rfl, (Evl.ob (Evl.tmp rfl) rfl), rfl⟩⟩ rfl rfl rfl) ?_
     refine w_ ?_
     cases hb15 : (decide (((frV a).1) = ((frV b).1)))
     ·have hb15' := of_decide_eq_false hb15
      iterate 3 refine w_ ?_
      refine AL.guard_un rfl rfl rfl ?_ rfl
      iterate 5 refine w_ ?_
      refine AC.ret ?_
      subst hO
      have e16 : (false : Bool) = ((pfV a b).1) := by
       (rw [pfI_y1 (by assumption) (by assumption) (by assumption) (by assumption) (by assumption)]; done)
      have e17 : (true : Bool) = ((pfV a b).2) := by
       (rw [pfI_y1 (by assumption) (by assumption) (by assumption) (by assumption) (by assumption)]; done)
      exact fin_pure (Res.two rfl (Rs.tmp rfl) (Rs.tmp rfl)) (((congrArg (fun z_ => PV.tup [(false, [dB z_]), (false, [dB true])]) e16)).trans (congrArg (fun z_ => PV.tup [(false, [dB ((pfV a b).1)]), (false, [dB z_])]) e17)) rfl
     ·have hb15' := of_decide_eq_true hb15
      iterate 3 refine w_ ?_
      cases hb18 : ((frV b).2.1)
      ·iterate 6 refine w_ ?_
       refine AC.ret ?_
       subst hO
       have e19 : (true : Bool) = ((pfV a b).1) := by
        (rw [pfI_y2 (by assumption) (by assumption) (by assumption) (by assumption) (by assumption) (by assumption)]; done)
       have e20 : (true : Bool) = ((pfV a b).2) := by
        (rw [pfI_y2 (by assumption) (by assumption) (by assumption) (by assumption) (by assumption) (by assumption)]; done)
       exact fin_pure (Res.two rfl (Rs.tmp rfl) (Rs.tmp rfl)) (((congrArg (fun z_ => PV.tup [(false, [dB z_]), (false, [dB true])]) e19)).trans (congrArg (fun z_ => PV.tup [(false, [dB ((pfV a b).1)]), (false, [dB z_])]) e20)) rfl
      ·iterate 6 refine w_ ?_
       refine AC.ret ?_
       subst hO
       have e21 : ((frV a).2.1 : Bool) = ((pfV a b).1) := by
        (rw [pfI_y3 (by assumption) (by assumption) (by assumption) (by assumption) (by assumption) (by assumption)]; done)
       have e22 : (true : Bool) = ((pfV a b).2) := by
        (rw [pfI_y3 (by assumption) (by assumption) (by assumption) (by assumption) (by assumption) (by assumption)]; done)
       exact fin_pure (Res.two rfl (Rs.tmp rfl) (Rs.tmp rfl)) (((congrArg (fun z_ => PV.tup [(false, [dB z_]), (false, [dB true])]) e21)).trans (congrArg (fun z_ => PV.tup [(false, [dB ((pfV a b).1)]), (false, [dB z_])]) e22)) rfl

theorem fc_spec_PreservesFirings (a : (Int × (List (List Int × List Int))) × (List (ByteArray × Int)) × (List (Int × Bool)) × ByteArray) (b : (Int × (List (List Int × List Int))) × (List (ByteArray × Int)) × (List (Int × Bool)) × ByteArray) [∀ s, Decidable (StgOk s)]  : FC Tryz.prog 228 [(true, [dI a.1.1, .dat (.sl 159 (.pr (.sl 3 .int) (.sl 3 .int))) a.1.2, .dat (.sl 145 (.pr .str .int)) a.2.1, .dat (.sl 61 (.pr .int .bool)) a.2.2.1, dS a.2.2.2]), (true, [dI b.1.1, .dat (.sl 159 (.pr (.sl 3 .int) (.sl 3 .int))) b.1.2, .dat (.sl 145 (.pr .str .int)) b.2.1, .dat (.sl 61 (.pr .int .bool)) b.2.2.1, dS b.2.2.2])] [] 0 (Pure (PV.tup [(false, [dB ((pfV a b).1)]), (false, [dB ((pfV a b).2)])])) := by
 refine FC.go Tryz.func228 rfl rfl Tryz.ntmps228 fun O_ hO w0_ N0_ X_ h0_ f0_ => ?_
 refine AC.fact (fact_ag (x := .tmp 0) (i := 0) (Ev.tmp rfl) rfl) fun hi1 => AC.fact (fact_ag (x := .tmp 1) (i := 0) (Ev.tmp rfl) rfl) fun hi2 => ?_
 refine w_ ?_
 refine lc (Does.box 0 (Ev.tmp rfl) rfl rfl (Fresh.of rfl) (nlr rfl)) <| lc (Does.box 1 (Ev.tmp rfl) rfl rfl (Fresh.of rfl) (nlr rfl)) ?_
 iterate 6 refine w_ ?_
 refine lc (Does.call (fc_spec_l26Coded a) enters_89 ⟨_, _, rfl, (Ev.tmp rfl), rfl⟩ rfl rfl) ?_
 iterate 2 refine w_ ?_
 cases hb3 : ((sgV a).2)
 ·iterate 26 refine w_ ?_
  refine AC.ret ?_
  subst hO
  have e4 : (false : Bool) = ((pfV a b).1) := by
   (rw [pfV_no1 (by assumption)]; done)
  have e5 : (false : Bool) = ((pfV a b).2) := by
   (rw [pfV_no1 (by assumption)]; done)
  exact fin_pure (Res.two rfl (Rs.tmp rfl) (Rs.tmp rfl)) (((congrArg (fun z_ => PV.tup [(false, [dB z_]), (false, [dB false])]) e4)).trans (congrArg (fun z_ => PV.tup [(false, [dB ((pfV a b).1)]), (false, [dB z_])]) e5)) rfl
 ·refine w_ ?_
  refine lgy rfl rfl (Does.call (fc_spec_l26Coded b) enters_89 ⟨_, _, rfl, (Ev.tmp rfl), rfl⟩ rfl rfl) ?_
  iterate 3 refine w_ ?_
  cases hb6 : ((sgV b).2)
  ·iterate 21 refine w_ ?_
   refine AC.ret ?_
   subst hO
   have e7 : (false : Bool) = ((pfV a b).1) := by
    (rw [pfV_no2 (by assumption)]; done)
   have e8 : (false : Bool) = ((pfV a b).2) := by
    (rw [pfV_no2 (by assumption)]; done)
   exact fin_pure (Res.two rfl (Rs.tmp rfl) (Rs.tmp rfl)) (((congrArg (fun z_ => PV.tup [(false, [dB z_]), (false, [dB false])]) e7)).trans (congrArg (fun z_ => PV.tup [(false, [dB ((pfV a b).1)]), (false, [dB z_])]) e8)) rfl
  ·iterate 4 refine w_ ?_
   refine lgy rfl rfl (Does.call (fc_spec_l2SameSignals a.2.1 b.2.1) enters_275 ⟨_, _, rfl, (Ev.tmp rfl), ⟨_, _, rfl, (Ev.tmp rfl), rfl⟩⟩ rfl rfl) ?_
   iterate 3 refine w_ ?_
   cases hb9 : (decide (a.2.1 = b.2.1))
   ·have hb9' := of_decide_eq_false hb9
    iterate 13 refine w_ ?_
    refine AC.ret ?_
    subst hO
    have e10 : (false : Bool) = ((pfV a b).1) := by
     (rw [pfI_no3 (by assumption)]; done)
    have e11 : (false : Bool) = ((pfV a b).2) := by
     (rw [pfI_no3 (by assumption)]; done)
    exact fin_pure (Res.two rfl (Rs.tmp rfl) (Rs.tmp rfl)) (((congrArg (fun z_ => PV.tup [(false, [dB z_]), (false, [dB false])]) e10)).trans (congrArg (fun z_ => PV.tup [(false, [dB ((pfV a b).1)]), (false, [dB z_])]) e11)) rfl
   ·have hb9' := of_decide_eq_true hb9
    iterate 4 refine w_ ?_
    refine lgy rfl rfl (Does.call (fc_spec_l26SameLabels a.2.2.1 b.2.2.1) enters_276 ⟨_, _, rfl, (Ev.tmp rfl), ⟨_, _, rfl, (Ev.tmp rfl), rfl⟩⟩ rfl rfl) ?_
    iterate 3 refine w_ ?_
    cases hb12 : (decide (a.2.2.1 = b.2.2.1))
    ·have hb12' := of_decide_eq_false hb12
     iterate 5 refine w_ ?_
     refine AC.ret ?_
     subst hO
     have e13 : (false : Bool) = ((pfV a b).1) := by
      (rw [pfI_no4 (by assumption)]; done)
     have e14 : (false : Bool) = ((pfV a b).2) := by
      (rw [pfI_no4 (by assumption)]; done)
     exact fin_pure (Res.two rfl (Rs.tmp rfl) (Rs.tmp rfl)) (((congrArg (fun z_ => PV.tup [(false, [dB z_]), (false, [dB false])]) e13)).trans (congrArg (fun z_ => PV.tup [(false, [dB ((pfV a b).1)]), (false, [dB z_])]) e14)) rfl
    ·have hb12' := of_decide_eq_true hb12
     iterate 4 refine w_ ?_
     refine lc (Does.callG 2 (fc_spec_l26Never a) enters_277 ⟨_, _, rfl, (Ev.tmp rfl), rfl⟩ rfl rfl ⟨Fresh.of rfl, trivial⟩ (nlr rfl)) ?_
     iterate 8 refine w_ ?_
     refine lc (Does.callG 3 (fc_spec_l26Never b) enters_277 ⟨_, _, rfl, (Ev.tmp rfl), rfl⟩ rfl rfl ⟨Fresh.of rfl, trivial⟩ (nlr rfl)) ?_
     iterate 9 refine w_ ?_
     refine lc (Does.callB (fc_spec_l1Same (deadX a) (deadX b)) enters_164 ⟨_, _, rfl, (Evl.ob (Evl.tmp rfl) rfl), ⟨_, _, rfl, (Evl.ob (Evl.tmp rfl) rfl), rfl⟩⟩ rfl rfl rfl) ?_
     refine w_ ?_
     cases hb15 : (decide ((deadX a) = (deadX b)))
     ·have hb15' := of_decide_eq_false hb15
      iterate 2 refine w_ ?_
      refine AL.guard_un rfl rfl rfl ?_ rfl
      refine AL.guard_un rfl rfl rfl ?_ rfl
      iterate 5 refine w_ ?_
      refine AC.ret ?_
      subst hO
      have e16 : (false : Bool) = ((pfV a b).1) := by
       (rw [pfV_y1 (by assumption) (by assumption) (by assumption) (by assumption) (by assumption)]; done)
      have e17 : (true : Bool) = ((pfV a b).2) := by
       (rw [pfV_y1 (by assumption) (by assumption) (by assumption) (by assumption) (by assumption)]; done)
      exact fin_pure (Res.two rfl (Rs.tmp rfl) (Rs.tmp rfl)) (((congrArg (fun z_ => PV.tup [(false, [dB z_]), (false, [dB true])]) e16)).trans (congrArg (fun z_ => PV.tup [(false, [dB ((pfV a b).1)]), (false, [dB z_])]) e17)) rfl
     ·have hb15' := of_decide_eq_true hb15
      iterate 2 refine w_ ?_
      cases hb18 : (endsX a)
      ·iterate 7 refine w_ ?_
       refine AC.ret ?_
       subst hO
       have e19 : (!(endsX b) : Bool) = ((pfV a b).1) := by
        (rw [pfV_y3 (by assumption) (by assumption) (by assumption) (by assumption) (by assumption) (by assumption)]; done)
       have e20 : (true : Bool) = ((pfV a b).2) := by
        (rw [pfV_y3 (by assumption) (by assumption) (by assumption) (by assumption) (by assumption) (by assumption)]; done)
       exact fin_pure (Res.two rfl (Rs.tmp rfl) (Rs.tmp rfl)) (((congrArg (fun z_ => PV.tup [(false, [dB z_]), (false, [dB true])]) e19)).trans (congrArg (fun z_ => PV.tup [(false, [dB ((pfV a b).1)]), (false, [dB z_])]) e20)) rfl
      ·iterate 7 refine w_ ?_
       refine AC.ret ?_
       subst hO
       have e21 : (true : Bool) = ((pfV a b).1) := by
        (rw [pfV_y2 (by assumption) (by assumption) (by assumption) (by assumption) (by assumption) (by assumption)]; done)
       have e22 : (true : Bool) = ((pfV a b).2) := by
        (rw [pfV_y2 (by assumption) (by assumption) (by assumption) (by assumption) (by assumption) (by assumption)]; done)
       exact fin_pure (Res.two rfl (Rs.tmp rfl) (Rs.tmp rfl)) (((congrArg (fun z_ => PV.tup [(false, [dB z_]), (false, [dB true])]) e21)).trans (congrArg (fun z_ => PV.tup [(false, [dB ((pfV a b).1)]), (false, [dB z_])]) e22)) rfl

end Go.Proofs.YtnakmhfjafecpaaGreat

/- Walks over abstract states: codes, edges and arcs of state graphs. -/
namespace Go.Proofs.YtnakmhfjafecpaaGreat
open Go.RowKit
set_option maxRecDepth 100000
set_option maxHeartbeats 4000000

theorem Does.asB {A : Amb} {P : Program} {o : Oper} {s : St} {d : Nat} {b b' : Bool} (e : b = b') (h : Does A P o s (s.put d (lf (dB b)))) : Does A P o s (s.put d (lf (dB b'))) := e ▸ h
abbrev DSg := List (ByteArray × Int) × List ByteArray × List DAr
def LabI (n : Int) (l : DLabel) : Prop := (0 ≤ l.1 ∧ l.1 ≤ n - 1) ∨ (l.1 = -1 ∧ l.2 = false)
instance (n : Int) (l : DLabel) : Decidable (LabI n l) := inferInstanceAs (Decidable (_ ∨ _))
/-- A code: so many bits. -/
def BitsL (s : ByteArray) (n : Int) : Prop := (∀ c ∈ s.toList, c = 48 ∨ c = 49) ∧ (s.size : Int) = n
instance (s : ByteArray) (n : Int) : Decidable (BitsL s n) := inferInstanceAs (Decidable (_ ∧ _))
section
variable {n : Int} {l : DLabel} {s x y : ByteArray} {k : Nat} {c d : UInt8} {a : DAr}
/-- An arc's two codes at one place. -/
def FitAt (a : DAr) (x y : ByteArray) (j : Nat) : Prop := if (j : Int) = a.2.1 then (decide (bAt x j = 49) = !a.2.2.1 ∧ decide (bAt y j = 49) = a.2.2.1) else bAt x j = bAt y j
instance (a : DAr) (x y : ByteArray) (j : Nat) : Decidable (FitAt a x y j) := by unfold FitAt; exact inferInstance
def Fit (a : DAr) (x y : ByteArray) : Prop := ∀ j, j < x.size → FitAt a x y j
instance (a : DAr) (x y : ByteArray) : Decidable (Fit a x y) := by unfold Fit; exact inferInstance
def setB (code : ByteArray) (sig : Int) (b : ByteArray) : ByteArray := (code.extract 0 sig.toNat ++ b) ++ code.extract (sig + 1).toNat code.size
end

end Go.Proofs.YtnakmhfjafecpaaGreat

/- Walks over abstract states: arcs of state graphs. -/
namespace Go.Proofs.YtnakmhfjafecpaaGreat
open Go.RowKit
set_option maxRecDepth 100000
set_option maxHeartbeats 4000000

def codeAt (c : DSg) (i : Int) : ByteArray := (c.2.1[i.toNat]?).getD ByteArray.empty
def ArcOk (c : DSg) (a : DAr) : Prop := (0 ≤ a.1 ∧ a.1 ≤ (c.2.1.length : Int) - 1) ∧ (0 ≤ a.2.2.2 ∧ a.2.2.2 ≤ (c.2.1.length : Int) - 1) ∧ LabI (c.1.length : Int) (a.2.1, a.2.2.1) ∧ Fit a (codeAt c a.1) (codeAt c a.2.2.2)
instance (c : DSg) (a : DAr) : Decidable (ArcOk c a) := inferInstanceAs (Decidable (_ ∧ _))
section
variable {c : DSg} {a : DAr} {x y b code : ByteArray} {n sig p : Int} {j k m : Nat}
section
variable (h1 : 0 ≤ a.1 ∧ a.1 ≤ (c.2.1.length : Int) - 1) (h2 : 0 ≤ a.2.2.2 ∧ a.2.2.2 ≤ (c.2.1.length : Int) - 1) (h3 : LabI (c.1.length : Int) (a.2.1, a.2.2.1)) (hx : c.2.1[a.1.toNat]? = some x) (hy : c.2.1[a.2.2.2.toNat]? = some y)
include h1 h2 h3 hx hy
end
end

end Go.Proofs.YtnakmhfjafecpaaGreat

/- Walks over abstract states: which states are reached, as the reference says it; small words on lists. -/
namespace Go.Proofs.YtnakmhfjafecpaaGreat
open Go.RowKit
set_option maxRecDepth 100000
set_option maxHeartbeats 4000000

inductive Rch (es : List (Int × Int)) : Int → Prop
  | zero : Rch es 0
  | step {u v : Int} : Rch es u → (u, v) ∈ es → Rch es v
def stepsA (rs : List DAr) : List (Int × Int) := rs.map fun a => (a.1, a.2.2.2)
def InE (n : Nat) (e : Int × Int) : Prop := (0 ≤ e.1 ∧ e.1 < n) ∧ 0 ≤ e.2 ∧ e.2 < n
def AllR (n : Nat) (es : List (Int × Int)) : Prop := ∀ k : Nat, k < n → Rch es k
/-- One pass over the edges. -/
def stepM (e : Int × Int) (m : List Bool) : List Bool := if m[e.1.toNat]? = some true then m.set e.2.toNat true else m
def passM : List (Int × Int) → List Bool → List Bool
  | [], m => m
  | e :: es, m => passM es (stepM e m)
def iterM (es : List (Int × Int)) : Nat → List Bool → List Bool
  | 0, m => m
  | f + 1, m => iterM es f (passM es m)
section
variable {es : List (Int × Int)} {e : Int × Int} {m : List Bool} {n f i k : Nat} {rs : List DAr} {a : DAr} {b : Bool}
def cntF (m : List Bool) : Nat := (m.filter fun b => !b).length
def m0 (n : Nat) : List Bool := (List.replicate n false).set 0 true
section
variable [Decidable (AllR n es)]
end
end
theorem fc_slices_Index_int_int (s : List Int) (v : Int)  : FC Tryz.prog 224 [(false, [.dat (.sl 3 .int) s]), (false, [dI v])] [] 0 (Pure (lI (idxF (fun y => decide (v = y)) s))) := by
 refine FC.go Tryz.func224 rfl rfl Tryz.ntmps224 fun O_ hO w0_ N0_ X_ h0_ f0_ => ?_
 refine AC.fact (fact_int (x := .tmp 1) (Evl.tmp rfl)) fun hi1 => ?_
 iterate 6 refine w_ ?_
 refine AL.fact (fact_len (x := .tmp 6) (Evl.tmp rfl)) fun hl2 => ?_
 iterate 4 refine w_ ?_
 refine AC.loopW (fun m_ s_ => ∃ (k : Nat), k ≤ s.length ∧ m_ = s.length - k ∧ (NoneTo (fun y => decide (v = y)) s k) ∧ s_ = ⟨[(0, lf (.dat (.sl 3 .int) s)), (1, lI v), (7, lI (s.length : Int)), (8, lI (k : Int))], []⟩) ⟨0, Nat.zero_le _, rfl, NoneTo.zero, rfl⟩ ?_ ?_
 · exact Wk.of [] rfl ⟨rfl, rfl, rfl, rfl, trivial⟩ trivial rfl rfl
 rintro m_ s_ ⟨k, hk3, hm4, hno, rfl⟩
 iterate 4 refine w_ ?_
 cases hb5 : (decide ((k : Int) < (s.length : Int)))
 ·have hb5' := of_decide_eq_false hb5
  refine w_ ?_
  refine AC.exit ?_
  refine (?_ : AC _ _ _ _ _)
  iterate 3 refine w_ ?_
  refine AC.ret ?_
  subst hO
  have e6 : ((-1) : Int) = (idxF (fun y => decide (v = y)) s) := by
   first | exact (hno.no (by omega)).symm
  exact fin_pure (Res.one rfl (Rs.tmp rfl)) ((congrArg (fun z_ => lI z_) e6)) rfl
 ·have hb5' := of_decide_eq_true hb5
  iterate 12 refine w_ ?_
  obtain ⟨x7, hx8⟩ : ∃ z, s[k]? = some z := ⟨_, List.getElem?_eq_getElem (by omega)⟩
  refine lc (Does.indexE (Evl.tmp rfl) (Evl.tmp rfl) und_106 tsh_3 rfl (by omega) hx8) ?_
  refine w_ ?_
  refine AL.fact (fact_int (x := .tmp 15) (Evl.tmp rfl)) fun hi9 => ?_
  iterate 2 refine w_ ?_
  cases hb10 : (decide (v = x7))
  ·have hb10' := of_decide_eq_false hb10
   refine w_ ?_
   refine AC.skip ?_
   refine (?_ : AC _ _ _ _ _)
   iterate 3 refine w_ ?_
   refine AL.nil <| lend ⟨k + 1, by omega, rfl, hno.step hx8 (by assumption), rfl⟩ (by omega) ?_
   exact Wk.of [] rfl ⟨rfl, rfl, rfl, rfl, trivial⟩ trivial rfl rfl
  ·have hb10' := of_decide_eq_true hb10
   iterate 5 refine w_ ?_
   refine AC.ret ?_
   subst hO
   have e11 : ((k : Int) : Int) = (idxF (fun y => decide (v = y)) s) := by
    exact (hno.at hx8 (by assumption)).symm
   exact fin_pure (Res.one rfl (Rs.tmp rfl)) ((congrArg (fun z_ => lI z_) e11)) rfl

theorem fc_slices_Contains_int_int (s : List Int) (v : Int)  : FC Tryz.prog 158 [(false, [.dat (.sl 3 .int) s]), (false, [dI v])] [] 0 (Pure (lB (s.any (fun y => decide (v = y))))) := by
 refine FC.go Tryz.func158 rfl rfl Tryz.ntmps158 fun O_ hO w0_ N0_ X_ h0_ f0_ => ?_
 refine AC.fact (fact_int (x := .tmp 1) (Evl.tmp rfl)) fun hi1 => ?_
 iterate 6 refine w_ ?_
 refine lc (Does.call (fc_slices_Index_int_int s v) enters_224 ⟨_, _, rfl, (Ev.tmp rfl), ⟨_, _, rfl, (Ev.tmp rfl), rfl⟩⟩ rfl rfl) ?_
 iterate 3 refine w_ ?_
 refine AC.ret ?_
 subst hO
 have e2 : (decide (0 ≤ (idxF (fun y => decide (v = y)) s)) : Bool) = (s.any (fun y => decide (v = y))) := by
  exact idxF_any _ _
 exact fin_pure (Res.one rfl (Rs.tmp rfl)) ((congrArg (fun z_ => lB z_) e2)) rfl

end Go.Proofs.YtnakmhfjafecpaaGreat

/- Walks over abstract states: valid state graphs, the reference. -/
namespace Go.Proofs.YtnakmhfjafecpaaGreat
open Go.RowKit
set_option maxRecDepth 100000
set_option maxHeartbeats 4000000

structure SgOk (c : DSg) : Prop where
  sigs : SigsOk c.1
  some_ : 1 ≤ c.2.1.length ∧ c.2.1.length ≤ 300
  few : c.2.2.length ≤ 4000
  codes : ∀ x ∈ c.2.1, BitsL x (c.1.length : Int)
  arcs : ∀ a ∈ c.2.2, ArcOk c a
  all : AllR c.2.1.length (stepsA c.2.2)
theorem each_step {α : Type} {p : α → Prop} {l : List α} {k : Nat} {x : α} (h : ∀ j, j < k → ∀ x, l[j]? = some x → p x) (hx : l[k]? = some x) (hp : p x) : ∀ j, j < k + 1 → ∀ x, l[j]? = some x → p x := fun j hj y hy => by
  by_cases e : j = k
  · subst e; rw [hx] at hy; cases hy; exact hp
  · exact h j (by omega) y hy
theorem arc_inr {c : DSg} {a : DAr} (h : ArcOk c a) : InR c.2.1.length a := by
  obtain ⟨⟨h1, h2⟩, ⟨h3, h4⟩, _⟩ := h
  exact ⟨⟨h1, by omega⟩, h3, by omega⟩
section
variable {c : DSg} [Decidable (SgOk c)] {x : ByteArray} {a : DAr} {k i : Nat}
end

end Go.Proofs.YtnakmhfjafecpaaGreat
