/- Walks over abstract states: sameness of slices, the firings of a graph. -/
import Derived.Test.YtbelopdphlllnaaWr
namespace Go.Proofs.Ytbelopdphlllnaa
open Go.RowKit

section
variable {α : Type} [DecidableEq α] {a b : List α} {k : Nat} {x y : α}
theorem eql_no_len (h : ¬ (a.length : Int) = (b.length : Int)) : false = decide (a = b) := (decide_eq_false fun e => h (by rw [e])).symm
theorem eql_no_at (hx : a[k]? = some x) (hy : b[k]? = some y) (h : x ≠ y) : false = decide (a = b) := (decide_eq_false fun e => h (by rw [e, hy] at hx; exact (Option.some.inj hx).symm)).symm
theorem eql_step {α : Type} {a b : List α} {k : Nat} {x y : α} (hE : ∀ j, j < k → a[j]? = b[j]?) (hx : a[k]? = some x) (hy : b[k]? = some y) (h : x = y) : ∀ j, j < k + 1 → a[j]? = b[j]? := fun j hj => by
  by_cases e : j = k
  · rw [e, hx, hy, h]
  · exact hE j (by omega)
theorem eql_yes (hl : (a.length : Int) = (b.length : Int)) (hE : ∀ j, j < k → a[j]? = b[j]?) (hk : a.length ≤ k) : true = decide (a = b) := (decide_eq_true (List.ext_getElem? fun j => by
  by_cases h : j < k
  · exact hE j h
  · rw [List.getElem?_eq_none (by omega), List.getElem?_eq_none (by omega)])).symm
theorem beq_no {t : Ty} {x y : t.Den} (h : Ty.beq t x y = false) : x ≠ y := fun e => by rw [(Ty.beq_iff t x y).2 e] at h; cases h
end
section
variable [∀ s, Decidable (StgOk s)]
def deadX (s : DSTG) : List Int := (dtV s (exploreV s).1).1
def endsX (s : DSTG) : Bool := decide ((0 : Int) < ((dlV (exploreV s).1).1.length : Int))
def frV (s : DSTG) : List Int × Bool × Bool := if (sgV s).2 = true then (deadX s, endsX s, true) else ([], false, false)
theorem frV_no {s : DSTG} (h : (sgV s).2 = false) : frV s = ([], false, false) := if_neg (by rw [h]; decide)
theorem frV_yes {s : DSTG} (h : (sgV s).2 = true) : frV s = (deadX s, endsX s, true) := if_pos h
def pfI (a b : DSTG) : Bool × Bool := if (frV a).2.2 = true ∧ (frV b).2.2 = true ∧ a.2.1 = b.2.1 ∧ a.2.2.1 = b.2.2.1 then (decide ((frV a).1 = (frV b).1) && (!(frV b).2.1 || (frV a).2.1), true) else (false, false)
def pfV (a b : DSTG) : Bool × Bool := if (sgV a).2 = true ∧ (sgV b).2 = true ∧ a.2.1 = b.2.1 ∧ a.2.2.1 = b.2.2.1 then (decide (deadX a = deadX b) && (endsX a || !endsX b), true) else (false, false)
theorem pf_same (a b : DSTG) : pfI a b = pfV a b := by
  unfold pfI pfV
  cases ha : (sgV a).2 with
  | false => rw [frV_no ha]; simp
  | true =>
    cases hb : (sgV b).2 with
    | false => rw [frV_no hb]; simp
    | true => rw [frV_yes ha, frV_yes hb, Bool.or_comm]
section
variable {a b : DSTG}
theorem pfI_no1 (h : (frV a).2.2 = false) : pfV a b = (false, false) := by rw [← pf_same]; exact if_neg fun g => by rw [h] at g; cases g.1
theorem pfI_no2 (h : (frV b).2.2 = false) : pfV a b = (false, false) := by rw [← pf_same]; exact if_neg fun g => by rw [h] at g; cases g.2.1
theorem pfI_no3 (h : ¬ a.2.1 = b.2.1) : pfV a b = (false, false) := by rw [← pf_same]; exact if_neg fun g => h g.2.2.1
theorem pfI_no4 (h : ¬ a.2.2.1 = b.2.2.1) : pfV a b = (false, false) := by rw [← pf_same]; exact if_neg fun g => h g.2.2.2
theorem pfI_yes (h1 : (frV a).2.2 = true) (h2 : (frV b).2.2 = true) (h3 : a.2.1 = b.2.1) (h4 : a.2.2.1 = b.2.2.1) : pfV a b = (decide ((frV a).1 = (frV b).1) && (!(frV b).2.1 || (frV a).2.1), true) := by rw [← pf_same]; exact if_pos ⟨h1, h2, h3, h4⟩
theorem pfI_y1 (h1 : (frV a).2.2 = true) (h2 : (frV b).2.2 = true) (h3 : a.2.1 = b.2.1) (h4 : a.2.2.1 = b.2.2.1) (h : ¬ (frV a).1 = (frV b).1) : pfV a b = (false, true) := by rw [pfI_yes h1 h2 h3 h4, decide_eq_false h]; rfl
theorem pfI_y2 (h1 : (frV a).2.2 = true) (h2 : (frV b).2.2 = true) (h3 : a.2.1 = b.2.1) (h4 : a.2.2.1 = b.2.2.1) (h : (frV a).1 = (frV b).1) (hb : (frV b).2.1 = false) : pfV a b = (true, true) := by rw [pfI_yes h1 h2 h3 h4, decide_eq_true h, hb]; rfl
theorem pfI_y3 (h1 : (frV a).2.2 = true) (h2 : (frV b).2.2 = true) (h3 : a.2.1 = b.2.1) (h4 : a.2.2.1 = b.2.2.1) (h : (frV a).1 = (frV b).1) (hb : (frV b).2.1 = true) : pfV a b = ((frV a).2.1, true) := by rw [pfI_yes h1 h2 h3 h4, decide_eq_true h, hb]; rfl
theorem pfV_no1 (h : (sgV a).2 = false) : pfV a b = (false, false) := if_neg fun g => by rw [h] at g; cases g.1
theorem pfV_no2 (h : (sgV b).2 = false) : pfV a b = (false, false) := if_neg fun g => by rw [h] at g; cases g.2.1
theorem pfV_yes (h1 : (sgV a).2 = true) (h2 : (sgV b).2 = true) (h3 : a.2.1 = b.2.1) (h4 : a.2.2.1 = b.2.2.1) : pfV a b = (decide (deadX a = deadX b) && (endsX a || !endsX b), true) := if_pos ⟨h1, h2, h3, h4⟩
theorem pfV_y1 (h1 : (sgV a).2 = true) (h2 : (sgV b).2 = true) (h3 : a.2.1 = b.2.1) (h4 : a.2.2.1 = b.2.2.1) (h : ¬ deadX a = deadX b) : pfV a b = (false, true) := by rw [pfV_yes h1 h2 h3 h4, decide_eq_false h]; rfl
theorem pfV_y2 (h1 : (sgV a).2 = true) (h2 : (sgV b).2 = true) (h3 : a.2.1 = b.2.1) (h4 : a.2.2.1 = b.2.2.1) (h : deadX a = deadX b) (hb : endsX a = true) : pfV a b = (true, true) := by rw [pfV_yes h1 h2 h3 h4, decide_eq_true h, hb]; rfl
theorem pfV_y3 (h1 : (sgV a).2 = true) (h2 : (sgV b).2 = true) (h3 : a.2.1 = b.2.1) (h4 : a.2.2.1 = b.2.2.1) (h : deadX a = deadX b) (hb : endsX a = false) : pfV a b = (!endsX b, true) := by rw [pfV_yes h1 h2 h3 h4, decide_eq_true h, hb]; rfl
end
end

set_option maxRecDepth 100000 in
set_option maxHeartbeats 4000000 in
theorem fc_slices_Equal_impl_Signal_impl_Signal (s1 : List (ByteArray × Int)) (s2 : List (ByteArray × Int))  : FC Try.prog 91 [(false, [.dat (.sl 129 (.pr .str .int)) s1]), (false, [.dat (.sl 129 (.pr .str .int)) s2])] [] 0 (Pure (lf (dB (decide (s1 = s2))))) := by
  obtain ⟨O_, hO⟩ : ∃ x : PV → Tab → Prop, x = Pure (lf (dB (decide (s1 = s2)))) := ⟨_, rfl⟩
  refine FC.O_of hO (FC.ren (FC.of Try.func91 rfl rfl fun A_ hn_ hk_ => ?_))
  obtain ⟨w0_, N0_, X_, n_, k0_, h0_, f0_⟩ := A_
  obtain rfl : n_ = 26 := hn_.trans Try.ntmps91
  obtain rfl : k0_ = 0 := hk_
  refine AC.seq ?_
  refine AC.region ?_
  refine AL.cons rfl (Does.assignC Evl.bool rfl) ?_
  refine AL.nil ?_
  refine (?_ : AC _ _ _ _ _)
  refine AC.seq ?_
  refine AC.seq ?_
  refine AC.region ?_
  refine AL.cons rfl (Does.move rfl rfl) ?_
  refine AL.fact (fact_len (x := .tmp 6) (Evl.tmp rfl)) fun hl1 => ?_
  refine AL.cons rfl (Does.len (Evl.tmp rfl) rfl und_29) ?_
  refine AL.cons rfl (Does.move rfl rfl) ?_
  refine AL.fact (fact_len (x := .tmp 8) (Evl.tmp rfl)) fun hl2 => ?_
  refine AL.cons rfl (Does.len (Evl.tmp rfl) rfl und_29) ?_
  refine AL.cons rfl (Does.neq (Evl.tmp rfl) (Evl.tmp rfl) rfl) ?_
  refine AL.nil ?_
  refine (?_ : AC _ _ _ _ _)
  cases hb3 : (!decide ((s1.length : Int) = (s2.length : Int)))
  · have _h := hb3
    have hb3' : ((s1.length : Int) = (s2.length : Int)) := nd_false hb3
    refine AC.condF (Evl.tmp rfl) ?_
    refine AC.skip ?_
    refine (?_ : AC _ _ _ _ _)
    refine AC.seq ?_
    refine AC.seq ?_
    refine AC.region ?_
    refine AL.cons rfl (Does.move rfl rfl) ?_
    refine AL.fact (fact_len (x := .tmp 11) (Evl.tmp rfl)) fun hl4 => ?_
    refine AL.cons rfl (Does.len (Evl.tmp rfl) rfl und_29) ?_
    refine AL.cons rfl (Does.moveC (Evl.int rfl) rfl) ?_
    refine AL.nil ?_
    refine (?_ : AC _ _ _ _ _)
    refine AC.block ?_
    refine AC.wk (s' := ⟨[(0, lf (.dat (.sl 129 (.pr .str .int)) s1)), (1, lf (.dat (.sl 129 (.pr .str .int)) s2)), (12, lf (dI (s1.length : Int))), (13, lf (dI (0 : Int)))], []⟩) (Wk.of [] rfl ⟨rfl, rfl, rfl, rfl, trivial⟩ trivial rfl rfl) ?_
    refine AC.loop (fun m_ s_ => ∃ (k : Nat), k ≤ s1.length ∧ m_ = s1.length - k ∧ (∀ j, j < k → s1[j]? = s2[j]?) ∧ s_ = ⟨[(0, lf (.dat (.sl 129 (.pr .str .int)) s1)), (1, lf (.dat (.sl 129 (.pr .str .int)) s2)), (12, lf (dI (s1.length : Int))), (13, lf (dI (k : Int)))], []⟩) (m := s1.length - 0) ⟨0, Nat.zero_le _, rfl, (fun j hj => absurd hj (Nat.not_lt_zero j)), rfl⟩ ?_
    rintro m_ s_ ⟨k, hk5, hm6, hE, rfl⟩
    refine AC.seq ?_
    refine AC.region ?_
    refine AL.cons rfl (Does.lss (Evl.tmp rfl) (Evl.tmp rfl) rfl) ?_
    refine AL.nil ?_
    refine (?_ : AC _ _ _ _ _)
    refine AC.seq ?_
    cases hb7 : (decide ((k : Int) < (s1.length : Int)))
    · have _h := hb7
      have hb7' : ¬ ((k : Int) < (s1.length : Int)) := of_decide_eq_false hb7
      refine AC.condF (Evl.tmp rfl) ?_
      refine AC.exit ?_
      refine (?_ : AC _ _ _ _ _)
      refine AC.seq ?_
      refine AC.region ?_
      refine AL.cons rfl (Does.assignC Evl.bool rfl) ?_
      refine AL.nil ?_
      refine (?_ : AC _ _ _ _ _)
      refine AC.ret ?_
      subst hO
      have e8 : (true : Bool) = decide (s1 = s2) := by
        first | exact eql_no_len (by assumption) | exact eql_yes (by assumption) hE (by omega)
      exact fin_pure (Res.one rfl (Rs.tmp rfl)) ((congrArg (fun z_ => lf (dB z_)) e8)) rfl
    · have _h := hb7
      have hb7' : ((k : Int) < (s1.length : Int)) := of_decide_eq_true hb7
      refine AC.condT (Evl.tmp rfl) ?_
      refine AC.skip ?_
      refine (?_ : AC _ _ _ _ _)
      refine AC.seq ?_
      refine AC.block ?_
      refine AC.seq ?_
      refine AC.region ?_
      refine AL.cons rfl (Does.move rfl rfl) ?_
      refine AL.cons rfl (Does.assign rfl rfl) ?_
      refine AL.nil ?_
      refine (?_ : AC _ _ _ _ _)
      refine AC.seq ?_
      obtain ⟨x9, hx10⟩ : ∃ z, s1[k]? = some z := ⟨_, List.getElem?_eq_getElem (by omega)⟩
      obtain ⟨x11, hx12⟩ : ∃ z, s2[k]? = some z := ⟨_, List.getElem?_eq_getElem (by omega)⟩
      refine AC.drawL [⟨some 16, lf (.dat (.sl 129 (.pr .str .int)) s1), []⟩, ⟨some 17, lf (dI (k : Int)), []⟩, ⟨some 18, lf (.elt (.pr .str .int) x9 0), []⟩, ⟨some 19, ag [dS x9.1, dI x9.2], []⟩, ⟨some 20, lf (.dat (.sl 129 (.pr .str .int)) s2), []⟩, ⟨some 21, lf (dI (k : Int)), []⟩, ⟨some 22, lf (.elt (.pr .str .int) x11 0), []⟩, ⟨some 23, ag [dS x11.1, dI x11.2], []⟩, ⟨some 24, lf (dB (!(Ty.beq (.pr .str .int) x9 x11))), []⟩] [[], [], [0, 1], [0, 1, 2], [], [], [4, 5], [4, 5, 6], [0, 1, 2, 3, 4, 5, 6, 7]] mixed rfl (by kernel_rfl) ?_ ?_
      · refine ⟨fun s_ hs => Acts.of1 rfl (Does.move (hs.tm 0 rfl) rfl) rfl, fun s_ hs => Acts.of1 rfl (Does.move (hs.tm 5 rfl) rfl) rfl, fun s_ hs => Acts.of1 rfl (Does.indexE (Evl.tmp (hs.tm 16 rfl)) (Evl.tmp (hs.tm 17 rfl)) und_29 tsh_129 rfl (by omega) hx10) rfl, fun s_ hs => Acts.of1 rfl (Does.loadEA (Evl.tmp (hs.tm 18 rfl)) tsh_129 rfl rfl) rfl, fun s_ hs => Acts.of1 rfl (Does.move (hs.tm 1 rfl) rfl) rfl, fun s_ hs => Acts.of1 rfl (Does.move (hs.tm 5 rfl) rfl) rfl, fun s_ hs => Acts.of1 rfl (Does.indexE (Evl.tmp (hs.tm 20 rfl)) (Evl.tmp (hs.tm 21 rfl)) und_29 tsh_129 rfl (by omega) hx12) rfl, fun s_ hs => Acts.of1 rfl (Does.loadEA (Evl.tmp (hs.tm 22 rfl)) tsh_129 rfl rfl) rfl, fun s_ hs => Acts.of1 rfl (Does.neqG eqt_129 eqg_129 (Ev.tmp (hs.tm 19 rfl)) (Ev.tmp (hs.tm 23 rfl)) (p := x9) (q := x11) rfl rfl rfl) rfl, trivial⟩
      refine (?_ : AC _ _ _ _ _)
      refine AC.wk (s' := _) (Wk.refl _ _) ?_
      cases hb13 : (Ty.beq (.pr .str .int) x9 x11)
      · have _h := hb13
        refine AC.condT (Evl.tmp rfl) ?_
        refine AC.seq ?_
        refine AC.region ?_
        refine AL.cons rfl (Does.assignC Evl.bool rfl) ?_
        refine AL.nil ?_
        refine (?_ : AC _ _ _ _ _)
        refine AC.ret ?_
        subst hO
        have e14 : (false : Bool) = decide (s1 = s2) := by
          first | exact eql_no_len (by assumption) | exact eql_no_at hx10 hx12 (by first | exact beq_no (by assumption) | assumption) | exact eql_yes (by assumption) hE (by omega)
        exact fin_pure (Res.one rfl (Rs.tmp rfl)) ((congrArg (fun z_ => lf (dB z_)) e14)) rfl
      · have _h := hb13
        refine AC.condF (Evl.tmp rfl) ?_
        refine AC.skip ?_
        refine (?_ : AC _ _ _ _ _)
        refine AC.region ?_
        refine AL.cons rfl (Does.add (Evl.tmp rfl) (Evl.int rfl) rfl (by omega)) ?_
        refine AL.cons rfl (Does.move rfl rfl) ?_
        refine AL.nil ?_
        exact loop_end (s1.length - (k + 1)) ⟨[(0, lf (.dat (.sl 129 (.pr .str .int)) s1)), (1, lf (.dat (.sl 129 (.pr .str .int)) s2)), (12, lf (dI (s1.length : Int))), (13, lf (dI ((k + 1) : Int)))], []⟩ (by omega) (Wk.of [] rfl ⟨rfl, rfl, rfl, rfl, trivial⟩ trivial rfl rfl) ⟨k + 1, by omega, rfl, (eql_step hE hx10 hx12 (by first | exact (Ty.beq_iff _ _ _).1 (by assumption) | assumption)), rfl⟩
  · have _h := hb3
    have hb3' : ¬ ((s1.length : Int) = (s2.length : Int)) := nd_true hb3
    refine AC.condT (Evl.tmp rfl) ?_
    refine AC.seq ?_
    refine AC.region ?_
    refine AL.cons rfl (Does.assignC Evl.bool rfl) ?_
    refine AL.nil ?_
    refine (?_ : AC _ _ _ _ _)
    refine AC.ret ?_
    subst hO
    have e15 : (false : Bool) = decide (s1 = s2) := by
      first | exact eql_no_len (by assumption) | exact eql_yes (by assumption) hE (by omega)
    exact fin_pure (Res.one rfl (Rs.tmp rfl)) ((congrArg (fun z_ => lf (dB z_)) e15)) rfl

set_option maxRecDepth 100000 in
set_option maxHeartbeats 4000000 in
theorem fc_slices_Equal_impl_Label_impl_Label (s1 : List (Int × Bool)) (s2 : List (Int × Bool))  : FC Try.prog 92 [(false, [.dat (.sl 131 (.pr .int .bool)) s1]), (false, [.dat (.sl 131 (.pr .int .bool)) s2])] [] 0 (Pure (lf (dB (decide (s1 = s2))))) := by
  obtain ⟨O_, hO⟩ : ∃ x : PV → Tab → Prop, x = Pure (lf (dB (decide (s1 = s2)))) := ⟨_, rfl⟩
  refine FC.O_of hO (FC.ren (FC.of Try.func92 rfl rfl fun A_ hn_ hk_ => ?_))
  obtain ⟨w0_, N0_, X_, n_, k0_, h0_, f0_⟩ := A_
  obtain rfl : n_ = 26 := hn_.trans Try.ntmps92
  obtain rfl : k0_ = 0 := hk_
  refine AC.seq ?_
  refine AC.region ?_
  refine AL.cons rfl (Does.assignC Evl.bool rfl) ?_
  refine AL.nil ?_
  refine (?_ : AC _ _ _ _ _)
  refine AC.seq ?_
  refine AC.seq ?_
  refine AC.region ?_
  refine AL.cons rfl (Does.move rfl rfl) ?_
  refine AL.fact (fact_len (x := .tmp 6) (Evl.tmp rfl)) fun hl1 => ?_
  refine AL.cons rfl (Does.len (Evl.tmp rfl) rfl und_48) ?_
  refine AL.cons rfl (Does.move rfl rfl) ?_
  refine AL.fact (fact_len (x := .tmp 8) (Evl.tmp rfl)) fun hl2 => ?_
  refine AL.cons rfl (Does.len (Evl.tmp rfl) rfl und_48) ?_
  refine AL.cons rfl (Does.neq (Evl.tmp rfl) (Evl.tmp rfl) rfl) ?_
  refine AL.nil ?_
  refine (?_ : AC _ _ _ _ _)
  cases hb3 : (!decide ((s1.length : Int) = (s2.length : Int)))
  · have _h := hb3
    have hb3' : ((s1.length : Int) = (s2.length : Int)) := nd_false hb3
    refine AC.condF (Evl.tmp rfl) ?_
    refine AC.skip ?_
    refine (?_ : AC _ _ _ _ _)
    refine AC.seq ?_
    refine AC.seq ?_
    refine AC.region ?_
    refine AL.cons rfl (Does.move rfl rfl) ?_
    refine AL.fact (fact_len (x := .tmp 11) (Evl.tmp rfl)) fun hl4 => ?_
    refine AL.cons rfl (Does.len (Evl.tmp rfl) rfl und_48) ?_
    refine AL.cons rfl (Does.moveC (Evl.int rfl) rfl) ?_
    refine AL.nil ?_
    refine (?_ : AC _ _ _ _ _)
    refine AC.block ?_
    refine AC.wk (s' := ⟨[(0, lf (.dat (.sl 131 (.pr .int .bool)) s1)), (1, lf (.dat (.sl 131 (.pr .int .bool)) s2)), (12, lf (dI (s1.length : Int))), (13, lf (dI (0 : Int)))], []⟩) (Wk.of [] rfl ⟨rfl, rfl, rfl, rfl, trivial⟩ trivial rfl rfl) ?_
    refine AC.loop (fun m_ s_ => ∃ (k : Nat), k ≤ s1.length ∧ m_ = s1.length - k ∧ (∀ j, j < k → s1[j]? = s2[j]?) ∧ s_ = ⟨[(0, lf (.dat (.sl 131 (.pr .int .bool)) s1)), (1, lf (.dat (.sl 131 (.pr .int .bool)) s2)), (12, lf (dI (s1.length : Int))), (13, lf (dI (k : Int)))], []⟩) (m := s1.length - 0) ⟨0, Nat.zero_le _, rfl, (fun j hj => absurd hj (Nat.not_lt_zero j)), rfl⟩ ?_
    rintro m_ s_ ⟨k, hk5, hm6, hE, rfl⟩
    refine AC.seq ?_
    refine AC.region ?_
    refine AL.cons rfl (Does.lss (Evl.tmp rfl) (Evl.tmp rfl) rfl) ?_
    refine AL.nil ?_
    refine (?_ : AC _ _ _ _ _)
    refine AC.seq ?_
    cases hb7 : (decide ((k : Int) < (s1.length : Int)))
    · have _h := hb7
      have hb7' : ¬ ((k : Int) < (s1.length : Int)) := of_decide_eq_false hb7
      refine AC.condF (Evl.tmp rfl) ?_
      refine AC.exit ?_
      refine (?_ : AC _ _ _ _ _)
      refine AC.seq ?_
      refine AC.region ?_
      refine AL.cons rfl (Does.assignC Evl.bool rfl) ?_
      refine AL.nil ?_
      refine (?_ : AC _ _ _ _ _)
      refine AC.ret ?_
      subst hO
      have e8 : (true : Bool) = decide (s1 = s2) := by
        first | exact eql_no_len (by assumption) | exact eql_yes (by assumption) hE (by omega)
      exact fin_pure (Res.one rfl (Rs.tmp rfl)) ((congrArg (fun z_ => lf (dB z_)) e8)) rfl
    · have _h := hb7
      have hb7' : ((k : Int) < (s1.length : Int)) := of_decide_eq_true hb7
      refine AC.condT (Evl.tmp rfl) ?_
      refine AC.skip ?_
      refine (?_ : AC _ _ _ _ _)
      refine AC.seq ?_
      refine AC.block ?_
      refine AC.seq ?_
      refine AC.region ?_
      refine AL.cons rfl (Does.move rfl rfl) ?_
      refine AL.cons rfl (Does.assign rfl rfl) ?_
      refine AL.nil ?_
      refine (?_ : AC _ _ _ _ _)
      refine AC.seq ?_
      obtain ⟨x9, hx10⟩ : ∃ z, s1[k]? = some z := ⟨_, List.getElem?_eq_getElem (by omega)⟩
      obtain ⟨x11, hx12⟩ : ∃ z, s2[k]? = some z := ⟨_, List.getElem?_eq_getElem (by omega)⟩
      refine AC.drawL [⟨some 16, lf (.dat (.sl 131 (.pr .int .bool)) s1), []⟩, ⟨some 17, lf (dI (k : Int)), []⟩, ⟨some 18, lf (.elt (.pr .int .bool) x9 0), []⟩, ⟨some 19, ag [dI x9.1, dB x9.2], []⟩, ⟨some 20, lf (.dat (.sl 131 (.pr .int .bool)) s2), []⟩, ⟨some 21, lf (dI (k : Int)), []⟩, ⟨some 22, lf (.elt (.pr .int .bool) x11 0), []⟩, ⟨some 23, ag [dI x11.1, dB x11.2], []⟩, ⟨some 24, lf (dB (!(Ty.beq (.pr .int .bool) x9 x11))), []⟩] [[], [], [0, 1], [0, 1, 2], [], [], [4, 5], [4, 5, 6], [0, 1, 2, 3, 4, 5, 6, 7]] mixed rfl (by kernel_rfl) ?_ ?_
      · refine ⟨fun s_ hs => Acts.of1 rfl (Does.move (hs.tm 0 rfl) rfl) rfl, fun s_ hs => Acts.of1 rfl (Does.move (hs.tm 5 rfl) rfl) rfl, fun s_ hs => Acts.of1 rfl (Does.indexE (Evl.tmp (hs.tm 16 rfl)) (Evl.tmp (hs.tm 17 rfl)) und_48 tsh_131 rfl (by omega) hx10) rfl, fun s_ hs => Acts.of1 rfl (Does.loadEA (Evl.tmp (hs.tm 18 rfl)) tsh_131 rfl rfl) rfl, fun s_ hs => Acts.of1 rfl (Does.move (hs.tm 1 rfl) rfl) rfl, fun s_ hs => Acts.of1 rfl (Does.move (hs.tm 5 rfl) rfl) rfl, fun s_ hs => Acts.of1 rfl (Does.indexE (Evl.tmp (hs.tm 20 rfl)) (Evl.tmp (hs.tm 21 rfl)) und_48 tsh_131 rfl (by omega) hx12) rfl, fun s_ hs => Acts.of1 rfl (Does.loadEA (Evl.tmp (hs.tm 22 rfl)) tsh_131 rfl rfl) rfl, fun s_ hs => Acts.of1 rfl (Does.neqG eqt_131 eqg_131 (Ev.tmp (hs.tm 19 rfl)) (Ev.tmp (hs.tm 23 rfl)) (p := x9) (q := x11) rfl rfl rfl) rfl, trivial⟩
      refine (?_ : AC _ _ _ _ _)
      refine AC.wk (s' := _) (Wk.refl _ _) ?_
      cases hb13 : (Ty.beq (.pr .int .bool) x9 x11)
      · have _h := hb13
        refine AC.condT (Evl.tmp rfl) ?_
        refine AC.seq ?_
        refine AC.region ?_
        refine AL.cons rfl (Does.assignC Evl.bool rfl) ?_
        refine AL.nil ?_
        refine (?_ : AC _ _ _ _ _)
        refine AC.ret ?_
        subst hO
        have e14 : (false : Bool) = decide (s1 = s2) := by
          first | exact eql_no_len (by assumption) | exact eql_no_at hx10 hx12 (by first | exact beq_no (by assumption) | assumption) | exact eql_yes (by assumption) hE (by omega)
        exact fin_pure (Res.one rfl (Rs.tmp rfl)) ((congrArg (fun z_ => lf (dB z_)) e14)) rfl
      · have _h := hb13
        refine AC.condF (Evl.tmp rfl) ?_
        refine AC.skip ?_
        refine (?_ : AC _ _ _ _ _)
        refine AC.region ?_
        refine AL.cons rfl (Does.add (Evl.tmp rfl) (Evl.int rfl) rfl (by omega)) ?_
        refine AL.cons rfl (Does.move rfl rfl) ?_
        refine AL.nil ?_
        exact loop_end (s1.length - (k + 1)) ⟨[(0, lf (.dat (.sl 131 (.pr .int .bool)) s1)), (1, lf (.dat (.sl 131 (.pr .int .bool)) s2)), (12, lf (dI (s1.length : Int))), (13, lf (dI ((k + 1) : Int)))], []⟩ (by omega) (Wk.of [] rfl ⟨rfl, rfl, rfl, rfl, trivial⟩ trivial rfl rfl) ⟨k + 1, by omega, rfl, (eql_step hE hx10 hx12 (by first | exact (Ty.beq_iff _ _ _).1 (by assumption) | assumption)), rfl⟩
  · have _h := hb3
    have hb3' : ¬ ((s1.length : Int) = (s2.length : Int)) := nd_true hb3
    refine AC.condT (Evl.tmp rfl) ?_
    refine AC.seq ?_
    refine AC.region ?_
    refine AL.cons rfl (Does.assignC Evl.bool rfl) ?_
    refine AL.nil ?_
    refine (?_ : AC _ _ _ _ _)
    refine AC.ret ?_
    subst hO
    have e15 : (false : Bool) = decide (s1 = s2) := by
      first | exact eql_no_len (by assumption) | exact eql_yes (by assumption) hE (by omega)
    exact fin_pure (Res.one rfl (Rs.tmp rfl)) ((congrArg (fun z_ => lf (dB z_)) e15)) rfl

set_option maxRecDepth 100000 in
set_option maxHeartbeats 4000000 in
theorem fc_slices_Equal_int_int (s1 : List Int) (s2 : List Int)  : FC Try.prog 93 [(false, [.dat (.sl 3 .int) s1]), (false, [.dat (.sl 3 .int) s2])] [] 0 (Pure (lf (dB (decide (s1 = s2))))) := by
  obtain ⟨O_, hO⟩ : ∃ x : PV → Tab → Prop, x = Pure (lf (dB (decide (s1 = s2)))) := ⟨_, rfl⟩
  refine FC.O_of hO (FC.ren (FC.of Try.func93 rfl rfl fun A_ hn_ hk_ => ?_))
  obtain ⟨w0_, N0_, X_, n_, k0_, h0_, f0_⟩ := A_
  obtain rfl : n_ = 26 := hn_.trans Try.ntmps93
  obtain rfl : k0_ = 0 := hk_
  refine AC.seq ?_
  refine AC.region ?_
  refine AL.cons rfl (Does.assignC Evl.bool rfl) ?_
  refine AL.nil ?_
  refine (?_ : AC _ _ _ _ _)
  refine AC.seq ?_
  refine AC.seq ?_
  refine AC.region ?_
  refine AL.cons rfl (Does.move rfl rfl) ?_
  refine AL.fact (fact_len (x := .tmp 6) (Evl.tmp rfl)) fun hl1 => ?_
  refine AL.cons rfl (Does.len (Evl.tmp rfl) rfl und_72) ?_
  refine AL.cons rfl (Does.move rfl rfl) ?_
  refine AL.fact (fact_len (x := .tmp 8) (Evl.tmp rfl)) fun hl2 => ?_
  refine AL.cons rfl (Does.len (Evl.tmp rfl) rfl und_72) ?_
  refine AL.cons rfl (Does.neq (Evl.tmp rfl) (Evl.tmp rfl) rfl) ?_
  refine AL.nil ?_
  refine (?_ : AC _ _ _ _ _)
  cases hb3 : (!decide ((s1.length : Int) = (s2.length : Int)))
  · have _h := hb3
    have hb3' : ((s1.length : Int) = (s2.length : Int)) := nd_false hb3
    refine AC.condF (Evl.tmp rfl) ?_
    refine AC.skip ?_
    refine (?_ : AC _ _ _ _ _)
    refine AC.seq ?_
    refine AC.seq ?_
    refine AC.region ?_
    refine AL.cons rfl (Does.move rfl rfl) ?_
    refine AL.fact (fact_len (x := .tmp 11) (Evl.tmp rfl)) fun hl4 => ?_
    refine AL.cons rfl (Does.len (Evl.tmp rfl) rfl und_72) ?_
    refine AL.cons rfl (Does.moveC (Evl.int rfl) rfl) ?_
    refine AL.nil ?_
    refine (?_ : AC _ _ _ _ _)
    refine AC.block ?_
    refine AC.wk (s' := ⟨[(0, lf (.dat (.sl 3 .int) s1)), (1, lf (.dat (.sl 3 .int) s2)), (12, lf (dI (s1.length : Int))), (13, lf (dI (0 : Int)))], []⟩) (Wk.of [] rfl ⟨rfl, rfl, rfl, rfl, trivial⟩ trivial rfl rfl) ?_
    refine AC.loop (fun m_ s_ => ∃ (k : Nat), k ≤ s1.length ∧ m_ = s1.length - k ∧ (∀ j, j < k → s1[j]? = s2[j]?) ∧ s_ = ⟨[(0, lf (.dat (.sl 3 .int) s1)), (1, lf (.dat (.sl 3 .int) s2)), (12, lf (dI (s1.length : Int))), (13, lf (dI (k : Int)))], []⟩) (m := s1.length - 0) ⟨0, Nat.zero_le _, rfl, (fun j hj => absurd hj (Nat.not_lt_zero j)), rfl⟩ ?_
    rintro m_ s_ ⟨k, hk5, hm6, hE, rfl⟩
    refine AC.seq ?_
    refine AC.region ?_
    refine AL.cons rfl (Does.lss (Evl.tmp rfl) (Evl.tmp rfl) rfl) ?_
    refine AL.nil ?_
    refine (?_ : AC _ _ _ _ _)
    refine AC.seq ?_
    cases hb7 : (decide ((k : Int) < (s1.length : Int)))
    · have _h := hb7
      have hb7' : ¬ ((k : Int) < (s1.length : Int)) := of_decide_eq_false hb7
      refine AC.condF (Evl.tmp rfl) ?_
      refine AC.exit ?_
      refine (?_ : AC _ _ _ _ _)
      refine AC.seq ?_
      refine AC.region ?_
      refine AL.cons rfl (Does.assignC Evl.bool rfl) ?_
      refine AL.nil ?_
      refine (?_ : AC _ _ _ _ _)
      refine AC.ret ?_
      subst hO
      have e8 : (true : Bool) = decide (s1 = s2) := by
        first | exact eql_no_len (by assumption) | exact eql_yes (by assumption) hE (by omega)
      exact fin_pure (Res.one rfl (Rs.tmp rfl)) ((congrArg (fun z_ => lf (dB z_)) e8)) rfl
    · have _h := hb7
      have hb7' : ((k : Int) < (s1.length : Int)) := of_decide_eq_true hb7
      refine AC.condT (Evl.tmp rfl) ?_
      refine AC.skip ?_
      refine (?_ : AC _ _ _ _ _)
      refine AC.seq ?_
      refine AC.block ?_
      refine AC.seq ?_
      refine AC.region ?_
      refine AL.cons rfl (Does.move rfl rfl) ?_
      refine AL.cons rfl (Does.assign rfl rfl) ?_
      refine AL.nil ?_
      refine (?_ : AC _ _ _ _ _)
      refine AC.seq ?_
      obtain ⟨x9, hx10⟩ : ∃ z, s1[k]? = some z := ⟨_, List.getElem?_eq_getElem (by omega)⟩
      obtain ⟨x11, hx12⟩ : ∃ z, s2[k]? = some z := ⟨_, List.getElem?_eq_getElem (by omega)⟩
      refine AC.drawL [⟨some 16, lf (.dat (.sl 3 .int) s1), []⟩, ⟨some 17, lf (dI (k : Int)), []⟩, ⟨some 18, lf (.elt .int x9 0), []⟩, ⟨some 19, lf (dI x9), []⟩, ⟨some 20, lf (.dat (.sl 3 .int) s2), []⟩, ⟨some 21, lf (dI (k : Int)), []⟩, ⟨some 22, lf (.elt .int x11 0), []⟩, ⟨some 23, lf (dI x11), []⟩, ⟨some 24, lf (dB (!decide (x9 = x11))), []⟩] [[], [], [0, 1], [0, 1, 2], [], [], [4, 5], [4, 5, 6], [0, 1, 2, 3, 4, 5, 6, 7]] mixed rfl (by kernel_rfl) ?_ ?_
      · refine ⟨fun s_ hs => Acts.of1 rfl (Does.move (hs.tm 0 rfl) rfl) rfl, fun s_ hs => Acts.of1 rfl (Does.move (hs.tm 5 rfl) rfl) rfl, fun s_ hs => Acts.of1 rfl (Does.indexE (Evl.tmp (hs.tm 16 rfl)) (Evl.tmp (hs.tm 17 rfl)) und_72 tsh_3 rfl (by omega) hx10) rfl, fun s_ hs => Acts.of1 rfl (Does.loadE (Evl.tmp (hs.tm 18 rfl)) tsh_3 rfl rfl) rfl, fun s_ hs => Acts.of1 rfl (Does.move (hs.tm 1 rfl) rfl) rfl, fun s_ hs => Acts.of1 rfl (Does.move (hs.tm 5 rfl) rfl) rfl, fun s_ hs => Acts.of1 rfl (Does.indexE (Evl.tmp (hs.tm 20 rfl)) (Evl.tmp (hs.tm 21 rfl)) und_72 tsh_3 rfl (by omega) hx12) rfl, fun s_ hs => Acts.of1 rfl (Does.loadE (Evl.tmp (hs.tm 22 rfl)) tsh_3 rfl rfl) rfl, fun s_ hs => Acts.of1 rfl (Does.neq (Evl.tmp (hs.tm 19 rfl)) (Evl.tmp (hs.tm 23 rfl)) rfl) rfl, trivial⟩
      refine (?_ : AC _ _ _ _ _)
      refine AC.wk (s' := _) (Wk.refl _ _) ?_
      cases hb13 : (!decide (x9 = x11))
      · have _h := hb13
        have hb13' : (x9 = x11) := nd_false hb13
        refine AC.condF (Evl.tmp rfl) ?_
        refine AC.skip ?_
        refine (?_ : AC _ _ _ _ _)
        refine AC.region ?_
        refine AL.cons rfl (Does.add (Evl.tmp rfl) (Evl.int rfl) rfl (by omega)) ?_
        refine AL.cons rfl (Does.move rfl rfl) ?_
        refine AL.nil ?_
        exact loop_end (s1.length - (k + 1)) ⟨[(0, lf (.dat (.sl 3 .int) s1)), (1, lf (.dat (.sl 3 .int) s2)), (12, lf (dI (s1.length : Int))), (13, lf (dI ((k + 1) : Int)))], []⟩ (by omega) (Wk.of [] rfl ⟨rfl, rfl, rfl, rfl, trivial⟩ trivial rfl rfl) ⟨k + 1, by omega, rfl, (eql_step hE hx10 hx12 (by first | exact (Ty.beq_iff _ _ _).1 (by assumption) | assumption)), rfl⟩
      · have _h := hb13
        have hb13' : ¬ (x9 = x11) := nd_true hb13
        refine AC.condT (Evl.tmp rfl) ?_
        refine AC.seq ?_
        refine AC.region ?_
        refine AL.cons rfl (Does.assignC Evl.bool rfl) ?_
        refine AL.nil ?_
        refine (?_ : AC _ _ _ _ _)
        refine AC.ret ?_
        subst hO
        have e14 : (false : Bool) = decide (s1 = s2) := by
          first | exact eql_no_len (by assumption) | exact eql_no_at hx10 hx12 (by first | exact beq_no (by assumption) | assumption) | exact eql_yes (by assumption) hE (by omega)
        exact fin_pure (Res.one rfl (Rs.tmp rfl)) ((congrArg (fun z_ => lf (dB z_)) e14)) rfl
  · have _h := hb3
    have hb3' : ¬ ((s1.length : Int) = (s2.length : Int)) := nd_true hb3
    refine AC.condT (Evl.tmp rfl) ?_
    refine AC.seq ?_
    refine AC.region ?_
    refine AL.cons rfl (Does.assignC Evl.bool rfl) ?_
    refine AL.nil ?_
    refine (?_ : AC _ _ _ _ _)
    refine AC.ret ?_
    subst hO
    have e15 : (false : Bool) = decide (s1 = s2) := by
      first | exact eql_no_len (by assumption) | exact eql_yes (by assumption) hE (by omega)
    exact fin_pure (Res.one rfl (Rs.tmp rfl)) ((congrArg (fun z_ => lf (dB z_)) e15)) rfl

set_option maxRecDepth 100000 in
set_option maxHeartbeats 4000000 in
theorem fc_spec_l2SameSignals (a : List (ByteArray × Int)) (b : List (ByteArray × Int))  : FC Try.prog 86 [(false, [.dat (.sl 129 (.pr .str .int)) a]), (false, [.dat (.sl 129 (.pr .str .int)) b])] [] 0 (Pure (lf (dB (decide (a = b))))) := by
  obtain ⟨O_, hO⟩ : ∃ x : PV → Tab → Prop, x = Pure (lf (dB (decide (a = b)))) := ⟨_, rfl⟩
  refine FC.O_of hO (FC.ren (FC.of Try.func86 rfl rfl fun A_ hn_ hk_ => ?_))
  obtain ⟨w0_, N0_, X_, n_, k0_, h0_, f0_⟩ := A_
  obtain rfl : n_ = 26 := hn_.trans Try.ntmps86
  obtain rfl : k0_ = 0 := hk_
  refine AC.seq ?_
  refine AC.region ?_
  refine AL.cons rfl (Does.assignC Evl.bool rfl) ?_
  refine AL.nil ?_
  refine (?_ : AC _ _ _ _ _)
  refine AC.seq ?_
  refine AC.seq ?_
  refine AC.region ?_
  refine AL.cons rfl (Does.move rfl rfl) ?_
  refine AL.fact (fact_len (x := .tmp 6) (Evl.tmp rfl)) fun hl1 => ?_
  refine AL.cons rfl (Does.len (Evl.tmp rfl) rfl und_29) ?_
  refine AL.cons rfl (Does.move rfl rfl) ?_
  refine AL.fact (fact_len (x := .tmp 8) (Evl.tmp rfl)) fun hl2 => ?_
  refine AL.cons rfl (Does.len (Evl.tmp rfl) rfl und_29) ?_
  refine AL.cons rfl (Does.neq (Evl.tmp rfl) (Evl.tmp rfl) rfl) ?_
  refine AL.nil ?_
  refine (?_ : AC _ _ _ _ _)
  cases hb3 : (!decide ((a.length : Int) = (b.length : Int)))
  · have _h := hb3
    have hb3' : ((a.length : Int) = (b.length : Int)) := nd_false hb3
    refine AC.condF (Evl.tmp rfl) ?_
    refine AC.skip ?_
    refine (?_ : AC _ _ _ _ _)
    refine AC.seq ?_
    refine AC.seq ?_
    refine AC.region ?_
    refine AL.cons rfl (Does.move rfl rfl) ?_
    refine AL.fact (fact_len (x := .tmp 11) (Evl.tmp rfl)) fun hl4 => ?_
    refine AL.cons rfl (Does.len (Evl.tmp rfl) rfl und_29) ?_
    refine AL.cons rfl (Does.moveC (Evl.int rfl) rfl) ?_
    refine AL.nil ?_
    refine (?_ : AC _ _ _ _ _)
    refine AC.block ?_
    refine AC.wk (s' := ⟨[(0, lf (.dat (.sl 129 (.pr .str .int)) a)), (1, lf (.dat (.sl 129 (.pr .str .int)) b)), (12, lf (dI (a.length : Int))), (13, lf (dI (0 : Int)))], []⟩) (Wk.of [] rfl ⟨rfl, rfl, rfl, rfl, trivial⟩ trivial rfl rfl) ?_
    refine AC.loop (fun m_ s_ => ∃ (k : Nat), k ≤ a.length ∧ m_ = a.length - k ∧ (∀ j, j < k → a[j]? = b[j]?) ∧ s_ = ⟨[(0, lf (.dat (.sl 129 (.pr .str .int)) a)), (1, lf (.dat (.sl 129 (.pr .str .int)) b)), (12, lf (dI (a.length : Int))), (13, lf (dI (k : Int)))], []⟩) (m := a.length - 0) ⟨0, Nat.zero_le _, rfl, (fun j hj => absurd hj (Nat.not_lt_zero j)), rfl⟩ ?_
    rintro m_ s_ ⟨k, hk5, hm6, hE, rfl⟩
    refine AC.seq ?_
    refine AC.region ?_
    refine AL.cons rfl (Does.lss (Evl.tmp rfl) (Evl.tmp rfl) rfl) ?_
    refine AL.nil ?_
    refine (?_ : AC _ _ _ _ _)
    refine AC.seq ?_
    cases hb7 : (decide ((k : Int) < (a.length : Int)))
    · have _h := hb7
      have hb7' : ¬ ((k : Int) < (a.length : Int)) := of_decide_eq_false hb7
      refine AC.condF (Evl.tmp rfl) ?_
      refine AC.exit ?_
      refine (?_ : AC _ _ _ _ _)
      refine AC.seq ?_
      refine AC.region ?_
      refine AL.cons rfl (Does.assignC Evl.bool rfl) ?_
      refine AL.nil ?_
      refine (?_ : AC _ _ _ _ _)
      refine AC.ret ?_
      subst hO
      have e8 : (true : Bool) = decide (a = b) := by
        first | exact eql_no_len (by assumption) | exact eql_yes (by assumption) hE (by omega)
      exact fin_pure (Res.one rfl (Rs.tmp rfl)) ((congrArg (fun z_ => lf (dB z_)) e8)) rfl
    · have _h := hb7
      have hb7' : ((k : Int) < (a.length : Int)) := of_decide_eq_true hb7
      refine AC.condT (Evl.tmp rfl) ?_
      refine AC.skip ?_
      refine (?_ : AC _ _ _ _ _)
      refine AC.seq ?_
      refine AC.block ?_
      refine AC.seq ?_
      refine AC.region ?_
      refine AL.cons rfl (Does.move rfl rfl) ?_
      refine AL.cons rfl (Does.assign rfl rfl) ?_
      refine AL.nil ?_
      refine (?_ : AC _ _ _ _ _)
      refine AC.seq ?_
      obtain ⟨x9, hx10⟩ : ∃ z, a[k]? = some z := ⟨_, List.getElem?_eq_getElem (by omega)⟩
      obtain ⟨x11, hx12⟩ : ∃ z, b[k]? = some z := ⟨_, List.getElem?_eq_getElem (by omega)⟩
      refine AC.drawL [⟨some 16, lf (.dat (.sl 129 (.pr .str .int)) a), []⟩, ⟨some 17, lf (dI (k : Int)), []⟩, ⟨some 18, lf (.elt (.pr .str .int) x9 0), []⟩, ⟨some 19, ag [dS x9.1, dI x9.2], []⟩, ⟨some 20, lf (.dat (.sl 129 (.pr .str .int)) b), []⟩, ⟨some 21, lf (dI (k : Int)), []⟩, ⟨some 22, lf (.elt (.pr .str .int) x11 0), []⟩, ⟨some 23, ag [dS x11.1, dI x11.2], []⟩, ⟨some 24, lf (dB (!(Ty.beq (.pr .str .int) x9 x11))), []⟩] [[], [], [0, 1], [0, 1, 2], [], [], [4, 5], [4, 5, 6], [0, 1, 2, 3, 4, 5, 6, 7]] mixed rfl (by kernel_rfl) ?_ ?_
      · refine ⟨fun s_ hs => Acts.of1 rfl (Does.move (hs.tm 0 rfl) rfl) rfl, fun s_ hs => Acts.of1 rfl (Does.move (hs.tm 5 rfl) rfl) rfl, fun s_ hs => Acts.of1 rfl (Does.indexE (Evl.tmp (hs.tm 16 rfl)) (Evl.tmp (hs.tm 17 rfl)) und_29 tsh_129 rfl (by omega) hx10) rfl, fun s_ hs => Acts.of1 rfl (Does.loadEA (Evl.tmp (hs.tm 18 rfl)) tsh_129 rfl rfl) rfl, fun s_ hs => Acts.of1 rfl (Does.move (hs.tm 1 rfl) rfl) rfl, fun s_ hs => Acts.of1 rfl (Does.move (hs.tm 5 rfl) rfl) rfl, fun s_ hs => Acts.of1 rfl (Does.indexE (Evl.tmp (hs.tm 20 rfl)) (Evl.tmp (hs.tm 21 rfl)) und_29 tsh_129 rfl (by omega) hx12) rfl, fun s_ hs => Acts.of1 rfl (Does.loadEA (Evl.tmp (hs.tm 22 rfl)) tsh_129 rfl rfl) rfl, fun s_ hs => Acts.of1 rfl (Does.neqG eqt_129 eqg_129 (Ev.tmp (hs.tm 19 rfl)) (Ev.tmp (hs.tm 23 rfl)) (p := x9) (q := x11) rfl rfl rfl) rfl, trivial⟩
      refine (?_ : AC _ _ _ _ _)
      refine AC.wk (s' := _) (Wk.refl _ _) ?_
      cases hb13 : (Ty.beq (.pr .str .int) x9 x11)
      · have _h := hb13
        refine AC.condT (Evl.tmp rfl) ?_
        refine AC.seq ?_
        refine AC.region ?_
        refine AL.cons rfl (Does.assignC Evl.bool rfl) ?_
        refine AL.nil ?_
        refine (?_ : AC _ _ _ _ _)
        refine AC.ret ?_
        subst hO
        have e14 : (false : Bool) = decide (a = b) := by
          first | exact eql_no_len (by assumption) | exact eql_no_at hx10 hx12 (by first | exact beq_no (by assumption) | assumption) | exact eql_yes (by assumption) hE (by omega)
        exact fin_pure (Res.one rfl (Rs.tmp rfl)) ((congrArg (fun z_ => lf (dB z_)) e14)) rfl
      · have _h := hb13
        refine AC.condF (Evl.tmp rfl) ?_
        refine AC.skip ?_
        refine (?_ : AC _ _ _ _ _)
        refine AC.region ?_
        refine AL.cons rfl (Does.add (Evl.tmp rfl) (Evl.int rfl) rfl (by omega)) ?_
        refine AL.cons rfl (Does.move rfl rfl) ?_
        refine AL.nil ?_
        exact loop_end (a.length - (k + 1)) ⟨[(0, lf (.dat (.sl 129 (.pr .str .int)) a)), (1, lf (.dat (.sl 129 (.pr .str .int)) b)), (12, lf (dI (a.length : Int))), (13, lf (dI ((k + 1) : Int)))], []⟩ (by omega) (Wk.of [] rfl ⟨rfl, rfl, rfl, rfl, trivial⟩ trivial rfl rfl) ⟨k + 1, by omega, rfl, (eql_step hE hx10 hx12 (by first | exact (Ty.beq_iff _ _ _).1 (by assumption) | assumption)), rfl⟩
  · have _h := hb3
    have hb3' : ¬ ((a.length : Int) = (b.length : Int)) := nd_true hb3
    refine AC.condT (Evl.tmp rfl) ?_
    refine AC.seq ?_
    refine AC.region ?_
    refine AL.cons rfl (Does.assignC Evl.bool rfl) ?_
    refine AL.nil ?_
    refine (?_ : AC _ _ _ _ _)
    refine AC.ret ?_
    subst hO
    have e15 : (false : Bool) = decide (a = b) := by
      first | exact eql_no_len (by assumption) | exact eql_yes (by assumption) hE (by omega)
    exact fin_pure (Res.one rfl (Rs.tmp rfl)) ((congrArg (fun z_ => lf (dB z_)) e15)) rfl

set_option maxRecDepth 100000 in
set_option maxHeartbeats 4000000 in
theorem fc_spec_l26SameLabels (a : List (Int × Bool)) (b : List (Int × Bool))  : FC Try.prog 87 [(false, [.dat (.sl 131 (.pr .int .bool)) a]), (false, [.dat (.sl 131 (.pr .int .bool)) b])] [] 0 (Pure (lf (dB (decide (a = b))))) := by
  obtain ⟨O_, hO⟩ : ∃ x : PV → Tab → Prop, x = Pure (lf (dB (decide (a = b)))) := ⟨_, rfl⟩
  refine FC.O_of hO (FC.ren (FC.of Try.func87 rfl rfl fun A_ hn_ hk_ => ?_))
  obtain ⟨w0_, N0_, X_, n_, k0_, h0_, f0_⟩ := A_
  obtain rfl : n_ = 26 := hn_.trans Try.ntmps87
  obtain rfl : k0_ = 0 := hk_
  refine AC.seq ?_
  refine AC.region ?_
  refine AL.cons rfl (Does.assignC Evl.bool rfl) ?_
  refine AL.nil ?_
  refine (?_ : AC _ _ _ _ _)
  refine AC.seq ?_
  refine AC.seq ?_
  refine AC.region ?_
  refine AL.cons rfl (Does.move rfl rfl) ?_
  refine AL.fact (fact_len (x := .tmp 6) (Evl.tmp rfl)) fun hl1 => ?_
  refine AL.cons rfl (Does.len (Evl.tmp rfl) rfl und_48) ?_
  refine AL.cons rfl (Does.move rfl rfl) ?_
  refine AL.fact (fact_len (x := .tmp 8) (Evl.tmp rfl)) fun hl2 => ?_
  refine AL.cons rfl (Does.len (Evl.tmp rfl) rfl und_48) ?_
  refine AL.cons rfl (Does.neq (Evl.tmp rfl) (Evl.tmp rfl) rfl) ?_
  refine AL.nil ?_
  refine (?_ : AC _ _ _ _ _)
  cases hb3 : (!decide ((a.length : Int) = (b.length : Int)))
  · have _h := hb3
    have hb3' : ((a.length : Int) = (b.length : Int)) := nd_false hb3
    refine AC.condF (Evl.tmp rfl) ?_
    refine AC.skip ?_
    refine (?_ : AC _ _ _ _ _)
    refine AC.seq ?_
    refine AC.seq ?_
    refine AC.region ?_
    refine AL.cons rfl (Does.move rfl rfl) ?_
    refine AL.fact (fact_len (x := .tmp 11) (Evl.tmp rfl)) fun hl4 => ?_
    refine AL.cons rfl (Does.len (Evl.tmp rfl) rfl und_48) ?_
    refine AL.cons rfl (Does.moveC (Evl.int rfl) rfl) ?_
    refine AL.nil ?_
    refine (?_ : AC _ _ _ _ _)
    refine AC.block ?_
    refine AC.wk (s' := ⟨[(0, lf (.dat (.sl 131 (.pr .int .bool)) a)), (1, lf (.dat (.sl 131 (.pr .int .bool)) b)), (12, lf (dI (a.length : Int))), (13, lf (dI (0 : Int)))], []⟩) (Wk.of [] rfl ⟨rfl, rfl, rfl, rfl, trivial⟩ trivial rfl rfl) ?_
    refine AC.loop (fun m_ s_ => ∃ (k : Nat), k ≤ a.length ∧ m_ = a.length - k ∧ (∀ j, j < k → a[j]? = b[j]?) ∧ s_ = ⟨[(0, lf (.dat (.sl 131 (.pr .int .bool)) a)), (1, lf (.dat (.sl 131 (.pr .int .bool)) b)), (12, lf (dI (a.length : Int))), (13, lf (dI (k : Int)))], []⟩) (m := a.length - 0) ⟨0, Nat.zero_le _, rfl, (fun j hj => absurd hj (Nat.not_lt_zero j)), rfl⟩ ?_
    rintro m_ s_ ⟨k, hk5, hm6, hE, rfl⟩
    refine AC.seq ?_
    refine AC.region ?_
    refine AL.cons rfl (Does.lss (Evl.tmp rfl) (Evl.tmp rfl) rfl) ?_
    refine AL.nil ?_
    refine (?_ : AC _ _ _ _ _)
    refine AC.seq ?_
    cases hb7 : (decide ((k : Int) < (a.length : Int)))
    · have _h := hb7
      have hb7' : ¬ ((k : Int) < (a.length : Int)) := of_decide_eq_false hb7
      refine AC.condF (Evl.tmp rfl) ?_
      refine AC.exit ?_
      refine (?_ : AC _ _ _ _ _)
      refine AC.seq ?_
      refine AC.region ?_
      refine AL.cons rfl (Does.assignC Evl.bool rfl) ?_
      refine AL.nil ?_
      refine (?_ : AC _ _ _ _ _)
      refine AC.ret ?_
      subst hO
      have e8 : (true : Bool) = decide (a = b) := by
        first | exact eql_no_len (by assumption) | exact eql_yes (by assumption) hE (by omega)
      exact fin_pure (Res.one rfl (Rs.tmp rfl)) ((congrArg (fun z_ => lf (dB z_)) e8)) rfl
    · have _h := hb7
      have hb7' : ((k : Int) < (a.length : Int)) := of_decide_eq_true hb7
      refine AC.condT (Evl.tmp rfl) ?_
      refine AC.skip ?_
      refine (?_ : AC _ _ _ _ _)
      refine AC.seq ?_
      refine AC.block ?_
      refine AC.seq ?_
      refine AC.region ?_
      refine AL.cons rfl (Does.move rfl rfl) ?_
      refine AL.cons rfl (Does.assign rfl rfl) ?_
      refine AL.nil ?_
      refine (?_ : AC _ _ _ _ _)
      refine AC.seq ?_
      obtain ⟨x9, hx10⟩ : ∃ z, a[k]? = some z := ⟨_, List.getElem?_eq_getElem (by omega)⟩
      obtain ⟨x11, hx12⟩ : ∃ z, b[k]? = some z := ⟨_, List.getElem?_eq_getElem (by omega)⟩
      refine AC.drawL [⟨some 16, lf (.dat (.sl 131 (.pr .int .bool)) a), []⟩, ⟨some 17, lf (dI (k : Int)), []⟩, ⟨some 18, lf (.elt (.pr .int .bool) x9 0), []⟩, ⟨some 19, ag [dI x9.1, dB x9.2], []⟩, ⟨some 20, lf (.dat (.sl 131 (.pr .int .bool)) b), []⟩, ⟨some 21, lf (dI (k : Int)), []⟩, ⟨some 22, lf (.elt (.pr .int .bool) x11 0), []⟩, ⟨some 23, ag [dI x11.1, dB x11.2], []⟩, ⟨some 24, lf (dB (!(Ty.beq (.pr .int .bool) x9 x11))), []⟩] [[], [], [0, 1], [0, 1, 2], [], [], [4, 5], [4, 5, 6], [0, 1, 2, 3, 4, 5, 6, 7]] mixed rfl (by kernel_rfl) ?_ ?_
      · refine ⟨fun s_ hs => Acts.of1 rfl (Does.move (hs.tm 0 rfl) rfl) rfl, fun s_ hs => Acts.of1 rfl (Does.move (hs.tm 5 rfl) rfl) rfl, fun s_ hs => Acts.of1 rfl (Does.indexE (Evl.tmp (hs.tm 16 rfl)) (Evl.tmp (hs.tm 17 rfl)) und_48 tsh_131 rfl (by omega) hx10) rfl, fun s_ hs => Acts.of1 rfl (Does.loadEA (Evl.tmp (hs.tm 18 rfl)) tsh_131 rfl rfl) rfl, fun s_ hs => Acts.of1 rfl (Does.move (hs.tm 1 rfl) rfl) rfl, fun s_ hs => Acts.of1 rfl (Does.move (hs.tm 5 rfl) rfl) rfl, fun s_ hs => Acts.of1 rfl (Does.indexE (Evl.tmp (hs.tm 20 rfl)) (Evl.tmp (hs.tm 21 rfl)) und_48 tsh_131 rfl (by omega) hx12) rfl, fun s_ hs => Acts.of1 rfl (Does.loadEA (Evl.tmp (hs.tm 22 rfl)) tsh_131 rfl rfl) rfl, fun s_ hs => Acts.of1 rfl (Does.neqG eqt_131 eqg_131 (Ev.tmp (hs.tm 19 rfl)) (Ev.tmp (hs.tm 23 rfl)) (p := x9) (q := x11) rfl rfl rfl) rfl, trivial⟩
      refine (?_ : AC _ _ _ _ _)
      refine AC.wk (s' := _) (Wk.refl _ _) ?_
      cases hb13 : (Ty.beq (.pr .int .bool) x9 x11)
      · have _h := hb13
        refine AC.condT (Evl.tmp rfl) ?_
        refine AC.seq ?_
        refine AC.region ?_
        refine AL.cons rfl (Does.assignC Evl.bool rfl) ?_
        refine AL.nil ?_
        refine (?_ : AC _ _ _ _ _)
        refine AC.ret ?_
        subst hO
        have e14 : (false : Bool) = decide (a = b) := by
          first | exact eql_no_len (by assumption) | exact eql_no_at hx10 hx12 (by first | exact beq_no (by assumption) | assumption) | exact eql_yes (by assumption) hE (by omega)
        exact fin_pure (Res.one rfl (Rs.tmp rfl)) ((congrArg (fun z_ => lf (dB z_)) e14)) rfl
      · have _h := hb13
        refine AC.condF (Evl.tmp rfl) ?_
        refine AC.skip ?_
        refine (?_ : AC _ _ _ _ _)
        refine AC.region ?_
        refine AL.cons rfl (Does.add (Evl.tmp rfl) (Evl.int rfl) rfl (by omega)) ?_
        refine AL.cons rfl (Does.move rfl rfl) ?_
        refine AL.nil ?_
        exact loop_end (a.length - (k + 1)) ⟨[(0, lf (.dat (.sl 131 (.pr .int .bool)) a)), (1, lf (.dat (.sl 131 (.pr .int .bool)) b)), (12, lf (dI (a.length : Int))), (13, lf (dI ((k + 1) : Int)))], []⟩ (by omega) (Wk.of [] rfl ⟨rfl, rfl, rfl, rfl, trivial⟩ trivial rfl rfl) ⟨k + 1, by omega, rfl, (eql_step hE hx10 hx12 (by first | exact (Ty.beq_iff _ _ _).1 (by assumption) | assumption)), rfl⟩
  · have _h := hb3
    have hb3' : ¬ ((a.length : Int) = (b.length : Int)) := nd_true hb3
    refine AC.condT (Evl.tmp rfl) ?_
    refine AC.seq ?_
    refine AC.region ?_
    refine AL.cons rfl (Does.assignC Evl.bool rfl) ?_
    refine AL.nil ?_
    refine (?_ : AC _ _ _ _ _)
    refine AC.ret ?_
    subst hO
    have e15 : (false : Bool) = decide (a = b) := by
      first | exact eql_no_len (by assumption) | exact eql_yes (by assumption) hE (by omega)
    exact fin_pure (Res.one rfl (Rs.tmp rfl)) ((congrArg (fun z_ => lf (dB z_)) e15)) rfl

set_option maxRecDepth 100000 in
set_option maxHeartbeats 4000000 in
theorem fc_spec_l1Same (a : List Int) (b : List Int)  : FC Try.prog 89 [(false, [.dat (.sl 3 .int) a]), (false, [.dat (.sl 3 .int) b])] [] 0 (Pure (lf (dB (decide (a = b))))) := by
  obtain ⟨O_, hO⟩ : ∃ x : PV → Tab → Prop, x = Pure (lf (dB (decide (a = b)))) := ⟨_, rfl⟩
  refine FC.O_of hO (FC.ren (FC.of Try.func89 rfl rfl fun A_ hn_ hk_ => ?_))
  obtain ⟨w0_, N0_, X_, n_, k0_, h0_, f0_⟩ := A_
  obtain rfl : n_ = 26 := hn_.trans Try.ntmps89
  obtain rfl : k0_ = 0 := hk_
  refine AC.seq ?_
  refine AC.region ?_
  refine AL.cons rfl (Does.assignC Evl.bool rfl) ?_
  refine AL.nil ?_
  refine (?_ : AC _ _ _ _ _)
  refine AC.seq ?_
  refine AC.seq ?_
  refine AC.region ?_
  refine AL.cons rfl (Does.move rfl rfl) ?_
  refine AL.fact (fact_len (x := .tmp 6) (Evl.tmp rfl)) fun hl1 => ?_
  refine AL.cons rfl (Does.len (Evl.tmp rfl) rfl und_72) ?_
  refine AL.cons rfl (Does.move rfl rfl) ?_
  refine AL.fact (fact_len (x := .tmp 8) (Evl.tmp rfl)) fun hl2 => ?_
  refine AL.cons rfl (Does.len (Evl.tmp rfl) rfl und_72) ?_
  refine AL.cons rfl (Does.neq (Evl.tmp rfl) (Evl.tmp rfl) rfl) ?_
  refine AL.nil ?_
  refine (?_ : AC _ _ _ _ _)
  cases hb3 : (!decide ((a.length : Int) = (b.length : Int)))
  · have _h := hb3
    have hb3' : ((a.length : Int) = (b.length : Int)) := nd_false hb3
    refine AC.condF (Evl.tmp rfl) ?_
    refine AC.skip ?_
    refine (?_ : AC _ _ _ _ _)
    refine AC.seq ?_
    refine AC.seq ?_
    refine AC.region ?_
    refine AL.cons rfl (Does.move rfl rfl) ?_
    refine AL.fact (fact_len (x := .tmp 11) (Evl.tmp rfl)) fun hl4 => ?_
    refine AL.cons rfl (Does.len (Evl.tmp rfl) rfl und_72) ?_
    refine AL.cons rfl (Does.moveC (Evl.int rfl) rfl) ?_
    refine AL.nil ?_
    refine (?_ : AC _ _ _ _ _)
    refine AC.block ?_
    refine AC.wk (s' := ⟨[(0, lf (.dat (.sl 3 .int) a)), (1, lf (.dat (.sl 3 .int) b)), (12, lf (dI (a.length : Int))), (13, lf (dI (0 : Int)))], []⟩) (Wk.of [] rfl ⟨rfl, rfl, rfl, rfl, trivial⟩ trivial rfl rfl) ?_
    refine AC.loop (fun m_ s_ => ∃ (k : Nat), k ≤ a.length ∧ m_ = a.length - k ∧ (∀ j, j < k → a[j]? = b[j]?) ∧ s_ = ⟨[(0, lf (.dat (.sl 3 .int) a)), (1, lf (.dat (.sl 3 .int) b)), (12, lf (dI (a.length : Int))), (13, lf (dI (k : Int)))], []⟩) (m := a.length - 0) ⟨0, Nat.zero_le _, rfl, (fun j hj => absurd hj (Nat.not_lt_zero j)), rfl⟩ ?_
    rintro m_ s_ ⟨k, hk5, hm6, hE, rfl⟩
    refine AC.seq ?_
    refine AC.region ?_
    refine AL.cons rfl (Does.lss (Evl.tmp rfl) (Evl.tmp rfl) rfl) ?_
    refine AL.nil ?_
    refine (?_ : AC _ _ _ _ _)
    refine AC.seq ?_
    cases hb7 : (decide ((k : Int) < (a.length : Int)))
    · have _h := hb7
      have hb7' : ¬ ((k : Int) < (a.length : Int)) := of_decide_eq_false hb7
      refine AC.condF (Evl.tmp rfl) ?_
      refine AC.exit ?_
      refine (?_ : AC _ _ _ _ _)
      refine AC.seq ?_
      refine AC.region ?_
      refine AL.cons rfl (Does.assignC Evl.bool rfl) ?_
      refine AL.nil ?_
      refine (?_ : AC _ _ _ _ _)
      refine AC.ret ?_
      subst hO
      have e8 : (true : Bool) = decide (a = b) := by
        first | exact eql_no_len (by assumption) | exact eql_yes (by assumption) hE (by omega)
      exact fin_pure (Res.one rfl (Rs.tmp rfl)) ((congrArg (fun z_ => lf (dB z_)) e8)) rfl
    · have _h := hb7
      have hb7' : ((k : Int) < (a.length : Int)) := of_decide_eq_true hb7
      refine AC.condT (Evl.tmp rfl) ?_
      refine AC.skip ?_
      refine (?_ : AC _ _ _ _ _)
      refine AC.seq ?_
      refine AC.block ?_
      refine AC.seq ?_
      refine AC.region ?_
      refine AL.cons rfl (Does.move rfl rfl) ?_
      refine AL.cons rfl (Does.assign rfl rfl) ?_
      refine AL.nil ?_
      refine (?_ : AC _ _ _ _ _)
      refine AC.seq ?_
      obtain ⟨x9, hx10⟩ : ∃ z, a[k]? = some z := ⟨_, List.getElem?_eq_getElem (by omega)⟩
      obtain ⟨x11, hx12⟩ : ∃ z, b[k]? = some z := ⟨_, List.getElem?_eq_getElem (by omega)⟩
      refine AC.drawL [⟨some 16, lf (.dat (.sl 3 .int) a), []⟩, ⟨some 17, lf (dI (k : Int)), []⟩, ⟨some 18, lf (.elt .int x9 0), []⟩, ⟨some 19, lf (dI x9), []⟩, ⟨some 20, lf (.dat (.sl 3 .int) b), []⟩, ⟨some 21, lf (dI (k : Int)), []⟩, ⟨some 22, lf (.elt .int x11 0), []⟩, ⟨some 23, lf (dI x11), []⟩, ⟨some 24, lf (dB (!decide (x9 = x11))), []⟩] [[], [], [0, 1], [0, 1, 2], [], [], [4, 5], [4, 5, 6], [0, 1, 2, 3, 4, 5, 6, 7]] mixed rfl (by kernel_rfl) ?_ ?_
      · refine ⟨fun s_ hs => Acts.of1 rfl (Does.move (hs.tm 0 rfl) rfl) rfl, fun s_ hs => Acts.of1 rfl (Does.move (hs.tm 5 rfl) rfl) rfl, fun s_ hs => Acts.of1 rfl (Does.indexE (Evl.tmp (hs.tm 16 rfl)) (Evl.tmp (hs.tm 17 rfl)) und_72 tsh_3 rfl (by omega) hx10) rfl, fun s_ hs => Acts.of1 rfl (Does.loadE (Evl.tmp (hs.tm 18 rfl)) tsh_3 rfl rfl) rfl, fun s_ hs => Acts.of1 rfl (Does.move (hs.tm 1 rfl) rfl) rfl, fun s_ hs => Acts.of1 rfl (Does.move (hs.tm 5 rfl) rfl) rfl, fun s_ hs => Acts.of1 rfl (Does.indexE (Evl.tmp (hs.tm 20 rfl)) (Evl.tmp (hs.tm 21 rfl)) und_72 tsh_3 rfl (by omega) hx12) rfl, fun s_ hs => Acts.of1 rfl (Does.loadE (Evl.tmp (hs.tm 22 rfl)) tsh_3 rfl rfl) rfl, fun s_ hs => Acts.of1 rfl (Does.neq (Evl.tmp (hs.tm 19 rfl)) (Evl.tmp (hs.tm 23 rfl)) rfl) rfl, trivial⟩
      refine (?_ : AC _ _ _ _ _)
      refine AC.wk (s' := _) (Wk.refl _ _) ?_
      cases hb13 : (!decide (x9 = x11))
      · have _h := hb13
        have hb13' : (x9 = x11) := nd_false hb13
        refine AC.condF (Evl.tmp rfl) ?_
        refine AC.skip ?_
        refine (?_ : AC _ _ _ _ _)
        refine AC.region ?_
        refine AL.cons rfl (Does.add (Evl.tmp rfl) (Evl.int rfl) rfl (by omega)) ?_
        refine AL.cons rfl (Does.move rfl rfl) ?_
        refine AL.nil ?_
        exact loop_end (a.length - (k + 1)) ⟨[(0, lf (.dat (.sl 3 .int) a)), (1, lf (.dat (.sl 3 .int) b)), (12, lf (dI (a.length : Int))), (13, lf (dI ((k + 1) : Int)))], []⟩ (by omega) (Wk.of [] rfl ⟨rfl, rfl, rfl, rfl, trivial⟩ trivial rfl rfl) ⟨k + 1, by omega, rfl, (eql_step hE hx10 hx12 (by first | exact (Ty.beq_iff _ _ _).1 (by assumption) | assumption)), rfl⟩
      · have _h := hb13
        have hb13' : ¬ (x9 = x11) := nd_true hb13
        refine AC.condT (Evl.tmp rfl) ?_
        refine AC.seq ?_
        refine AC.region ?_
        refine AL.cons rfl (Does.assignC Evl.bool rfl) ?_
        refine AL.nil ?_
        refine (?_ : AC _ _ _ _ _)
        refine AC.ret ?_
        subst hO
        have e14 : (false : Bool) = decide (a = b) := by
          first | exact eql_no_len (by assumption) | exact eql_no_at hx10 hx12 (by first | exact beq_no (by assumption) | assumption) | exact eql_yes (by assumption) hE (by omega)
        exact fin_pure (Res.one rfl (Rs.tmp rfl)) ((congrArg (fun z_ => lf (dB z_)) e14)) rfl
  · have _h := hb3
    have hb3' : ¬ ((a.length : Int) = (b.length : Int)) := nd_true hb3
    refine AC.condT (Evl.tmp rfl) ?_
    refine AC.seq ?_
    refine AC.region ?_
    refine AL.cons rfl (Does.assignC Evl.bool rfl) ?_
    refine AL.nil ?_
    refine (?_ : AC _ _ _ _ _)
    refine AC.ret ?_
    subst hO
    have e15 : (false : Bool) = decide (a = b) := by
      first | exact eql_no_len (by assumption) | exact eql_yes (by assumption) hE (by omega)
    exact fin_pure (Res.one rfl (Rs.tmp rfl)) ((congrArg (fun z_ => lf (dB z_)) e15)) rfl

set_option maxRecDepth 100000 in
set_option maxHeartbeats 4000000 in
theorem fc_impl_firings (s : (Int × (List (List Int × List Int))) × (List (ByteArray × Int)) × (List (Int × Bool)) × ByteArray) [∀ s, Decidable (StgOk s)]  : FC Try.prog 90 [(true, [dI s.1.1, .dat (.sl 146 (.pr (.sl 3 .int) (.sl 3 .int))) s.1.2, .dat (.sl 129 (.pr .str .int)) s.2.1, .dat (.sl 131 (.pr .int .bool)) s.2.2.1, dS s.2.2.2])] [] 0 (Is (PV.tup [(false, [.ref 0]), (false, [dB ((frV s).2.1)]), (false, [dB ((frV s).2.2)])]) [(0, some (.arr 3 .int ((frV s).1)))]) := by
  obtain ⟨O_, hO⟩ : ∃ x : PV → Tab → Prop, x = Is (PV.tup [(false, [.ref 0]), (false, [dB ((frV s).2.1)]), (false, [dB ((frV s).2.2)])]) [(0, some (.arr 3 .int ((frV s).1)))] := ⟨_, rfl⟩
  refine FC.O_of hO (FC.ren (FC.of Try.func90 rfl rfl fun A_ hn_ hk_ => ?_))
  obtain ⟨w0_, N0_, X_, n_, k0_, h0_, f0_⟩ := A_
  obtain rfl : n_ = 40 := hn_.trans Try.ntmps90
  obtain rfl : k0_ = 0 := hk_
  refine AC.fact (fact_ag (x := .tmp 0) (i := 0) (Ev.tmp rfl) rfl) fun hi1 => ?_
  refine AC.seq ?_
  refine AC.region ?_
  refine AL.cons rfl (Does.box 0 (Ev.tmp rfl) rfl rfl (Fresh.of rfl) (Nat.le_of_ble_eq_true rfl)) ?_
  refine AL.cons rfl (Does.assignC Evl.val rfl) ?_
  refine AL.cons rfl (Does.assignC Evl.bool rfl) ?_
  refine AL.cons rfl (Does.assignC Evl.bool rfl) ?_
  refine AL.nil ?_
  refine (?_ : AC _ _ _ _ _)
  refine AC.seq ?_
  refine AC.seq ?_
  refine AC.region ?_
  refine AL.cons rfl (Does.loadPA (Evl.tmp rfl) rfl tsh_50 rfl rfl) ?_
  refine AL.cons rfl (Does.callG 1 (fc_impl_BuildStateGraph s) enters_142 ⟨_, _, rfl, (Ev.tmp rfl), rfl⟩ rfl rfl ⟨Fresh.of rfl, Fresh.of rfl, Fresh.of rfl, trivial⟩ (Nat.le_of_ble_eq_true rfl)) ?_
  refine AL.cons rfl (Does.move rfl rfl) ?_
  refine AL.cons rfl (Does.extract rfl rfl rfl) ?_
  refine AL.cons rfl (Does.extract rfl rfl rfl) ?_
  refine AL.cons rfl (Does.alloc 4 (.pr (.sl 129 (.pr .str .int)) (.pr (.sl 9 .str) (.sl 170 (.pr .int (.pr .int (.pr .bool .int)))))) zer_77 rfl rfl (Fresh.of rfl) (Nat.le_of_ble_eq_true rfl)) ?_
  refine AL.cons rfl (Does.storeP (Evl.tmp rfl) rfl (Ev.tmp rfl) rfl tsh_77 rfl) ?_
  refine AL.cons rfl (Does.assign rfl rfl) ?_
  refine AL.nil ?_
  refine (?_ : AC _ _ _ _ _)
  refine AC.seq ?_
  refine AC.region ?_
  refine AL.cons rfl (Does.move rfl rfl) ?_
  refine AL.cons rfl (Does.not (Evl.tmp rfl) rfl) ?_
  refine AL.nil ?_
  refine (?_ : AC _ _ _ _ _)
  cases hb2 : ((sgV s).2)
  · have _h := hb2
    refine AC.condT (Evl.tmp rfl) ?_
    refine AC.seq ?_
    refine AC.region ?_
    refine AL.cons rfl (Does.assignC Evl.val rfl) ?_
    refine AL.cons rfl (Does.assignC Evl.bool rfl) ?_
    refine AL.cons rfl (Does.assignC Evl.bool rfl) ?_
    refine AL.nil ?_
    refine (?_ : AC _ _ _ _ _)
    refine AC.wk (Wk.nilS 5 2 3 .int rfl (Fresh.of rfl) (Nat.le_of_ble_eq_true rfl)) ?_
    refine AC.ret ?_
    subst hO
    have e3 : (false : Bool) = (frV s).2.1 := by
      first | (rw [frV_no (by assumption)]; done) | (rw [frV_yes (by assumption)]; done) | (rw [frV_yes (by assumption)]; rfl)
    have e4 : (false : Bool) = (frV s).2.2 := by
      first | (rw [frV_no (by assumption)]; done) | (rw [frV_yes (by assumption)]; done) | (rw [frV_yes (by assumption)]; rfl)
    exact fin_is (PV.tup [(false, [.ref 0]), (false, [dB ((frV s).2.1)]), (false, [dB ((frV s).2.2)])]) [(0, some (.arr 3 .int ((frV s).1)))] [(0, 5)] (Res.three rfl (Rs.tmp rfl) (Rs.tmp rfl) (Rs.tmp rfl)) (show PV.tup [(false, [.ref 5]), (false, [dB false]), (false, [dB false])] = PV.tup [(false, [.ref 5]), (false, [dB ((frV s).2.1)]), (false, [dB ((frV s).2.2)])] by exact ((congrArg (fun z_ => PV.tup [(false, [.ref 5]), (false, [dB z_]), (false, [dB false])]) e3)).trans (congrArg (fun z_ => PV.tup [(false, [.ref 5]), (false, [dB ((frV s).2.1)]), (false, [dB z_])]) e4)) ⟨(show some (Ent.arr 3 .int ([])) = some (Ent.arr 3 .int ((frV s).1)) from congrArg (fun z => some (Ent.arr 3 .int z)) (by first | (rw [frV_no (by assumption)]; done) | (rw [frV_yes (by assumption)]; done) | (rw [frV_yes (by assumption)]; rfl))), trivial⟩ rfl rfl
  · have _h := hb2
    refine AC.condF (Evl.tmp rfl) ?_
    refine AC.skip ?_
    refine (?_ : AC _ _ _ _ _)
    refine AC.seq ?_
    refine AC.region ?_
    refine AL.cons rfl (Does.loadPA (Evl.tmp rfl) rfl tsh_50 rfl rfl) ?_
    refine AL.cons rfl (Does.callG 6 (fc_impl_Explore s) enters_143 ⟨_, _, rfl, (Ev.tmp rfl), rfl⟩ rfl rfl ⟨Fresh.of rfl, Fresh.of rfl, trivial⟩ (Nat.le_of_ble_eq_true rfl)) ?_
    refine AL.cons rfl (Does.move rfl rfl) ?_
    refine AL.cons rfl (Does.extract rfl rfl rfl) ?_
    refine AL.cons rfl (Does.extract rfl rfl rfl) ?_
    refine AL.cons rfl (Does.alloc 8 (.pr (.sl 9 .str) (.sl 229 (.pr .int (.pr .int .int)))) zer_188 rfl rfl (Fresh.of rfl) (Nat.le_of_ble_eq_true rfl)) ?_
    refine AL.cons rfl (Does.storeP (Evl.tmp rfl) rfl (Ev.tmp rfl) rfl tsh_188 rfl) ?_
    refine AL.cons rfl (Does.assign rfl rfl) ?_
    refine AL.nil ?_
    refine (?_ : AC _ _ _ _ _)
    refine AC.seq ?_
    refine AC.region ?_
    refine AL.cons rfl (Does.loadPA (Evl.tmp rfl) rfl tsh_50 rfl rfl) ?_
    refine AL.cons rfl (Does.loadPA (Evl.tmp rfl) rfl tsh_188 rfl rfl) ?_
    refine AL.cons rfl (Does.callGB 9 (fc_impl_DeadTransitions s ((exploreV s).1)) enters_144 ⟨_, _, rfl, (Ev.b (Ev.tmp rfl)), ⟨_, _, rfl, (Ev.ob (Ev.tmp rfl) ⟨_, _, rfl, .inr ⟨_, _, _, _, rfl, rfl, rfl⟩, ⟨_, _, rfl, .inr ⟨_, _, _, _, rfl, rfl, rfl⟩, rfl⟩⟩), rfl⟩⟩ rfl rfl rfl ⟨Fresh.of rfl, trivial⟩ (Nat.le_of_ble_eq_true rfl)) ?_
    refine AL.cons rfl (Does.move rfl rfl) ?_
    refine AL.cons rfl (Does.extract rfl rfl rfl) ?_
    refine AL.cons rfl (Does.extract rfl rfl rfl) ?_
    refine AL.cons rfl (Does.assign rfl rfl) ?_
    refine AL.cons rfl (Does.assign rfl rfl) ?_
    refine AL.nil ?_
    refine (?_ : AC _ _ _ _ _)
    refine AC.seq ?_
    refine AC.region ?_
    refine AL.cons rfl (Does.loadPA (Evl.tmp rfl) rfl tsh_188 rfl rfl) ?_
    refine AL.cons rfl (Does.callGB 10 (fc_impl_Deadlocks ((exploreV s).1)) enters_145 ⟨_, _, rfl, (Ev.ob (Ev.tmp rfl) ⟨_, _, rfl, .inr ⟨_, _, _, _, rfl, rfl, rfl⟩, ⟨_, _, rfl, .inr ⟨_, _, _, _, rfl, rfl, rfl⟩, rfl⟩⟩), rfl⟩ rfl rfl rfl ⟨Fresh.of rfl, trivial⟩ (Nat.le_of_ble_eq_true rfl)) ?_
    refine AL.cons rfl (Does.move rfl rfl) ?_
    refine AL.cons rfl (Does.extract rfl rfl rfl) ?_
    refine AL.cons rfl (Does.extract rfl rfl rfl) ?_
    refine AL.cons rfl (Does.assign rfl rfl) ?_
    refine AL.cons rfl (Does.assign rfl rfl) ?_
    refine AL.nil ?_
    refine (?_ : AC _ _ _ _ _)
    refine AC.seq ?_
    refine AC.region ?_
    refine AL.cons rfl (Does.move rfl rfl) ?_
    refine AL.cons rfl (Does.move rfl rfl) ?_
    refine AL.cons rfl (Does.lenO (Evl.tmp rfl) rfl rfl und_72) ?_
    refine AL.cons rfl (Does.gtr (Evl.tmp rfl) (Evl.int rfl) rfl) ?_
    refine AL.cons rfl (Does.assign rfl rfl) ?_
    refine AL.cons rfl (Does.assign rfl rfl) ?_
    refine AL.cons rfl (Does.assignC Evl.bool rfl) ?_
    refine AL.nil ?_
    refine (?_ : AC _ _ _ _ _)
    refine AC.ret ?_
    subst hO
    have e5 : (decide (0 < (((dlV ((exploreV s).1)).1).length : Int)) : Bool) = (frV s).2.1 := by
      first | (rw [frV_no (by assumption)]; done) | (rw [frV_yes (by assumption)]; done) | (rw [frV_yes (by assumption)]; rfl)
    have e6 : (true : Bool) = (frV s).2.2 := by
      first | (rw [frV_no (by assumption)]; done) | (rw [frV_yes (by assumption)]; done) | (rw [frV_yes (by assumption)]; rfl)
    exact fin_is (PV.tup [(false, [.ref 0]), (false, [dB ((frV s).2.1)]), (false, [dB ((frV s).2.2)])]) [(0, some (.arr 3 .int ((frV s).1)))] [(0, 9)] (Res.three rfl (Rs.tmp rfl) (Rs.tmp rfl) (Rs.tmp rfl)) (show PV.tup [(false, [.ref 9]), (false, [dB (decide (0 < (((dlV ((exploreV s).1)).1).length : Int)))]), (false, [dB true])] = PV.tup [(false, [.ref 9]), (false, [dB ((frV s).2.1)]), (false, [dB ((frV s).2.2)])] by exact ((congrArg (fun z_ => PV.tup [(false, [.ref 9]), (false, [dB z_]), (false, [dB true])]) e5)).trans (congrArg (fun z_ => PV.tup [(false, [.ref 9]), (false, [dB ((frV s).2.1)]), (false, [dB z_])]) e6)) ⟨(show some (Ent.arr 3 .int ((dtV s ((exploreV s).1)).1)) = some (Ent.arr 3 .int ((frV s).1)) from congrArg (fun z => some (Ent.arr 3 .int z)) (by first | (rw [frV_no (by assumption)]; done) | (rw [frV_yes (by assumption)]; done) | (rw [frV_yes (by assumption)]; rfl))), trivial⟩ rfl rfl

set_option maxRecDepth 100000 in
set_option maxHeartbeats 4000000 in
theorem fc_spec_l26Coded (s : (Int × (List (List Int × List Int))) × (List (ByteArray × Int)) × (List (Int × Bool)) × ByteArray) [∀ s, Decidable (StgOk s)]  : FC Try.prog 85 [(true, [dI s.1.1, .dat (.sl 146 (.pr (.sl 3 .int) (.sl 3 .int))) s.1.2, .dat (.sl 129 (.pr .str .int)) s.2.1, .dat (.sl 131 (.pr .int .bool)) s.2.2.1, dS s.2.2.2])] [] 0 (Pure (lf (dB ((sgV s).2)))) := by
  obtain ⟨O_, hO⟩ : ∃ x : PV → Tab → Prop, x = Pure (lf (dB ((sgV s).2))) := ⟨_, rfl⟩
  refine FC.O_of hO (FC.ren (FC.of Try.func85 rfl rfl fun A_ hn_ hk_ => ?_))
  obtain ⟨w0_, N0_, X_, n_, k0_, h0_, f0_⟩ := A_
  obtain rfl : n_ = 11 := hn_.trans Try.ntmps85
  obtain rfl : k0_ = 0 := hk_
  refine AC.fact (fact_ag (x := .tmp 0) (i := 0) (Ev.tmp rfl) rfl) fun hi1 => ?_
  refine AC.seq ?_
  refine AC.region ?_
  refine AL.cons rfl (Does.box 0 (Ev.tmp rfl) rfl rfl (Fresh.of rfl) (Nat.le_of_ble_eq_true rfl)) ?_
  refine AL.cons rfl (Does.assignC Evl.bool rfl) ?_
  refine AL.nil ?_
  refine (?_ : AC _ _ _ _ _)
  refine AC.seq ?_
  refine AC.region ?_
  refine AL.cons rfl (Does.loadPA (Evl.tmp rfl) rfl tsh_50 rfl rfl) ?_
  refine AL.cons rfl (Does.callG 1 (fc_spec_BuildStateGraph s) enters_138 ⟨_, _, rfl, (Ev.tmp rfl), rfl⟩ rfl rfl ⟨Fresh.of rfl, Fresh.of rfl, Fresh.of rfl, trivial⟩ (Nat.le_of_ble_eq_true rfl)) ?_
  refine AL.cons rfl (Does.move rfl rfl) ?_
  refine AL.cons rfl (Does.extract rfl rfl rfl) ?_
  refine AL.cons rfl (Does.extract rfl rfl rfl) ?_
  refine AL.cons rfl (Does.alloc 4 (.pr (.sl 129 (.pr .str .int)) (.pr (.sl 9 .str) (.sl 170 (.pr .int (.pr .int (.pr .bool .int)))))) zer_77 rfl rfl (Fresh.of rfl) (Nat.le_of_ble_eq_true rfl)) ?_
  refine AL.cons rfl (Does.storeP (Evl.tmp rfl) rfl (Ev.tmp rfl) rfl tsh_77 rfl) ?_
  refine AL.cons rfl (Does.assign rfl rfl) ?_
  refine AL.nil ?_
  refine (?_ : AC _ _ _ _ _)
  refine AC.seq ?_
  refine AC.region ?_
  refine AL.cons rfl (Does.move rfl rfl) ?_
  refine AL.cons rfl (Does.assign rfl rfl) ?_
  refine AL.nil ?_
  refine (?_ : AC _ _ _ _ _)
  refine AC.ret ?_
  subst hO
  exact fin_pure (Res.one rfl (Rs.tmp rfl)) rfl rfl

set_option maxRecDepth 100000 in
set_option maxHeartbeats 4000000 in
theorem fc_spec_l26Never (s : (Int × (List (List Int × List Int))) × (List (ByteArray × Int)) × (List (Int × Bool)) × ByteArray) [∀ s, Decidable (StgOk s)]  : FC Try.prog 88 [(true, [dI s.1.1, .dat (.sl 146 (.pr (.sl 3 .int) (.sl 3 .int))) s.1.2, .dat (.sl 129 (.pr .str .int)) s.2.1, .dat (.sl 131 (.pr .int .bool)) s.2.2.1, dS s.2.2.2])] [] 0 (Is (PV.tup [(false, [.ref 0]), (false, [dB (endsX s)])]) [(0, some (.arr 3 .int (deadX s)))]) := by
  obtain ⟨O_, hO⟩ : ∃ x : PV → Tab → Prop, x = Is (PV.tup [(false, [.ref 0]), (false, [dB (endsX s)])]) [(0, some (.arr 3 .int (deadX s)))] := ⟨_, rfl⟩
  refine FC.O_of hO (FC.ren (FC.of Try.func88 rfl rfl fun A_ hn_ hk_ => ?_))
  obtain ⟨w0_, N0_, X_, n_, k0_, h0_, f0_⟩ := A_
  obtain rfl : n_ = 30 := hn_.trans Try.ntmps88
  obtain rfl : k0_ = 0 := hk_
  refine AC.fact (fact_ag (x := .tmp 0) (i := 0) (Ev.tmp rfl) rfl) fun hi1 => ?_
  refine AC.seq ?_
  refine AC.region ?_
  refine AL.cons rfl (Does.box 0 (Ev.tmp rfl) rfl rfl (Fresh.of rfl) (Nat.le_of_ble_eq_true rfl)) ?_
  refine AL.cons rfl (Does.assignC Evl.val rfl) ?_
  refine AL.cons rfl (Does.assignC Evl.bool rfl) ?_
  refine AL.nil ?_
  refine (?_ : AC _ _ _ _ _)
  refine AC.seq ?_
  refine AC.region ?_
  refine AL.cons rfl (Does.loadPA (Evl.tmp rfl) rfl tsh_50 rfl rfl) ?_
  refine AL.cons rfl (Does.callG 1 (fc_spec_Explore s) enters_139 ⟨_, _, rfl, (Ev.tmp rfl), rfl⟩ rfl rfl ⟨Fresh.of rfl, Fresh.of rfl, trivial⟩ (Nat.le_of_ble_eq_true rfl)) ?_
  refine AL.cons rfl (Does.move rfl rfl) ?_
  refine AL.cons rfl (Does.extract rfl rfl rfl) ?_
  refine AL.cons rfl (Does.extract rfl rfl rfl) ?_
  refine AL.cons rfl (Does.alloc 3 (.pr (.sl 9 .str) (.sl 229 (.pr .int (.pr .int .int)))) zer_188 rfl rfl (Fresh.of rfl) (Nat.le_of_ble_eq_true rfl)) ?_
  refine AL.cons rfl (Does.storeP (Evl.tmp rfl) rfl (Ev.tmp rfl) rfl tsh_188 rfl) ?_
  refine AL.cons rfl (Does.assign rfl rfl) ?_
  refine AL.nil ?_
  refine (?_ : AC _ _ _ _ _)
  refine AC.seq ?_
  refine AC.region ?_
  refine AL.cons rfl (Does.loadPA (Evl.tmp rfl) rfl tsh_50 rfl rfl) ?_
  refine AL.cons rfl (Does.loadPA (Evl.tmp rfl) rfl tsh_188 rfl rfl) ?_
  refine AL.cons rfl (Does.callGB 4 (fc_spec_DeadTransitions s ((exploreV s).1)) enters_140 ⟨_, _, rfl, (Ev.b (Ev.tmp rfl)), ⟨_, _, rfl, (Ev.ob (Ev.tmp rfl) ⟨_, _, rfl, .inr ⟨_, _, _, _, rfl, rfl, rfl⟩, ⟨_, _, rfl, .inr ⟨_, _, _, _, rfl, rfl, rfl⟩, rfl⟩⟩), rfl⟩⟩ rfl rfl rfl ⟨Fresh.of rfl, trivial⟩ (Nat.le_of_ble_eq_true rfl)) ?_
  refine AL.cons rfl (Does.move rfl rfl) ?_
  refine AL.cons rfl (Does.extract rfl rfl rfl) ?_
  refine AL.cons rfl (Does.extract rfl rfl rfl) ?_
  refine AL.cons rfl (Does.assign rfl rfl) ?_
  refine AL.cons rfl (Does.assign rfl rfl) ?_
  refine AL.nil ?_
  refine (?_ : AC _ _ _ _ _)
  refine AC.seq ?_
  refine AC.region ?_
  refine AL.cons rfl (Does.loadPA (Evl.tmp rfl) rfl tsh_188 rfl rfl) ?_
  refine AL.cons rfl (Does.callGB 5 (fc_spec_Deadlocks ((exploreV s).1)) enters_141 ⟨_, _, rfl, (Ev.ob (Ev.tmp rfl) ⟨_, _, rfl, .inr ⟨_, _, _, _, rfl, rfl, rfl⟩, ⟨_, _, rfl, .inr ⟨_, _, _, _, rfl, rfl, rfl⟩, rfl⟩⟩), rfl⟩ rfl rfl rfl ⟨Fresh.of rfl, trivial⟩ (Nat.le_of_ble_eq_true rfl)) ?_
  refine AL.cons rfl (Does.move rfl rfl) ?_
  refine AL.cons rfl (Does.extract rfl rfl rfl) ?_
  refine AL.cons rfl (Does.extract rfl rfl rfl) ?_
  refine AL.cons rfl (Does.assign rfl rfl) ?_
  refine AL.cons rfl (Does.assign rfl rfl) ?_
  refine AL.nil ?_
  refine (?_ : AC _ _ _ _ _)
  refine AC.seq ?_
  refine AC.region ?_
  refine AL.cons rfl (Does.move rfl rfl) ?_
  refine AL.cons rfl (Does.move rfl rfl) ?_
  refine AL.cons rfl (Does.lenO (Evl.tmp rfl) rfl rfl und_72) ?_
  refine AL.cons rfl (Does.gtr (Evl.tmp rfl) (Evl.int rfl) rfl) ?_
  refine AL.cons rfl (Does.assign rfl rfl) ?_
  refine AL.cons rfl (Does.assign rfl rfl) ?_
  refine AL.nil ?_
  refine (?_ : AC _ _ _ _ _)
  refine AC.ret ?_
  subst hO
  have e2 : (decide (0 < (((dlV ((exploreV s).1)).1).length : Int)) : Bool) = endsX s := by
    rfl
  exact fin_is (PV.tup [(false, [.ref 0]), (false, [dB (endsX s)])]) [(0, some (.arr 3 .int (deadX s)))] [(0, 4)] (Res.two rfl (Rs.tmp rfl) (Rs.tmp rfl)) (show PV.tup [(false, [.ref 4]), (false, [dB (decide (0 < (((dlV ((exploreV s).1)).1).length : Int)))])] = PV.tup [(false, [.ref 4]), (false, [dB (endsX s)])] by exact (congrArg (fun z_ => PV.tup [(false, [.ref 4]), (false, [dB z_])]) e2)) ⟨(show some (Ent.arr 3 .int ((dtV s ((exploreV s).1)).1)) = some (Ent.arr 3 .int (deadX s)) from congrArg (fun z => some (Ent.arr 3 .int z)) (by rfl)), trivial⟩ rfl rfl

set_option maxRecDepth 100000 in
set_option maxHeartbeats 4000000 in
theorem fc_impl_PreservesFirings (a : (Int × (List (List Int × List Int))) × (List (ByteArray × Int)) × (List (Int × Bool)) × ByteArray) (b : (Int × (List (List Int × List Int))) × (List (ByteArray × Int)) × (List (Int × Bool)) × ByteArray) [∀ s, Decidable (StgOk s)]  : FC Try.prog 41 [(true, [dI a.1.1, .dat (.sl 146 (.pr (.sl 3 .int) (.sl 3 .int))) a.1.2, .dat (.sl 129 (.pr .str .int)) a.2.1, .dat (.sl 131 (.pr .int .bool)) a.2.2.1, dS a.2.2.2]), (true, [dI b.1.1, .dat (.sl 146 (.pr (.sl 3 .int) (.sl 3 .int))) b.1.2, .dat (.sl 129 (.pr .str .int)) b.2.1, .dat (.sl 131 (.pr .int .bool)) b.2.2.1, dS b.2.2.2])] [] 0 (Pure (PV.tup [(false, [dB ((pfV a b).1)]), (false, [dB ((pfV a b).2)])])) := by
  obtain ⟨O_, hO⟩ : ∃ x : PV → Tab → Prop, x = Pure (PV.tup [(false, [dB ((pfV a b).1)]), (false, [dB ((pfV a b).2)])]) := ⟨_, rfl⟩
  refine FC.O_of hO (FC.ren (FC.of Try.func41 rfl rfl fun A_ hn_ hk_ => ?_))
  obtain ⟨w0_, N0_, X_, n_, k0_, h0_, f0_⟩ := A_
  obtain rfl : n_ = 56 := hn_.trans Try.ntmps41
  obtain rfl : k0_ = 0 := hk_
  refine AC.fact (fact_ag (x := .tmp 0) (i := 0) (Ev.tmp rfl) rfl) fun hi1 => ?_
  refine AC.fact (fact_ag (x := .tmp 1) (i := 0) (Ev.tmp rfl) rfl) fun hi2 => ?_
  refine AC.seq ?_
  refine AC.region ?_
  refine AL.cons rfl (Does.box 0 (Ev.tmp rfl) rfl rfl (Fresh.of rfl) (Nat.le_of_ble_eq_true rfl)) ?_
  refine AL.cons rfl (Does.box 1 (Ev.tmp rfl) rfl rfl (Fresh.of rfl) (Nat.le_of_ble_eq_true rfl)) ?_
  refine AL.cons rfl (Does.assignC Evl.bool rfl) ?_
  refine AL.cons rfl (Does.assignC Evl.bool rfl) ?_
  refine AL.nil ?_
  refine (?_ : AC _ _ _ _ _)
  refine AC.seq ?_
  refine AC.region ?_
  refine AL.cons rfl (Does.loadPA (Evl.tmp rfl) rfl tsh_50 rfl rfl) ?_
  refine AL.cons rfl (Does.callG 2 (fc_impl_firings a) enters_90 ⟨_, _, rfl, (Ev.tmp rfl), rfl⟩ rfl rfl ⟨Fresh.of rfl, trivial⟩ (Nat.le_of_ble_eq_true rfl)) ?_
  refine AL.cons rfl (Does.move rfl rfl) ?_
  refine AL.cons rfl (Does.extract rfl rfl rfl) ?_
  refine AL.cons rfl (Does.extract rfl rfl rfl) ?_
  refine AL.cons rfl (Does.extract rfl rfl rfl) ?_
  refine AL.cons rfl (Does.assign rfl rfl) ?_
  refine AL.cons rfl (Does.assign rfl rfl) ?_
  refine AL.cons rfl (Does.assign rfl rfl) ?_
  refine AL.nil ?_
  refine (?_ : AC _ _ _ _ _)
  refine AC.seq ?_
  refine AC.region ?_
  refine AL.cons rfl (Does.loadPA (Evl.tmp rfl) rfl tsh_50 rfl rfl) ?_
  refine AL.cons rfl (Does.callG 3 (fc_impl_firings b) enters_90 ⟨_, _, rfl, (Ev.tmp rfl), rfl⟩ rfl rfl ⟨Fresh.of rfl, trivial⟩ (Nat.le_of_ble_eq_true rfl)) ?_
  refine AL.cons rfl (Does.move rfl rfl) ?_
  refine AL.cons rfl (Does.extract rfl rfl rfl) ?_
  refine AL.cons rfl (Does.extract rfl rfl rfl) ?_
  refine AL.cons rfl (Does.extract rfl rfl rfl) ?_
  refine AL.cons rfl (Does.assign rfl rfl) ?_
  refine AL.cons rfl (Does.assign rfl rfl) ?_
  refine AL.cons rfl (Does.assign rfl rfl) ?_
  refine AL.nil ?_
  refine (?_ : AC _ _ _ _ _)
  refine AC.seq ?_
  refine AC.seq ?_
  refine AC.region ?_
  refine AL.cons rfl (Does.move rfl rfl) ?_
  refine AL.cons rfl (Does.not (Evl.tmp rfl) rfl) ?_
  refine AL.cons rfl (Does.move rfl rfl) ?_
  cases hb3 : ((frV a).2.2)
  · have _h := hb3
    refine AL.guard_no (b := false) rfl rfl rfl ?_ rfl
    refine AL.guard_no (b := false) rfl rfl rfl ?_ rfl
    refine AL.cons rfl (Does.pickT (Evl.tmp rfl) (Evl.ev Evl.bool) rfl) ?_
    refine AL.cons rfl (Does.move rfl rfl) ?_
    refine AL.guard_no (b := false) rfl rfl rfl ?_ rfl
    refine AL.guard_no (b := false) rfl rfl rfl ?_ rfl
    refine AL.guard_no (b := false) rfl rfl rfl ?_ rfl
    refine AL.guard_no (b := false) rfl rfl rfl ?_ rfl
    refine AL.guard_no (b := false) rfl rfl rfl ?_ rfl
    refine AL.guard_no (b := false) rfl rfl rfl ?_ rfl
    refine AL.cons rfl (Does.pickT (Evl.tmp rfl) (Evl.ev Evl.bool) rfl) ?_
    refine AL.cons rfl (Does.move rfl rfl) ?_
    refine AL.guard_no (b := false) rfl rfl rfl ?_ rfl
    refine AL.guard_no (b := false) rfl rfl rfl ?_ rfl
    refine AL.guard_no (b := false) rfl rfl rfl ?_ rfl
    refine AL.guard_no (b := false) rfl rfl rfl ?_ rfl
    refine AL.guard_no (b := false) rfl rfl rfl ?_ rfl
    refine AL.guard_no (b := false) rfl rfl rfl ?_ rfl
    refine AL.cons rfl (Does.pickT (Evl.tmp rfl) (Evl.ev Evl.bool) rfl) ?_
    refine AL.nil ?_
    refine (?_ : AC _ _ _ _ _)
    refine AC.condT (Evl.tmp rfl) ?_
    refine AC.seq ?_
    refine AC.region ?_
    refine AL.cons rfl (Does.assignC Evl.bool rfl) ?_
    refine AL.cons rfl (Does.assignC Evl.bool rfl) ?_
    refine AL.nil ?_
    refine (?_ : AC _ _ _ _ _)
    refine AC.ret ?_
    subst hO
    have e4 : (false : Bool) = (pfV a b).1 := by
      first | (rw [pfI_no1 (by assumption)]; done) | (rw [pfI_no1 (by assumption)]; rfl) | (rw [pfI_no2 (by assumption)]; done) | (rw [pfI_no2 (by assumption)]; rfl) | (rw [pfI_no3 (by assumption)]; done) | (rw [pfI_no3 (by assumption)]; rfl) | (rw [pfI_no4 (by assumption)]; done) | (rw [pfI_no4 (by assumption)]; rfl) | (rw [pfI_y1 (by assumption) (by assumption) (by assumption) (by assumption) (by assumption)]; done) | (rw [pfI_y1 (by assumption) (by assumption) (by assumption) (by assumption) (by assumption)]; rfl) | (rw [pfI_y2 (by assumption) (by assumption) (by assumption) (by assumption) (by assumption) (by assumption)]; done) | (rw [pfI_y2 (by assumption) (by assumption) (by assumption) (by assumption) (by assumption) (by assumption)]; rfl) | (rw [pfI_y3 (by assumption) (by assumption) (by assumption) (by assumption) (by assumption) (by assumption)]; done) | (rw [pfI_y3 (by assumption) (by assumption) (by assumption) (by assumption) (by assumption) (by assumption)]; rfl)
    have e5 : (false : Bool) = (pfV a b).2 := by
      first | (rw [pfI_no1 (by assumption)]; done) | (rw [pfI_no1 (by assumption)]; rfl) | (rw [pfI_no2 (by assumption)]; done) | (rw [pfI_no2 (by assumption)]; rfl) | (rw [pfI_no3 (by assumption)]; done) | (rw [pfI_no3 (by assumption)]; rfl) | (rw [pfI_no4 (by assumption)]; done) | (rw [pfI_no4 (by assumption)]; rfl) | (rw [pfI_y1 (by assumption) (by assumption) (by assumption) (by assumption) (by assumption)]; done) | (rw [pfI_y1 (by assumption) (by assumption) (by assumption) (by assumption) (by assumption)]; rfl) | (rw [pfI_y2 (by assumption) (by assumption) (by assumption) (by assumption) (by assumption) (by assumption)]; done) | (rw [pfI_y2 (by assumption) (by assumption) (by assumption) (by assumption) (by assumption) (by assumption)]; rfl) | (rw [pfI_y3 (by assumption) (by assumption) (by assumption) (by assumption) (by assumption) (by assumption)]; done) | (rw [pfI_y3 (by assumption) (by assumption) (by assumption) (by assumption) (by assumption) (by assumption)]; rfl)
    exact fin_pure (Res.two rfl (Rs.tmp rfl) (Rs.tmp rfl)) (((congrArg (fun z_ => PV.tup [(false, [dB z_]), (false, [dB false])]) e4)).trans (congrArg (fun z_ => PV.tup [(false, [dB ((pfV a b).1)]), (false, [dB z_])]) e5)) rfl
  · have _h := hb3
    refine AL.guard_yes rfl rfl rfl (Does.move rfl rfl) ?_
    refine AL.guard_yes rfl rfl rfl (Does.not (Evl.tmp rfl) rfl) ?_
    refine AL.cons rfl (Does.pickF (Evl.tmp rfl) (Ev.tmp rfl) rfl) ?_
    refine AL.cons rfl (Does.move rfl rfl) ?_
    cases hb6 : ((frV b).2.2)
    · have _h := hb6
      refine AL.guard_no (b := false) rfl rfl rfl ?_ rfl
      refine AL.guard_no (b := false) rfl rfl rfl ?_ rfl
      refine AL.guard_no (b := false) rfl rfl rfl ?_ rfl
      refine AL.guard_no (b := false) rfl rfl rfl ?_ rfl
      refine AL.guard_no (b := false) rfl rfl rfl ?_ rfl
      refine AL.guard_no (b := false) rfl rfl rfl ?_ rfl
      refine AL.cons rfl (Does.pickT (Evl.tmp rfl) (Evl.ev Evl.bool) rfl) ?_
      refine AL.cons rfl (Does.move rfl rfl) ?_
      refine AL.guard_no (b := false) rfl rfl rfl ?_ rfl
      refine AL.guard_no (b := false) rfl rfl rfl ?_ rfl
      refine AL.guard_no (b := false) rfl rfl rfl ?_ rfl
      refine AL.guard_no (b := false) rfl rfl rfl ?_ rfl
      refine AL.guard_no (b := false) rfl rfl rfl ?_ rfl
      refine AL.guard_no (b := false) rfl rfl rfl ?_ rfl
      refine AL.cons rfl (Does.pickT (Evl.tmp rfl) (Evl.ev Evl.bool) rfl) ?_
      refine AL.nil ?_
      refine (?_ : AC _ _ _ _ _)
      refine AC.condT (Evl.tmp rfl) ?_
      refine AC.seq ?_
      refine AC.region ?_
      refine AL.cons rfl (Does.assignC Evl.bool rfl) ?_
      refine AL.cons rfl (Does.assignC Evl.bool rfl) ?_
      refine AL.nil ?_
      refine (?_ : AC _ _ _ _ _)
      refine AC.ret ?_
      subst hO
      have e7 : (false : Bool) = (pfV a b).1 := by
        first | (rw [pfI_no1 (by assumption)]; done) | (rw [pfI_no1 (by assumption)]; rfl) | (rw [pfI_no2 (by assumption)]; done) | (rw [pfI_no2 (by assumption)]; rfl) | (rw [pfI_no3 (by assumption)]; done) | (rw [pfI_no3 (by assumption)]; rfl) | (rw [pfI_no4 (by assumption)]; done) | (rw [pfI_no4 (by assumption)]; rfl) | (rw [pfI_y1 (by assumption) (by assumption) (by assumption) (by assumption) (by assumption)]; done) | (rw [pfI_y1 (by assumption) (by assumption) (by assumption) (by assumption) (by assumption)]; rfl) | (rw [pfI_y2 (by assumption) (by assumption) (by assumption) (by assumption) (by assumption) (by assumption)]; done) | (rw [pfI_y2 (by assumption) (by assumption) (by assumption) (by assumption) (by assumption) (by assumption)]; rfl) | (rw [pfI_y3 (by assumption) (by assumption) (by assumption) (by assumption) (by assumption) (by assumption)]; done) | (rw [pfI_y3 (by assumption) (by assumption) (by assumption) (by assumption) (by assumption) (by assumption)]; rfl)
      have e8 : (false : Bool) = (pfV a b).2 := by
        first | (rw [pfI_no1 (by assumption)]; done) | (rw [pfI_no1 (by assumption)]; rfl) | (rw [pfI_no2 (by assumption)]; done) | (rw [pfI_no2 (by assumption)]; rfl) | (rw [pfI_no3 (by assumption)]; done) | (rw [pfI_no3 (by assumption)]; rfl) | (rw [pfI_no4 (by assumption)]; done) | (rw [pfI_no4 (by assumption)]; rfl) | (rw [pfI_y1 (by assumption) (by assumption) (by assumption) (by assumption) (by assumption)]; done) | (rw [pfI_y1 (by assumption) (by assumption) (by assumption) (by assumption) (by assumption)]; rfl) | (rw [pfI_y2 (by assumption) (by assumption) (by assumption) (by assumption) (by assumption) (by assumption)]; done) | (rw [pfI_y2 (by assumption) (by assumption) (by assumption) (by assumption) (by assumption) (by assumption)]; rfl) | (rw [pfI_y3 (by assumption) (by assumption) (by assumption) (by assumption) (by assumption) (by assumption)]; done) | (rw [pfI_y3 (by assumption) (by assumption) (by assumption) (by assumption) (by assumption) (by assumption)]; rfl)
      exact fin_pure (Res.two rfl (Rs.tmp rfl) (Rs.tmp rfl)) (((congrArg (fun z_ => PV.tup [(false, [dB z_]), (false, [dB false])]) e7)).trans (congrArg (fun z_ => PV.tup [(false, [dB ((pfV a b).1)]), (false, [dB z_])]) e8)) rfl
    · have _h := hb6
      refine AL.guard_yes rfl rfl rfl (Does.fieldP (Evl.tmp rfl) fld_50_1 rfl rfl) ?_
      refine AL.guard_yes rfl rfl rfl (Does.loadP (Evl.tmp rfl) rfl tsh_29 rfl rfl) ?_
      refine AL.guard_yes rfl rfl rfl (Does.fieldP (Evl.tmp rfl) fld_50_1 rfl rfl) ?_
      refine AL.guard_yes rfl rfl rfl (Does.loadP (Evl.tmp rfl) rfl tsh_29 rfl rfl) ?_
      refine AL.guard_yes rfl rfl rfl (Does.call (fc_slices_Equal_impl_Signal_impl_Signal a.2.1 b.2.1) enters_91 ⟨_, _, rfl, (Ev.tmp rfl), ⟨_, _, rfl, (Ev.tmp rfl), rfl⟩⟩ rfl rfl) ?_
      refine AL.guard_yes rfl rfl rfl (Does.not (Evl.tmp rfl) rfl) ?_
      refine AL.cons rfl (Does.pickF (Evl.tmp rfl) (Ev.tmp rfl) rfl) ?_
      refine AL.cons rfl (Does.move rfl rfl) ?_
      cases hb9 : (decide (a.2.1 = b.2.1))
      · have _h := hb9
        have hb9' : ¬ (a.2.1 = b.2.1) := of_decide_eq_false hb9
        refine AL.guard_no (b := false) rfl rfl rfl ?_ rfl
        refine AL.guard_no (b := false) rfl rfl rfl ?_ rfl
        refine AL.guard_no (b := false) rfl rfl rfl ?_ rfl
        refine AL.guard_no (b := false) rfl rfl rfl ?_ rfl
        refine AL.guard_no (b := false) rfl rfl rfl ?_ rfl
        refine AL.guard_no (b := false) rfl rfl rfl ?_ rfl
        refine AL.cons rfl (Does.pickT (Evl.tmp rfl) (Evl.ev Evl.bool) rfl) ?_
        refine AL.nil ?_
        refine (?_ : AC _ _ _ _ _)
        refine AC.condT (Evl.tmp rfl) ?_
        refine AC.seq ?_
        refine AC.region ?_
        refine AL.cons rfl (Does.assignC Evl.bool rfl) ?_
        refine AL.cons rfl (Does.assignC Evl.bool rfl) ?_
        refine AL.nil ?_
        refine (?_ : AC _ _ _ _ _)
        refine AC.ret ?_
        subst hO
        have e10 : (false : Bool) = (pfV a b).1 := by
          first | (rw [pfI_no1 (by assumption)]; done) | (rw [pfI_no1 (by assumption)]; rfl) | (rw [pfI_no2 (by assumption)]; done) | (rw [pfI_no2 (by assumption)]; rfl) | (rw [pfI_no3 (by assumption)]; done) | (rw [pfI_no3 (by assumption)]; rfl) | (rw [pfI_no4 (by assumption)]; done) | (rw [pfI_no4 (by assumption)]; rfl) | (rw [pfI_y1 (by assumption) (by assumption) (by assumption) (by assumption) (by assumption)]; done) | (rw [pfI_y1 (by assumption) (by assumption) (by assumption) (by assumption) (by assumption)]; rfl) | (rw [pfI_y2 (by assumption) (by assumption) (by assumption) (by assumption) (by assumption) (by assumption)]; done) | (rw [pfI_y2 (by assumption) (by assumption) (by assumption) (by assumption) (by assumption) (by assumption)]; rfl) | (rw [pfI_y3 (by assumption) (by assumption) (by assumption) (by assumption) (by assumption) (by assumption)]; done) | (rw [pfI_y3 (by assumption) (by assumption) (by assumption) (by assumption) (by assumption) (by assumption)]; rfl)
        have e11 : (false : Bool) = (pfV a b).2 := by
          first | (rw [pfI_no1 (by assumption)]; done) | (rw [pfI_no1 (by assumption)]; rfl) | (rw [pfI_no2 (by assumption)]; done) | (rw [pfI_no2 (by assumption)]; rfl) | (rw [pfI_no3 (by assumption)]; done) | (rw [pfI_no3 (by assumption)]; rfl) | (rw [pfI_no4 (by assumption)]; done) | (rw [pfI_no4 (by assumption)]; rfl) | (rw [pfI_y1 (by assumption) (by assumption) (by assumption) (by assumption) (by assumption)]; done) | (rw [pfI_y1 (by assumption) (by assumption) (by assumption) (by assumption) (by assumption)]; rfl) | (rw [pfI_y2 (by assumption) (by assumption) (by assumption) (by assumption) (by assumption) (by assumption)]; done) | (rw [pfI_y2 (by assumption) (by assumption) (by assumption) (by assumption) (by assumption) (by assumption)]; rfl) | (rw [pfI_y3 (by assumption) (by assumption) (by assumption) (by assumption) (by assumption) (by assumption)]; done) | (rw [pfI_y3 (by assumption) (by assumption) (by assumption) (by assumption) (by assumption) (by assumption)]; rfl)
        exact fin_pure (Res.two rfl (Rs.tmp rfl) (Rs.tmp rfl)) (((congrArg (fun z_ => PV.tup [(false, [dB z_]), (false, [dB false])]) e10)).trans (congrArg (fun z_ => PV.tup [(false, [dB ((pfV a b).1)]), (false, [dB z_])]) e11)) rfl
      · have _h := hb9
        have hb9' : (a.2.1 = b.2.1) := of_decide_eq_true hb9
        refine AL.guard_yes rfl rfl rfl (Does.fieldP (Evl.tmp rfl) fld_50_2 rfl rfl) ?_
        refine AL.guard_yes rfl rfl rfl (Does.loadP (Evl.tmp rfl) rfl tsh_48 rfl rfl) ?_
        refine AL.guard_yes rfl rfl rfl (Does.fieldP (Evl.tmp rfl) fld_50_2 rfl rfl) ?_
        refine AL.guard_yes rfl rfl rfl (Does.loadP (Evl.tmp rfl) rfl tsh_48 rfl rfl) ?_
        refine AL.guard_yes rfl rfl rfl (Does.call (fc_slices_Equal_impl_Label_impl_Label a.2.2.1 b.2.2.1) enters_92 ⟨_, _, rfl, (Ev.tmp rfl), ⟨_, _, rfl, (Ev.tmp rfl), rfl⟩⟩ rfl rfl) ?_
        refine AL.guard_yes rfl rfl rfl (Does.not (Evl.tmp rfl) rfl) ?_
        refine AL.cons rfl (Does.pickF (Evl.tmp rfl) (Ev.tmp rfl) rfl) ?_
        refine AL.nil ?_
        refine (?_ : AC _ _ _ _ _)
        cases hb12 : (decide (a.2.2.1 = b.2.2.1))
        · have _h := hb12
          have hb12' : ¬ (a.2.2.1 = b.2.2.1) := of_decide_eq_false hb12
          refine AC.condT (Evl.tmp rfl) ?_
          refine AC.seq ?_
          refine AC.region ?_
          refine AL.cons rfl (Does.assignC Evl.bool rfl) ?_
          refine AL.cons rfl (Does.assignC Evl.bool rfl) ?_
          refine AL.nil ?_
          refine (?_ : AC _ _ _ _ _)
          refine AC.ret ?_
          subst hO
          have e13 : (false : Bool) = (pfV a b).1 := by
            first | (rw [pfI_no1 (by assumption)]; done) | (rw [pfI_no1 (by assumption)]; rfl) | (rw [pfI_no2 (by assumption)]; done) | (rw [pfI_no2 (by assumption)]; rfl) | (rw [pfI_no3 (by assumption)]; done) | (rw [pfI_no3 (by assumption)]; rfl) | (rw [pfI_no4 (by assumption)]; done) | (rw [pfI_no4 (by assumption)]; rfl) | (rw [pfI_y1 (by assumption) (by assumption) (by assumption) (by assumption) (by assumption)]; done) | (rw [pfI_y1 (by assumption) (by assumption) (by assumption) (by assumption) (by assumption)]; rfl) | (rw [pfI_y2 (by assumption) (by assumption) (by assumption) (by assumption) (by assumption) (by assumption)]; done) | (rw [pfI_y2 (by assumption) (by assumption) (by assumption) (by assumption) (by assumption) (by assumption)]; rfl) | (rw [pfI_y3 (by assumption) (by assumption) (by assumption) (by assumption) (by assumption) (by assumption)]; done) | (rw [pfI_y3 (by assumption) (by assumption) (by assumption) (by assumption) (by assumption) (by assumption)]; rfl)
          have e14 : (false : Bool) = (pfV a b).2 := by
            first | (rw [pfI_no1 (by assumption)]; done) | (rw [pfI_no1 (by assumption)]; rfl) | (rw [pfI_no2 (by assumption)]; done) | (rw [pfI_no2 (by assumption)]; rfl) | (rw [pfI_no3 (by assumption)]; done) | (rw [pfI_no3 (by assumption)]; rfl) | (rw [pfI_no4 (by assumption)]; done) | (rw [pfI_no4 (by assumption)]; rfl) | (rw [pfI_y1 (by assumption) (by assumption) (by assumption) (by assumption) (by assumption)]; done) | (rw [pfI_y1 (by assumption) (by assumption) (by assumption) (by assumption) (by assumption)]; rfl) | (rw [pfI_y2 (by assumption) (by assumption) (by assumption) (by assumption) (by assumption) (by assumption)]; done) | (rw [pfI_y2 (by assumption) (by assumption) (by assumption) (by assumption) (by assumption) (by assumption)]; rfl) | (rw [pfI_y3 (by assumption) (by assumption) (by assumption) (by assumption) (by assumption) (by assumption)]; done) | (rw [pfI_y3 (by assumption) (by assumption) (by assumption) (by assumption) (by assumption) (by assumption)]; rfl)
          exact fin_pure (Res.two rfl (Rs.tmp rfl) (Rs.tmp rfl)) (((congrArg (fun z_ => PV.tup [(false, [dB z_]), (false, [dB false])]) e13)).trans (congrArg (fun z_ => PV.tup [(false, [dB ((pfV a b).1)]), (false, [dB z_])]) e14)) rfl
        · have _h := hb12
          have hb12' : (a.2.2.1 = b.2.2.1) := of_decide_eq_true hb12
          refine AC.condF (Evl.tmp rfl) ?_
          refine AC.skip ?_
          refine (?_ : AC _ _ _ _ _)
          refine AC.seq ?_
          refine AC.region ?_
          refine AL.cons rfl (Does.move rfl rfl) ?_
          refine AL.cons rfl (Does.move rfl rfl) ?_
          refine AL.cons rfl (Does.callB (fc_slices_Equal_int_int ((frV a).1) ((frV b).1)) enters_93 ⟨_, _, rfl, (Evl.ob (Evl.tmp rfl) rfl), ⟨_, _, rfl, (Evl.ob (Evl.tmp rfl) rfl), rfl⟩⟩ rfl rfl rfl) ?_
          refine AL.cons rfl (Does.move rfl rfl) ?_
          cases hb15 : (decide (((frV a).1) = ((frV b).1)))
          · have _h := hb15
            have hb15' : ¬ (((frV a).1) = ((frV b).1)) := of_decide_eq_false hb15
            refine AL.guard_no (b := true) rfl rfl rfl ?_ rfl
            refine AL.guard_no (b := true) rfl rfl rfl ?_ rfl
            refine AL.guard_no (b := true) rfl rfl rfl ?_ rfl
            refine AL.guard_un rfl rfl rfl ?_ rfl
            refine AL.guard_no (b := true) rfl rfl rfl ?_ rfl
            refine AL.cons rfl (Does.pickF (Evl.tmp rfl) (Evl.ev Evl.bool) rfl) ?_
            refine AL.cons rfl (Does.assign rfl rfl) ?_
            refine AL.cons rfl (Does.assignC Evl.bool rfl) ?_
            refine AL.nil ?_
            refine (?_ : AC _ _ _ _ _)
            refine AC.ret ?_
            subst hO
            have e16 : (false : Bool) = (pfV a b).1 := by
              first | (rw [pfI_no1 (by assumption)]; done) | (rw [pfI_no1 (by assumption)]; rfl) | (rw [pfI_no2 (by assumption)]; done) | (rw [pfI_no2 (by assumption)]; rfl) | (rw [pfI_no3 (by assumption)]; done) | (rw [pfI_no3 (by assumption)]; rfl) | (rw [pfI_no4 (by assumption)]; done) | (rw [pfI_no4 (by assumption)]; rfl) | (rw [pfI_y1 (by assumption) (by assumption) (by assumption) (by assumption) (by assumption)]; done) | (rw [pfI_y1 (by assumption) (by assumption) (by assumption) (by assumption) (by assumption)]; rfl) | (rw [pfI_y2 (by assumption) (by assumption) (by assumption) (by assumption) (by assumption) (by assumption)]; done) | (rw [pfI_y2 (by assumption) (by assumption) (by assumption) (by assumption) (by assumption) (by assumption)]; rfl) | (rw [pfI_y3 (by assumption) (by assumption) (by assumption) (by assumption) (by assumption) (by assumption)]; done) | (rw [pfI_y3 (by assumption) (by assumption) (by assumption) (by assumption) (by assumption) (by assumption)]; rfl)
            have e17 : (true : Bool) = (pfV a b).2 := by
              first | (rw [pfI_no1 (by assumption)]; done) | (rw [pfI_no1 (by assumption)]; rfl) | (rw [pfI_no2 (by assumption)]; done) | (rw [pfI_no2 (by assumption)]; rfl) | (rw [pfI_no3 (by assumption)]; done) | (rw [pfI_no3 (by assumption)]; rfl) | (rw [pfI_no4 (by assumption)]; done) | (rw [pfI_no4 (by assumption)]; rfl) | (rw [pfI_y1 (by assumption) (by assumption) (by assumption) (by assumption) (by assumption)]; done) | (rw [pfI_y1 (by assumption) (by assumption) (by assumption) (by assumption) (by assumption)]; rfl) | (rw [pfI_y2 (by assumption) (by assumption) (by assumption) (by assumption) (by assumption) (by assumption)]; done) | (rw [pfI_y2 (by assumption) (by assumption) (by assumption) (by assumption) (by assumption) (by assumption)]; rfl) | (rw [pfI_y3 (by assumption) (by assumption) (by assumption) (by assumption) (by assumption) (by assumption)]; done) | (rw [pfI_y3 (by assumption) (by assumption) (by assumption) (by assumption) (by assumption) (by assumption)]; rfl)
            exact fin_pure (Res.two rfl (Rs.tmp rfl) (Rs.tmp rfl)) (((congrArg (fun z_ => PV.tup [(false, [dB z_]), (false, [dB true])]) e16)).trans (congrArg (fun z_ => PV.tup [(false, [dB ((pfV a b).1)]), (false, [dB z_])]) e17)) rfl
          · have _h := hb15
            have hb15' : (((frV a).1) = ((frV b).1)) := of_decide_eq_true hb15
            refine AL.guard_yes rfl rfl rfl (Does.move rfl rfl) ?_
            refine AL.guard_yes rfl rfl rfl (Does.not (Evl.tmp rfl) rfl) ?_
            refine AL.guard_yes rfl rfl rfl (Does.move rfl rfl) ?_
            cases hb18 : ((frV b).2.1)
            · have _h := hb18
              refine AL.guard_no (b := false) rfl rfl rfl ?_ rfl
              refine AL.guard_yes rfl rfl rfl (Does.pickT (Evl.tmp rfl) (Evl.ev Evl.bool) rfl) ?_
              refine AL.cons rfl (Does.pickT (Evl.tmp rfl) (Ev.tmp rfl) rfl) ?_
              refine AL.cons rfl (Does.assign rfl rfl) ?_
              refine AL.cons rfl (Does.assignC Evl.bool rfl) ?_
              refine AL.nil ?_
              refine (?_ : AC _ _ _ _ _)
              refine AC.ret ?_
              subst hO
              have e19 : (true : Bool) = (pfV a b).1 := by
                first | (rw [pfI_no1 (by assumption)]; done) | (rw [pfI_no1 (by assumption)]; rfl) | (rw [pfI_no2 (by assumption)]; done) | (rw [pfI_no2 (by assumption)]; rfl) | (rw [pfI_no3 (by assumption)]; done) | (rw [pfI_no3 (by assumption)]; rfl) | (rw [pfI_no4 (by assumption)]; done) | (rw [pfI_no4 (by assumption)]; rfl) | (rw [pfI_y1 (by assumption) (by assumption) (by assumption) (by assumption) (by assumption)]; done) | (rw [pfI_y1 (by assumption) (by assumption) (by assumption) (by assumption) (by assumption)]; rfl) | (rw [pfI_y2 (by assumption) (by assumption) (by assumption) (by assumption) (by assumption) (by assumption)]; done) | (rw [pfI_y2 (by assumption) (by assumption) (by assumption) (by assumption) (by assumption) (by assumption)]; rfl) | (rw [pfI_y3 (by assumption) (by assumption) (by assumption) (by assumption) (by assumption) (by assumption)]; done) | (rw [pfI_y3 (by assumption) (by assumption) (by assumption) (by assumption) (by assumption) (by assumption)]; rfl)
              have e20 : (true : Bool) = (pfV a b).2 := by
                first | (rw [pfI_no1 (by assumption)]; done) | (rw [pfI_no1 (by assumption)]; rfl) | (rw [pfI_no2 (by assumption)]; done) | (rw [pfI_no2 (by assumption)]; rfl) | (rw [pfI_no3 (by assumption)]; done) | (rw [pfI_no3 (by assumption)]; rfl) | (rw [pfI_no4 (by assumption)]; done) | (rw [pfI_no4 (by assumption)]; rfl) | (rw [pfI_y1 (by assumption) (by assumption) (by assumption) (by assumption) (by assumption)]; done) | (rw [pfI_y1 (by assumption) (by assumption) (by assumption) (by assumption) (by assumption)]; rfl) | (rw [pfI_y2 (by assumption) (by assumption) (by assumption) (by assumption) (by assumption) (by assumption)]; done) | (rw [pfI_y2 (by assumption) (by assumption) (by assumption) (by assumption) (by assumption) (by assumption)]; rfl) | (rw [pfI_y3 (by assumption) (by assumption) (by assumption) (by assumption) (by assumption) (by assumption)]; done) | (rw [pfI_y3 (by assumption) (by assumption) (by assumption) (by assumption) (by assumption) (by assumption)]; rfl)
              exact fin_pure (Res.two rfl (Rs.tmp rfl) (Rs.tmp rfl)) (((congrArg (fun z_ => PV.tup [(false, [dB z_]), (false, [dB true])]) e19)).trans (congrArg (fun z_ => PV.tup [(false, [dB ((pfV a b).1)]), (false, [dB z_])]) e20)) rfl
            · have _h := hb18
              refine AL.guard_yes rfl rfl rfl (Does.move rfl rfl) ?_
              refine AL.guard_yes rfl rfl rfl (Does.pickF (Evl.tmp rfl) (Ev.tmp rfl) rfl) ?_
              refine AL.cons rfl (Does.pickT (Evl.tmp rfl) (Ev.tmp rfl) rfl) ?_
              refine AL.cons rfl (Does.assign rfl rfl) ?_
              refine AL.cons rfl (Does.assignC Evl.bool rfl) ?_
              refine AL.nil ?_
              refine (?_ : AC _ _ _ _ _)
              refine AC.ret ?_
              subst hO
              have e21 : ((frV a).2.1 : Bool) = (pfV a b).1 := by
                first | (rw [pfI_no1 (by assumption)]; done) | (rw [pfI_no1 (by assumption)]; rfl) | (rw [pfI_no2 (by assumption)]; done) | (rw [pfI_no2 (by assumption)]; rfl) | (rw [pfI_no3 (by assumption)]; done) | (rw [pfI_no3 (by assumption)]; rfl) | (rw [pfI_no4 (by assumption)]; done) | (rw [pfI_no4 (by assumption)]; rfl) | (rw [pfI_y1 (by assumption) (by assumption) (by assumption) (by assumption) (by assumption)]; done) | (rw [pfI_y1 (by assumption) (by assumption) (by assumption) (by assumption) (by assumption)]; rfl) | (rw [pfI_y2 (by assumption) (by assumption) (by assumption) (by assumption) (by assumption) (by assumption)]; done) | (rw [pfI_y2 (by assumption) (by assumption) (by assumption) (by assumption) (by assumption) (by assumption)]; rfl) | (rw [pfI_y3 (by assumption) (by assumption) (by assumption) (by assumption) (by assumption) (by assumption)]; done) | (rw [pfI_y3 (by assumption) (by assumption) (by assumption) (by assumption) (by assumption) (by assumption)]; rfl)
              have e22 : (true : Bool) = (pfV a b).2 := by
                first | (rw [pfI_no1 (by assumption)]; done) | (rw [pfI_no1 (by assumption)]; rfl) | (rw [pfI_no2 (by assumption)]; done) | (rw [pfI_no2 (by assumption)]; rfl) | (rw [pfI_no3 (by assumption)]; done) | (rw [pfI_no3 (by assumption)]; rfl) | (rw [pfI_no4 (by assumption)]; done) | (rw [pfI_no4 (by assumption)]; rfl) | (rw [pfI_y1 (by assumption) (by assumption) (by assumption) (by assumption) (by assumption)]; done) | (rw [pfI_y1 (by assumption) (by assumption) (by assumption) (by assumption) (by assumption)]; rfl) | (rw [pfI_y2 (by assumption) (by assumption) (by assumption) (by assumption) (by assumption) (by assumption)]; done) | (rw [pfI_y2 (by assumption) (by assumption) (by assumption) (by assumption) (by assumption) (by assumption)]; rfl) | (rw [pfI_y3 (by assumption) (by assumption) (by assumption) (by assumption) (by assumption) (by assumption)]; done) | (rw [pfI_y3 (by assumption) (by assumption) (by assumption) (by assumption) (by assumption) (by assumption)]; rfl)
              exact fin_pure (Res.two rfl (Rs.tmp rfl) (Rs.tmp rfl)) (((congrArg (fun z_ => PV.tup [(false, [dB z_]), (false, [dB true])]) e21)).trans (congrArg (fun z_ => PV.tup [(false, [dB ((pfV a b).1)]), (false, [dB z_])]) e22)) rfl

set_option maxRecDepth 100000 in
set_option maxHeartbeats 4000000 in
theorem fc_spec_PreservesFirings (a : (Int × (List (List Int × List Int))) × (List (ByteArray × Int)) × (List (Int × Bool)) × ByteArray) (b : (Int × (List (List Int × List Int))) × (List (ByteArray × Int)) × (List (Int × Bool)) × ByteArray) [∀ s, Decidable (StgOk s)]  : FC Try.prog 40 [(true, [dI a.1.1, .dat (.sl 146 (.pr (.sl 3 .int) (.sl 3 .int))) a.1.2, .dat (.sl 129 (.pr .str .int)) a.2.1, .dat (.sl 131 (.pr .int .bool)) a.2.2.1, dS a.2.2.2]), (true, [dI b.1.1, .dat (.sl 146 (.pr (.sl 3 .int) (.sl 3 .int))) b.1.2, .dat (.sl 129 (.pr .str .int)) b.2.1, .dat (.sl 131 (.pr .int .bool)) b.2.2.1, dS b.2.2.2])] [] 0 (Pure (PV.tup [(false, [dB ((pfV a b).1)]), (false, [dB ((pfV a b).2)])])) := by
  obtain ⟨O_, hO⟩ : ∃ x : PV → Tab → Prop, x = Pure (PV.tup [(false, [dB ((pfV a b).1)]), (false, [dB ((pfV a b).2)])]) := ⟨_, rfl⟩
  refine FC.O_of hO (FC.ren (FC.of Try.func40 rfl rfl fun A_ hn_ hk_ => ?_))
  obtain ⟨w0_, N0_, X_, n_, k0_, h0_, f0_⟩ := A_
  obtain rfl : n_ = 54 := hn_.trans Try.ntmps40
  obtain rfl : k0_ = 0 := hk_
  refine AC.fact (fact_ag (x := .tmp 0) (i := 0) (Ev.tmp rfl) rfl) fun hi1 => ?_
  refine AC.fact (fact_ag (x := .tmp 1) (i := 0) (Ev.tmp rfl) rfl) fun hi2 => ?_
  refine AC.seq ?_
  refine AC.region ?_
  refine AL.cons rfl (Does.box 0 (Ev.tmp rfl) rfl rfl (Fresh.of rfl) (Nat.le_of_ble_eq_true rfl)) ?_
  refine AL.cons rfl (Does.box 1 (Ev.tmp rfl) rfl rfl (Fresh.of rfl) (Nat.le_of_ble_eq_true rfl)) ?_
  refine AL.cons rfl (Does.assignC Evl.bool rfl) ?_
  refine AL.cons rfl (Does.assignC Evl.bool rfl) ?_
  refine AL.nil ?_
  refine (?_ : AC _ _ _ _ _)
  refine AC.seq ?_
  refine AC.seq ?_
  refine AC.region ?_
  refine AL.cons rfl (Does.loadPA (Evl.tmp rfl) rfl tsh_50 rfl rfl) ?_
  refine AL.cons rfl (Does.call (fc_spec_l26Coded a) enters_85 ⟨_, _, rfl, (Ev.tmp rfl), rfl⟩ rfl rfl) ?_
  refine AL.cons rfl (Does.not (Evl.tmp rfl) rfl) ?_
  refine AL.cons rfl (Does.move rfl rfl) ?_
  cases hb3 : ((sgV a).2)
  · have _h := hb3
    refine AL.guard_no (b := false) rfl rfl rfl ?_ rfl
    refine AL.guard_no (b := false) rfl rfl rfl ?_ rfl
    refine AL.guard_no (b := false) rfl rfl rfl ?_ rfl
    refine AL.cons rfl (Does.pickT (Evl.tmp rfl) (Evl.ev Evl.bool) rfl) ?_
    refine AL.cons rfl (Does.move rfl rfl) ?_
    refine AL.guard_no (b := false) rfl rfl rfl ?_ rfl
    refine AL.guard_no (b := false) rfl rfl rfl ?_ rfl
    refine AL.guard_no (b := false) rfl rfl rfl ?_ rfl
    refine AL.guard_no (b := false) rfl rfl rfl ?_ rfl
    refine AL.guard_no (b := false) rfl rfl rfl ?_ rfl
    refine AL.guard_no (b := false) rfl rfl rfl ?_ rfl
    refine AL.cons rfl (Does.pickT (Evl.tmp rfl) (Evl.ev Evl.bool) rfl) ?_
    refine AL.cons rfl (Does.move rfl rfl) ?_
    refine AL.guard_no (b := false) rfl rfl rfl ?_ rfl
    refine AL.guard_no (b := false) rfl rfl rfl ?_ rfl
    refine AL.guard_no (b := false) rfl rfl rfl ?_ rfl
    refine AL.guard_no (b := false) rfl rfl rfl ?_ rfl
    refine AL.guard_no (b := false) rfl rfl rfl ?_ rfl
    refine AL.guard_no (b := false) rfl rfl rfl ?_ rfl
    refine AL.cons rfl (Does.pickT (Evl.tmp rfl) (Evl.ev Evl.bool) rfl) ?_
    refine AL.nil ?_
    refine (?_ : AC _ _ _ _ _)
    refine AC.condT (Evl.tmp rfl) ?_
    refine AC.seq ?_
    refine AC.region ?_
    refine AL.cons rfl (Does.assignC Evl.bool rfl) ?_
    refine AL.cons rfl (Does.assignC Evl.bool rfl) ?_
    refine AL.nil ?_
    refine (?_ : AC _ _ _ _ _)
    refine AC.ret ?_
    subst hO
    have e4 : (false : Bool) = (pfV a b).1 := by
      first | (rw [pfV_no1 (by assumption)]; done) | (rw [pfV_no1 (by assumption)]; rfl) | (rw [pfV_no2 (by assumption)]; done) | (rw [pfV_no2 (by assumption)]; rfl) | (rw [pfI_no3 (by assumption)]; done) | (rw [pfI_no3 (by assumption)]; rfl) | (rw [pfI_no4 (by assumption)]; done) | (rw [pfI_no4 (by assumption)]; rfl) | (rw [pfV_y1 (by assumption) (by assumption) (by assumption) (by assumption) (by assumption)]; done) | (rw [pfV_y1 (by assumption) (by assumption) (by assumption) (by assumption) (by assumption)]; rfl) | (rw [pfV_y2 (by assumption) (by assumption) (by assumption) (by assumption) (by assumption) (by assumption)]; done) | (rw [pfV_y2 (by assumption) (by assumption) (by assumption) (by assumption) (by assumption) (by assumption)]; rfl) | (rw [pfV_y3 (by assumption) (by assumption) (by assumption) (by assumption) (by assumption) (by assumption)]; done) | (rw [pfV_y3 (by assumption) (by assumption) (by assumption) (by assumption) (by assumption) (by assumption)]; rfl)
    have e5 : (false : Bool) = (pfV a b).2 := by
      first | (rw [pfV_no1 (by assumption)]; done) | (rw [pfV_no1 (by assumption)]; rfl) | (rw [pfV_no2 (by assumption)]; done) | (rw [pfV_no2 (by assumption)]; rfl) | (rw [pfI_no3 (by assumption)]; done) | (rw [pfI_no3 (by assumption)]; rfl) | (rw [pfI_no4 (by assumption)]; done) | (rw [pfI_no4 (by assumption)]; rfl) | (rw [pfV_y1 (by assumption) (by assumption) (by assumption) (by assumption) (by assumption)]; done) | (rw [pfV_y1 (by assumption) (by assumption) (by assumption) (by assumption) (by assumption)]; rfl) | (rw [pfV_y2 (by assumption) (by assumption) (by assumption) (by assumption) (by assumption) (by assumption)]; done) | (rw [pfV_y2 (by assumption) (by assumption) (by assumption) (by assumption) (by assumption) (by assumption)]; rfl) | (rw [pfV_y3 (by assumption) (by assumption) (by assumption) (by assumption) (by assumption) (by assumption)]; done) | (rw [pfV_y3 (by assumption) (by assumption) (by assumption) (by assumption) (by assumption) (by assumption)]; rfl)
    exact fin_pure (Res.two rfl (Rs.tmp rfl) (Rs.tmp rfl)) (((congrArg (fun z_ => PV.tup [(false, [dB z_]), (false, [dB false])]) e4)).trans (congrArg (fun z_ => PV.tup [(false, [dB ((pfV a b).1)]), (false, [dB z_])]) e5)) rfl
  · have _h := hb3
    refine AL.guard_yes rfl rfl rfl (Does.loadPA (Evl.tmp rfl) rfl tsh_50 rfl rfl) ?_
    refine AL.guard_yes rfl rfl rfl (Does.call (fc_spec_l26Coded b) enters_85 ⟨_, _, rfl, (Ev.tmp rfl), rfl⟩ rfl rfl) ?_
    refine AL.guard_yes rfl rfl rfl (Does.not (Evl.tmp rfl) rfl) ?_
    refine AL.cons rfl (Does.pickF (Evl.tmp rfl) (Ev.tmp rfl) rfl) ?_
    refine AL.cons rfl (Does.move rfl rfl) ?_
    cases hb6 : ((sgV b).2)
    · have _h := hb6
      refine AL.guard_no (b := false) rfl rfl rfl ?_ rfl
      refine AL.guard_no (b := false) rfl rfl rfl ?_ rfl
      refine AL.guard_no (b := false) rfl rfl rfl ?_ rfl
      refine AL.guard_no (b := false) rfl rfl rfl ?_ rfl
      refine AL.guard_no (b := false) rfl rfl rfl ?_ rfl
      refine AL.guard_no (b := false) rfl rfl rfl ?_ rfl
      refine AL.cons rfl (Does.pickT (Evl.tmp rfl) (Evl.ev Evl.bool) rfl) ?_
      refine AL.cons rfl (Does.move rfl rfl) ?_
      refine AL.guard_no (b := false) rfl rfl rfl ?_ rfl
      refine AL.guard_no (b := false) rfl rfl rfl ?_ rfl
      refine AL.guard_no (b := false) rfl rfl rfl ?_ rfl
      refine AL.guard_no (b := false) rfl rfl rfl ?_ rfl
      refine AL.guard_no (b := false) rfl rfl rfl ?_ rfl
      refine AL.guard_no (b := false) rfl rfl rfl ?_ rfl
      refine AL.cons rfl (Does.pickT (Evl.tmp rfl) (Evl.ev Evl.bool) rfl) ?_
      refine AL.nil ?_
      refine (?_ : AC _ _ _ _ _)
      refine AC.condT (Evl.tmp rfl) ?_
      refine AC.seq ?_
      refine AC.region ?_
      refine AL.cons rfl (Does.assignC Evl.bool rfl) ?_
      refine AL.cons rfl (Does.assignC Evl.bool rfl) ?_
      refine AL.nil ?_
      refine (?_ : AC _ _ _ _ _)
      refine AC.ret ?_
      subst hO
      have e7 : (false : Bool) = (pfV a b).1 := by
        first | (rw [pfV_no1 (by assumption)]; done) | (rw [pfV_no1 (by assumption)]; rfl) | (rw [pfV_no2 (by assumption)]; done) | (rw [pfV_no2 (by assumption)]; rfl) | (rw [pfI_no3 (by assumption)]; done) | (rw [pfI_no3 (by assumption)]; rfl) | (rw [pfI_no4 (by assumption)]; done) | (rw [pfI_no4 (by assumption)]; rfl) | (rw [pfV_y1 (by assumption) (by assumption) (by assumption) (by assumption) (by assumption)]; done) | (rw [pfV_y1 (by assumption) (by assumption) (by assumption) (by assumption) (by assumption)]; rfl) | (rw [pfV_y2 (by assumption) (by assumption) (by assumption) (by assumption) (by assumption) (by assumption)]; done) | (rw [pfV_y2 (by assumption) (by assumption) (by assumption) (by assumption) (by assumption) (by assumption)]; rfl) | (rw [pfV_y3 (by assumption) (by assumption) (by assumption) (by assumption) (by assumption) (by assumption)]; done) | (rw [pfV_y3 (by assumption) (by assumption) (by assumption) (by assumption) (by assumption) (by assumption)]; rfl)
      have e8 : (false : Bool) = (pfV a b).2 := by
        first | (rw [pfV_no1 (by assumption)]; done) | (rw [pfV_no1 (by assumption)]; rfl) | (rw [pfV_no2 (by assumption)]; done) | (rw [pfV_no2 (by assumption)]; rfl) | (rw [pfI_no3 (by assumption)]; done) | (rw [pfI_no3 (by assumption)]; rfl) | (rw [pfI_no4 (by assumption)]; done) | (rw [pfI_no4 (by assumption)]; rfl) | (rw [pfV_y1 (by assumption) (by assumption) (by assumption) (by assumption) (by assumption)]; done) | (rw [pfV_y1 (by assumption) (by assumption) (by assumption) (by assumption) (by assumption)]; rfl) | (rw [pfV_y2 (by assumption) (by assumption) (by assumption) (by assumption) (by assumption) (by assumption)]; done) | (rw [pfV_y2 (by assumption) (by assumption) (by assumption) (by assumption) (by assumption) (by assumption)]; rfl) | (rw [pfV_y3 (by assumption) (by assumption) (by assumption) (by assumption) (by assumption) (by assumption)]; done) | (rw [pfV_y3 (by assumption) (by assumption) (by assumption) (by assumption) (by assumption) (by assumption)]; rfl)
      exact fin_pure (Res.two rfl (Rs.tmp rfl) (Rs.tmp rfl)) (((congrArg (fun z_ => PV.tup [(false, [dB z_]), (false, [dB false])]) e7)).trans (congrArg (fun z_ => PV.tup [(false, [dB ((pfV a b).1)]), (false, [dB z_])]) e8)) rfl
    · have _h := hb6
      refine AL.guard_yes rfl rfl rfl (Does.fieldP (Evl.tmp rfl) fld_50_1 rfl rfl) ?_
      refine AL.guard_yes rfl rfl rfl (Does.loadP (Evl.tmp rfl) rfl tsh_29 rfl rfl) ?_
      refine AL.guard_yes rfl rfl rfl (Does.fieldP (Evl.tmp rfl) fld_50_1 rfl rfl) ?_
      refine AL.guard_yes rfl rfl rfl (Does.loadP (Evl.tmp rfl) rfl tsh_29 rfl rfl) ?_
      refine AL.guard_yes rfl rfl rfl (Does.call (fc_spec_l2SameSignals a.2.1 b.2.1) enters_86 ⟨_, _, rfl, (Ev.tmp rfl), ⟨_, _, rfl, (Ev.tmp rfl), rfl⟩⟩ rfl rfl) ?_
      refine AL.guard_yes rfl rfl rfl (Does.not (Evl.tmp rfl) rfl) ?_
      refine AL.cons rfl (Does.pickF (Evl.tmp rfl) (Ev.tmp rfl) rfl) ?_
      refine AL.cons rfl (Does.move rfl rfl) ?_
      cases hb9 : (decide (a.2.1 = b.2.1))
      · have _h := hb9
        have hb9' : ¬ (a.2.1 = b.2.1) := of_decide_eq_false hb9
        refine AL.guard_no (b := false) rfl rfl rfl ?_ rfl
        refine AL.guard_no (b := false) rfl rfl rfl ?_ rfl
        refine AL.guard_no (b := false) rfl rfl rfl ?_ rfl
        refine AL.guard_no (b := false) rfl rfl rfl ?_ rfl
        refine AL.guard_no (b := false) rfl rfl rfl ?_ rfl
        refine AL.guard_no (b := false) rfl rfl rfl ?_ rfl
        refine AL.cons rfl (Does.pickT (Evl.tmp rfl) (Evl.ev Evl.bool) rfl) ?_
        refine AL.nil ?_
        refine (?_ : AC _ _ _ _ _)
        refine AC.condT (Evl.tmp rfl) ?_
        refine AC.seq ?_
        refine AC.region ?_
        refine AL.cons rfl (Does.assignC Evl.bool rfl) ?_
        refine AL.cons rfl (Does.assignC Evl.bool rfl) ?_
        refine AL.nil ?_
        refine (?_ : AC _ _ _ _ _)
        refine AC.ret ?_
        subst hO
        have e10 : (false : Bool) = (pfV a b).1 := by
          first | (rw [pfV_no1 (by assumption)]; done) | (rw [pfV_no1 (by assumption)]; rfl) | (rw [pfV_no2 (by assumption)]; done) | (rw [pfV_no2 (by assumption)]; rfl) | (rw [pfI_no3 (by assumption)]; done) | (rw [pfI_no3 (by assumption)]; rfl) | (rw [pfI_no4 (by assumption)]; done) | (rw [pfI_no4 (by assumption)]; rfl) | (rw [pfV_y1 (by assumption) (by assumption) (by assumption) (by assumption) (by assumption)]; done) | (rw [pfV_y1 (by assumption) (by assumption) (by assumption) (by assumption) (by assumption)]; rfl) | (rw [pfV_y2 (by assumption) (by assumption) (by assumption) (by assumption) (by assumption) (by assumption)]; done) | (rw [pfV_y2 (by assumption) (by assumption) (by assumption) (by assumption) (by assumption) (by assumption)]; rfl) | (rw [pfV_y3 (by assumption) (by assumption) (by assumption) (by assumption) (by assumption) (by assumption)]; done) | (rw [pfV_y3 (by assumption) (by assumption) (by assumption) (by assumption) (by assumption) (by assumption)]; rfl)
        have e11 : (false : Bool) = (pfV a b).2 := by
          first | (rw [pfV_no1 (by assumption)]; done) | (rw [pfV_no1 (by assumption)]; rfl) | (rw [pfV_no2 (by assumption)]; done) | (rw [pfV_no2 (by assumption)]; rfl) | (rw [pfI_no3 (by assumption)]; done) | (rw [pfI_no3 (by assumption)]; rfl) | (rw [pfI_no4 (by assumption)]; done) | (rw [pfI_no4 (by assumption)]; rfl) | (rw [pfV_y1 (by assumption) (by assumption) (by assumption) (by assumption) (by assumption)]; done) | (rw [pfV_y1 (by assumption) (by assumption) (by assumption) (by assumption) (by assumption)]; rfl) | (rw [pfV_y2 (by assumption) (by assumption) (by assumption) (by assumption) (by assumption) (by assumption)]; done) | (rw [pfV_y2 (by assumption) (by assumption) (by assumption) (by assumption) (by assumption) (by assumption)]; rfl) | (rw [pfV_y3 (by assumption) (by assumption) (by assumption) (by assumption) (by assumption) (by assumption)]; done) | (rw [pfV_y3 (by assumption) (by assumption) (by assumption) (by assumption) (by assumption) (by assumption)]; rfl)
        exact fin_pure (Res.two rfl (Rs.tmp rfl) (Rs.tmp rfl)) (((congrArg (fun z_ => PV.tup [(false, [dB z_]), (false, [dB false])]) e10)).trans (congrArg (fun z_ => PV.tup [(false, [dB ((pfV a b).1)]), (false, [dB z_])]) e11)) rfl
      · have _h := hb9
        have hb9' : (a.2.1 = b.2.1) := of_decide_eq_true hb9
        refine AL.guard_yes rfl rfl rfl (Does.fieldP (Evl.tmp rfl) fld_50_2 rfl rfl) ?_
        refine AL.guard_yes rfl rfl rfl (Does.loadP (Evl.tmp rfl) rfl tsh_48 rfl rfl) ?_
        refine AL.guard_yes rfl rfl rfl (Does.fieldP (Evl.tmp rfl) fld_50_2 rfl rfl) ?_
        refine AL.guard_yes rfl rfl rfl (Does.loadP (Evl.tmp rfl) rfl tsh_48 rfl rfl) ?_
        refine AL.guard_yes rfl rfl rfl (Does.call (fc_spec_l26SameLabels a.2.2.1 b.2.2.1) enters_87 ⟨_, _, rfl, (Ev.tmp rfl), ⟨_, _, rfl, (Ev.tmp rfl), rfl⟩⟩ rfl rfl) ?_
        refine AL.guard_yes rfl rfl rfl (Does.not (Evl.tmp rfl) rfl) ?_
        refine AL.cons rfl (Does.pickF (Evl.tmp rfl) (Ev.tmp rfl) rfl) ?_
        refine AL.nil ?_
        refine (?_ : AC _ _ _ _ _)
        cases hb12 : (decide (a.2.2.1 = b.2.2.1))
        · have _h := hb12
          have hb12' : ¬ (a.2.2.1 = b.2.2.1) := of_decide_eq_false hb12
          refine AC.condT (Evl.tmp rfl) ?_
          refine AC.seq ?_
          refine AC.region ?_
          refine AL.cons rfl (Does.assignC Evl.bool rfl) ?_
          refine AL.cons rfl (Does.assignC Evl.bool rfl) ?_
          refine AL.nil ?_
          refine (?_ : AC _ _ _ _ _)
          refine AC.ret ?_
          subst hO
          have e13 : (false : Bool) = (pfV a b).1 := by
            first | (rw [pfV_no1 (by assumption)]; done) | (rw [pfV_no1 (by assumption)]; rfl) | (rw [pfV_no2 (by assumption)]; done) | (rw [pfV_no2 (by assumption)]; rfl) | (rw [pfI_no3 (by assumption)]; done) | (rw [pfI_no3 (by assumption)]; rfl) | (rw [pfI_no4 (by assumption)]; done) | (rw [pfI_no4 (by assumption)]; rfl) | (rw [pfV_y1 (by assumption) (by assumption) (by assumption) (by assumption) (by assumption)]; done) | (rw [pfV_y1 (by assumption) (by assumption) (by assumption) (by assumption) (by assumption)]; rfl) | (rw [pfV_y2 (by assumption) (by assumption) (by assumption) (by assumption) (by assumption) (by assumption)]; done) | (rw [pfV_y2 (by assumption) (by assumption) (by assumption) (by assumption) (by assumption) (by assumption)]; rfl) | (rw [pfV_y3 (by assumption) (by assumption) (by assumption) (by assumption) (by assumption) (by assumption)]; done) | (rw [pfV_y3 (by assumption) (by assumption) (by assumption) (by assumption) (by assumption) (by assumption)]; rfl)
          have e14 : (false : Bool) = (pfV a b).2 := by
            first | (rw [pfV_no1 (by assumption)]; done) | (rw [pfV_no1 (by assumption)]; rfl) | (rw [pfV_no2 (by assumption)]; done) | (rw [pfV_no2 (by assumption)]; rfl) | (rw [pfI_no3 (by assumption)]; done) | (rw [pfI_no3 (by assumption)]; rfl) | (rw [pfI_no4 (by assumption)]; done) | (rw [pfI_no4 (by assumption)]; rfl) | (rw [pfV_y1 (by assumption) (by assumption) (by assumption) (by assumption) (by assumption)]; done) | (rw [pfV_y1 (by assumption) (by assumption) (by assumption) (by assumption) (by assumption)]; rfl) | (rw [pfV_y2 (by assumption) (by assumption) (by assumption) (by assumption) (by assumption) (by assumption)]; done) | (rw [pfV_y2 (by assumption) (by assumption) (by assumption) (by assumption) (by assumption) (by assumption)]; rfl) | (rw [pfV_y3 (by assumption) (by assumption) (by assumption) (by assumption) (by assumption) (by assumption)]; done) | (rw [pfV_y3 (by assumption) (by assumption) (by assumption) (by assumption) (by assumption) (by assumption)]; rfl)
          exact fin_pure (Res.two rfl (Rs.tmp rfl) (Rs.tmp rfl)) (((congrArg (fun z_ => PV.tup [(false, [dB z_]), (false, [dB false])]) e13)).trans (congrArg (fun z_ => PV.tup [(false, [dB ((pfV a b).1)]), (false, [dB z_])]) e14)) rfl
        · have _h := hb12
          have hb12' : (a.2.2.1 = b.2.2.1) := of_decide_eq_true hb12
          refine AC.condF (Evl.tmp rfl) ?_
          refine AC.skip ?_
          refine (?_ : AC _ _ _ _ _)
          refine AC.seq ?_
          refine AC.region ?_
          refine AL.cons rfl (Does.loadPA (Evl.tmp rfl) rfl tsh_50 rfl rfl) ?_
          refine AL.cons rfl (Does.callG 2 (fc_spec_l26Never a) enters_88 ⟨_, _, rfl, (Ev.tmp rfl), rfl⟩ rfl rfl ⟨Fresh.of rfl, trivial⟩ (Nat.le_of_ble_eq_true rfl)) ?_
          refine AL.cons rfl (Does.move rfl rfl) ?_
          refine AL.cons rfl (Does.extract rfl rfl rfl) ?_
          refine AL.cons rfl (Does.extract rfl rfl rfl) ?_
          refine AL.cons rfl (Does.assign rfl rfl) ?_
          refine AL.cons rfl (Does.assign rfl rfl) ?_
          refine AL.nil ?_
          refine (?_ : AC _ _ _ _ _)
          refine AC.seq ?_
          refine AC.region ?_
          refine AL.cons rfl (Does.loadPA (Evl.tmp rfl) rfl tsh_50 rfl rfl) ?_
          refine AL.cons rfl (Does.callG 3 (fc_spec_l26Never b) enters_88 ⟨_, _, rfl, (Ev.tmp rfl), rfl⟩ rfl rfl ⟨Fresh.of rfl, trivial⟩ (Nat.le_of_ble_eq_true rfl)) ?_
          refine AL.cons rfl (Does.move rfl rfl) ?_
          refine AL.cons rfl (Does.extract rfl rfl rfl) ?_
          refine AL.cons rfl (Does.extract rfl rfl rfl) ?_
          refine AL.cons rfl (Does.assign rfl rfl) ?_
          refine AL.cons rfl (Does.assign rfl rfl) ?_
          refine AL.nil ?_
          refine (?_ : AC _ _ _ _ _)
          refine AC.seq ?_
          refine AC.region ?_
          refine AL.cons rfl (Does.move rfl rfl) ?_
          refine AL.cons rfl (Does.move rfl rfl) ?_
          refine AL.cons rfl (Does.callB (fc_spec_l1Same (deadX a) (deadX b)) enters_89 ⟨_, _, rfl, (Evl.ob (Evl.tmp rfl) rfl), ⟨_, _, rfl, (Evl.ob (Evl.tmp rfl) rfl), rfl⟩⟩ rfl rfl rfl) ?_
          refine AL.cons rfl (Does.move rfl rfl) ?_
          cases hb15 : (decide ((deadX a) = (deadX b)))
          · have _h := hb15
            have hb15' : ¬ ((deadX a) = (deadX b)) := of_decide_eq_false hb15
            refine AL.guard_no (b := true) rfl rfl rfl ?_ rfl
            refine AL.guard_no (b := true) rfl rfl rfl ?_ rfl
            refine AL.guard_un rfl rfl rfl ?_ rfl
            refine AL.guard_un rfl rfl rfl ?_ rfl
            refine AL.guard_no (b := true) rfl rfl rfl ?_ rfl
            refine AL.cons rfl (Does.pickF (Evl.tmp rfl) (Evl.ev Evl.bool) rfl) ?_
            refine AL.cons rfl (Does.assign rfl rfl) ?_
            refine AL.cons rfl (Does.assignC Evl.bool rfl) ?_
            refine AL.nil ?_
            refine (?_ : AC _ _ _ _ _)
            refine AC.ret ?_
            subst hO
            have e16 : (false : Bool) = (pfV a b).1 := by
              first | (rw [pfV_no1 (by assumption)]; done) | (rw [pfV_no1 (by assumption)]; rfl) | (rw [pfV_no2 (by assumption)]; done) | (rw [pfV_no2 (by assumption)]; rfl) | (rw [pfI_no3 (by assumption)]; done) | (rw [pfI_no3 (by assumption)]; rfl) | (rw [pfI_no4 (by assumption)]; done) | (rw [pfI_no4 (by assumption)]; rfl) | (rw [pfV_y1 (by assumption) (by assumption) (by assumption) (by assumption) (by assumption)]; done) | (rw [pfV_y1 (by assumption) (by assumption) (by assumption) (by assumption) (by assumption)]; rfl) | (rw [pfV_y2 (by assumption) (by assumption) (by assumption) (by assumption) (by assumption) (by assumption)]; done) | (rw [pfV_y2 (by assumption) (by assumption) (by assumption) (by assumption) (by assumption) (by assumption)]; rfl) | (rw [pfV_y3 (by assumption) (by assumption) (by assumption) (by assumption) (by assumption) (by assumption)]; done) | (rw [pfV_y3 (by assumption) (by assumption) (by assumption) (by assumption) (by assumption) (by assumption)]; rfl)
            have e17 : (true : Bool) = (pfV a b).2 := by
              first | (rw [pfV_no1 (by assumption)]; done) | (rw [pfV_no1 (by assumption)]; rfl) | (rw [pfV_no2 (by assumption)]; done) | (rw [pfV_no2 (by assumption)]; rfl) | (rw [pfI_no3 (by assumption)]; done) | (rw [pfI_no3 (by assumption)]; rfl) | (rw [pfI_no4 (by assumption)]; done) | (rw [pfI_no4 (by assumption)]; rfl) | (rw [pfV_y1 (by assumption) (by assumption) (by assumption) (by assumption) (by assumption)]; done) | (rw [pfV_y1 (by assumption) (by assumption) (by assumption) (by assumption) (by assumption)]; rfl) | (rw [pfV_y2 (by assumption) (by assumption) (by assumption) (by assumption) (by assumption) (by assumption)]; done) | (rw [pfV_y2 (by assumption) (by assumption) (by assumption) (by assumption) (by assumption) (by assumption)]; rfl) | (rw [pfV_y3 (by assumption) (by assumption) (by assumption) (by assumption) (by assumption) (by assumption)]; done) | (rw [pfV_y3 (by assumption) (by assumption) (by assumption) (by assumption) (by assumption) (by assumption)]; rfl)
            exact fin_pure (Res.two rfl (Rs.tmp rfl) (Rs.tmp rfl)) (((congrArg (fun z_ => PV.tup [(false, [dB z_]), (false, [dB true])]) e16)).trans (congrArg (fun z_ => PV.tup [(false, [dB ((pfV a b).1)]), (false, [dB z_])]) e17)) rfl
          · have _h := hb15
            have hb15' : ((deadX a) = (deadX b)) := of_decide_eq_true hb15
            refine AL.guard_yes rfl rfl rfl (Does.move rfl rfl) ?_
            refine AL.guard_yes rfl rfl rfl (Does.move rfl rfl) ?_
            cases hb18 : (endsX a)
            · have _h := hb18
              refine AL.guard_yes rfl rfl rfl (Does.move rfl rfl) ?_
              refine AL.guard_yes rfl rfl rfl (Does.not (Evl.tmp rfl) rfl) ?_
              refine AL.guard_yes rfl rfl rfl (Does.pickF (Evl.tmp rfl) (Ev.tmp rfl) rfl) ?_
              refine AL.cons rfl (Does.pickT (Evl.tmp rfl) (Ev.tmp rfl) rfl) ?_
              refine AL.cons rfl (Does.assign rfl rfl) ?_
              refine AL.cons rfl (Does.assignC Evl.bool rfl) ?_
              refine AL.nil ?_
              refine (?_ : AC _ _ _ _ _)
              refine AC.ret ?_
              subst hO
              have e19 : (!(endsX b) : Bool) = (pfV a b).1 := by
                first | (rw [pfV_no1 (by assumption)]; done) | (rw [pfV_no1 (by assumption)]; rfl) | (rw [pfV_no2 (by assumption)]; done) | (rw [pfV_no2 (by assumption)]; rfl) | (rw [pfI_no3 (by assumption)]; done) | (rw [pfI_no3 (by assumption)]; rfl) | (rw [pfI_no4 (by assumption)]; done) | (rw [pfI_no4 (by assumption)]; rfl) | (rw [pfV_y1 (by assumption) (by assumption) (by assumption) (by assumption) (by assumption)]; done) | (rw [pfV_y1 (by assumption) (by assumption) (by assumption) (by assumption) (by assumption)]; rfl) | (rw [pfV_y2 (by assumption) (by assumption) (by assumption) (by assumption) (by assumption) (by assumption)]; done) | (rw [pfV_y2 (by assumption) (by assumption) (by assumption) (by assumption) (by assumption) (by assumption)]; rfl) | (rw [pfV_y3 (by assumption) (by assumption) (by assumption) (by assumption) (by assumption) (by assumption)]; done) | (rw [pfV_y3 (by assumption) (by assumption) (by assumption) (by assumption) (by assumption) (by assumption)]; rfl)
              have e20 : (true : Bool) = (pfV a b).2 := by
                first | (rw [pfV_no1 (by assumption)]; done) | (rw [pfV_no1 (by assumption)]; rfl) | (rw [pfV_no2 (by assumption)]; done) | (rw [pfV_no2 (by assumption)]; rfl) | (rw [pfI_no3 (by assumption)]; done) | (rw [pfI_no3 (by assumption)]; rfl) | (rw [pfI_no4 (by assumption)]; done) | (rw [pfI_no4 (by assumption)]; rfl) | (rw [pfV_y1 (by assumption) (by assumption) (by assumption) (by assumption) (by assumption)]; done) | (rw [pfV_y1 (by assumption) (by assumption) (by assumption) (by assumption) (by assumption)]; rfl) | (rw [pfV_y2 (by assumption) (by assumption) (by assumption) (by assumption) (by assumption) (by assumption)]; done) | (rw [pfV_y2 (by assumption) (by assumption) (by assumption) (by assumption) (by assumption) (by assumption)]; rfl) | (rw [pfV_y3 (by assumption) (by assumption) (by assumption) (by assumption) (by assumption) (by assumption)]; done) | (rw [pfV_y3 (by assumption) (by assumption) (by assumption) (by assumption) (by assumption) (by assumption)]; rfl)
              exact fin_pure (Res.two rfl (Rs.tmp rfl) (Rs.tmp rfl)) (((congrArg (fun z_ => PV.tup [(false, [dB z_]), (false, [dB true])]) e19)).trans (congrArg (fun z_ => PV.tup [(false, [dB ((pfV a b).1)]), (false, [dB z_])]) e20)) rfl
            · have _h := hb18
              refine AL.guard_no (b := false) rfl rfl rfl ?_ rfl
              refine AL.guard_no (b := false) rfl rfl rfl ?_ rfl
              refine AL.guard_yes rfl rfl rfl (Does.pickT (Evl.tmp rfl) (Evl.ev Evl.bool) rfl) ?_
              refine AL.cons rfl (Does.pickT (Evl.tmp rfl) (Ev.tmp rfl) rfl) ?_
              refine AL.cons rfl (Does.assign rfl rfl) ?_
              refine AL.cons rfl (Does.assignC Evl.bool rfl) ?_
              refine AL.nil ?_
              refine (?_ : AC _ _ _ _ _)
              refine AC.ret ?_
              subst hO
              have e21 : (true : Bool) = (pfV a b).1 := by
                first | (rw [pfV_no1 (by assumption)]; done) | (rw [pfV_no1 (by assumption)]; rfl) | (rw [pfV_no2 (by assumption)]; done) | (rw [pfV_no2 (by assumption)]; rfl) | (rw [pfI_no3 (by assumption)]; done) | (rw [pfI_no3 (by assumption)]; rfl) | (rw [pfI_no4 (by assumption)]; done) | (rw [pfI_no4 (by assumption)]; rfl) | (rw [pfV_y1 (by assumption) (by assumption) (by assumption) (by assumption) (by assumption)]; done) | (rw [pfV_y1 (by assumption) (by assumption) (by assumption) (by assumption) (by assumption)]; rfl) | (rw [pfV_y2 (by assumption) (by assumption) (by assumption) (by assumption) (by assumption) (by assumption)]; done) | (rw [pfV_y2 (by assumption) (by assumption) (by assumption) (by assumption) (by assumption) (by assumption)]; rfl) | (rw [pfV_y3 (by assumption) (by assumption) (by assumption) (by assumption) (by assumption) (by assumption)]; done) | (rw [pfV_y3 (by assumption) (by assumption) (by assumption) (by assumption) (by assumption) (by assumption)]; rfl)
              have e22 : (true : Bool) = (pfV a b).2 := by
                first | (rw [pfV_no1 (by assumption)]; done) | (rw [pfV_no1 (by assumption)]; rfl) | (rw [pfV_no2 (by assumption)]; done) | (rw [pfV_no2 (by assumption)]; rfl) | (rw [pfI_no3 (by assumption)]; done) | (rw [pfI_no3 (by assumption)]; rfl) | (rw [pfI_no4 (by assumption)]; done) | (rw [pfI_no4 (by assumption)]; rfl) | (rw [pfV_y1 (by assumption) (by assumption) (by assumption) (by assumption) (by assumption)]; done) | (rw [pfV_y1 (by assumption) (by assumption) (by assumption) (by assumption) (by assumption)]; rfl) | (rw [pfV_y2 (by assumption) (by assumption) (by assumption) (by assumption) (by assumption) (by assumption)]; done) | (rw [pfV_y2 (by assumption) (by assumption) (by assumption) (by assumption) (by assumption) (by assumption)]; rfl) | (rw [pfV_y3 (by assumption) (by assumption) (by assumption) (by assumption) (by assumption) (by assumption)]; done) | (rw [pfV_y3 (by assumption) (by assumption) (by assumption) (by assumption) (by assumption) (by assumption)]; rfl)
              exact fin_pure (Res.two rfl (Rs.tmp rfl) (Rs.tmp rfl)) (((congrArg (fun z_ => PV.tup [(false, [dB z_]), (false, [dB true])]) e21)).trans (congrArg (fun z_ => PV.tup [(false, [dB ((pfV a b).1)]), (false, [dB z_])]) e22)) rfl

end Go.Proofs.Ytbelopdphlllnaa
