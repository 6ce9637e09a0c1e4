/- Walks over abstract states: valid state graphs, the program. -/
import Derived.Test.YtbelopdphlllnaaVa
set_option linter.unusedSimpArgs false
set_option linter.unusedVariables false
namespace Go.Proofs.Ytbelopdphlllnaa
open Go.RowKit

section
variable {c : DSg} {a : DAr} {x y : ByteArray} {k : Nat}
theorem arcn1 (h : ¬ (0 ≤ a.1 ∧ a.1 ≤ (c.2.1.length : Int) - 1)) : ¬ ArcOk c a := fun g => h g.1
theorem arcn2 (h : ¬ (0 ≤ a.2.2.2 ∧ a.2.2.2 ≤ (c.2.1.length : Int) - 1)) : ¬ ArcOk c a := fun g => h g.2.1
theorem arcn3 (h : ¬ LabI (c.1.length : Int) (a.2.1, a.2.2.1)) : ¬ ArcOk c a := fun g => h g.2.2.1
theorem arcn4 (hx : c.2.1[a.1.toNat]? = some x) (hy : c.2.1[a.2.2.2.toNat]? = some y) (h : ¬ Fit a x y) : ¬ ArcOk c a := fun g => h (by have := g.2.2.2; rwa [code_get hx, code_get hy] at this)
theorem arc_ok (h1 : 0 ≤ a.1 ∧ a.1 ≤ (c.2.1.length : Int) - 1) (h2 : 0 ≤ a.2.2.2 ∧ a.2.2.2 ≤ (c.2.1.length : Int) - 1) (h3 : LabI (c.1.length : Int) (a.2.1, a.2.2.1)) (hx : c.2.1[a.1.toNat]? = some x) (hy : c.2.1[a.2.2.2.toNat]? = some y) (h : Fit a x y) : ArcOk c a :=
  ⟨h1, h2, h3, by rw [code_get hx, code_get hy]; exact h⟩
end

set_option maxRecDepth 100000 in
set_option maxHeartbeats 4000000 in
theorem fc_impl_IsValidStateGraph (c : (List (ByteArray × Int)) × List ByteArray × (List (Int × Int × Bool × Int))) [∀ c, Decidable (SgOk c)]  : FC Try.prog 136 [(true, [.dat (.sl 129 (.pr .str .int)) c.1, .dat (.sl 9 .str) c.2.1, .dat (.sl 170 (.pr .int (.pr .int (.pr .bool .int)))) c.2.2])] [] 0 (Pure (lf (dB (decide (SgOk c))))) := by
 classical
 refine FC.O_all fun O_ hO => FC.ren (FC.of Try.func136 rfl rfl fun A_ hn_ hk_ => ?_)
 obtain ⟨w0_, N0_, X_, n_, k0_, h0_, f0_⟩ := A_
 obtain rfl : n_ = 101 := hn_.trans Try.ntmps136
 obtain rfl : k0_ = 0 := hk_
 refine AC.sr ?_
 refine AL.cons rfl (Does.box 0 (Ev.tmp rfl) rfl rfl (Fresh.of rfl) (nlr rfl)) ?_
 refine AL.cons rfl (Does.assignC Evl.bool rfl) ?_
 refine AL.nilS ?_
 refine AC.seq ?_
 refine AC.sr ?_
 refine AL.cons rfl (Does.fieldP (Evl.tmp rfl) fld_77_0 rfl rfl) ?_
 refine AL.cons rfl (Does.loadP (Evl.tmp rfl) rfl tsh_29 rfl rfl) ?_
 refine AL.cons rfl (Does.call (fc_impl_areSignals c.1) enters_109 ⟨_, _, rfl, (Ev.tmp rfl), rfl⟩ rfl rfl) ?_
 refine AL.cons rfl (Does.not (Evl.tmp rfl) rfl) ?_
 refine AL.cons rfl (Does.move rfl rfl) ?_
 cases hb1 : (decide (SigsOk c.1))
 ·have _h := hb1
  have hb1' : ¬ (SigsOk c.1) := of_decide_eq_false hb1
  refine AL.guard_no (b := false) rfl rfl rfl ?_ rfl
  refine AL.guard_no (b := false) rfl rfl rfl ?_ rfl
  refine AL.guard_no (b := false) rfl rfl rfl ?_ rfl
  refine AL.guard_no (b := false) rfl rfl rfl ?_ rfl
  refine AL.guard_no (b := false) rfl rfl rfl ?_ rfl
  refine AL.cons rfl (Does.pickT (Evl.tmp rfl) (Evl.ev Evl.bool) rfl) ?_
  refine AL.cons rfl (Does.move rfl rfl) ?_
  refine AL.guard_no (b := false) rfl rfl rfl ?_ rfl
  refine AL.guard_no (b := false) rfl rfl rfl ?_ rfl
  refine AL.guard_no (b := false) rfl rfl rfl ?_ rfl
  refine AL.guard_no (b := false) rfl rfl rfl ?_ rfl
  refine AL.cons rfl (Does.pickT (Evl.tmp rfl) (Evl.ev Evl.bool) rfl) ?_
  refine AL.nilS ?_
  refine AC.condT (Evl.tmp rfl) ?_
  refine AC.sr ?_
  refine AL.cons rfl (Does.assignC Evl.bool rfl) ?_
  refine AL.nilS ?_
  refine AC.ret ?_
  subst hO
  have e2 : (false : Bool) = (decide (SgOk c)) := by
   exact sg_no1 (by assumption)
  exact fin_pure (Res.one rfl (Rs.tmp rfl)) ((congrArg (fun z_ => lf (dB z_)) e2)) rfl
 ·have _h := hb1
  have hb1' : (SigsOk c.1) := of_decide_eq_true hb1
  refine AL.guard_yes rfl rfl rfl (Does.fieldP (Evl.tmp rfl) fld_77_1 rfl rfl) ?_
  refine AL.guard_yes rfl rfl rfl (Does.loadP (Evl.tmp rfl) rfl tsh_67 rfl rfl) ?_
  refine AL.fact (fact_len (x := .tmp 14) (Evl.tmp rfl)) fun hl3 => ?_
  refine AL.guard_yes rfl rfl rfl (Does.len (Evl.tmp rfl) rfl und_67) ?_
  refine AL.guard_yes rfl rfl rfl (Does.call (fc_impl_within (c.2.1.length : Int) 1 300) enters_58 ⟨_, _, rfl, (Ev.tmp rfl), ⟨_, _, rfl, (Evl.ev (Evl.int rfl)), ⟨_, _, rfl, (Evl.ev (Evl.int rfl)), rfl⟩⟩⟩ rfl rfl) ?_
  refine AL.guard_yes rfl rfl rfl (Does.not (Evl.tmp rfl) rfl) ?_
  refine AL.cons rfl (Does.pickF (Evl.tmp rfl) (Ev.tmp rfl) rfl) ?_
  refine AL.cons rfl (Does.move rfl rfl) ?_
  cases hb4 : (decide (1 ≤ (c.2.1.length : Int) ∧ (c.2.1.length : Int) ≤ 300))
  ·have _h := hb4
   have hb4' : ¬ (1 ≤ (c.2.1.length : Int) ∧ (c.2.1.length : Int) ≤ 300) := of_decide_eq_false hb4
   refine AL.guard_no (b := false) rfl rfl rfl ?_ rfl
   refine AL.guard_no (b := false) rfl rfl rfl ?_ rfl
   refine AL.guard_no (b := false) rfl rfl rfl ?_ rfl
   refine AL.guard_no (b := false) rfl rfl rfl ?_ rfl
   refine AL.cons rfl (Does.pickT (Evl.tmp rfl) (Evl.ev Evl.bool) rfl) ?_
   refine AL.nilS ?_
   refine AC.condT (Evl.tmp rfl) ?_
   refine AC.sr ?_
   refine AL.cons rfl (Does.assignC Evl.bool rfl) ?_
   refine AL.nilS ?_
   refine AC.ret ?_
   subst hO
   have e5 : (false : Bool) = (decide (SgOk c)) := by
    exact sg_no2 (by assumption)
   exact fin_pure (Res.one rfl (Rs.tmp rfl)) ((congrArg (fun z_ => lf (dB z_)) e5)) rfl
  ·have _h := hb4
   have hb4' : (1 ≤ (c.2.1.length : Int) ∧ (c.2.1.length : Int) ≤ 300) := of_decide_eq_true hb4
   refine AL.guard_yes rfl rfl rfl (Does.fieldP (Evl.tmp rfl) fld_77_2 rfl rfl) ?_
   refine AL.guard_yes rfl rfl rfl (Does.loadP (Evl.tmp rfl) rfl tsh_75 rfl rfl) ?_
   refine AL.fact (fact_len (x := .tmp 21) (Evl.tmp rfl)) fun hl6 => ?_
   refine AL.guard_yes rfl rfl rfl (Does.len (Evl.tmp rfl) rfl und_75) ?_
   refine AL.guard_yes rfl rfl rfl (Does.gtr (Evl.tmp rfl) (Evl.int rfl) rfl) ?_
   refine AL.cons rfl (Does.pickF (Evl.tmp rfl) (Ev.tmp rfl) rfl) ?_
   refine AL.nilS ?_
   cases hb7 : (decide (4000 < (c.2.2.length : Int)))
   ·have _h := hb7
    have hb7' : ¬ (4000 < (c.2.2.length : Int)) := of_decide_eq_false hb7
    refine AC.condF (Evl.tmp rfl) ?_
    refine AC.skipS ?_
    refine AC.sr ?_
    refine AL.cons rfl (Does.fieldP (Evl.tmp rfl) fld_77_1 rfl rfl) ?_
    refine AL.cons rfl (Does.loadP (Evl.tmp rfl) rfl tsh_67 rfl rfl) ?_
    refine AL.fact (fact_len (x := .tmp 26) (Evl.tmp rfl)) fun hl8 => ?_
    refine AL.cons rfl (Does.len (Evl.tmp rfl) rfl und_67) ?_
    refine AL.cons rfl (Does.sub (Evl.tmp rfl) (Evl.int rfl) rfl (by omega)) ?_
    refine AL.cons rfl (Does.assign rfl rfl) ?_
    refine AL.nilS ?_
    refine AC.seq ?_
    refine AC.sr ?_
    refine AL.cons rfl (Does.fieldP (Evl.tmp rfl) fld_77_1 rfl rfl) ?_
    refine AL.cons rfl (Does.loadP (Evl.tmp rfl) rfl tsh_67 rfl rfl) ?_
    refine AL.fact (fact_len (x := .tmp 30) (Evl.tmp rfl)) fun hl9 => ?_
    refine AL.cons rfl (Does.len (Evl.tmp rfl) rfl und_67) ?_
    refine AL.cons rfl (Does.moveC (Evl.int rfl) rfl) ?_
    refine AL.nilS ?_
    refine AC.block ?_
    refine AC.loopW (fun m_ s_ => ∃ (k : Nat), k ≤ c.2.1.length ∧ m_ = c.2.1.length - k ∧ (∀ j, j < k → ∀ x, c.2.1[j]? = some x → BitsL x (c.1.length : Int)) ∧ s_ = ⟨[(1, lf (.ptr 0 0)), (3, lf (dI ((c.2.1.length : Int) - 1))), (30, lf (.dat (.sl 9 .str) c.2.1)), (31, lf (dI (c.2.1.length : Int))), (32, lf (dI (k : Int)))], [(0, some (.box 77 [.dat (.sl 129 (.pr .str .int)) c.1, .dat (.sl 9 .str) c.2.1, .dat (.sl 170 (.pr .int (.pr .int (.pr .bool .int)))) c.2.2]))]⟩) ⟨0, Nat.zero_le _, rfl, (fun j hj => absurd hj (Nat.not_lt_zero j)), rfl⟩ ?_ ?_
    · exact Wk.of [(0, 0)] rfl ⟨rfl, rfl, rfl, rfl, rfl, trivial⟩ ⟨rfl, trivial⟩ rfl rfl
    rintro m_ s_ ⟨k, hk10, hm11, hB, rfl⟩
    refine AC.sr ?_
    refine AL.cons rfl (Does.lss (Evl.tmp rfl) (Evl.tmp rfl) rfl) ?_
    refine AL.nilS ?_
    refine AC.seq ?_
    cases hb12 : (decide ((k : Int) < (c.2.1.length : Int)))
    ·have _h := hb12
     have hb12' : ¬ ((k : Int) < (c.2.1.length : Int)) := of_decide_eq_false hb12
     refine AC.condF (Evl.tmp rfl) ?_
     refine AC.exit ?_
     refine (?_ : AC _ _ _ _ _)
     refine AC.seq ?_
     refine AC.sr ?_
     refine AL.cons rfl (Does.fieldP (Evl.tmp rfl) fld_77_2 rfl rfl) ?_
     refine AL.cons rfl (Does.loadP (Evl.tmp rfl) rfl tsh_75 rfl rfl) ?_
     refine AL.fact (fact_len (x := .tmp 44) (Evl.tmp rfl)) fun hl13 => ?_
     refine AL.cons rfl (Does.len (Evl.tmp rfl) rfl und_75) ?_
     refine AL.cons rfl (Does.moveC (Evl.int rfl) rfl) ?_
     refine AL.nilS ?_
     refine AC.block ?_
     refine AC.loopW (fun m_ s_ => ∃ (i : Nat), i ≤ c.2.2.length ∧ m_ = c.2.2.length - i ∧ (∀ j, j < i → ∀ a, c.2.2[j]? = some a → ArcOk c a) ∧ s_ = ⟨[(1, lf (.ptr 0 0)), (3, lf (dI ((c.2.1.length : Int) - 1))), (44, lf (.dat (.sl 170 (.pr .int (.pr .int (.pr .bool .int)))) c.2.2)), (45, lf (dI (c.2.2.length : Int))), (46, lf (dI (i : Int)))], [(0, some (.box 77 [.dat (.sl 129 (.pr .str .int)) c.1, .dat (.sl 9 .str) c.2.1, .dat (.sl 170 (.pr .int (.pr .int (.pr .bool .int)))) c.2.2]))]⟩) ⟨0, Nat.zero_le _, rfl, (fun j hj => absurd hj (Nat.not_lt_zero j)), rfl⟩ ?_ ?_
     · exact Wk.of [(0, 0)] rfl ⟨rfl, rfl, rfl, rfl, rfl, trivial⟩ ⟨rfl, trivial⟩ rfl rfl
     rintro m_ s_ ⟨i, hk14, hm15, hR, rfl⟩
     refine AC.sr ?_
     refine AL.cons rfl (Does.lss (Evl.tmp rfl) (Evl.tmp rfl) rfl) ?_
     refine AL.nilS ?_
     refine AC.seq ?_
     cases hb16 : (decide ((i : Int) < (c.2.2.length : Int)))
     ·have _h := hb16
      have hb16' : ¬ ((i : Int) < (c.2.2.length : Int)) := of_decide_eq_false hb16
      refine AC.condF (Evl.tmp rfl) ?_
      refine AC.exit ?_
      refine (?_ : AC _ _ _ _ _)
      refine AC.seq ?_
      refine AC.drawL [⟨some 92, lf (.ptr 0 1), []⟩, ⟨some 93, lf (.dat (.sl 9 .str) c.2.1), []⟩, ⟨some 94, lf (dI (c.2.1.length : Int)), []⟩, ⟨some 95, lf (.ptr 0 2), []⟩, ⟨some 96, lf (.dat (.sl 170 (.pr .int (.pr .int (.pr .bool .int)))) c.2.2), []⟩, ⟨some 97, lf (.dat (.sl 268 (.pr .int .int)) (stepsA c.2.2)), []⟩, ⟨some 98, lf (.dat (.sl 3 .int) (distV (c.2.1.length : Int).toNat (stepsA c.2.2))), []⟩, ⟨some 99, lf (dB ((distV (c.2.1.length : Int).toNat (stepsA c.2.2)).any (fun y => decide ((-1) = y)))), []⟩, ⟨some 100, lf (dB (!((distV (c.2.1.length : Int).toNat (stepsA c.2.2)).any (fun y => decide ((-1) = y))))), []⟩, ⟨some 2, lf (dB (!((distV (c.2.1.length : Int).toNat (stepsA c.2.2)).any (fun y => decide ((-1) = y))))), []⟩] [[], [0], [0, 1], [], [3], [3, 4], [0, 1, 2, 3, 4, 5], [0, 1, 2, 3, 4, 5, 6], [0, 1, 2, 3, 4, 5, 6, 7], [0, 1, 2, 3, 4, 5, 6, 7, 8]] mixed rfl (by kernel_rfl) ?_ ?_
      · refine ⟨fun s_ hs => Acts.of1 rfl (Does.fieldP (Evl.tmp (hs.tm 1 rfl)) fld_77_1 (by rw [(hs.en 0 rfl)]; rfl) rfl) rfl, fun s_ hs => Acts.of1 rfl (Does.loadP (Evl.tmp (hs.tm 92 rfl)) (hs.en 0 rfl) tsh_67 rfl rfl) rfl, fun s_ hs => Acts.of1 rfl (Does.len (Evl.tmp (hs.tm 93 rfl)) rfl und_67) rfl, fun s_ hs => Acts.of1 rfl (Does.fieldP (Evl.tmp (hs.tm 1 rfl)) fld_77_2 (by rw [(hs.en 0 rfl)]; rfl) rfl) rfl, fun s_ hs => Acts.of1 rfl (Does.loadP (Evl.tmp (hs.tm 95 rfl)) (hs.en 0 rfl) tsh_75 rfl rfl) rfl, fun s_ hs => Acts.of1 rfl (Does.call (fc_impl_arcSteps c.2.2 (by omega)).frozen enters_183 ⟨_, _, rfl, (Ev.tmp (hs.tm 96 rfl)), rfl⟩ rfl rfl) rfl, fun s_ hs => Acts.of1 rfl (Does.call (fc_impl_distances (c.2.1.length : Int) (stepsA c.2.2) 0 (by omega) (steps_in (fun a ha => arc_inr (each_all hR (by omega) a ha))) (by simp only [stepsA, List.length_map]; omega) rfl).frozen enters_182 ⟨_, _, rfl, (Ev.tmp (hs.tm 94 rfl)), ⟨_, _, rfl, (Ev.tmp (hs.tm 97 rfl)), ⟨_, _, rfl, (Evl.ev (Evl.int rfl)), rfl⟩⟩⟩ rfl rfl) rfl, fun s_ hs => Acts.of1 rfl (Does.call (fc_slices_Contains_int_int (distV (c.2.1.length : Int).toNat (stepsA c.2.2)) (-1)) enters_181 ⟨_, _, rfl, (Ev.tmp (hs.tm 98 rfl)), ⟨_, _, rfl, (Evl.ev (Evl.int rfl)), rfl⟩⟩ rfl rfl) rfl, fun s_ hs => Acts.of1 rfl (Does.not (Evl.tmp (hs.tm 99 rfl)) rfl) rfl, fun s_ hs => Acts.of1 rfl (Does.assign (hs.tm 100 rfl) rfl) rfl, trivial⟩
      refine (?_ : AC _ _ _ _ _)
      refine AC.wk (s' := _) (Wk.refl _ _) ?_
      refine AC.ret ?_
      subst hO
      have e17 : (!((distV (c.2.1.length : Int).toNat (stepsA c.2.2)).any (fun y => decide ((-1) = y))) : Bool) = (decide (SgOk c)) := by
       exact (dist_all (by omega) (steps_in (fun a ha => arc_inr (each_all hR (by omega) a ha)))).trans (sg_fin (by assumption) (by assumption) (by assumption) (each_all hB (by omega)) (each_all hR (by omega)))
      exact fin_pure (Res.one rfl (Rs.tmp rfl)) ((congrArg (fun z_ => lf (dB z_)) e17)) rfl
     ·have _h := hb16
      have hb16' : ((i : Int) < (c.2.2.length : Int)) := of_decide_eq_true hb16
      refine AC.condT (Evl.tmp rfl) ?_
      refine AC.skipS ?_
      refine AC.seq ?_
      refine AC.block ?_
      refine AC.sr ?_
      obtain ⟨ar, hx19⟩ : ∃ z, c.2.2[i]? = some z := ⟨_, List.getElem?_eq_getElem (by omega)⟩
      refine AL.cons rfl (Does.indexE (Evl.tmp rfl) (Evl.tmp rfl) und_75 tsh_170 rfl (by omega) hx19) ?_
      refine AL.cons rfl (Does.loadEA (Evl.tmp rfl) tsh_170 rfl rfl) ?_
      refine AL.cons rfl (Does.alloc 1 (.pr .int (.pr .int (.pr .bool .int))) zer_170 rfl rfl (Fresh.of rfl) (nlr rfl)) ?_
      refine AL.cons rfl (Does.storeP (Evl.tmp rfl) rfl (Ev.tmp rfl) rfl tsh_170 rfl) ?_
      refine AL.nilS ?_
      refine AC.seq ?_
      cases hb20 : (decide (0 ≤ ar.1 ∧ ar.1 ≤ ((c.2.1.length : Int) - 1)))
      ·have _h := hb20
       have hb20' : ¬ (0 ≤ ar.1 ∧ ar.1 ≤ ((c.2.1.length : Int) - 1)) := of_decide_eq_false hb20
       refine AC.drawL [⟨some 50, lf (.ptr 1 0), []⟩, ⟨some 51, lf (dI ar.1), []⟩, ⟨some 52, lf (dI ((c.2.1.length : Int) - 1)), []⟩, ⟨some 53, lf (dB false), []⟩, ⟨some 54, lf (dB true), []⟩, ⟨some 55, lf (dB true), []⟩, ⟨some 56, lf (.val undef), []⟩, ⟨some 57, lf (.val undef), []⟩, ⟨some 58, lf (.val undef), []⟩, ⟨some 59, lf (.val undef), []⟩, ⟨some 60, lf (.val undef), []⟩, ⟨some 61, lf (dB true), []⟩, ⟨some 62, lf (dB true), []⟩, ⟨some 63, lf (.val undef), []⟩, ⟨some 64, lf (.val undef), []⟩, ⟨some 65, lf (.val undef), []⟩, ⟨some 66, lf (.val undef), []⟩, ⟨some 67, lf (.val undef), []⟩, ⟨some 68, lf (.val undef), []⟩, ⟨some 69, lf (.val undef), []⟩, ⟨some 70, lf (.val undef), []⟩, ⟨some 71, lf (.val undef), []⟩, ⟨some 72, lf (.val undef), []⟩, ⟨some 73, lf (dB true), []⟩, ⟨some 74, lf (dB true), []⟩, ⟨some 75, lf (.val undef), []⟩, ⟨some 76, lf (.val undef), []⟩, ⟨some 77, lf (.val undef), []⟩, ⟨some 78, lf (.val undef), []⟩, ⟨some 79, lf (.val undef), []⟩, ⟨some 80, lf (.val undef), []⟩, ⟨some 81, lf (.val undef), []⟩, ⟨some 82, lf (.val undef), []⟩, ⟨some 83, lf (.val undef), []⟩, ⟨some 84, lf (.val undef), []⟩, ⟨some 85, lf (.val undef), []⟩, ⟨some 86, lf (.val undef), []⟩, ⟨some 87, lf (.val undef), []⟩, ⟨some 88, lf (.val undef), []⟩, ⟨some 89, lf (.val undef), []⟩, ⟨some 90, lf (dB true), []⟩] [[], [0], [], [0, 1, 2], [0, 1, 2, 3], [0, 1, 2, 3, 4], [0, 1, 2, 3, 4, 5], [0, 1, 2, 3, 4, 5, 6], [0, 1, 2, 3, 4, 5], [0, 1, 2, 3, 4, 5, 6, 7, 8], [0, 1, 2, 3, 4, 5, 6, 7, 8, 9], [0, 1, 2, 3, 4, 5, 6, 7, 8, 9, 10], [0, 1, 2, 3, 4, 5, 6, 7, 8, 9, 10, 11], [0, 1, 2, 3, 4, 5, 6, 7, 8, 9, 10, 11, 12], [0, 1, 2, 3, 4, 5, 6, 7, 8, 9, 10, 11, 12, 13], [0, 1, 2, 3, 4, 5, 6, 7, 8, 9, 10, 11, 12], [0, 1, 2, 3, 4, 5, 6, 7, 8, 9, 10, 11, 12, 15], [0, 1, 2, 3, 4, 5, 6, 7, 8, 9, 10, 11, 12, 13, 14, 15, 16], [0, 1, 2, 3, 4, 5, 6, 7, 8, 9, 10, 11, 12], [0, 1, 2, 3, 4, 5, 6, 7, 8, 9, 10, 11, 12, 18], [0, 1, 2, 3, 4, 5, 6, 7, 8, 9, 10, 11, 12, 18, 19], [0, 1, 2, 3, 4, 5, 6, 7, 8, 9, 10, 11, 12, 13, 14, 15, 16, 17, 18, 19, 20], [0, 1, 2, 3, 4, 5, 6, 7, 8, 9, 10, 11, 12, 13, 14, 15, 16, 17, 18, 19, 20, 21], [0, 1, 2, 3, 4, 5, 6, 7, 8, 9, 10, 11, 12, 13, 14, 15, 16, 17, 18, 19, 20, 21, 22], [0, 1, 2, 3, 4, 5, 6, 7, 8, 9, 10, 11, 12, 13, 14, 15, 16, 17, 18, 19, 20, 21, 22, 23], [0, 1, 2, 3, 4, 5, 6, 7, 8, 9, 10, 11, 12, 13, 14, 15, 16, 17, 18, 19, 20, 21, 22, 23, 24], [0, 1, 2, 3, 4, 5, 6, 7, 8, 9, 10, 11, 12, 13, 14, 15, 16, 17, 18, 19, 20, 21, 22, 23, 24], [0, 1, 2, 3, 4, 5, 6, 7, 8, 9, 10, 11, 12, 13, 14, 15, 16, 17, 18, 19, 20, 21, 22, 23, 24, 26], [0, 1, 2, 3, 4, 5, 6, 7, 8, 9, 10, 11, 12, 13, 14, 15, 16, 17, 18, 19, 20, 21, 22, 23, 24], [0, 1, 2, 3, 4, 5, 6, 7, 8, 9, 10, 11, 12, 13, 14, 15, 16, 17, 18, 19, 20, 21, 22, 23, 24, 28], [0, 1, 2, 3, 4, 5, 6, 7, 8, 9, 10, 11, 12, 13, 14, 15, 16, 17, 18, 19, 20, 21, 22, 23, 24, 26, 27, 28, 29], [0, 1, 2, 3, 4, 5, 6, 7, 8, 9, 10, 11, 12, 13, 14, 15, 16, 17, 18, 19, 20, 21, 22, 23, 24, 26, 27, 28, 29, 30], [0, 1, 2, 3, 4, 5, 6, 7, 8, 9, 10, 11, 12, 13, 14, 15, 16, 17, 18, 19, 20, 21, 22, 23, 24], [0, 1, 2, 3, 4, 5, 6, 7, 8, 9, 10, 11, 12, 13, 14, 15, 16, 17, 18, 19, 20, 21, 22, 23, 24, 32], [0, 1, 2, 3, 4, 5, 6, 7, 8, 9, 10, 11, 12, 13, 14, 15, 16, 17, 18, 19, 20, 21, 22, 23, 24], [0, 1, 2, 3, 4, 5, 6, 7, 8, 9, 10, 11, 12, 13, 14, 15, 16, 17, 18, 19, 20, 21, 22, 23, 24, 34], [0, 1, 2, 3, 4, 5, 6, 7, 8, 9, 10, 11, 12, 13, 14, 15, 16, 17, 18, 19, 20, 21, 22, 23, 24, 32, 33, 34, 35], [0, 1, 2, 3, 4, 5, 6, 7, 8, 9, 10, 11, 12, 13, 14, 15, 16, 17, 18, 19, 20, 21, 22, 23, 24, 32, 33, 34, 35, 36], [0, 1, 2, 3, 4, 5, 6, 7, 8, 9, 10, 11, 12, 13, 14, 15, 16, 17, 18, 19, 20, 21, 22, 23, 24, 25, 26, 27, 28, 29, 30, 31, 32, 33, 34, 35, 36, 37], [0, 1, 2, 3, 4, 5, 6, 7, 8, 9, 10, 11, 12, 13, 14, 15, 16, 17, 18, 19, 20, 21, 22, 23, 24, 25, 26, 27, 28, 29, 30, 31, 32, 33, 34, 35, 36, 37, 38], [0, 1, 2, 3, 4, 5, 6, 7, 8, 9, 10, 11, 12, 13, 14, 15, 16, 17, 18, 19, 20, 21, 22, 23, 24, 25, 26, 27, 28, 29, 30, 31, 32, 33, 34, 35, 36, 37, 38, 39]] mixed rfl (by kernel_rfl) ?_ ?_
       · refine ⟨fun s_ hs => Acts.of1 rfl (Does.fieldP (Evl.tmp (hs.tm 7 rfl)) fld_170_0 (by rw [(hs.en 1 rfl)]; rfl) rfl) rfl, fun s_ hs => Acts.of1 rfl (Does.loadP (Evl.tmp (hs.tm 50 rfl)) (hs.en 1 rfl) tsh_3 rfl rfl) rfl, fun s_ hs => Acts.of1 rfl (Does.move (hs.tm 3 rfl) rfl) rfl, fun s_ hs => Acts.of1 rfl (Does.asB (hb20) (Does.call (fc_impl_within ar.1 0 ((c.2.1.length : Int) - 1)) enters_58 ⟨_, _, rfl, (Ev.tmp (hs.tm 51 rfl)), ⟨_, _, rfl, (Evl.ev (Evl.int rfl)), ⟨_, _, rfl, (Ev.tmp (hs.tm 52 rfl)), rfl⟩⟩⟩ rfl rfl)) rfl, fun s_ hs => Acts.of1 rfl (Does.not (Evl.tmp (hs.tm 53 rfl)) rfl) rfl, fun s_ hs => Acts.of1 rfl (Does.move (hs.tm 54 rfl) rfl) rfl, fun s_ hs => Acts.no (b := false) rfl rfl (hs.tm 55 rfl) rfl rfl, fun s_ hs => Acts.no (b := false) rfl rfl (hs.tm 55 rfl) rfl rfl, fun s_ hs => Acts.no (b := false) rfl rfl (hs.tm 55 rfl) rfl rfl, fun s_ hs => Acts.no (b := false) rfl rfl (hs.tm 55 rfl) rfl rfl, fun s_ hs => Acts.no (b := false) rfl rfl (hs.tm 55 rfl) rfl rfl, fun s_ hs => Acts.of1 rfl (Does.pickT (Evl.tmp (hs.tm 55 rfl)) (Evl.ev Evl.bool) rfl) rfl, fun s_ hs => Acts.of1 rfl (Does.move (hs.tm 61 rfl) rfl) rfl, fun s_ hs => Acts.no (b := false) rfl rfl (hs.tm 62 rfl) rfl rfl, fun s_ hs => Acts.no (b := false) rfl rfl (hs.tm 62 rfl) rfl rfl, fun s_ hs => Acts.no (b := false) rfl rfl (hs.tm 62 rfl) rfl rfl, fun s_ hs => Acts.no (b := false) rfl rfl (hs.tm 62 rfl) rfl rfl, fun s_ hs => Acts.no (b := false) rfl rfl (hs.tm 62 rfl) rfl rfl, fun s_ hs => Acts.no (b := false) rfl rfl (hs.tm 62 rfl) rfl rfl, fun s_ hs => Acts.no (b := false) rfl rfl (hs.tm 62 rfl) rfl rfl, fun s_ hs => Acts.no (b := false) rfl rfl (hs.tm 62 rfl) rfl rfl, fun s_ hs => Acts.no (b := false) rfl rfl (hs.tm 62 rfl) rfl rfl, fun s_ hs => Acts.no (b := false) rfl rfl (hs.tm 62 rfl) rfl rfl, fun s_ hs => Acts.of1 rfl (Does.pickT (Evl.tmp (hs.tm 62 rfl)) (Evl.ev Evl.bool) rfl) rfl, fun s_ hs => Acts.of1 rfl (Does.move (hs.tm 73 rfl) rfl) rfl, fun s_ hs => Acts.no (b := false) rfl rfl (hs.tm 74 rfl) rfl rfl, fun s_ hs => Acts.no (b := false) rfl rfl (hs.tm 74 rfl) rfl rfl, fun s_ hs => Acts.no (b := false) rfl rfl (hs.tm 74 rfl) rfl rfl, fun s_ hs => Acts.no (b := false) rfl rfl (hs.tm 74 rfl) rfl rfl, fun s_ hs => Acts.no (b := false) rfl rfl (hs.tm 74 rfl) rfl rfl, fun s_ hs => Acts.no (b := false) rfl rfl (hs.tm 74 rfl) rfl rfl, fun s_ hs => Acts.no (b := false) rfl rfl (hs.tm 74 rfl) rfl rfl, fun s_ hs => Acts.no (b := false) rfl rfl (hs.tm 74 rfl) rfl rfl, fun s_ hs => Acts.no (b := false) rfl rfl (hs.tm 74 rfl) rfl rfl, fun s_ hs => Acts.no (b := false) rfl rfl (hs.tm 74 rfl) rfl rfl, fun s_ hs => Acts.no (b := false) rfl rfl (hs.tm 74 rfl) rfl rfl, fun s_ hs => Acts.no (b := false) rfl rfl (hs.tm 74 rfl) rfl rfl, fun s_ hs => Acts.no (b := false) rfl rfl (hs.tm 74 rfl) rfl rfl, fun s_ hs => Acts.no (b := false) rfl rfl (hs.tm 74 rfl) rfl rfl, fun s_ hs => Acts.no (b := false) rfl rfl (hs.tm 74 rfl) rfl rfl, fun s_ hs => Acts.of1 rfl (Does.pickT (Evl.tmp (hs.tm 74 rfl)) (Evl.ev Evl.bool) rfl) rfl, trivial⟩
       refine (?_ : AC _ _ _ _ _)
       refine AC.wk (s' := _) (Wk.refl _ _) ?_
       refine AC.condT (Evl.tmp rfl) ?_
       refine AC.sr ?_
       refine AL.cons rfl (Does.assignC Evl.bool rfl) ?_
       refine AL.nilS ?_
       refine AC.ret ?_
       subst hO
       have e21 : (false : Bool) = (decide (SgOk c)) := by
        exact sg_no5 hx19 (by first | exact arcn1 (by assumption) | exact arcn2 (by assumption) | exact arcn3 (by assumption) | exact arcn4 (x := cx) (y := cy) (by assumption) (by assumption) (by assumption))
       exact fin_pure (Res.one rfl (Rs.tmp rfl)) ((congrArg (fun z_ => lf (dB z_)) e21)) rfl
      ·have _h := hb20
       have hb20' : (0 ≤ ar.1 ∧ ar.1 ≤ ((c.2.1.length : Int) - 1)) := of_decide_eq_true hb20
       cases hb22 : (decide (0 ≤ ar.2.2.2 ∧ ar.2.2.2 ≤ ((c.2.1.length : Int) - 1)))
       ·have _h := hb22
        have hb22' : ¬ (0 ≤ ar.2.2.2 ∧ ar.2.2.2 ≤ ((c.2.1.length : Int) - 1)) := of_decide_eq_false hb22
        refine AC.drawL [⟨some 50, lf (.ptr 1 0), []⟩, ⟨some 51, lf (dI ar.1), []⟩, ⟨some 52, lf (dI ((c.2.1.length : Int) - 1)), []⟩, ⟨some 53, lf (dB true), []⟩, ⟨some 54, lf (dB false), []⟩, ⟨some 55, lf (dB false), []⟩, ⟨some 56, lf (.ptr 1 3), []⟩, ⟨some 57, lf (dI ar.2.2.2), []⟩, ⟨some 58, lf (dI ((c.2.1.length : Int) - 1)), []⟩, ⟨some 59, lf (dB false), []⟩, ⟨some 60, lf (dB true), []⟩, ⟨some 61, lf (dB true), []⟩, ⟨some 62, lf (dB true), []⟩, ⟨some 63, lf (.val undef), []⟩, ⟨some 64, lf (.val undef), []⟩, ⟨some 65, lf (.val undef), []⟩, ⟨some 66, lf (.val undef), []⟩, ⟨some 67, lf (.val undef), []⟩, ⟨some 68, lf (.val undef), []⟩, ⟨some 69, lf (.val undef), []⟩, ⟨some 70, lf (.val undef), []⟩, ⟨some 71, lf (.val undef), []⟩, ⟨some 72, lf (.val undef), []⟩, ⟨some 73, lf (dB true), []⟩, ⟨some 74, lf (dB true), []⟩, ⟨some 75, lf (.val undef), []⟩, ⟨some 76, lf (.val undef), []⟩, ⟨some 77, lf (.val undef), []⟩, ⟨some 78, lf (.val undef), []⟩, ⟨some 79, lf (.val undef), []⟩, ⟨some 80, lf (.val undef), []⟩, ⟨some 81, lf (.val undef), []⟩, ⟨some 82, lf (.val undef), []⟩, ⟨some 83, lf (.val undef), []⟩, ⟨some 84, lf (.val undef), []⟩, ⟨some 85, lf (.val undef), []⟩, ⟨some 86, lf (.val undef), []⟩, ⟨some 87, lf (.val undef), []⟩, ⟨some 88, lf (.val undef), []⟩, ⟨some 89, lf (.val undef), []⟩, ⟨some 90, lf (dB true), []⟩] [[], [0], [], [0, 1, 2], [0, 1, 2, 3], [0, 1, 2, 3, 4], [0, 1, 2, 3, 4, 5], [0, 1, 2, 3, 4, 5, 6], [0, 1, 2, 3, 4, 5], [0, 1, 2, 3, 4, 5, 6, 7, 8], [0, 1, 2, 3, 4, 5, 6, 7, 8, 9], [0, 1, 2, 3, 4, 5, 6, 7, 8, 9, 10], [0, 1, 2, 3, 4, 5, 6, 7, 8, 9, 10, 11], [0, 1, 2, 3, 4, 5, 6, 7, 8, 9, 10, 11, 12], [0, 1, 2, 3, 4, 5, 6, 7, 8, 9, 10, 11, 12, 13], [0, 1, 2, 3, 4, 5, 6, 7, 8, 9, 10, 11, 12], [0, 1, 2, 3, 4, 5, 6, 7, 8, 9, 10, 11, 12, 15], [0, 1, 2, 3, 4, 5, 6, 7, 8, 9, 10, 11, 12, 13, 14, 15, 16], [0, 1, 2, 3, 4, 5, 6, 7, 8, 9, 10, 11, 12], [0, 1, 2, 3, 4, 5, 6, 7, 8, 9, 10, 11, 12, 18], [0, 1, 2, 3, 4, 5, 6, 7, 8, 9, 10, 11, 12, 18, 19], [0, 1, 2, 3, 4, 5, 6, 7, 8, 9, 10, 11, 12, 13, 14, 15, 16, 17, 18, 19, 20], [0, 1, 2, 3, 4, 5, 6, 7, 8, 9, 10, 11, 12, 13, 14, 15, 16, 17, 18, 19, 20, 21], [0, 1, 2, 3, 4, 5, 6, 7, 8, 9, 10, 11, 12, 13, 14, 15, 16, 17, 18, 19, 20, 21, 22], [0, 1, 2, 3, 4, 5, 6, 7, 8, 9, 10, 11, 12, 13, 14, 15, 16, 17, 18, 19, 20, 21, 22, 23], [0, 1, 2, 3, 4, 5, 6, 7, 8, 9, 10, 11, 12, 13, 14, 15, 16, 17, 18, 19, 20, 21, 22, 23, 24], [0, 1, 2, 3, 4, 5, 6, 7, 8, 9, 10, 11, 12, 13, 14, 15, 16, 17, 18, 19, 20, 21, 22, 23, 24], [0, 1, 2, 3, 4, 5, 6, 7, 8, 9, 10, 11, 12, 13, 14, 15, 16, 17, 18, 19, 20, 21, 22, 23, 24, 26], [0, 1, 2, 3, 4, 5, 6, 7, 8, 9, 10, 11, 12, 13, 14, 15, 16, 17, 18, 19, 20, 21, 22, 23, 24], [0, 1, 2, 3, 4, 5, 6, 7, 8, 9, 10, 11, 12, 13, 14, 15, 16, 17, 18, 19, 20, 21, 22, 23, 24, 28], [0, 1, 2, 3, 4, 5, 6, 7, 8, 9, 10, 11, 12, 13, 14, 15, 16, 17, 18, 19, 20, 21, 22, 23, 24, 26, 27, 28, 29], [0, 1, 2, 3, 4, 5, 6, 7, 8, 9, 10, 11, 12, 13, 14, 15, 16, 17, 18, 19, 20, 21, 22, 23, 24, 26, 27, 28, 29, 30], [0, 1, 2, 3, 4, 5, 6, 7, 8, 9, 10, 11, 12, 13, 14, 15, 16, 17, 18, 19, 20, 21, 22, 23, 24], [0, 1, 2, 3, 4, 5, 6, 7, 8, 9, 10, 11, 12, 13, 14, 15, 16, 17, 18, 19, 20, 21, 22, 23, 24, 32], [0, 1, 2, 3, 4, 5, 6, 7, 8, 9, 10, 11, 12, 13, 14, 15, 16, 17, 18, 19, 20, 21, 22, 23, 24], [0, 1, 2, 3, 4, 5, 6, 7, 8, 9, 10, 11, 12, 13, 14, 15, 16, 17, 18, 19, 20, 21, 22, 23, 24, 34], [0, 1, 2, 3, 4, 5, 6, 7, 8, 9, 10, 11, 12, 13, 14, 15, 16, 17, 18, 19, 20, 21, 22, 23, 24, 32, 33, 34, 35], [0, 1, 2, 3, 4, 5, 6, 7, 8, 9, 10, 11, 12, 13, 14, 15, 16, 17, 18, 19, 20, 21, 22, 23, 24, 32, 33, 34, 35, 36], [0, 1, 2, 3, 4, 5, 6, 7, 8, 9, 10, 11, 12, 13, 14, 15, 16, 17, 18, 19, 20, 21, 22, 23, 24, 25, 26, 27, 28, 29, 30, 31, 32, 33, 34, 35, 36, 37], [0, 1, 2, 3, 4, 5, 6, 7, 8, 9, 10, 11, 12, 13, 14, 15, 16, 17, 18, 19, 20, 21, 22, 23, 24, 25, 26, 27, 28, 29, 30, 31, 32, 33, 34, 35, 36, 37, 38], [0, 1, 2, 3, 4, 5, 6, 7, 8, 9, 10, 11, 12, 13, 14, 15, 16, 17, 18, 19, 20, 21, 22, 23, 24, 25, 26, 27, 28, 29, 30, 31, 32, 33, 34, 35, 36, 37, 38, 39]] mixed rfl (by kernel_rfl) ?_ ?_
        · refine ⟨fun s_ hs => Acts.of1 rfl (Does.fieldP (Evl.tmp (hs.tm 7 rfl)) fld_170_0 (by rw [(hs.en 1 rfl)]; rfl) rfl) rfl, fun s_ hs => Acts.of1 rfl (Does.loadP (Evl.tmp (hs.tm 50 rfl)) (hs.en 1 rfl) tsh_3 rfl rfl) rfl, fun s_ hs => Acts.of1 rfl (Does.move (hs.tm 3 rfl) rfl) rfl, fun s_ hs => Acts.of1 rfl (Does.asB (hb20) (Does.call (fc_impl_within ar.1 0 ((c.2.1.length : Int) - 1)) enters_58 ⟨_, _, rfl, (Ev.tmp (hs.tm 51 rfl)), ⟨_, _, rfl, (Evl.ev (Evl.int rfl)), ⟨_, _, rfl, (Ev.tmp (hs.tm 52 rfl)), rfl⟩⟩⟩ rfl rfl)) rfl, fun s_ hs => Acts.of1 rfl (Does.not (Evl.tmp (hs.tm 53 rfl)) rfl) rfl, fun s_ hs => Acts.of1 rfl (Does.move (hs.tm 54 rfl) rfl) rfl, fun s_ hs => Acts.yes1 rfl rfl (hs.tm 55 rfl) (Does.fieldP (Evl.tmp (hs.tm 7 rfl)) fld_170_3 (by rw [(hs.en 1 rfl)]; rfl) rfl) rfl, fun s_ hs => Acts.yes1 rfl rfl (hs.tm 55 rfl) (Does.loadP (Evl.tmp (hs.tm 56 rfl)) (hs.en 1 rfl) tsh_3 rfl rfl) rfl, fun s_ hs => Acts.yes1 rfl rfl (hs.tm 55 rfl) (Does.move (hs.tm 3 rfl) rfl) rfl, fun s_ hs => Acts.yes1 rfl rfl (hs.tm 55 rfl) (Does.asB (hb22) (Does.call (fc_impl_within ar.2.2.2 0 ((c.2.1.length : Int) - 1)) enters_58 ⟨_, _, rfl, (Ev.tmp (hs.tm 57 rfl)), ⟨_, _, rfl, (Evl.ev (Evl.int rfl)), ⟨_, _, rfl, (Ev.tmp (hs.tm 58 rfl)), rfl⟩⟩⟩ rfl rfl)) rfl, fun s_ hs => Acts.yes1 rfl rfl (hs.tm 55 rfl) (Does.not (Evl.tmp (hs.tm 59 rfl)) rfl) rfl, fun s_ hs => Acts.of1 rfl (Does.pickF (Evl.tmp (hs.tm 55 rfl)) (Ev.tmp (hs.tm 60 rfl)) rfl) rfl, fun s_ hs => Acts.of1 rfl (Does.move (hs.tm 61 rfl) rfl) rfl, fun s_ hs => Acts.no (b := false) rfl rfl (hs.tm 62 rfl) rfl rfl, fun s_ hs => Acts.no (b := false) rfl rfl (hs.tm 62 rfl) rfl rfl, fun s_ hs => Acts.no (b := false) rfl rfl (hs.tm 62 rfl) rfl rfl, fun s_ hs => Acts.no (b := false) rfl rfl (hs.tm 62 rfl) rfl rfl, fun s_ hs => Acts.no (b := false) rfl rfl (hs.tm 62 rfl) rfl rfl, fun s_ hs => Acts.no (b := false) rfl rfl (hs.tm 62 rfl) rfl rfl, fun s_ hs => Acts.no (b := false) rfl rfl (hs.tm 62 rfl) rfl rfl, fun s_ hs => Acts.no (b := false) rfl rfl (hs.tm 62 rfl) rfl rfl, fun s_ hs => Acts.no (b := false) rfl rfl (hs.tm 62 rfl) rfl rfl, fun s_ hs => Acts.no (b := false) rfl rfl (hs.tm 62 rfl) rfl rfl, fun s_ hs => Acts.of1 rfl (Does.pickT (Evl.tmp (hs.tm 62 rfl)) (Evl.ev Evl.bool) rfl) rfl, fun s_ hs => Acts.of1 rfl (Does.move (hs.tm 73 rfl) rfl) rfl, fun s_ hs => Acts.no (b := false) rfl rfl (hs.tm 74 rfl) rfl rfl, fun s_ hs => Acts.no (b := false) rfl rfl (hs.tm 74 rfl) rfl rfl, fun s_ hs => Acts.no (b := false) rfl rfl (hs.tm 74 rfl) rfl rfl, fun s_ hs => Acts.no (b := false) rfl rfl (hs.tm 74 rfl) rfl rfl, fun s_ hs => Acts.no (b := false) rfl rfl (hs.tm 74 rfl) rfl rfl, fun s_ hs => Acts.no (b := false) rfl rfl (hs.tm 74 rfl) rfl rfl, fun s_ hs => Acts.no (b := false) rfl rfl (hs.tm 74 rfl) rfl rfl, fun s_ hs => Acts.no (b := false) rfl rfl (hs.tm 74 rfl) rfl rfl, fun s_ hs => Acts.no (b := false) rfl rfl (hs.tm 74 rfl) rfl rfl, fun s_ hs => Acts.no (b := false) rfl rfl (hs.tm 74 rfl) rfl rfl, fun s_ hs => Acts.no (b := false) rfl rfl (hs.tm 74 rfl) rfl rfl, fun s_ hs => Acts.no (b := false) rfl rfl (hs.tm 74 rfl) rfl rfl, fun s_ hs => Acts.no (b := false) rfl rfl (hs.tm 74 rfl) rfl rfl, fun s_ hs => Acts.no (b := false) rfl rfl (hs.tm 74 rfl) rfl rfl, fun s_ hs => Acts.no (b := false) rfl rfl (hs.tm 74 rfl) rfl rfl, fun s_ hs => Acts.of1 rfl (Does.pickT (Evl.tmp (hs.tm 74 rfl)) (Evl.ev Evl.bool) rfl) rfl, trivial⟩
        refine (?_ : AC _ _ _ _ _)
        refine AC.wk (s' := _) (Wk.refl _ _) ?_
        refine AC.condT (Evl.tmp rfl) ?_
        refine AC.sr ?_
        refine AL.cons rfl (Does.assignC Evl.bool rfl) ?_
        refine AL.nilS ?_
        refine AC.ret ?_
        subst hO
        have e23 : (false : Bool) = (decide (SgOk c)) := by
         exact sg_no5 hx19 (by first | exact arcn1 (by assumption) | exact arcn2 (by assumption) | exact arcn3 (by assumption) | exact arcn4 (x := cx) (y := cy) (by assumption) (by assumption) (by assumption))
        exact fin_pure (Res.one rfl (Rs.tmp rfl)) ((congrArg (fun z_ => lf (dB z_)) e23)) rfl
       ·have _h := hb22
        have hb22' : (0 ≤ ar.2.2.2 ∧ ar.2.2.2 ≤ ((c.2.1.length : Int) - 1)) := of_decide_eq_true hb22
        cases hb24 : (decide (LabI (c.1.length : Int) (ar.2.1, ar.2.2.1)))
        ·have _h := hb24
         have hb24' : ¬ (LabI (c.1.length : Int) (ar.2.1, ar.2.2.1)) := of_decide_eq_false hb24
         refine AC.drawL [⟨some 50, lf (.ptr 1 0), []⟩, ⟨some 51, lf (dI ar.1), []⟩, ⟨some 52, lf (dI ((c.2.1.length : Int) - 1)), []⟩, ⟨some 53, lf (dB true), []⟩, ⟨some 54, lf (dB false), []⟩, ⟨some 55, lf (dB false), []⟩, ⟨some 56, lf (.ptr 1 3), []⟩, ⟨some 57, lf (dI ar.2.2.2), []⟩, ⟨some 58, lf (dI ((c.2.1.length : Int) - 1)), []⟩, ⟨some 59, lf (dB true), []⟩, ⟨some 60, lf (dB false), []⟩, ⟨some 61, lf (dB false), []⟩, ⟨some 62, lf (dB false), []⟩, ⟨some 63, lf (.ptr 1 1), []⟩, ⟨some 64, lf (dI ar.2.1), []⟩, ⟨some 65, lf (.ptr 1 2), []⟩, ⟨some 66, lf (dB ar.2.2.1), []⟩, ⟨some 67, ag [dI ar.2.1, dB ar.2.2.1], []⟩, ⟨some 68, lf (.ptr 0 0), []⟩, ⟨some 69, lf (.dat (.sl 129 (.pr .str .int)) c.1), []⟩, ⟨some 70, lf (dI (c.1.length : Int)), []⟩, ⟨some 71, lf (dB false), []⟩, ⟨some 72, lf (dB true), []⟩, ⟨some 73, lf (dB true), []⟩, ⟨some 74, lf (dB true), []⟩, ⟨some 75, lf (.val undef), []⟩, ⟨some 76, lf (.val undef), []⟩, ⟨some 77, lf (.val undef), []⟩, ⟨some 78, lf (.val undef), []⟩, ⟨some 79, lf (.val undef), []⟩, ⟨some 80, lf (.val undef), []⟩, ⟨some 81, lf (.val undef), []⟩, ⟨some 82, lf (.val undef), []⟩, ⟨some 83, lf (.val undef), []⟩, ⟨some 84, lf (.val undef), []⟩, ⟨some 85, lf (.val undef), []⟩, ⟨some 86, lf (.val undef), []⟩, ⟨some 87, lf (.val undef), []⟩, ⟨some 88, lf (.val undef), []⟩, ⟨some 89, lf (.val undef), []⟩, ⟨some 90, lf (dB true), []⟩] [[], [0], [], [0, 1, 2], [0, 1, 2, 3], [0, 1, 2, 3, 4], [0, 1, 2, 3, 4, 5], [0, 1, 2, 3, 4, 5, 6], [0, 1, 2, 3, 4, 5], [0, 1, 2, 3, 4, 5, 6, 7, 8], [0, 1, 2, 3, 4, 5, 6, 7, 8, 9], [0, 1, 2, 3, 4, 5, 6, 7, 8, 9, 10], [0, 1, 2, 3, 4, 5, 6, 7, 8, 9, 10, 11], [0, 1, 2, 3, 4, 5, 6, 7, 8, 9, 10, 11, 12], [0, 1, 2, 3, 4, 5, 6, 7, 8, 9, 10, 11, 12, 13], [0, 1, 2, 3, 4, 5, 6, 7, 8, 9, 10, 11, 12], [0, 1, 2, 3, 4, 5, 6, 7, 8, 9, 10, 11, 12, 15], [0, 1, 2, 3, 4, 5, 6, 7, 8, 9, 10, 11, 12, 13, 14, 15, 16], [0, 1, 2, 3, 4, 5, 6, 7, 8, 9, 10, 11, 12], [0, 1, 2, 3, 4, 5, 6, 7, 8, 9, 10, 11, 12, 18], [0, 1, 2, 3, 4, 5, 6, 7, 8, 9, 10, 11, 12, 18, 19], [0, 1, 2, 3, 4, 5, 6, 7, 8, 9, 10, 11, 12, 13, 14, 15, 16, 17, 18, 19, 20], [0, 1, 2, 3, 4, 5, 6, 7, 8, 9, 10, 11, 12, 13, 14, 15, 16, 17, 18, 19, 20, 21], [0, 1, 2, 3, 4, 5, 6, 7, 8, 9, 10, 11, 12, 13, 14, 15, 16, 17, 18, 19, 20, 21, 22], [0, 1, 2, 3, 4, 5, 6, 7, 8, 9, 10, 11, 12, 13, 14, 15, 16, 17, 18, 19, 20, 21, 22, 23], [0, 1, 2, 3, 4, 5, 6, 7, 8, 9, 10, 11, 12, 13, 14, 15, 16, 17, 18, 19, 20, 21, 22, 23, 24], [0, 1, 2, 3, 4, 5, 6, 7, 8, 9, 10, 11, 12, 13, 14, 15, 16, 17, 18, 19, 20, 21, 22, 23, 24], [0, 1, 2, 3, 4, 5, 6, 7, 8, 9, 10, 11, 12, 13, 14, 15, 16, 17, 18, 19, 20, 21, 22, 23, 24, 26], [0, 1, 2, 3, 4, 5, 6, 7, 8, 9, 10, 11, 12, 13, 14, 15, 16, 17, 18, 19, 20, 21, 22, 23, 24], [0, 1, 2, 3, 4, 5, 6, 7, 8, 9, 10, 11, 12, 13, 14, 15, 16, 17, 18, 19, 20, 21, 22, 23, 24, 28], [0, 1, 2, 3, 4, 5, 6, 7, 8, 9, 10, 11, 12, 13, 14, 15, 16, 17, 18, 19, 20, 21, 22, 23, 24, 26, 27, 28, 29], [0, 1, 2, 3, 4, 5, 6, 7, 8, 9, 10, 11, 12, 13, 14, 15, 16, 17, 18, 19, 20, 21, 22, 23, 24, 26, 27, 28, 29, 30], [0, 1, 2, 3, 4, 5, 6, 7, 8, 9, 10, 11, 12, 13, 14, 15, 16, 17, 18, 19, 20, 21, 22, 23, 24], [0, 1, 2, 3, 4, 5, 6, 7, 8, 9, 10, 11, 12, 13, 14, 15, 16, 17, 18, 19, 20, 21, 22, 23, 24, 32], [0, 1, 2, 3, 4, 5, 6, 7, 8, 9, 10, 11, 12, 13, 14, 15, 16, 17, 18, 19, 20, 21, 22, 23, 24], [0, 1, 2, 3, 4, 5, 6, 7, 8, 9, 10, 11, 12, 13, 14, 15, 16, 17, 18, 19, 20, 21, 22, 23, 24, 34], [0, 1, 2, 3, 4, 5, 6, 7, 8, 9, 10, 11, 12, 13, 14, 15, 16, 17, 18, 19, 20, 21, 22, 23, 24, 32, 33, 34, 35], [0, 1, 2, 3, 4, 5, 6, 7, 8, 9, 10, 11, 12, 13, 14, 15, 16, 17, 18, 19, 20, 21, 22, 23, 24, 32, 33, 34, 35, 36], [0, 1, 2, 3, 4, 5, 6, 7, 8, 9, 10, 11, 12, 13, 14, 15, 16, 17, 18, 19, 20, 21, 22, 23, 24, 25, 26, 27, 28, 29, 30, 31, 32, 33, 34, 35, 36, 37], [0, 1, 2, 3, 4, 5, 6, 7, 8, 9, 10, 11, 12, 13, 14, 15, 16, 17, 18, 19, 20, 21, 22, 23, 24, 25, 26, 27, 28, 29, 30, 31, 32, 33, 34, 35, 36, 37, 38], [0, 1, 2, 3, 4, 5, 6, 7, 8, 9, 10, 11, 12, 13, 14, 15, 16, 17, 18, 19, 20, 21, 22, 23, 24, 25, 26, 27, 28, 29, 30, 31, 32, 33, 34, 35, 36, 37, 38, 39]] mixed rfl (by kernel_rfl) ?_ ?_
         · refine ⟨fun s_ hs => Acts.of1 rfl (Does.fieldP (Evl.tmp (hs.tm 7 rfl)) fld_170_0 (by rw [(hs.en 1 rfl)]; rfl) rfl) rfl, fun s_ hs => Acts.of1 rfl (Does.loadP (Evl.tmp (hs.tm 50 rfl)) (hs.en 1 rfl) tsh_3 rfl rfl) rfl, fun s_ hs => Acts.of1 rfl (Does.move (hs.tm 3 rfl) rfl) rfl, fun s_ hs => Acts.of1 rfl (Does.asB (hb20) (Does.call (fc_impl_within ar.1 0 ((c.2.1.length : Int) - 1)) enters_58 ⟨_, _, rfl, (Ev.tmp (hs.tm 51 rfl)), ⟨_, _, rfl, (Evl.ev (Evl.int rfl)), ⟨_, _, rfl, (Ev.tmp (hs.tm 52 rfl)), rfl⟩⟩⟩ rfl rfl)) rfl, fun s_ hs => Acts.of1 rfl (Does.not (Evl.tmp (hs.tm 53 rfl)) rfl) rfl, fun s_ hs => Acts.of1 rfl (Does.move (hs.tm 54 rfl) rfl) rfl, fun s_ hs => Acts.yes1 rfl rfl (hs.tm 55 rfl) (Does.fieldP (Evl.tmp (hs.tm 7 rfl)) fld_170_3 (by rw [(hs.en 1 rfl)]; rfl) rfl) rfl, fun s_ hs => Acts.yes1 rfl rfl (hs.tm 55 rfl) (Does.loadP (Evl.tmp (hs.tm 56 rfl)) (hs.en 1 rfl) tsh_3 rfl rfl) rfl, fun s_ hs => Acts.yes1 rfl rfl (hs.tm 55 rfl) (Does.move (hs.tm 3 rfl) rfl) rfl, fun s_ hs => Acts.yes1 rfl rfl (hs.tm 55 rfl) (Does.asB (hb22) (Does.call (fc_impl_within ar.2.2.2 0 ((c.2.1.length : Int) - 1)) enters_58 ⟨_, _, rfl, (Ev.tmp (hs.tm 57 rfl)), ⟨_, _, rfl, (Evl.ev (Evl.int rfl)), ⟨_, _, rfl, (Ev.tmp (hs.tm 58 rfl)), rfl⟩⟩⟩ rfl rfl)) rfl, fun s_ hs => Acts.yes1 rfl rfl (hs.tm 55 rfl) (Does.not (Evl.tmp (hs.tm 59 rfl)) rfl) rfl, fun s_ hs => Acts.of1 rfl (Does.pickF (Evl.tmp (hs.tm 55 rfl)) (Ev.tmp (hs.tm 60 rfl)) rfl) rfl, fun s_ hs => Acts.of1 rfl (Does.move (hs.tm 61 rfl) rfl) rfl, fun s_ hs => Acts.yes1 rfl rfl (hs.tm 62 rfl) (Does.fieldP (Evl.tmp (hs.tm 7 rfl)) fld_170_1 (by rw [(hs.en 1 rfl)]; rfl) rfl) rfl, fun s_ hs => Acts.yes1 rfl rfl (hs.tm 62 rfl) (Does.loadP (Evl.tmp (hs.tm 63 rfl)) (hs.en 1 rfl) tsh_3 rfl rfl) rfl, fun s_ hs => Acts.yes1 rfl rfl (hs.tm 62 rfl) (Does.fieldP (Evl.tmp (hs.tm 7 rfl)) fld_170_2 (by rw [(hs.en 1 rfl)]; rfl) rfl) rfl, fun s_ hs => Acts.yes1 rfl rfl (hs.tm 62 rfl) (Does.loadP (Evl.tmp (hs.tm 65 rfl)) (hs.en 1 rfl) tsh_4 rfl rfl) rfl, fun s_ hs => Acts.yes1 rfl rfl (hs.tm 62 rfl) (Does.build bld_131 ⟨_, _, rfl, (Ev.tmp (hs.tm 64 rfl)), ⟨_, _, rfl, (Ev.tmp (hs.tm 66 rfl)), rfl⟩⟩ (List.all_eq_true.1 rfl) rfl rfl) rfl, fun s_ hs => Acts.yes1 rfl rfl (hs.tm 62 rfl) (Does.fieldP (Evl.tmp (hs.tm 1 rfl)) fld_77_0 (by rw [(hs.en 0 rfl)]; rfl) rfl) rfl, fun s_ hs => Acts.yes1 rfl rfl (hs.tm 62 rfl) (Does.loadP (Evl.tmp (hs.tm 68 rfl)) (hs.en 0 rfl) tsh_29 rfl rfl) rfl, fun s_ hs => Acts.yes1 rfl rfl (hs.tm 62 rfl) (Does.len (Evl.tmp (hs.tm 69 rfl)) rfl und_29) rfl, fun s_ hs => Acts.yes1 rfl rfl (hs.tm 62 rfl) (Does.asB (hb24) (Does.call (fc_impl_isEdge (ar.2.1, ar.2.2.1) (c.1.length : Int) (by have := (‹SigsOk c.1›).2.2; omega)) enters_112 ⟨_, _, rfl, (Ev.tmp (hs.tm 67 rfl)), ⟨_, _, rfl, (Ev.tmp (hs.tm 70 rfl)), rfl⟩⟩ rfl rfl)) rfl, fun s_ hs => Acts.yes1 rfl rfl (hs.tm 62 rfl) (Does.not (Evl.tmp (hs.tm 71 rfl)) rfl) rfl, fun s_ hs => Acts.of1 rfl (Does.pickF (Evl.tmp (hs.tm 62 rfl)) (Ev.tmp (hs.tm 72 rfl)) rfl) rfl, fun s_ hs => Acts.of1 rfl (Does.move (hs.tm 73 rfl) rfl) rfl, fun s_ hs => Acts.no (b := false) rfl rfl (hs.tm 74 rfl) rfl rfl, fun s_ hs => Acts.no (b := false) rfl rfl (hs.tm 74 rfl) rfl rfl, fun s_ hs => Acts.no (b := false) rfl rfl (hs.tm 74 rfl) rfl rfl, fun s_ hs => Acts.no (b := false) rfl rfl (hs.tm 74 rfl) rfl rfl, fun s_ hs => Acts.no (b := false) rfl rfl (hs.tm 74 rfl) rfl rfl, fun s_ hs => Acts.no (b := false) rfl rfl (hs.tm 74 rfl) rfl rfl, fun s_ hs => Acts.no (b := false) rfl rfl (hs.tm 74 rfl) rfl rfl, fun s_ hs => Acts.no (b := false) rfl rfl (hs.tm 74 rfl) rfl rfl, fun s_ hs => Acts.no (b := false) rfl rfl (hs.tm 74 rfl) rfl rfl, fun s_ hs => Acts.no (b := false) rfl rfl (hs.tm 74 rfl) rfl rfl, fun s_ hs => Acts.no (b := false) rfl rfl (hs.tm 74 rfl) rfl rfl, fun s_ hs => Acts.no (b := false) rfl rfl (hs.tm 74 rfl) rfl rfl, fun s_ hs => Acts.no (b := false) rfl rfl (hs.tm 74 rfl) rfl rfl, fun s_ hs => Acts.no (b := false) rfl rfl (hs.tm 74 rfl) rfl rfl, fun s_ hs => Acts.no (b := false) rfl rfl (hs.tm 74 rfl) rfl rfl, fun s_ hs => Acts.of1 rfl (Does.pickT (Evl.tmp (hs.tm 74 rfl)) (Evl.ev Evl.bool) rfl) rfl, trivial⟩
         refine (?_ : AC _ _ _ _ _)
         refine AC.wk (s' := _) (Wk.refl _ _) ?_
         refine AC.condT (Evl.tmp rfl) ?_
         refine AC.sr ?_
         refine AL.cons rfl (Does.assignC Evl.bool rfl) ?_
         refine AL.nilS ?_
         refine AC.ret ?_
         subst hO
         have e25 : (false : Bool) = (decide (SgOk c)) := by
          exact sg_no5 hx19 (by first | exact arcn1 (by assumption) | exact arcn2 (by assumption) | exact arcn3 (by assumption) | exact arcn4 (x := cx) (y := cy) (by assumption) (by assumption) (by assumption))
         exact fin_pure (Res.one rfl (Rs.tmp rfl)) ((congrArg (fun z_ => lf (dB z_)) e25)) rfl
        ·have _h := hb24
         have hb24' : (LabI (c.1.length : Int) (ar.2.1, ar.2.2.1)) := of_decide_eq_true hb24
         obtain ⟨cx, hx27⟩ : ∃ z, c.2.1[(ar.1).toNat]? = some z := ⟨_, List.getElem?_eq_getElem (by omega)⟩
         have hzcx : BitsL cx (c.1.length : Int) → cx.size = c.1.length := fun h => by have := h.2; omega
         have hwcx : c.2.1.length ≤ k → cx.size = c.1.length := fun h => hzcx (each_all hB h _ (List.mem_of_getElem? hx27))
         obtain ⟨cy, hx29⟩ : ∃ z, c.2.1[(ar.2.2.2).toNat]? = some z := ⟨_, List.getElem?_eq_getElem (by omega)⟩
         have hzcy : BitsL cy (c.1.length : Int) → cy.size = c.1.length := fun h => by have := h.2; omega
         have hwcy : c.2.1.length ≤ k → cy.size = c.1.length := fun h => hzcy (each_all hB h _ (List.mem_of_getElem? hx29))
         refine AC.drawL [⟨some 50, lf (.ptr 1 0), []⟩, ⟨some 51, lf (dI ar.1), []⟩, ⟨some 52, lf (dI ((c.2.1.length : Int) - 1)), []⟩, ⟨some 53, lf (dB true), []⟩, ⟨some 54, lf (dB false), []⟩, ⟨some 55, lf (dB false), []⟩, ⟨some 56, lf (.ptr 1 3), []⟩, ⟨some 57, lf (dI ar.2.2.2), []⟩, ⟨some 58, lf (dI ((c.2.1.length : Int) - 1)), []⟩, ⟨some 59, lf (dB true), []⟩, ⟨some 60, lf (dB false), []⟩, ⟨some 61, lf (dB false), []⟩, ⟨some 62, lf (dB false), []⟩, ⟨some 63, lf (.ptr 1 1), []⟩, ⟨some 64, lf (dI ar.2.1), []⟩, ⟨some 65, lf (.ptr 1 2), []⟩, ⟨some 66, lf (dB ar.2.2.1), []⟩, ⟨some 67, ag [dI ar.2.1, dB ar.2.2.1], []⟩, ⟨some 68, lf (.ptr 0 0), []⟩, ⟨some 69, lf (.dat (.sl 129 (.pr .str .int)) c.1), []⟩, ⟨some 70, lf (dI (c.1.length : Int)), []⟩, ⟨some 71, lf (dB true), []⟩, ⟨some 72, lf (dB false), []⟩, ⟨some 73, lf (dB false), []⟩, ⟨some 74, lf (dB false), []⟩, ⟨some 75, ag [dI ar.1, dI ar.2.1, dB ar.2.2.1, dI ar.2.2.2], []⟩, ⟨some 76, lf (.ptr 0 1), []⟩, ⟨some 77, lf (.dat (.sl 9 .str) c.2.1), []⟩, ⟨some 78, lf (.ptr 1 0), []⟩, ⟨some 79, lf (dI ar.1), []⟩, ⟨some 80, lf (.elt .str cx 0), []⟩, ⟨some 81, lf (dS cx), []⟩, ⟨some 82, lf (.ptr 0 1), []⟩, ⟨some 83, lf (.dat (.sl 9 .str) c.2.1), []⟩, ⟨some 84, lf (.ptr 1 3), []⟩, ⟨some 85, lf (dI ar.2.2.2), []⟩, ⟨some 86, lf (.elt .str cy 0), []⟩, ⟨some 87, lf (dS cy), []⟩, ⟨some 88, lf (dB (decide (Fit ar cx cy))), []⟩, ⟨some 89, lf (dB (!(decide (Fit ar cx cy)))), []⟩, ⟨some 90, lf (dB (!(decide (Fit ar cx cy)))), []⟩] [[], [0], [], [0, 1, 2], [0, 1, 2, 3], [0, 1, 2, 3, 4], [0, 1, 2, 3, 4, 5], [0, 1, 2, 3, 4, 5, 6], [0, 1, 2, 3, 4, 5], [0, 1, 2, 3, 4, 5, 6, 7, 8], [0, 1, 2, 3, 4, 5, 6, 7, 8, 9], [0, 1, 2, 3, 4, 5, 6, 7, 8, 9, 10], [0, 1, 2, 3, 4, 5, 6, 7, 8, 9, 10, 11], [0, 1, 2, 3, 4, 5, 6, 7, 8, 9, 10, 11, 12], [0, 1, 2, 3, 4, 5, 6, 7, 8, 9, 10, 11, 12, 13], [0, 1, 2, 3, 4, 5, 6, 7, 8, 9, 10, 11, 12], [0, 1, 2, 3, 4, 5, 6, 7, 8, 9, 10, 11, 12, 15], [0, 1, 2, 3, 4, 5, 6, 7, 8, 9, 10, 11, 12, 13, 14, 15, 16], [0, 1, 2, 3, 4, 5, 6, 7, 8, 9, 10, 11, 12], [0, 1, 2, 3, 4, 5, 6, 7, 8, 9, 10, 11, 12, 18], [0, 1, 2, 3, 4, 5, 6, 7, 8, 9, 10, 11, 12, 18, 19], [0, 1, 2, 3, 4, 5, 6, 7, 8, 9, 10, 11, 12, 13, 14, 15, 16, 17, 18, 19, 20], [0, 1, 2, 3, 4, 5, 6, 7, 8, 9, 10, 11, 12, 13, 14, 15, 16, 17, 18, 19, 20, 21], [0, 1, 2, 3, 4, 5, 6, 7, 8, 9, 10, 11, 12, 13, 14, 15, 16, 17, 18, 19, 20, 21, 22], [0, 1, 2, 3, 4, 5, 6, 7, 8, 9, 10, 11, 12, 13, 14, 15, 16, 17, 18, 19, 20, 21, 22, 23], [0, 1, 2, 3, 4, 5, 6, 7, 8, 9, 10, 11, 12, 13, 14, 15, 16, 17, 18, 19, 20, 21, 22, 23, 24], [0, 1, 2, 3, 4, 5, 6, 7, 8, 9, 10, 11, 12, 13, 14, 15, 16, 17, 18, 19, 20, 21, 22, 23, 24], [0, 1, 2, 3, 4, 5, 6, 7, 8, 9, 10, 11, 12, 13, 14, 15, 16, 17, 18, 19, 20, 21, 22, 23, 24, 26], [0, 1, 2, 3, 4, 5, 6, 7, 8, 9, 10, 11, 12, 13, 14, 15, 16, 17, 18, 19, 20, 21, 22, 23, 24], [0, 1, 2, 3, 4, 5, 6, 7, 8, 9, 10, 11, 12, 13, 14, 15, 16, 17, 18, 19, 20, 21, 22, 23, 24, 28], [0, 1, 2, 3, 4, 5, 6, 7, 8, 9, 10, 11, 12, 13, 14, 15, 16, 17, 18, 19, 20, 21, 22, 23, 24, 26, 27, 28, 29], [0, 1, 2, 3, 4, 5, 6, 7, 8, 9, 10, 11, 12, 13, 14, 15, 16, 17, 18, 19, 20, 21, 22, 23, 24, 26, 27, 28, 29, 30], [0, 1, 2, 3, 4, 5, 6, 7, 8, 9, 10, 11, 12, 13, 14, 15, 16, 17, 18, 19, 20, 21, 22, 23, 24], [0, 1, 2, 3, 4, 5, 6, 7, 8, 9, 10, 11, 12, 13, 14, 15, 16, 17, 18, 19, 20, 21, 22, 23, 24, 32], [0, 1, 2, 3, 4, 5, 6, 7, 8, 9, 10, 11, 12, 13, 14, 15, 16, 17, 18, 19, 20, 21, 22, 23, 24], [0, 1, 2, 3, 4, 5, 6, 7, 8, 9, 10, 11, 12, 13, 14, 15, 16, 17, 18, 19, 20, 21, 22, 23, 24, 34], [0, 1, 2, 3, 4, 5, 6, 7, 8, 9, 10, 11, 12, 13, 14, 15, 16, 17, 18, 19, 20, 21, 22, 23, 24, 32, 33, 34, 35], [0, 1, 2, 3, 4, 5, 6, 7, 8, 9, 10, 11, 12, 13, 14, 15, 16, 17, 18, 19, 20, 21, 22, 23, 24, 32, 33, 34, 35, 36], [0, 1, 2, 3, 4, 5, 6, 7, 8, 9, 10, 11, 12, 13, 14, 15, 16, 17, 18, 19, 20, 21, 22, 23, 24, 25, 26, 27, 28, 29, 30, 31, 32, 33, 34, 35, 36, 37], [0, 1, 2, 3, 4, 5, 6, 7, 8, 9, 10, 11, 12, 13, 14, 15, 16, 17, 18, 19, 20, 21, 22, 23, 24, 25, 26, 27, 28, 29, 30, 31, 32, 33, 34, 35, 36, 37, 38], [0, 1, 2, 3, 4, 5, 6, 7, 8, 9, 10, 11, 12, 13, 14, 15, 16, 17, 18, 19, 20, 21, 22, 23, 24, 25, 26, 27, 28, 29, 30, 31, 32, 33, 34, 35, 36, 37, 38, 39]] mixed rfl (by kernel_rfl) ?_ ?_
         · refine ⟨fun s_ hs => Acts.of1 rfl (Does.fieldP (Evl.tmp (hs.tm 7 rfl)) fld_170_0 (by rw [(hs.en 1 rfl)]; rfl) rfl) rfl, fun s_ hs => Acts.of1 rfl (Does.loadP (Evl.tmp (hs.tm 50 rfl)) (hs.en 1 rfl) tsh_3 rfl rfl) rfl, fun s_ hs => Acts.of1 rfl (Does.move (hs.tm 3 rfl) rfl) rfl, fun s_ hs => Acts.of1 rfl (Does.asB (hb20) (Does.call (fc_impl_within ar.1 0 ((c.2.1.length : Int) - 1)) enters_58 ⟨_, _, rfl, (Ev.tmp (hs.tm 51 rfl)), ⟨_, _, rfl, (Evl.ev (Evl.int rfl)), ⟨_, _, rfl, (Ev.tmp (hs.tm 52 rfl)), rfl⟩⟩⟩ rfl rfl)) rfl, fun s_ hs => Acts.of1 rfl (Does.not (Evl.tmp (hs.tm 53 rfl)) rfl) rfl, fun s_ hs => Acts.of1 rfl (Does.move (hs.tm 54 rfl) rfl) rfl, fun s_ hs => Acts.yes1 rfl rfl (hs.tm 55 rfl) (Does.fieldP (Evl.tmp (hs.tm 7 rfl)) fld_170_3 (by rw [(hs.en 1 rfl)]; rfl) rfl) rfl, fun s_ hs => Acts.yes1 rfl rfl (hs.tm 55 rfl) (Does.loadP (Evl.tmp (hs.tm 56 rfl)) (hs.en 1 rfl) tsh_3 rfl rfl) rfl, fun s_ hs => Acts.yes1 rfl rfl (hs.tm 55 rfl) (Does.move (hs.tm 3 rfl) rfl) rfl, fun s_ hs => Acts.yes1 rfl rfl (hs.tm 55 rfl) (Does.asB (hb22) (Does.call (fc_impl_within ar.2.2.2 0 ((c.2.1.length : Int) - 1)) enters_58 ⟨_, _, rfl, (Ev.tmp (hs.tm 57 rfl)), ⟨_, _, rfl, (Evl.ev (Evl.int rfl)), ⟨_, _, rfl, (Ev.tmp (hs.tm 58 rfl)), rfl⟩⟩⟩ rfl rfl)) rfl, fun s_ hs => Acts.yes1 rfl rfl (hs.tm 55 rfl) (Does.not (Evl.tmp (hs.tm 59 rfl)) rfl) rfl, fun s_ hs => Acts.of1 rfl (Does.pickF (Evl.tmp (hs.tm 55 rfl)) (Ev.tmp (hs.tm 60 rfl)) rfl) rfl, fun s_ hs => Acts.of1 rfl (Does.move (hs.tm 61 rfl) rfl) rfl, fun s_ hs => Acts.yes1 rfl rfl (hs.tm 62 rfl) (Does.fieldP (Evl.tmp (hs.tm 7 rfl)) fld_170_1 (by rw [(hs.en 1 rfl)]; rfl) rfl) rfl, fun s_ hs => Acts.yes1 rfl rfl (hs.tm 62 rfl) (Does.loadP (Evl.tmp (hs.tm 63 rfl)) (hs.en 1 rfl) tsh_3 rfl rfl) rfl, fun s_ hs => Acts.yes1 rfl rfl (hs.tm 62 rfl) (Does.fieldP (Evl.tmp (hs.tm 7 rfl)) fld_170_2 (by rw [(hs.en 1 rfl)]; rfl) rfl) rfl, fun s_ hs => Acts.yes1 rfl rfl (hs.tm 62 rfl) (Does.loadP (Evl.tmp (hs.tm 65 rfl)) (hs.en 1 rfl) tsh_4 rfl rfl) rfl, fun s_ hs => Acts.yes1 rfl rfl (hs.tm 62 rfl) (Does.build bld_131 ⟨_, _, rfl, (Ev.tmp (hs.tm 64 rfl)), ⟨_, _, rfl, (Ev.tmp (hs.tm 66 rfl)), rfl⟩⟩ (List.all_eq_true.1 rfl) rfl rfl) rfl, fun s_ hs => Acts.yes1 rfl rfl (hs.tm 62 rfl) (Does.fieldP (Evl.tmp (hs.tm 1 rfl)) fld_77_0 (by rw [(hs.en 0 rfl)]; rfl) rfl) rfl, fun s_ hs => Acts.yes1 rfl rfl (hs.tm 62 rfl) (Does.loadP (Evl.tmp (hs.tm 68 rfl)) (hs.en 0 rfl) tsh_29 rfl rfl) rfl, fun s_ hs => Acts.yes1 rfl rfl (hs.tm 62 rfl) (Does.len (Evl.tmp (hs.tm 69 rfl)) rfl und_29) rfl, fun s_ hs => Acts.yes1 rfl rfl (hs.tm 62 rfl) (Does.asB (hb24) (Does.call (fc_impl_isEdge (ar.2.1, ar.2.2.1) (c.1.length : Int) (by have := (‹SigsOk c.1›).2.2; omega)) enters_112 ⟨_, _, rfl, (Ev.tmp (hs.tm 67 rfl)), ⟨_, _, rfl, (Ev.tmp (hs.tm 70 rfl)), rfl⟩⟩ rfl rfl)) rfl, fun s_ hs => Acts.yes1 rfl rfl (hs.tm 62 rfl) (Does.not (Evl.tmp (hs.tm 71 rfl)) rfl) rfl, fun s_ hs => Acts.of1 rfl (Does.pickF (Evl.tmp (hs.tm 62 rfl)) (Ev.tmp (hs.tm 72 rfl)) rfl) rfl, fun s_ hs => Acts.of1 rfl (Does.move (hs.tm 73 rfl) rfl) rfl, fun s_ hs => Acts.yes1 rfl rfl (hs.tm 74 rfl) (Does.loadPA (Evl.tmp (hs.tm 7 rfl)) (hs.en 1 rfl) tsh_170 rfl rfl) rfl, fun s_ hs => Acts.yes1 rfl rfl (hs.tm 74 rfl) (Does.fieldP (Evl.tmp (hs.tm 1 rfl)) fld_77_1 (by rw [(hs.en 0 rfl)]; rfl) rfl) rfl, fun s_ hs => Acts.yes1 rfl rfl (hs.tm 74 rfl) (Does.loadP (Evl.tmp (hs.tm 76 rfl)) (hs.en 0 rfl) tsh_67 rfl rfl) rfl, fun s_ hs => Acts.yes1 rfl rfl (hs.tm 74 rfl) (Does.fieldP (Evl.tmp (hs.tm 7 rfl)) fld_170_0 (by rw [(hs.en 1 rfl)]; rfl) rfl) rfl, fun s_ hs => Acts.yes1 rfl rfl (hs.tm 74 rfl) (Does.loadP (Evl.tmp (hs.tm 78 rfl)) (hs.en 1 rfl) tsh_3 rfl rfl) rfl, fun s_ hs => Acts.yes1 rfl rfl (hs.tm 74 rfl) (Does.indexE (Evl.tmp (hs.tm 77 rfl)) (Evl.tmp (hs.tm 79 rfl)) und_67 tsh_9 rfl (by omega) hx27) rfl, fun s_ hs => Acts.yes1 rfl rfl (hs.tm 74 rfl) (Does.loadE (Evl.tmp (hs.tm 80 rfl)) tsh_9 rfl rfl) rfl, fun s_ hs => Acts.yes1 rfl rfl (hs.tm 74 rfl) (Does.fieldP (Evl.tmp (hs.tm 1 rfl)) fld_77_1 (by rw [(hs.en 0 rfl)]; rfl) rfl) rfl, fun s_ hs => Acts.yes1 rfl rfl (hs.tm 74 rfl) (Does.loadP (Evl.tmp (hs.tm 82 rfl)) (hs.en 0 rfl) tsh_67 rfl rfl) rfl, fun s_ hs => Acts.yes1 rfl rfl (hs.tm 74 rfl) (Does.fieldP (Evl.tmp (hs.tm 7 rfl)) fld_170_3 (by rw [(hs.en 1 rfl)]; rfl) rfl) rfl, fun s_ hs => Acts.yes1 rfl rfl (hs.tm 74 rfl) (Does.loadP (Evl.tmp (hs.tm 84 rfl)) (hs.en 1 rfl) tsh_3 rfl rfl) rfl, fun s_ hs => Acts.yes1 rfl rfl (hs.tm 74 rfl) (Does.indexE (Evl.tmp (hs.tm 83 rfl)) (Evl.tmp (hs.tm 85 rfl)) und_67 tsh_9 rfl (by omega) hx29) rfl, fun s_ hs => Acts.yes1 rfl rfl (hs.tm 74 rfl) (Does.loadE (Evl.tmp (hs.tm 86 rfl)) tsh_9 rfl rfl) rfl, fun s_ hs => Acts.yes1 rfl rfl (hs.tm 74 rfl) (Does.call (fc_impl_fitsCodes ar cx cy (by have := hwcx (by omega); have := hwcy (by omega); omega)) enters_180 ⟨_, _, rfl, (Ev.tmp (hs.tm 75 rfl)), ⟨_, _, rfl, (Ev.tmp (hs.tm 81 rfl)), ⟨_, _, rfl, (Ev.tmp (hs.tm 87 rfl)), rfl⟩⟩⟩ rfl rfl) rfl, fun s_ hs => Acts.yes1 rfl rfl (hs.tm 74 rfl) (Does.not (Evl.tmp (hs.tm 88 rfl)) rfl) rfl, fun s_ hs => Acts.of1 rfl (Does.pickF (Evl.tmp (hs.tm 74 rfl)) (Ev.tmp (hs.tm 89 rfl)) rfl) rfl, trivial⟩
         refine (?_ : AC _ _ _ _ _)
         refine AC.wk (s' := _) (Wk.refl _ _) ?_
         cases hb30 : (decide (Fit ar cx cy))
         ·have _h := hb30
          have hb30' : ¬ (Fit ar cx cy) := of_decide_eq_false hb30
          refine AC.condT (Evl.tmp rfl) ?_
          refine AC.sr ?_
          refine AL.cons rfl (Does.assignC Evl.bool rfl) ?_
          refine AL.nilS ?_
          refine AC.ret ?_
          subst hO
          have e31 : (false : Bool) = (decide (SgOk c)) := by
           exact sg_no5 hx19 (by first | exact arcn1 (by assumption) | exact arcn2 (by assumption) | exact arcn3 (by assumption) | exact arcn4 (x := cx) (y := cy) (by assumption) (by assumption) (by assumption))
          exact fin_pure (Res.one rfl (Rs.tmp rfl)) ((congrArg (fun z_ => lf (dB z_)) e31)) rfl
         ·have _h := hb30
          have hb30' : (Fit ar cx cy) := of_decide_eq_true hb30
          refine AC.condF (Evl.tmp rfl) ?_
          refine AC.skip ?_
          refine (?_ : AC _ _ _ _ _)
          refine AC.region ?_
          refine AL.cons rfl (Does.add (Evl.tmp rfl) (Evl.int rfl) rfl (by omega)) ?_
          refine AL.cons rfl (Does.move rfl rfl) ?_
          refine AL.nil ?_
          refine lend ⟨i + 1, by omega, rfl, (each_step hR hx19 (arc_ok (by assumption) (by assumption) (by assumption) (x := cx) (y := cy) (by assumption) (by assumption) (by assumption))), rfl⟩ (by omega) ?_
          exact Wk.of [(0, 0)] rfl ⟨rfl, rfl, rfl, rfl, rfl, trivial⟩ ⟨rfl, trivial⟩ rfl rfl
    ·have _h := hb12
     have hb12' : ((k : Int) < (c.2.1.length : Int)) := of_decide_eq_true hb12
     refine AC.condT (Evl.tmp rfl) ?_
     refine AC.skipS ?_
     refine AC.seq ?_
     refine AC.block ?_
     refine AC.sr ?_
     obtain ⟨x32, hx33⟩ : ∃ z, c.2.1[k]? = some z := ⟨_, List.getElem?_eq_getElem (by omega)⟩
     have hzx32 : BitsL x32 (c.1.length : Int) → x32.size = c.1.length := fun h => by have := h.2; omega
     have hwx32 : c.2.1.length ≤ k → x32.size = c.1.length := fun h => hzx32 (each_all hB h _ (List.mem_of_getElem? hx33))
     refine AL.cons rfl (Does.indexE (Evl.tmp rfl) (Evl.tmp rfl) und_67 tsh_9 rfl (by omega) hx33) ?_
     refine AL.cons rfl (Does.loadE (Evl.tmp rfl) tsh_9 rfl rfl) ?_
     refine AL.cons rfl (Does.assign rfl rfl) ?_
     refine AL.nilS ?_
     refine AC.sr ?_
     refine AL.cons rfl (Does.move rfl rfl) ?_
     refine AL.cons rfl (Does.fieldP (Evl.tmp rfl) fld_77_0 rfl rfl) ?_
     refine AL.cons rfl (Does.loadP (Evl.tmp rfl) rfl tsh_29 rfl rfl) ?_
     refine AL.fact (fact_len (x := .tmp 38) (Evl.tmp rfl)) fun hl34 => ?_
     refine AL.cons rfl (Does.len (Evl.tmp rfl) rfl und_29) ?_
     refine AL.cons rfl (Does.call (fc_impl_isBits x32 (c.1.length : Int)) enters_157 ⟨_, _, rfl, (Ev.tmp rfl), ⟨_, _, rfl, (Ev.tmp rfl), rfl⟩⟩ rfl rfl) ?_
     refine AL.cons rfl (Does.not (Evl.tmp rfl) rfl) ?_
     refine AL.nilS ?_
     cases hb35 : (decide (BitsL x32 (c.1.length : Int)))
     ·have _h := hb35
      have hb35' : ¬ (BitsL x32 (c.1.length : Int)) := of_decide_eq_false hb35
      refine AC.condT (Evl.tmp rfl) ?_
      refine AC.sr ?_
      refine AL.cons rfl (Does.assignC Evl.bool rfl) ?_
      refine AL.nilS ?_
      refine AC.ret ?_
      subst hO
      have e36 : (false : Bool) = (decide (SgOk c)) := by
       exact sg_no4 hx33 (by assumption)
      exact fin_pure (Res.one rfl (Rs.tmp rfl)) ((congrArg (fun z_ => lf (dB z_)) e36)) rfl
     ·have _h := hb35
      have hb35' : (BitsL x32 (c.1.length : Int)) := of_decide_eq_true hb35
      refine AC.condF (Evl.tmp rfl) ?_
      refine AC.skip ?_
      refine (?_ : AC _ _ _ _ _)
      refine AC.region ?_
      refine AL.cons rfl (Does.add (Evl.tmp rfl) (Evl.int rfl) rfl (by omega)) ?_
      refine AL.cons rfl (Does.move rfl rfl) ?_
      refine AL.nil ?_
      refine lend ⟨k + 1, by omega, rfl, (each_step hB hx33 (by assumption)), rfl⟩ (by omega) ?_
      exact Wk.of [(0, 0)] rfl ⟨rfl, rfl, rfl, rfl, rfl, trivial⟩ ⟨rfl, trivial⟩ rfl rfl
   ·have _h := hb7
    have hb7' : (4000 < (c.2.2.length : Int)) := of_decide_eq_true hb7
    refine AC.condT (Evl.tmp rfl) ?_
    refine AC.sr ?_
    refine AL.cons rfl (Does.assignC Evl.bool rfl) ?_
    refine AL.nilS ?_
    refine AC.ret ?_
    subst hO
    have e37 : (false : Bool) = (decide (SgOk c)) := by
     exact sg_no3 (by assumption)
    exact fin_pure (Res.one rfl (Rs.tmp rfl)) ((congrArg (fun z_ => lf (dB z_)) e37)) rfl

end Go.Proofs.Ytbelopdphlllnaa
