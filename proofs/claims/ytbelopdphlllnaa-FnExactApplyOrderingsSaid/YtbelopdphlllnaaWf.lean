/- Walks over abstract states: the texts of marks. -/
import Derived.Test.YtbelopdphlllnaaWe
namespace Go.Proofs.Ytbelopdphlllnaa
open Go.RowKit

/-- The digits of k. -/
def dg (k : Int) : Nat → ByteArray
  | 0 => (⟨#[]⟩ : ByteArray)
  | j + 1 => (⟨#[UInt8.ofNat ((48 + (k / 10 ^ j) % 10) : Int).toNat]⟩ : ByteArray) ++ dg k j
theorem dg_size (k : Int) (j : Nat) : (dg k j).size = j := by
  induction j with
  | zero => rfl
  | succ j ih => rw [dg, ByteArray.size_append, ih]; show 1 + j = _; omega
def mt (k : Int) : Nat → Nat → ByteArray
  | 0, j => dg k j
  | n + 1, j => if k / 10 ^ j ≤ 0 then dg k j else mt k n (j + 1)
def markT (k : Int) : ByteArray := if k ≤ 0 then (⟨#[109, 48]⟩ : ByteArray) else (⟨#[109]⟩ : ByteArray) ++ mt k 20 0
theorem pow10 (k : Int) (j : Nat) : k / 10 ^ j / 10 = k / 10 ^ (j + 1) := by
  rw [Int.pow_succ, Int.ediv_ediv_of_nonneg (Int.pow_nonneg (by decide))]
theorem div_big {k : Int} (h : k ≤ 9223372036854775807) (h0 : 0 ≤ k) : k / 10 ^ 20 = 0 := Int.ediv_eq_zero_of_lt h0 (by omega)
theorem mt_stop {k : Int} {n j : Nat} (h : k / 10 ^ j ≤ 0) : mt k n j = dg k j := by
  cases n with
  | zero => rfl
  | succ n => rw [mt, if_pos h]
theorem div_nn {k : Int} (h0 : 0 ≤ k) (j : Nat) : 0 ≤ k / 10 ^ j ∧ k / 10 ^ j ≤ k := ⟨Int.ediv_nonneg h0 (Int.pow_nonneg (by decide)), Int.ediv_le_self _ h0⟩

set_option maxRecDepth 100000 in
set_option maxHeartbeats 4000000 in
theorem fc_laws_markText (k : Int)  : FC Try.prog 117 [(false, [dI k])] [] 0 (Pure (lf (dS (markT k)))) := by
  obtain ⟨O_, hO⟩ : ∃ x : PV → Tab → Prop, x = Pure (lf (dS (markT k))) := ⟨_, rfl⟩
  refine FC.O_of hO (FC.ren (FC.of Try.func117 rfl rfl fun A_ hn_ hk_ => ?_))
  obtain ⟨w0_, N0_, X_, n_, k0_, h0_, f0_⟩ := A_
  obtain rfl : n_ = 20 := hn_.trans Try.ntmps117
  obtain rfl : k0_ = 0 := hk_
  refine AC.fact (fact_int (x := .tmp 0) (Evl.tmp rfl)) fun hi1 => ?_
  refine AC.seq ?_
  refine AC.region ?_
  refine AL.cons rfl (Does.assignC (Evl.str rfl) rfl) ?_
  refine AL.nil ?_
  refine (?_ : AC _ _ _ _ _)
  refine AC.seq ?_
  refine AC.seq ?_
  refine AC.region ?_
  refine AL.cons rfl (Does.move rfl rfl) ?_
  refine AL.cons rfl (Does.leq (Evl.tmp rfl) (Evl.int rfl) rfl) ?_
  refine AL.nil ?_
  refine (?_ : AC _ _ _ _ _)
  cases hb2 : (decide (k ≤ 0))
  · have _h := hb2
    have hb2' : ¬ (k ≤ 0) := of_decide_eq_false hb2
    refine AC.condF (Evl.tmp rfl) ?_
    refine AC.skip ?_
    refine (?_ : AC _ _ _ _ _)
    refine AC.seq ?_
    refine AC.region ?_
    refine AL.cons rfl (Does.assignC (Evl.str rfl) rfl) ?_
    refine AL.nil ?_
    refine (?_ : AC _ _ _ _ _)
    refine AC.seq ?_
    refine AC.block ?_
    refine AC.wk (s' := ⟨[(0, lf (dI (k / 10 ^ 0))), (2, lf (dS (⟨#[]⟩ : ByteArray))), (3, lf (dS (dg k 0)))], []⟩) (Wk.of [] rfl ⟨(show some (lf (dI k)) = some (lf (dI (k / 10 ^ 0))) from congrArg (fun z_ => some (lf (dI z_))) (by simp)), rfl, (show some (lf (dS (⟨#[]⟩ : ByteArray))) = some (lf (dS (dg k 0))) from congrArg (fun z_ => some (lf (dS z_))) (rfl)), trivial⟩ trivial rfl rfl) ?_
    refine AC.loop (fun m_ s_ => ∃ (j : Nat), j ≤ 20 ∧ m_ = 20 - j ∧ (mt k (20 - j) j = mt k 20 0) ∧ s_ = ⟨[(0, lf (dI (k / 10 ^ j))), (2, lf (dS (⟨#[]⟩ : ByteArray))), (3, lf (dS (dg k j)))], []⟩) (m := 20 - 0) ⟨0, Nat.zero_le _, rfl, rfl, rfl⟩ ?_
    rintro m_ s_ ⟨j, hk5, hm6, hf, rfl⟩
    have hdn := div_nn (k := k) (by omega) j
    have hds := dg_size k j
    have hj20 : j = 20 → k / 10 ^ j = 0 := fun h => by subst h; exact div_big (by omega) (by omega)
    refine AC.seq ?_
    refine AC.seq ?_
    refine AC.region ?_
    refine AL.cons rfl (Does.move rfl rfl) ?_
    refine AL.cons rfl (Does.gtr (Evl.tmp rfl) (Evl.int rfl) rfl) ?_
    refine AL.nil ?_
    refine (?_ : AC _ _ _ _ _)
    cases hb7 : (decide (0 < (k / 10 ^ j)))
    · have _h := hb7
      have hb7' : ¬ (0 < (k / 10 ^ j)) := of_decide_eq_false hb7
      refine AC.condF (Evl.tmp rfl) ?_
      refine AC.exit ?_
      refine (?_ : AC _ _ _ _ _)
      refine AC.seq ?_
      refine AC.region ?_
      refine AL.cons rfl (Does.move rfl rfl) ?_
      refine AL.cons rfl (Does.addS (Evl.str rfl) (Evl.tmp rfl) rfl (by first | (simp only [bsize1]; omega) | (rw [dg_size]; simp only [bsize1]; omega) | (rw [dg_size]; show 1 + _ ≤ _; omega))) ?_
      refine AL.cons rfl (Does.assign rfl rfl) ?_
      refine AL.nil ?_
      refine (?_ : AC _ _ _ _ _)
      refine AC.ret ?_
      subst hO
      have e8 : ((⟨#[109]⟩ : ByteArray) ++ (dg k j) : ByteArray) = markT k := by
        first | (rw [markT, if_pos (by omega)]; done) | (rw [markT, if_neg (by omega), ← hf, mt_stop (by omega)])
      exact fin_pure (Res.one rfl (Rs.tmp rfl)) ((congrArg (fun z_ => lf (dS z_)) e8)) rfl
    · have _h := hb7
      have hb7' : (0 < (k / 10 ^ j)) := of_decide_eq_true hb7
      refine AC.condT (Evl.tmp rfl) ?_
      refine AC.skip ?_
      refine (?_ : AC _ _ _ _ _)
      refine AC.block ?_
      refine AC.seq ?_
      refine AC.region ?_
      refine AL.cons rfl (Does.move rfl rfl) ?_
      refine AL.cons rfl (Does.rem (Evl.tmp rfl) (Evl.int rfl) rfl (by omega) (by omega)) ?_
      refine AL.cons rfl (Does.add (Evl.int rfl) (Evl.tmp rfl) rfl (by omega)) ?_
      refine AL.cons rfl (Does.toU8 (Evl.tmp rfl) und_3 und_5 (by omega) (by omega) rfl) ?_
      refine AL.cons rfl (Does.buildSlice 0 (e := .u8) und_156 tsh_5 zer_5 rfl ⟨_, _, rfl, (Ev.tmp rfl), rfl⟩ (List.all_eq_true.1 rfl) ⟨_, _, _, _, rfl, ⟨rfl, rfl⟩, ⟨rfl, rfl⟩, rfl⟩ (by decide) rfl rfl (Fresh.of rfl) (Nat.le_of_ble_eq_true rfl)) ?_
      refine AL.cons rfl (Does.ofBytes (ys := [UInt8.ofNat (48 + ((k / 10 ^ j) % 10)).toNat]) (Evl.repO (Evl.tmp rfl) rfl) und_156 und_5 und_9 rfl) ?_
      refine AL.cons rfl (Does.move rfl rfl) ?_
      refine AL.cons rfl (Does.addS (Evl.tmp rfl) (Evl.tmp rfl) rfl (by first | (simp only [bsize1]; omega) | (rw [dg_size]; simp only [bsize1]; omega) | (rw [dg_size]; show 1 + _ ≤ _; omega))) ?_
      refine AL.cons rfl (Does.assign rfl rfl) ?_
      refine AL.nil ?_
      refine (?_ : AC _ _ _ _ _)
      refine AC.region ?_
      refine AL.cons rfl (Does.move rfl rfl) ?_
      refine AL.cons rfl (Does.quo (Evl.tmp rfl) (Evl.int rfl) rfl (by omega) (by omega)) ?_
      refine AL.cons rfl (Does.assign rfl rfl) ?_
      refine AL.nil ?_
      exact loop_end (20 - (j + 1)) ⟨[(0, lf (dI (k / 10 ^ (j + 1)))), (2, lf (dS (⟨#[]⟩ : ByteArray))), (3, lf (dS (dg k (j + 1))))], []⟩ (by omega) (Wk.of [] rfl ⟨(show some (lf (dI ((k / 10 ^ j) / 10))) = some (lf (dI (k / 10 ^ (j + 1)))) from congrArg (fun z_ => some (lf (dI z_))) (pow10 k j)), rfl, (show some (lf (dS ((⟨#[UInt8.ofNat (48 + ((k / 10 ^ j) % 10)).toNat]⟩ : ByteArray) ++ (dg k j)))) = some (lf (dS (dg k (j + 1)))) from congrArg (fun z_ => some (lf (dS z_))) (rfl)), trivial⟩ trivial rfl rfl) ⟨j + 1, by omega, rfl, by rw [← hf, show 20 - j = (20 - (j + 1)) + 1 by omega, mt, if_neg (by omega)], rfl⟩
  · have _h := hb2
    have hb2' : (k ≤ 0) := of_decide_eq_true hb2
    refine AC.condT (Evl.tmp rfl) ?_
    refine AC.seq ?_
    refine AC.region ?_
    refine AL.cons rfl (Does.assignC (Evl.str rfl) rfl) ?_
    refine AL.nil ?_
    refine (?_ : AC _ _ _ _ _)
    refine AC.ret ?_
    subst hO
    have e11 : ((⟨#[109, 48]⟩ : ByteArray) : ByteArray) = markT k := by
      first | (rw [markT, if_pos (by omega)]; done) | (rw [markT, if_neg (by omega), ← hf, mt_stop (by omega)])
    exact fin_pure (Res.one rfl (Rs.tmp rfl)) ((congrArg (fun z_ => lf (dS z_)) e11)) rfl

end Go.Proofs.Ytbelopdphlllnaa
