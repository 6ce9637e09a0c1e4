/- Walks over abstract states: traces, the reference. -/
import Derived.Test.YtjaadeknhofhpaaGreatEe
import Derived.Test.YtjaadeknhofhpaaGreatBn
import Derived.Test.YtjaadeknhofhpaaGreatWq
import Derived.Test.YtjaadeknhofhpaaGreatEb
set_option linter.unusedSimpArgs false
set_option linter.unusedVariables false
set_option linter.unusedSectionVars false
namespace Go.Proofs.YtjaadeknhofhpaaGreat
open Go.RowKit
set_option maxRecDepth 100000
set_option maxHeartbeats 4000000

/-- Whether a text stands in a list. -/
def hasB (l : List ByteArray) (s : ByteArray) : Bool := l.any fun y => decide (s = y)
theorem hasB_t {l : List ByteArray} {s : ByteArray} : hasB l s = true ↔ s ∈ l := by
  unfold hasB
  rw [List.any_eq_true]
  exact ⟨fun ⟨y, hy, e⟩ => by rw [of_decide_eq_true e]; exact hy, fun h => ⟨s, h, decide_eq_true rfl⟩⟩
theorem hasB_f {l : List ByteArray} {s : ByteArray} (h : ¬ s ∈ l) : hasB l s = false := Bool.eq_false_iff.2 fun e => h (hasB_t.1 e)
section
variable {l : List ByteArray} {s y : ByteArray} {m : Int}
theorem pB_step (hP : ∀ j : Nat, (j : Int) < m → ∀ y, l[j]? = some y → ltB y s = true) (hy : l[m.toNat]? = some y) (h : Op.bytesLess y.toList s.toList = true) : ∀ j : Nat, (j : Int) < m + 1 → ∀ z, l[j]? = some z → ltB z s = true := fun j hj z hz => by
  by_cases e : (j : Int) < m
  · exact hP j e z hz
  · have : j = m.toNat := by omega
    subst this
    rw [hy] at hz; cases hz; exact h
theorem pB_lo (hP : ∀ j : Nat, (j : Int) < m → ∀ y, l[j]? = some y → ltB y s = true) (h0 : 0 ≤ m) (hy : l[m.toNat]? = some y) (he : y = s) : l = putG ltB s l :=
  (putG_same (k := m.toNat) (fun j hj z hz => hP j (by omega) z hz) (he ▸ hy) (ltB_to.irr s)).symm
theorem pB_at (hP : ∀ j : Nat, (j : Int) < m → ∀ y, l[j]? = some y → ltB y s = true) (h0 : 0 ≤ m) (h1 : m ≤ (l.length : Int)) (h : ∀ y, l[m.toNat]? = some y → ltB y s = false ∧ y ≠ s) : l.take m.toNat ++ [s] ++ l.drop m.toNat = putG ltB s l := by
  rw [putG_at (k := m.toNat) (fun j hj z hz => hP j (by omega) z hz) (by omega) h]; simp
theorem pB_end (hP : ∀ j : Nat, (j : Int) < m → ∀ y, l[j]? = some y → ltB y s = true) (h0 : 0 ≤ m) (h1 : m ≤ (l.length : Int)) (h : ¬ m < (l.length : Int)) : l.take m.toNat ++ [s] ++ l.drop m.toNat = putG ltB s l :=
  pB_at hP h0 h1 fun y hy => by rw [List.getElem?_eq_none (by omega)] at hy; cases hy
theorem pB_mid (hP : ∀ j : Nat, (j : Int) < m → ∀ y, l[j]? = some y → ltB y s = true) (h0 : 0 ≤ m) (h1 : m ≤ (l.length : Int)) (hy : l[m.toNat]? = some y) (h2 : Op.bytesLess y.toList s.toList = false) (h3 : ¬ y = s) : l.take m.toNat ++ [s] ++ l.drop m.toNat = putG ltB s l :=
  pB_at hP h0 h1 fun z hz => by rw [hy] at hz; cases hz; exact ⟨h2, h3⟩
end

theorem fc_spec_l11Word (c : (List (ByteArray × Int)) × List ByteArray × (List (Int × Int × Bool × Int))) (a : Int × Int × Bool × Int) (hs : SgOk c) (ha : 0 ≤ a.2.1 ∧ a.2.1 < (c.1.length : Int)) : FC Tryz.prog 289 [(true, [.dat (.sl 90 (.pr .str .int)) c.1, .dat (.sl 9 .str) c.2.1, .dat (.sl 106 (.pr .int (.pr .int (.pr .bool .int)))) c.2.2]), (true, [dI a.1, dI a.2.1, dB a.2.2.1, dI a.2.2.2])] [] 0 (Pure (lf (dS (wdA c a)))) := by
 refine FC.go Tryz.func289 rfl rfl Tryz.ntmps289 fun O_ hO w0_ N0_ X_ h0_ f0_ => ?_
 refine AC.fact (fact_ag (x := .tmp 1) (i := 0) (Ev.tmp rfl) rfl) fun hi1 => AC.fact (fact_ag (x := .tmp 1) (i := 1) (Ev.tmp rfl) rfl) fun hi2 => AC.fact (fact_ag (x := .tmp 1) (i := 3) (Ev.tmp rfl) rfl) fun hi3 => ?_
 refine w_ ?_
 refine xbx 0 ?_
 refine xbx 1 ?_
 iterate 7 refine w_ ?_
 cases hb4 : (a.2.2.1)
 ·iterate 7 refine w_ ?_
  obtain ⟨x5, hx6⟩ : ∃ z, c.1[(a.2.1).toNat]? = some z := ⟨_, List.getElem?_eq_getElem (by omega)⟩
  have hnm := sg_name hs hx6
  iterate 3 refine w_ ?_
  refine lc (Does.addS (Evl.tmp rfl) (Evl.str rfl) rfl (by (simp only [bsize1]; omega))) ?_
  iterate 2 refine w_ ?_
  refine AC.ret ?_
  subst hO
  have e7 : (x5.1 ++ (⟨#[45]⟩ : ByteArray) : ByteArray) = (wdA c a) := by
   exact wdA_dn hx6 (by assumption)
  exact fin_pure (Res.one rfl (Rs.tmp rfl)) ((congrArg (fun z_ => lf (dS z_)) e7)) rfl
 ·iterate 6 refine w_ ?_
  obtain ⟨x8, hx9⟩ : ∃ z, c.1[(a.2.1).toNat]? = some z := ⟨_, List.getElem?_eq_getElem (by omega)⟩
  have hnm := sg_name hs hx9
  iterate 3 refine w_ ?_
  refine lc (Does.addS (Evl.tmp rfl) (Evl.str rfl) rfl (by (simp only [bsize1]; omega))) ?_
  iterate 2 refine w_ ?_
  refine AC.ret ?_
  subst hO
  have e10 : (x8.1 ++ (⟨#[43]⟩ : ByteArray) : ByteArray) = (wdA c a) := by
   exact wdA_up hx9 (by assumption)
  exact fin_pure (Res.one rfl (Rs.tmp rfl)) ((congrArg (fun z_ => lf (dS z_)) e10)) rfl

theorem fc_spec_l11Still (c : (List (ByteArray × Int)) × List ByteArray × (List (Int × Int × Bool × Int))) (hidden : Int) (set : List Int) (hs : SgOk c) (hl : set.length ≤ 100000000) : FC Tryz.prog 209 [(true, [.dat (.sl 90 (.pr .str .int)) c.1, .dat (.sl 9 .str) c.2.1, .dat (.sl 106 (.pr .int (.pr .int (.pr .bool .int)))) c.2.2]), (false, [dI hidden]), (false, [.ref 0])] [(0, some (.arr 3 .int set))] 0 (Own1 3 .int (stl c hidden set)) := by
 have hfw := hs.few
 have hn3 := hs.some_
 refine FC.go Tryz.func209 rfl rfl Tryz.ntmps209 fun O_ hO w0_ N0_ X_ h0_ f0_ => ?_
 refine AC.fact (fact_int (x := .tmp 1) (Evl.tmp rfl)) fun hi1 => ?_
 refine w_ ?_
 refine xbx 1 ?_
 iterate 6 refine w_ ?_
 refine AL.fact (fact_len (x := .tmp 10) (Evl.tmp rfl)) fun hl2 => ?_
 iterate 4 refine w_ ?_
 refine AC.loopW (fun m_ s_ => ∃ (k : Nat), k ≤ c.2.1.length ∧ m_ = c.2.1.length - k ∧ s_ = ⟨[(1, lI hidden), (2, lR 2), (3, lP 1 0), (6, lf (.val (.slice none 0 0))), (11, lI (c.2.1.length : Int)), (12, lI (k : Int))], [(1, some (.box 52 [.dat (.sl 90 (.pr .str .int)) c.1, .dat (.sl 9 .str) c.2.1, .dat (.sl 106 (.pr .int (.pr .int (.pr .bool .int)))) c.2.2])), (2, some (.arr 3 .int (stN hidden c.2.2 k set)))]⟩) ⟨0, Nat.zero_le _, rfl, rfl⟩ ?_ ?_
 · exact Wk.of [(2, 0)] rfl ⟨rfl, rfl, rfl, rfl, rfl, rfl, trivial⟩ ⟨rfl, (entE (rfl)), trivial⟩ rfl rfl
 rintro m_ s_ ⟨k, hk3, hm4, rfl⟩
 have hnl := stN_len (h := hidden) (k := k) (S := set) hfw
 iterate 4 refine w_ ?_
 cases hb5 : (decide ((k : Int) < (c.2.1.length : Int)))
 ·have hb5' := of_decide_eq_false hb5
  refine w_ ?_
  refine AC.exit ?_
  refine (?_ : AC _ _ _ _ _)
  iterate 4 refine w_ ?_
  refine AC.ret ?_
  subst hO
  refine fin_own (e := .int) (xs := (stN hidden c.2.2 k set)) (Res.one rfl (Rs.tmp rfl)) rfl ?_
  (have e : k = c.2.1.length := by omega); subst e; rfl
 ·have hb5' := of_decide_eq_true hb5
  iterate 7 refine w_ ?_
  refine AL.fact (fact_len (x := .tmp 15) (Evl.tmp rfl)) fun hl6 => ?_
  iterate 4 refine w_ ?_
  refine AC.loopW (fun m_ s_ => ∃ (i : Nat), i ≤ c.2.2.length ∧ m_ = c.2.2.length - i ∧ s_ = ⟨[(1, lI hidden), (2, lR 3), (3, lP 1 0), (6, lf (.val (.slice none 0 0))), (11, lI (c.2.1.length : Int)), (12, lI (k : Int)), (13, lB true), (14, lP 1 2), (15, lf (.dat (.sl 106 (.pr .int (.pr .int (.pr .bool .int)))) c.2.2)), (16, lI (c.2.2.length : Int)), (17, lI (i : Int))], [(1, some (.box 52 [.dat (.sl 90 (.pr .str .int)) c.1, .dat (.sl 9 .str) c.2.1, .dat (.sl 106 (.pr .int (.pr .int (.pr .bool .int)))) c.2.2])), (3, some (.arr 3 .int (stP hidden (c.2.2.take i) (stN hidden c.2.2 k set))))]⟩) ⟨0, Nat.zero_le _, rfl, rfl⟩ ?_ ?_
  · exact Wk.of [(3, 2)] rfl ⟨rfl, rfl, rfl, rfl, rfl, rfl, rfl, rfl, rfl, rfl, rfl, trivial⟩ ⟨rfl, (entE (rfl)), trivial⟩ rfl rfl
  rintro m_ s_ ⟨i, hk7, hm8, rfl⟩
  have hpl := stP_len (h := hidden) (as_ := c.2.2.take i) (S := stN hidden c.2.2 k set)
  have hti : (c.2.2.take i).length ≤ c.2.2.length := by simp only [List.length_take]; omega
  iterate 4 refine w_ ?_
  cases hb9 : (decide ((i : Int) < (c.2.2.length : Int)))
  ·have hb9' := of_decide_eq_false hb9
   refine w_ ?_
   refine AC.exit ?_
   refine (?_ : AC _ _ _ _ _)
   iterate 3 refine w_ ?_
   refine AL.nil <| lend ⟨k + 1, by omega, rfl, rfl⟩ (by omega) ?_
   exact Wk.of [(2, 3)] rfl ⟨rfl, rfl, rfl, rfl, rfl, rfl, trivial⟩ ⟨rfl, (entE (st_end (by omega))), trivial⟩ rfl rfl
  ·have hb9' := of_decide_eq_true hb9
   iterate 5 refine w_ ?_
   obtain ⟨x10, hx11⟩ : ∃ z, c.2.2[i]? = some z := ⟨_, List.getElem?_eq_getElem (by omega)⟩
   iterate 2 refine w_ ?_
   refine lc (xal 4 (.pr .int (.pr .int (.pr .bool .int))) zer_106) ?_
   iterate 5 refine w_ ?_
   refine AL.fact (fact_int (x := .tmp 22) (Evl.tmp rfl)) fun hi12 => ?_
   iterate 2 refine w_ ?_
   cases hb13 : (decide (x10.2.1 = (-1)))
   ·have hb13' := of_decide_eq_false hb13
    iterate 6 refine w_ ?_
    cases hb14 : (decide (x10.2.1 = hidden))
    ·have hb14' := of_decide_eq_false hb14
     iterate 7 refine w_ ?_
     refine AC.skip ?_
     refine (?_ : AC _ _ _ _ _)
     iterate 3 refine w_ ?_
     refine AL.nil <| lend ⟨i + 1, by omega, rfl, rfl⟩ (by omega) ?_
     exact Wk.of [] rfl ⟨rfl, rfl, rfl, rfl, rfl, rfl, rfl, rfl, rfl, rfl, rfl, trivial⟩ ⟨rfl, (entE (by first | exact st_y1 hx11 (by assumption) (by assumption) | exact st_y2 hx11 (by assumption) (by assumption) | exact st_n1 hx11 (by assumption) (by assumption) | exact st_n2 hx11 (by assumption))), trivial⟩ rfl rfl
    ·have hb14' := of_decide_eq_true hb14
     iterate 3 refine w_ ?_
     refine lgy rfl rfl (dB_ (fc_spec_l1Has (stP hidden (c.2.2.take i) (stN hidden c.2.2 k set)) x10.1) enters_281) ?_
     iterate 2 refine w_ ?_
     cases hb15 : (decide (x10.1 ∈ (stP hidden (c.2.2.take i) (stN hidden c.2.2 k set))))
     ·have hb15' := of_decide_eq_false hb15
      refine w_ ?_
      refine AC.skip ?_
      refine (?_ : AC _ _ _ _ _)
      iterate 3 refine w_ ?_
      refine AL.nil <| lend ⟨i + 1, by omega, rfl, rfl⟩ (by omega) ?_
      exact Wk.of [] rfl ⟨rfl, rfl, rfl, rfl, rfl, rfl, rfl, rfl, rfl, rfl, rfl, trivial⟩ ⟨rfl, (entE (by first | exact st_y1 hx11 (by assumption) (by assumption) | exact st_y2 hx11 (by assumption) (by assumption) | exact st_n1 hx11 (by assumption) (by assumption) | exact st_n2 hx11 (by assumption))), trivial⟩ rfl rfl
     ·have hb15' := of_decide_eq_true hb15
      iterate 5 refine w_ ?_
      refine AL.fact (fact_int (x := .tmp 38) (Evl.tmp rfl)) fun hi16 => ?_
      refine lc (dP 5 [(0, 3)] (fc_spec_l1Put (stP hidden (c.2.2.take i) (stN hidden c.2.2 k set)) x10.2.2.2 (by omega)) enters_287) ?_
      refine w_ ?_
      refine AL.nil ?_
      refine (?_ : AC _ _ _ _ _)
      iterate 3 refine w_ ?_
      refine AL.nil <| lend ⟨i + 1, by omega, rfl, rfl⟩ (by omega) ?_
      exact Wk.of [(3, 5)] rfl ⟨rfl, rfl, rfl, rfl, rfl, rfl, rfl, rfl, rfl, rfl, rfl, trivial⟩ ⟨rfl, (entE (by first | exact st_y1 hx11 (by assumption) (by assumption) | exact st_y2 hx11 (by assumption) (by assumption) | exact st_n1 hx11 (by assumption) (by assumption) | exact st_n2 hx11 (by assumption))), trivial⟩ rfl rfl
   ·have hb13' := of_decide_eq_true hb13
    iterate 9 refine w_ ?_
    refine lgy rfl rfl (dB_ (fc_spec_l1Has (stP hidden (c.2.2.take i) (stN hidden c.2.2 k set)) x10.1) enters_281) ?_
    iterate 2 refine w_ ?_
    cases hb17 : (decide (x10.1 ∈ (stP hidden (c.2.2.take i) (stN hidden c.2.2 k set))))
    ·have hb17' := of_decide_eq_false hb17
     refine w_ ?_
     refine AC.skip ?_
     refine (?_ : AC _ _ _ _ _)
     iterate 3 refine w_ ?_
     refine AL.nil <| lend ⟨i + 1, by omega, rfl, rfl⟩ (by omega) ?_
     exact Wk.of [] rfl ⟨rfl, rfl, rfl, rfl, rfl, rfl, rfl, rfl, rfl, rfl, rfl, trivial⟩ ⟨rfl, (entE (by first | exact st_y1 hx11 (by assumption) (by assumption) | exact st_y2 hx11 (by assumption) (by assumption) | exact st_n1 hx11 (by assumption) (by assumption) | exact st_n2 hx11 (by assumption))), trivial⟩ rfl rfl
    ·have hb17' := of_decide_eq_true hb17
     iterate 5 refine w_ ?_
     refine AL.fact (fact_int (x := .tmp 38) (Evl.tmp rfl)) fun hi18 => ?_
     refine lc (dP 6 [(0, 3)] (fc_spec_l1Put (stP hidden (c.2.2.take i) (stN hidden c.2.2 k set)) x10.2.2.2 (by omega)) enters_287) ?_
     refine w_ ?_
     refine AL.nil ?_
     refine (?_ : AC _ _ _ _ _)
     iterate 3 refine w_ ?_
     refine AL.nil <| lend ⟨i + 1, by omega, rfl, rfl⟩ (by omega) ?_
     exact Wk.of [(3, 6)] rfl ⟨rfl, rfl, rfl, rfl, rfl, rfl, rfl, rfl, rfl, rfl, rfl, trivial⟩ ⟨rfl, (entE (by first | exact st_y1 hx11 (by assumption) (by assumption) | exact st_y2 hx11 (by assumption) (by assumption) | exact st_n1 hx11 (by assumption) (by assumption) | exact st_n2 hx11 (by assumption))), trivial⟩ rfl rfl

theorem fc_spec_l1HasS (l : List ByteArray) (s : ByteArray)  : FC Tryz.prog 108 [(false, [.dat (.sl 9 .str) l]), (false, [dS s])] [] 0 (Pure (lB (hasB l s))) := by
 refine FC.go Tryz.func108 rfl rfl Tryz.ntmps108 fun O_ hO w0_ N0_ X_ h0_ f0_ => ?_
 iterate 6 refine w_ ?_
 refine AL.fact (fact_len (x := .tmp 7) (Evl.tmp rfl)) fun hl1 => ?_
 iterate 4 refine w_ ?_
 refine AC.loopW (fun m_ s_ => ∃ (k : Nat), k ≤ l.length ∧ m_ = l.length - k ∧ (∀ j, j < k → ∀ y, l[j]? = some y → ¬ y = s) ∧ s_ = ⟨[(1, lf (dS s)), (7, lf (.dat (.sl 9 .str) l)), (8, lI (l.length : Int)), (9, lI (k : Int))], []⟩) ⟨0, Nat.zero_le _, rfl, (fun j hj => absurd hj (Nat.not_lt_zero j)), rfl⟩ ?_ ?_
 · exact Wk.of [] rfl ⟨rfl, rfl, rfl, rfl, trivial⟩ trivial rfl rfl
 rintro m_ s_ ⟨k, hk2, hm3, hno, rfl⟩
 iterate 4 refine w_ ?_
 cases hb4 : (decide ((k : Int) < (l.length : Int)))
 ·have hb4' := of_decide_eq_false hb4
  refine w_ ?_
  refine AC.exit ?_
  refine (?_ : AC _ _ _ _ _)
  iterate 3 refine w_ ?_
  refine AC.ret ?_
  subst hO
  have e5 : (false : Bool) = (hasB l s) := by
   first | exact (hasB_f fun hm => by obtain ⟨j, hj⟩ := List.mem_iff_getElem?.1 hm; exact hno j (by have := (List.getElem?_eq_some_iff.1 hj).1; omega) s hj rfl).symm
  exact fin_pure (Res.one rfl (Rs.tmp rfl)) ((congrArg (fun z_ => lB z_) e5)) rfl
 ·have hb4' := of_decide_eq_true hb4
  iterate 5 refine w_ ?_
  obtain ⟨x6, hx7⟩ : ∃ z, l[k]? = some z := ⟨_, List.getElem?_eq_getElem (by omega)⟩
  iterate 9 refine w_ ?_
  cases hb8 : (decide (x6 = s))
  ·have hb8' := of_decide_eq_false hb8
   refine w_ ?_
   refine AC.skip ?_
   refine (?_ : AC _ _ _ _ _)
   iterate 3 refine w_ ?_
   refine AL.nil <| lend ⟨k + 1, by omega, rfl, (each_step hno hx7 (by assumption)), rfl⟩ (by omega) ?_
   exact Wk.of [] rfl ⟨rfl, rfl, rfl, rfl, trivial⟩ trivial rfl rfl
  ·have hb8' := of_decide_eq_true hb8
   iterate 4 refine w_ ?_
   refine AC.ret ?_
   subst hO
   have e9 : (true : Bool) = (hasB l s) := by
    exact (hasB_t.2 (by have := List.mem_of_getElem? hx7; simp_all)).symm
   exact fin_pure (Res.one rfl (Rs.tmp rfl)) ((congrArg (fun z_ => lB z_) e9)) rfl

theorem fc_spec_l9PutS (l : List ByteArray) (s : ByteArray) (hl : l.length ≤ 900000000) : FC Tryz.prog 210 [(false, [.dat (.sl 9 .str) l]), (false, [dS s])] [] 0 (Pure (lf (.dat (.sl 9 .str) (putG ltB s l)))) := by
 refine FC.go Tryz.func210 rfl rfl Tryz.ntmps210 fun O_ hO w0_ N0_ X_ h0_ f0_ => ?_
 iterate 8 refine w_ ?_
 refine AC.loopW (fun m_ s_ => ∃  (m : Int), m_ = ((l.length : Int) - m).toNat ∧ (0 ≤ m ∧ m ≤ (l.length : Int)) ∧ (∀ j : Nat, (j : Int) < m → ∀ y, l[j]? = some y → ltB y s = true) ∧ s_ = ⟨[(0, lf (.dat (.sl 9 .str) l)), (1, lf (dS s)), (4, lf (.val (.slice none 0 0))), (5, lI m)], []⟩) ⟨0, rfl, (by omega), (fun j hj => by omega), rfl⟩ ?_ ?_
 · exact Wk.of [] rfl ⟨rfl, rfl, rfl, rfl, trivial⟩ trivial rfl rfl
 rintro m_ s_ ⟨m, hm2, hm, hP, rfl⟩
 iterate 4 refine w_ ?_
 refine AL.fact (fact_len (x := .tmp 8) (Evl.tmp rfl)) fun hl3 => ?_
 iterate 3 refine w_ ?_
 cases hb4 : (decide (m < (l.length : Int)))
 ·have hb4' := of_decide_eq_false hb4
  iterate 9 refine w_ ?_
  refine AC.exit ?_
  refine (?_ : AC _ _ _ _ _)
  iterate 4 refine w_ ?_
  refine AL.fact (fact_len (x := .tmp 22) (Evl.tmp rfl)) fun hl5 => ?_
  iterate 3 refine w_ ?_
  have hb6 : (decide (m < (l.length : Int))) = false := hb4
  try rw [hb6]
  iterate 13 refine w_ ?_
  refine lc (Does.sliceD (l := (some m)) (h := none) (Evl.tmp rfl) (by exact (Evl.tmp rfl)) (by exact trivial) und_49 tsh_9 rfl (by simp only [Option.getD_none, Option.getD_some]; omega) (by simp only [Option.getD_none, Option.getD_some]; omega) (by simp only [Option.getD_none, Option.getD_some]; omega)) ?_
  refine lc (dK (fc_spec_l1OwnS ((l.take l.length).drop (m).toNat) (by simp only [List.length_take, List.length_drop]; omega)).frozen enters_258) ?_
  iterate 5 refine w_ ?_
  refine lc (Does.sliceD (l := none) (h := (some m)) (Evl.tmp rfl) (by exact trivial) (by exact (Evl.tmp rfl)) und_49 tsh_9 rfl (by simp only [Option.getD_none, Option.getD_some]; omega) (by simp only [Option.getD_none, Option.getD_some]; omega) (by simp only [Option.getD_none, Option.getD_some]; omega)) ?_
  refine lc (dO 0 (fc_spec_l1OwnS ((l.take (m).toNat).drop 0) (by simp only [List.length_take, List.length_drop]; omega)) enters_258) ?_
  refine w_ ?_
  refine lc (dBs 1 (e := .str) zer_9) ?_
  refine lc (dA 2 elb_9) ?_
  refine w_ ?_
  refine lc (Does.appendF 3 (Evl.tmp rfl) rfl (Evl.rep (Evl.tmp rfl)) rfl und_49 elb_9 (by first | omega | (simp only [List.length_append, List.length_map, List.length_take, List.length_cons, List.length_nil]; omega) | (simp only [List.length_append, List.length_drop, List.length_take, List.length_cons, List.length_nil]; omega)) rfl (Fresh.of rfl) (nlr rfl)) ?_
  iterate 2 refine w_ ?_
  refine AC.wk (Wk.freeze (i := 4) (q := 3) rfl rfl) <| AC.ret ?_
  subst hO
  have e7 : ((((l.take (m).toNat).drop 0) ++ ([s])) ++ ((l.take l.length).drop (m).toNat) : ((.sl 9 .str) : Ty).Den) = (putG ltB s l) := by
   (rw [List.drop_zero, List.take_length]; exact pB_end hP (by omega) (by omega) (by omega))
  exact fin_pure (Res.one rfl (Rs.tmp rfl)) ((congrArg (fun z_ => lf (.dat (.sl 9 .str) z_)) e7)) rfl
 ·have hb4' := of_decide_eq_true hb4
  iterate 2 refine w_ ?_
  obtain ⟨y, hx9⟩ : ∃ z, l[(m).toNat]? = some z := ⟨_, List.getElem?_eq_getElem (by omega)⟩
  have yh := hx9
  iterate 3 refine w_ ?_
  refine lgy rfl rfl (Does.lssS (Evl.tmp rfl) (Evl.tmp rfl) rfl) ?_
  iterate 2 refine w_ ?_
  cases hb10 : (Op.bytesLess y.toList s.toList)
  ·refine w_ ?_
   refine AC.exit ?_
   refine (?_ : AC _ _ _ _ _)
   iterate 4 refine w_ ?_
   refine AL.fact (fact_len (x := .tmp 22) (Evl.tmp rfl)) fun hl11 => ?_
   iterate 3 refine w_ ?_
   have hb12 : (decide (m < (l.length : Int))) = true := hb4
   try rw [hb12]
   iterate 8 refine w_ ?_
   cases hb13 : (decide (y = s))
   ·have hb13' := of_decide_eq_false hb13
    iterate 5 refine w_ ?_
    refine lc (Does.sliceD (l := (some m)) (h := none) (Evl.tmp rfl) (by exact (Evl.tmp rfl)) (by exact trivial) und_49 tsh_9 rfl (by simp only [Option.getD_none, Option.getD_some]; omega) (by simp only [Option.getD_none, Option.getD_some]; omega) (by simp only [Option.getD_none, Option.getD_some]; omega)) ?_
    refine lc (dK (fc_spec_l1OwnS ((l.take l.length).drop (m).toNat) (by simp only [List.length_take, List.length_drop]; omega)).frozen enters_258) ?_
    iterate 5 refine w_ ?_
    refine lc (Does.sliceD (l := none) (h := (some m)) (Evl.tmp rfl) (by exact trivial) (by exact (Evl.tmp rfl)) und_49 tsh_9 rfl (by simp only [Option.getD_none, Option.getD_some]; omega) (by simp only [Option.getD_none, Option.getD_some]; omega) (by simp only [Option.getD_none, Option.getD_some]; omega)) ?_
    refine lc (dO 4 (fc_spec_l1OwnS ((l.take (m).toNat).drop 0) (by simp only [List.length_take, List.length_drop]; omega)) enters_258) ?_
    refine w_ ?_
    refine lc (dBs 5 (e := .str) zer_9) ?_
    refine lc (dA 6 elb_9) ?_
    refine w_ ?_
    refine lc (Does.appendF 7 (Evl.tmp rfl) rfl (Evl.rep (Evl.tmp rfl)) rfl und_49 elb_9 (by first | omega | (simp only [List.length_append, List.length_map, List.length_take, List.length_cons, List.length_nil]; omega) | (simp only [List.length_append, List.length_drop, List.length_take, List.length_cons, List.length_nil]; omega)) rfl (Fresh.of rfl) (nlr rfl)) ?_
    iterate 2 refine w_ ?_
    refine AC.wk (Wk.freeze (i := 4) (q := 7) rfl rfl) <| AC.ret ?_
    subst hO
    have e14 : ((((l.take (m).toNat).drop 0) ++ ([s])) ++ ((l.take l.length).drop (m).toNat) : ((.sl 9 .str) : Ty).Den) = (putG ltB s l) := by
     (rw [List.drop_zero, List.take_length]; exact pB_mid hP (by omega) (by omega) yh (by assumption) (by assumption))
    exact fin_pure (Res.one rfl (Rs.tmp rfl)) ((congrArg (fun z_ => lf (.dat (.sl 9 .str) z_)) e14)) rfl
   ·have hb13' := of_decide_eq_true hb13
    iterate 5 refine w_ ?_
    refine AC.ret ?_
    subst hO
    have e15 : (l : ((.sl 9 .str) : Ty).Den) = (putG ltB s l) := by
     exact pB_lo hP (by omega) yh (by assumption)
    exact fin_pure (Res.one rfl (Rs.tmp rfl)) ((congrArg (fun z_ => lf (.dat (.sl 9 .str) z_)) e15)) rfl
  ·iterate 7 refine w_ ?_
   refine AL.nil <| lend ⟨(m + 1), rfl, (by omega), (pB_step hP yh (by assumption)), rfl⟩ (by omega) ?_
   exact Wk.of [] rfl ⟨rfl, rfl, rfl, rfl, trivial⟩ trivial rfl rfl

theorem cellsT {xs : List DTx} {i : Nat} {y : DTx} (h : xs[i]? = some y) : (cellsL (.pr .str (.pr (.sl 3 .int) .int)) xs)[i * 3 + 1]? = some (.dat (.sl 3 .int) y.2.1) := cellsL_get (e := .pr .str (.pr (.sl 3 .int) .int)) (j := 1) h rfl
theorem cellsT_set {xs : List DTx} {i : Nat} {y : DTx} {ys : List Int} (h : xs[i]? = some y) : (cellsL (.pr .str (.pr (.sl 3 .int) .int)) xs).set (i * 3 + 1) (.dat (.sl 3 .int) ys) = cellsL (.pr .str (.pr (.sl 3 .int) .int)) (xs.set i (y.1, ys, y.2.2)) :=
  (cellsL_set (e := .pr .str (.pr (.sl 3 .int) .int)) (j := 1) (x' := (y.1, ys, y.2.2)) h rfl (by decide)).symm

theorem fc_spec_l11Put (l : List (ByteArray × List Int × Int)) (x : ByteArray × List Int × Int) (hl : Sm 100000000 l) (hx : x.2.1.length ≤ 1) : FC Tryz.prog 288 [(false, [.ref 0]), (true, [dS x.1, .ref 1, dI x.2.2])] [(0, some (.arr 232 (.pr .str (.pr (.sl 3 .int) .int)) l)), (1, some (.arr 3 .int x.2.1))] 0 (Own1 232 (.pr .str (.pr (.sl 3 .int) .int)) (putT l x)) := by
 have hll := hl.1
 refine FC.go Tryz.func288 rfl rfl Tryz.ntmps288 fun O_ hO w0_ N0_ X_ h0_ f0_ => ?_
 refine AC.fact (fact_ag (x := .tmp 1) (i := 2) (Ev.tmp rfl) rfl) fun hi1 => ?_
 refine w_ ?_
 refine xbx 2 ?_
 iterate 9 refine w_ ?_
 refine AC.loopW (fun m_ s_ => ∃ (k : Nat), k ≤ l.length ∧ m_ = l.length - k ∧ (∀ j, j < k → ∀ z, l[j]? = some z → ¬ (z.1 = x.1 ∧ z.2.2 = x.2.2)) ∧ s_ = ⟨[(0, lR 0), (3, lP 2 0), (9, lI (l.length : Int)), (10, lI (k : Int))], [(0, some (.arr 232 (.pr .str (.pr (.sl 3 .int) .int)) l)), (1, some (.arr 3 .int x.2.1)), (2, some (.box 232 [dS x.1, .ref 1, dI x.2.2]))]⟩) ⟨0, Nat.zero_le _, rfl, (fun j hj => absurd hj (Nat.not_lt_zero j)), rfl⟩ ?_ ?_
 · exact Wk.of [] rfl ⟨rfl, rfl, rfl, rfl, trivial⟩ ⟨rfl, rfl, rfl, trivial⟩ rfl rfl
 rintro m_ s_ ⟨k, hk2, hm3, hP, rfl⟩
 iterate 4 refine w_ ?_
 cases hb4 : (decide ((k : Int) < (l.length : Int)))
 ·have hb4' := of_decide_eq_false hb4
  refine w_ ?_
  refine AC.exit ?_
  refine (?_ : AC _ _ _ _ _)
  iterate 3 refine w_ ?_
  refine lc (dBs 3 (e := (.pr .str (.pr (.sl 3 .int) .int))) zer_232 (hab := by exact ⟨_, _, _, _, rfl, ⟨[dS x.1], [.ref 1, dI x.2.2], _, _, _, _, rfl, rfl, ⟨rfl, rfl⟩, ⟨[.ref 1], [dI x.2.2], _, _, _, _, rfl, rfl, (.inl ⟨_, rfl, rfl, rfl⟩), ⟨rfl, rfl⟩, rfl⟩, rfl⟩, ⟨rfl, rfl⟩, rfl⟩)) ?_
  refine lc (dA 4 elb_232) ?_
  iterate 2 refine w_ ?_
  refine AC.ret ?_
  subst hO
  refine fin_own (e := (.pr .str (.pr (.sl 3 .int) .int))) (xs := (l ++ ([(x.1, x.2.1, x.2.2)]))) (Res.one rfl (Rs.tmp rfl)) rfl ?_
  exact putT_end (fun j hj => hP j (by omega))
 ·have hb4' := of_decide_eq_true hb4
  iterate 8 refine w_ ?_
  obtain ⟨y, hx6⟩ : ∃ z, l[k]? = some z := ⟨_, List.getElem?_eq_getElem (by omega)⟩
  have yh := hx6
  have hyl := hl.2 _ (List.mem_of_getElem? hx6)
  cases hb7 : (decide (y.1 = x.1))
  ·have hb7' := of_decide_eq_false hb7
   apply dW [io 13 _, io 14 _, io 15 (lf (.ept 0 3 k 0)), io 16 (lf (.ept 0 3 k 0)), io 17 (lf (dS y.1)), io 18 _, io 19 _, io 20 (lB false), io 21 _, io 22 _, io 23 _, io 24 _, io 25 _, io 26 _, io 27 _, io 28 _, io 29 _, io 30 _] [0, 1, 0, 0, 0, 31, 31, 0, 0, 0, 512, 0, 0, 0, 15872, 15872, 0, 0]
   iterate 2 refine z_ ?_
   refine zz (fun _ h_ => ac (Does.indexI (e := (.pr .str (.pr (.sl 3 .int) .int))) (h_.v rfl) (h_.en 0 rfl) (h_.v rfl) und_233 tsh_232 rfl (by omega) (by first | omega | (simp only [List.length_set]; omega))) rfl) <| zz (fun _ h_ => ac (Does.fieldI (h_.v rfl) fld_232_0 (by rw [(h_.en 0 rfl)]; rfl) rfl) rfl) <| zz (fun _ h_ => ac (Does.loadD (e := (.pr .str (.pr (.sl 3 .int) .int))) (t := .str) (h_.v rfl) (h_.n 0 rfl) hx6 rfl tsh_9 rfl rfl) rfl) ?_
   iterate 2 refine z_ ?_
   refine zz (fun _ h_ => ac (Does.asB (hb7) (Does.eqlS (h_.v rfl) (h_.v rfl) rfl)) rfl) ?_
   iterate 10 refine z_ ?_
   exact zN
   refine w_ ?_
   refine AC.skip ?_
   refine (?_ : AC _ _ _ _ _)
   iterate 3 refine w_ ?_
   refine AL.nil <| lend ⟨k + 1, by omega, rfl, (each_step hP yh (fun g => by first | exact absurd g.1 (by assumption) | exact absurd g.2 (by assumption))), rfl⟩ (by omega) ?_
   exact Wk.of [] rfl ⟨rfl, rfl, rfl, rfl, trivial⟩ ⟨rfl, rfl, rfl, trivial⟩ rfl rfl
  ·have hb7' := of_decide_eq_true hb7
   apply dW [io 13 _, io 14 _, io 15 (lf (.ept 0 3 k 0)), io 16 (lf (.ept 0 3 k 0)), io 17 (lf (dS y.1)), io 18 _, io 19 _, io 20 (lB true), io 21 _, io 22 _, io 23 _, io 24 (lf (.ept 0 3 k 0)), io 25 (lf (.ept 0 3 k 2)), io 26 (lI y.2.2), io 27 _, io 28 _, io 29 _, io 30 _] [0, 1, 0, 0, 0, 31, 31, 0, 0, 0, 512, 0, 0, 0, 15872, 15872, 0, 0]
   iterate 2 refine z_ ?_
   refine zz (fun _ h_ => ac (Does.indexI (e := (.pr .str (.pr (.sl 3 .int) .int))) (h_.v rfl) (h_.en 0 rfl) (h_.v rfl) und_233 tsh_232 rfl (by omega) (by first | omega | (simp only [List.length_set]; omega))) rfl) <| zz (fun _ h_ => ac (Does.fieldI (h_.v rfl) fld_232_0 (by rw [(h_.en 0 rfl)]; rfl) rfl) rfl) <| zz (fun _ h_ => ac (Does.loadD (e := (.pr .str (.pr (.sl 3 .int) .int))) (t := .str) (h_.v rfl) (h_.n 0 rfl) hx6 rfl tsh_9 rfl rfl) rfl) ?_
   iterate 2 refine z_ ?_
   refine zz (fun _ h_ => ac (Does.asB (hb7) (Does.eqlS (h_.v rfl) (h_.v rfl) rfl)) rfl) ?_
   iterate 3 refine z_ ?_
   refine zz (fun _ h_ => day rfl (h_.k rfl) (Does.indexI (e := (.pr .str (.pr (.sl 3 .int) .int))) (h_.v rfl) (h_.en 0 rfl) (h_.v rfl) und_233 tsh_232 rfl (by omega) (by first | omega | (simp only [List.length_set]; omega))) rfl) <| zz (fun _ h_ => day rfl (h_.k rfl) (Does.fieldI (h_.v rfl) fld_232_2 (by rw [(h_.en 0 rfl)]; rfl) rfl) rfl) <| zz (fun _ h_ => day rfl (h_.k rfl) (Does.loadD (e := (.pr .str (.pr (.sl 3 .int) .int))) (t := .int) (h_.v rfl) (h_.n 0 rfl) hx6 rfl tsh_3 rfl rfl) rfl) ?_
   iterate 4 refine z_ ?_
   exact zN
   cases hb8 : (decide (y.2.2 = x.2.2))
   ·have hb8' := of_decide_eq_false hb8
    refine w_ ?_
    refine AC.skip ?_
    refine (?_ : AC _ _ _ _ _)
    iterate 3 refine w_ ?_
    refine AL.nil <| lend ⟨k + 1, by omega, rfl, (each_step hP yh (fun g => by first | exact absurd g.1 (by assumption) | exact absurd g.2 (by assumption))), rfl⟩ (by omega) ?_
    exact Wk.of [] rfl ⟨rfl, rfl, rfl, rfl, trivial⟩ ⟨rfl, rfl, rfl, trivial⟩ rfl rfl
   ·have hb8' := of_decide_eq_true hb8
    iterate 9 refine w_ ?_
    refine AC.loopW (fun m_ s_ => ∃ (j : Nat), j ≤ x.2.1.length ∧ m_ = x.2.1.length - j ∧ s_ = ⟨[(0, lR 5), (3, lP 2 0), (5, lI (k : Int)), (9, lI (l.length : Int)), (10, lI (k : Int)), (11, lB true), (12, lI (k : Int)), (14, lI (k : Int)), (17, lf (dS y.1)), (18, lP 2 0), (19, lf (dS x.1)), (20, lB true), (21, lB true), (23, lI (k : Int)), (26, lI y.2.2), (27, lP 2 2), (28, lI x.2.2), (29, lB true), (30, lB true), (31, lP 2 1), (32, lR 1), (33, lI (x.2.1.length : Int)), (34, lI (j : Int))], [(1, some (.arr 3 .int x.2.1)), (2, some (.box 232 [dS x.1, .ref 1, dI x.2.2])), (5, some (.arr 232 (.pr .str (.pr (.sl 3 .int) .int)) (l.set k (ftT x j y))))]⟩) ⟨0, Nat.zero_le _, rfl, rfl⟩ ?_ ?_
    · exact Wk.of [(5, 0)] rfl ⟨rfl, rfl, rfl, rfl, rfl, rfl, rfl, rfl, rfl, rfl, rfl, rfl, rfl, rfl, rfl, rfl, rfl, rfl, rfl, rfl, rfl, rfl, rfl, trivial⟩ ⟨rfl, rfl, (entE ((set_self yh).symm)), trivial⟩ rfl rfl
    rintro m_ s_ ⟨j, hk9, hm10, rfl⟩
    have hfl := ftT_len (x := x) (j := j) (y := y)
    iterate 4 refine w_ ?_
    cases hb11 : (decide ((j : Int) < (x.2.1.length : Int)))
    ·have hb11' := of_decide_eq_false hb11
     refine w_ ?_
     refine AC.exit ?_
     refine (?_ : AC _ _ _ _ _)
     iterate 4 refine w_ ?_
     refine AC.ret ?_
     subst hO
     refine fin_own (e := (.pr .str (.pr (.sl 3 .int) .int))) (xs := (l.set k (ftT x j y))) (Res.one rfl (Rs.tmp rfl)) rfl ?_
     exact putT_at hP yh (by assumption) (by assumption) (by omega)
    ·have hb11' := of_decide_eq_true hb11
     iterate 6 refine w_ ?_
     obtain ⟨u, hx13⟩ : ∃ z, x.2.1[j]? = some z := ⟨_, List.getElem?_eq_getElem (by omega)⟩
     have uh := hx13
     refine w_ ?_
     refine AL.fact (fact_int (x := .tmp 37) (Evl.tmp rfl)) fun hi14 => ?_
     iterate 2 refine w_ ?_
     have hye : (l.set k (ftT x j y))[k]? = some (ftT x j y) := List.getElem?_set_self (by omega)
     have hEl := (List.getElem?_eq_some_iff.1 hye).1
     have hcA := cellsT hye
     have hpA : k * 3 + 1 < (cellsL (.pr .str (.pr (.sl 3 .int) .int)) (l.set k (ftT x j y))).length := by rw [cellsL_len]; have := (List.getElem?_eq_some_iff.1 hye).1; show k * 3 + 1 < (l.set k (ftT x j y)).length * 3; omega
     refine AC.wk (Wk.open (q := 5) rfl ((by have := (List.getElem?_eq_some_iff.1 hye).1; omega))) ?_
     refine AC.wk (Wk.splitX 6 (q := 5) (p := k * 3 + 1) (E' := 3) (e' := .int) (ys := (ftT x j y).2.1) rfl (hcA) (Fresh.of rfl) (Nat.le_of_ble_eq_true rfl)) ?_
     iterate 5 refine w_ ?_
     refine lc (Does.indexX (Evl.tmp rfl) rfl (Evl.tmp rfl) und_233 tsh_232 rfl (by omega) (by omega)) ?_
     refine w_ ?_
     refine lc (Does.loadX (Evl.tmp rfl) rfl (show (ovr _ _)[k * 3 + 1]? = some (.ref 6) from by simp only [ovr, List.getElem?_set, List.length_set, hpA, hcA, eq_self, if_true, if_false, ↓reduceIte]) rfl tsh_95 rfl) ?_
     refine w_ ?_
     refine lc (dP 7 [(0, 6)] (fc_spec_l1Put ((ftT x j y).2.1) u (by omega)) enters_287) ?_
     refine lc (Does.indexX (Evl.tmp rfl) rfl (Evl.tmp rfl) und_233 tsh_232 rfl (by omega) (by omega)) ?_
     refine w_ ?_
     refine lc (Does.storeX (t := 6) (Evl.tmp rfl) rfl (show (ovr _ _)[k * 3 + 1]? = some (.ref 6) from by simp only [ovr, List.getElem?_set, List.length_set, hpA, hcA, eq_self, if_true, if_false, ↓reduceIte]) (Evl.tmp rfl) rfl tsh_95) ?_
     refine AL.nil ?_
     refine (?_ : AC _ _ _ _ _)
     refine AC.wk (Wk.joinX (q := 5) (t := 7) (p := k * 3 + 1) rfl (by show (ovr (cellsL (.pr .str (.pr (.sl 3 .int) .int)) (l.set k (ftT x j y))) [(k * 3 + 1, .ref 7), (k * 3 + 1, .ref 6)])[k * 3 + 1]? = some (.ref 7); simp only [ovr, List.getElem?_set, List.length_set, hpA, hcA, eq_self, if_true, if_false, ↓reduceIte]) rfl) ?_
     refine AC.wk (Wk.close (q := 5) (e := (.pr .str (.pr (.sl 3 .int) .int))) ((l.set k (ftT x j y)).set k ((ftT x j y).1, putG ltI u ((ftT x j y).2.1), (ftT x j y).2.2)) rfl (by simp only [List.length_set]) (by show ovr (cellsL (.pr .str (.pr (.sl 3 .int) .int)) (l.set k (ftT x j y))) [(k * 3 + 1, .dat (.sl 3 .int) (putG ltI u ((ftT x j y).2.1))), (k * 3 + 1, .ref 7), (k * 3 + 1, .ref 6)] = _; refine .trans ?_ (cellsT_set hye); simp only [ovr, List.set_set])) ?_
     iterate 3 refine w_ ?_
     refine AL.nil <| lend ⟨j + 1, by omega, rfl, rfl⟩ (by omega) ?_
     exact Wk.of [] rfl ⟨rfl, rfl, rfl, rfl, rfl, rfl, rfl, rfl, rfl, rfl, rfl, rfl, rfl, rfl, rfl, rfl, rfl, rfl, rfl, rfl, rfl, rfl, rfl, trivial⟩ ⟨rfl, rfl, (entE ((by rw [List.set_set]; exact congrArg (l.set k) (ftT_succ (y := y) uh)))), trivial⟩ rfl rfl

theorem fc_spec_l11More (c : (List (ByteArray × Int)) × List ByteArray × (List (Int × Int × Bool × Int))) (hidden : Int) (list : List (ByteArray × List Int × Int)) (hs : SgOk c) (hl : list.length ≤ 1000) (hz : ∀ x ∈ list, x.1.size ≤ 1000 ∧ 0 ≤ x.2.2 ∧ x.2.2 ≤ 1000) : FC Tryz.prog 211 [(true, [.dat (.sl 90 (.pr .str .int)) c.1, .dat (.sl 9 .str) c.2.1, .dat (.sl 106 (.pr .int (.pr .int (.pr .bool .int)))) c.2.2]), (false, [dI hidden]), (false, [.dat (.sl 232 (.pr .str (.pr (.sl 3 .int) .int))) list])] [] 0 (Own1 232 (.pr .str (.pr (.sl 3 .int) .int)) (morT c hidden list)) := by
 have hfw := hs.few
 refine FC.go Tryz.func211 rfl rfl Tryz.ntmps211 fun O_ hO w0_ N0_ X_ h0_ f0_ => ?_
 refine AC.fact (fact_int (x := .tmp 1) (Evl.tmp rfl)) fun hi1 => ?_
 refine w_ ?_
 refine xbx 0 ?_
 iterate 8 refine w_ ?_
 refine AL.fact (fact_len (x := .tmp 13) (Evl.tmp rfl)) fun hl2 => ?_
 iterate 4 refine w_ ?_
 refine AC.wk (Wk.nilS 1 7 232 (.pr .str (.pr (.sl 3 .int) .int)) rfl (Fresh.of rfl) (nlr rfl)) ?_
 refine AC.loopW (fun m_ s_ => ∃ (k : Nat), k ≤ list.length ∧ m_ = list.length - k ∧ s_ = ⟨[(1, lI hidden), (3, lP 0 0), (6, lf (.val (.slice none 0 0))), (7, lR 2), (13, lf (.dat (.sl 232 (.pr .str (.pr (.sl 3 .int) .int))) list)), (14, lI (list.length : Int)), (15, lI (k : Int))], [(0, some (.box 52 [.dat (.sl 90 (.pr .str .int)) c.1, .dat (.sl 9 .str) c.2.1, .dat (.sl 106 (.pr .int (.pr .int (.pr .bool .int)))) c.2.2])), (2, some (.arr 232 (.pr .str (.pr (.sl 3 .int) .int)) (colT c hidden (list.take k) [])))]⟩) ⟨0, Nat.zero_le _, rfl, rfl⟩ ?_ ?_
 · exact Wk.of [(2, 1)] rfl ⟨rfl, rfl, rfl, rfl, rfl, rfl, rfl, trivial⟩ ⟨rfl, (entE (rfl)), trivial⟩ rfl rfl
 rintro m_ s_ ⟨k, hk3, hm4, rfl⟩
 iterate 4 refine w_ ?_
 cases hb5 : (decide ((k : Int) < (list.length : Int)))
 ·have hb5' := of_decide_eq_false hb5
  refine w_ ?_
  refine AC.exit ?_
  refine (?_ : AC _ _ _ _ _)
  refine w_ ?_
  refine AC.seq ?_
  have hke : list.take k = list := List.take_of_length_le (by omega)
  rw [hke]
  have hsm := sm_all (h := hidden) hfw hl
  have hsl := hsm.1
  iterate 6 refine w_ ?_
  refine AC.loopW (fun m_ s_ => ∃ (o : Nat), o ≤ (colT c hidden list []).length ∧ m_ = (colT c hidden list []).length - o ∧ s_ = ⟨[(1, lI hidden), (3, lP 0 0), (6, lf (.val (.slice none 0 0))), (7, lR 3), (60, lI ((colT c hidden list []).length : Int)), (61, lI (o : Int))], [(0, some (.box 52 [.dat (.sl 90 (.pr .str .int)) c.1, .dat (.sl 9 .str) c.2.1, .dat (.sl 106 (.pr .int (.pr .int (.pr .bool .int)))) c.2.2])), (3, some (.arr 232 (.pr .str (.pr (.sl 3 .int) .int)) (((colT c hidden list []).take o).map (clsT c hidden) ++ (colT c hidden list []).drop o)))]⟩) ⟨0, Nat.zero_le _, rfl, rfl⟩ ?_ ?_
  · exact Wk.of [(3, 2)] rfl ⟨rfl, rfl, rfl, rfl, rfl, rfl, trivial⟩ ⟨rfl, (entE (cls_0.symm)), trivial⟩ rfl rfl
  rintro m_ s_ ⟨o, hk6, hm7, rfl⟩
  have hxl : (((colT c hidden list []).take o).map (clsT c hidden) ++ (colT c hidden list []).drop o).length = (colT c hidden list []).length := cls_len
  iterate 4 refine w_ ?_
  cases hb8 : (decide ((o : Int) < ((colT c hidden list []).length : Int)))
  ·have hb8' := of_decide_eq_false hb8
   refine w_ ?_
   refine AC.exit ?_
   refine (?_ : AC _ _ _ _ _)
   iterate 4 refine w_ ?_
   refine AC.ret ?_
   subst hO
   refine fin_own (e := (.pr .str (.pr (.sl 3 .int) .int))) (xs := (((colT c hidden list []).take o).map (clsT c hidden) ++ (colT c hidden list []).drop o)) (Res.one rfl (Rs.tmp rfl)) rfl ?_
   exact cls_end (by omega)
  ·have hb8' := of_decide_eq_true hb8
   iterate 8 refine w_ ?_
   obtain ⟨y, hy⟩ : ∃ z, (colT c hidden list [])[o]? = some z := ⟨_, List.getElem?_eq_getElem (by omega)⟩
   have hyl := hsm.2 _ (List.mem_of_getElem? hy)
   have hye : (((colT c hidden list []).take o).map (clsT c hidden) ++ (colT c hidden list []).drop o)[o]? = some (y) := cls_at hy
   have hEl := (List.getElem?_eq_some_iff.1 hye).1
   have hcA := cellsT hye
   have hpA : o * 3 + 1 < (cellsL (.pr .str (.pr (.sl 3 .int) .int)) (((colT c hidden list []).take o).map (clsT c hidden) ++ (colT c hidden list []).drop o)).length := by rw [cellsL_len]; have := (List.getElem?_eq_some_iff.1 hye).1; show o * 3 + 1 < (((colT c hidden list []).take o).map (clsT c hidden) ++ (colT c hidden list []).drop o).length * 3; omega
   refine AC.wk (Wk.open (q := 3) rfl ((by have := (List.getElem?_eq_some_iff.1 hye).1; omega))) ?_
   refine AC.wk (Wk.splitX 4 (q := 3) (p := o * 3 + 1) (E' := 3) (e' := .int) (ys := (y).2.1) rfl (hcA) (Fresh.of rfl) (Nat.le_of_ble_eq_true rfl)) ?_
   apply dV [io 64 _, io 65 _, io 66 _, io 67 _, io 68 _, io 69 _, io 70 (lf (.ept 3 3 o 0)), io 71 (lf (.ept 3 3 o 1)), io 72 (lR 4), ⟨some 73, lR 5, [(5, some (.arr 3 .int (stl c hidden ((y).2.1)))), (4, none)]⟩, io 74 (lf (.ept 3 3 o 0)), io 75 (lf (.ept 3 3 o 1)), ⟨none, lf (.val undef), [(3, some (.obx 232 3 ((((colT c hidden list []).take o).map (clsT c hidden) ++ (colT c hidden list []).drop o).length) (cellsL (.pr .str (.pr (.sl 3 .int) .int)) (((colT c hidden list []).take o).map (clsT c hidden) ++ (colT c hidden list []).drop o)) [(o * 3 + 1, .ref 5), (o * 3 + 1, .ref 4)]))]⟩] [0, 1, 3, 7, 15, 31, 15, 15, 15, 3, 0, 0, 0]
   iterate 6 refine z_ ?_
   refine zz (fun _ h_ => ac (Does.indexX (h_.v rfl) (h_.en 3 rfl) (h_.v rfl) und_233 tsh_232 rfl (by omega) (by omega)) rfl) <| zz (fun _ h_ => ac (Does.fieldI (h_.v rfl) fld_232_1 (by rw [(h_.en 3 rfl)]; rfl) rfl) rfl) ?_
   refine zz (fun _ h_ => ac (Does.loadX (h_.v rfl) (h_.n 3 rfl) (show (ovr _ _)[o * 3 + 1]? = some (.ref 4) from by simp only [ovr, List.getElem?_set, List.length_set, hpA, hcA, eq_self, if_true, if_false, ↓reduceIte]) (h_.n 4 rfl) tsh_95 rfl) rfl) ?_
   refine zz (fun _ h_ => ac (dP 5 [(0, 4)] (fc_spec_l11Still c hidden ((y).2.1) hs (by omega)) enters_209) rfl) ?_
   refine zz (fun _ h_ => ac (Does.indexX (h_.v rfl) (h_.en 3 rfl) (h_.v rfl) und_233 tsh_232 rfl (by omega) (by omega)) rfl) <| zz (fun _ h_ => ac (Does.fieldI (h_.v rfl) fld_232_1 (by rw [(h_.en 3 rfl)]; rfl) rfl) rfl) ?_
   refine zz (fun _ h_ => ac (Does.storeX (t := 4) (h_.v rfl) (h_.n 3 rfl) (show (ovr _ _)[o * 3 + 1]? = some (.ref 4) from by simp only [ovr, List.getElem?_set, List.length_set, hpA, hcA, eq_self, if_true, if_false, ↓reduceIte]) (h_.v rfl) (h_.n 5 rfl) tsh_95) rfl) ?_
   exact zN
   refine (?_ : AC _ _ _ _ _)
   refine AC.wk (Wk.joinX (q := 3) (t := 5) (p := o * 3 + 1) rfl (by show (ovr (cellsL (.pr .str (.pr (.sl 3 .int) .int)) (((colT c hidden list []).take o).map (clsT c hidden) ++ (colT c hidden list []).drop o)) [(o * 3 + 1, .ref 5), (o * 3 + 1, .ref 4)])[o * 3 + 1]? = some (.ref 5); simp only [ovr, List.getElem?_set, List.length_set, hpA, hcA, eq_self, if_true, if_false, ↓reduceIte]) rfl) ?_
   refine AC.wk (Wk.close (q := 3) (e := (.pr .str (.pr (.sl 3 .int) .int))) ((((colT c hidden list []).take o).map (clsT c hidden) ++ (colT c hidden list []).drop o).set o ((y).1, stl c hidden ((y).2.1), (y).2.2)) rfl (by simp only [List.length_set]) (by show ovr (cellsL (.pr .str (.pr (.sl 3 .int) .int)) (((colT c hidden list []).take o).map (clsT c hidden) ++ (colT c hidden list []).drop o)) [(o * 3 + 1, .dat (.sl 3 .int) (stl c hidden ((y).2.1))), (o * 3 + 1, .ref 5), (o * 3 + 1, .ref 4)] = _; refine .trans ?_ (cellsT_set hye); simp only [ovr, List.set_set])) ?_
   iterate 3 refine w_ ?_
   refine AL.nil <| lend ⟨o + 1, by omega, rfl, rfl⟩ (by omega) ?_
   exact Wk.of [] rfl ⟨rfl, rfl, rfl, rfl, rfl, rfl, trivial⟩ ⟨rfl, (entE (cls_set hy)), trivial⟩ rfl rfl
 ·have hb5' := of_decide_eq_true hb5
  iterate 5 refine w_ ?_
  obtain ⟨x, hx10⟩ : ∃ z, list[k]? = some z := ⟨_, List.getElem?_eq_getElem (by omega)⟩
  have hxz := hz _ (List.mem_of_getElem? hx10)
  iterate 2 refine w_ ?_
  refine lc (xal 6 (.pr .str (.pr (.sl 3 .int) .int)) zer_232) ?_
  iterate 5 refine w_ ?_
  refine AL.fact (fact_len (x := .tmp 20) (Evl.tmp rfl)) fun hl11 => ?_
  iterate 4 refine w_ ?_
  refine AC.loopW (fun m_ s_ => ∃ (i : Nat), i ≤ c.2.2.length ∧ m_ = c.2.2.length - i ∧ s_ = ⟨[(1, lI hidden), (3, lP 0 0), (6, lf (.val (.slice none 0 0))), (7, lR 7), (9, lP 6 0), (13, lf (.dat (.sl 232 (.pr .str (.pr (.sl 3 .int) .int))) list)), (14, lI (list.length : Int)), (15, lI (k : Int)), (16, lB true), (17, lf (.elt (.pr .str (.pr (.sl 3 .int) .int)) x 0)), (18, ag [dS x.1, .dat (.sl 3 .int) x.2.1, dI x.2.2]), (19, lP 0 2), (20, lf (.dat (.sl 106 (.pr .int (.pr .int (.pr .bool .int)))) c.2.2)), (21, lI (c.2.2.length : Int)), (22, lI (i : Int))], [(0, some (.box 52 [.dat (.sl 90 (.pr .str .int)) c.1, .dat (.sl 9 .str) c.2.1, .dat (.sl 106 (.pr .int (.pr .int (.pr .bool .int)))) c.2.2])), (6, some (.box 232 [dS x.1, .dat (.sl 3 .int) x.2.1, dI x.2.2])), (7, some (.arr 232 (.pr .str (.pr (.sl 3 .int) .int)) (rowT c hidden (c.2.2.take i) x (colT c hidden (list.take k) []))))]⟩) ⟨0, Nat.zero_le _, rfl, rfl⟩ ?_ ?_
  · exact Wk.of [(7, 2)] rfl ⟨rfl, rfl, rfl, rfl, rfl, rfl, rfl, rfl, rfl, rfl, rfl, rfl, rfl, rfl, rfl, trivial⟩ ⟨rfl, rfl, (entE (rfl)), trivial⟩ rfl rfl
  rintro m_ s_ ⟨i, hk12, hm13, rfl⟩
  iterate 4 refine w_ ?_
  cases hb14 : (decide ((i : Int) < (c.2.2.length : Int)))
  ·have hb14' := of_decide_eq_false hb14
   refine w_ ?_
   refine AC.exit ?_
   refine (?_ : AC _ _ _ _ _)
   iterate 3 refine w_ ?_
   refine AL.nil <| lend ⟨k + 1, by omega, rfl, rfl⟩ (by omega) ?_
   exact Wk.of [(2, 7)] rfl ⟨rfl, rfl, rfl, rfl, rfl, rfl, rfl, trivial⟩ ⟨rfl, (entE (col_end hx10 (by omega))), trivial⟩ rfl rfl
  ·have hb14' := of_decide_eq_true hb14
   iterate 5 refine w_ ?_
   obtain ⟨a, hx16⟩ : ∃ z, c.2.2[i]? = some z := ⟨_, List.getElem?_eq_getElem (by omega)⟩
   have am := List.mem_of_getElem? hx16
   iterate 2 refine w_ ?_
   refine lc (xal 8 (.pr .int (.pr .int (.pr .bool .int))) zer_106) ?_
   iterate 5 refine w_ ?_
   refine AL.fact (fact_int (x := .tmp 27) (Evl.tmp rfl)) fun hi17 => ?_
   iterate 2 refine w_ ?_
   cases hb18 : (!decide (a.2.1 = (-1)))
   ·have hb18' : (a.2.1 = (-1)) := nd_false hb18
    iterate 14 refine w_ ?_
    refine AC.skip ?_
    refine (?_ : AC _ _ _ _ _)
    iterate 3 refine w_ ?_
    refine AL.nil <| lend ⟨i + 1, by omega, rfl, rfl⟩ (by omega) ?_
    exact Wk.of [] rfl ⟨rfl, rfl, rfl, rfl, rfl, rfl, rfl, rfl, rfl, rfl, rfl, rfl, rfl, rfl, rfl, trivial⟩ ⟨rfl, rfl, (entE (by first | exact row_y hx16 (by assumption) (by assumption) (by assumption) | exact row_n1 hx16 (by assumption) | exact row_n2 hx16 (by assumption) | exact row_n3 hx16 (by assumption))), trivial⟩ rfl rfl
   ·have hb18' : ¬ (a.2.1 = (-1)) := nd_true hb18
    iterate 6 refine w_ ?_
    cases hb19 : (!decide (a.2.1 = hidden))
    ·have hb19' : (a.2.1 = hidden) := nd_false hb19
     iterate 8 refine w_ ?_
     refine AC.skip ?_
     refine (?_ : AC _ _ _ _ _)
     iterate 3 refine w_ ?_
     refine AL.nil <| lend ⟨i + 1, by omega, rfl, rfl⟩ (by omega) ?_
     exact Wk.of [] rfl ⟨rfl, rfl, rfl, rfl, rfl, rfl, rfl, rfl, rfl, rfl, rfl, rfl, rfl, rfl, rfl, trivial⟩ ⟨rfl, rfl, (entE (by first | exact row_y hx16 (by assumption) (by assumption) (by assumption) | exact row_n1 hx16 (by assumption) | exact row_n2 hx16 (by assumption) | exact row_n3 hx16 (by assumption))), trivial⟩ rfl rfl
    ·have hb19' : ¬ (a.2.1 = hidden) := nd_true hb19
     iterate 4 refine w_ ?_
     refine lgy rfl rfl (dK (fc_spec_l1Has x.2.1 a.1) enters_281) ?_
     iterate 2 refine w_ ?_
     cases hb20 : (decide (a.1 ∈ x.2.1))
     ·have hb20' := of_decide_eq_false hb20
      refine w_ ?_
      refine AC.skip ?_
      refine (?_ : AC _ _ _ _ _)
      iterate 3 refine w_ ?_
      refine AL.nil <| lend ⟨i + 1, by omega, rfl, rfl⟩ (by omega) ?_
      exact Wk.of [] rfl ⟨rfl, rfl, rfl, rfl, rfl, rfl, rfl, rfl, rfl, rfl, rfl, rfl, rfl, rfl, rfl, trivial⟩ ⟨rfl, rfl, (entE (by first | exact row_y hx16 (by assumption) (by assumption) (by assumption) | exact row_n1 hx16 (by assumption) | exact row_n2 hx16 (by assumption) | exact row_n3 hx16 (by assumption))), trivial⟩ rfl rfl
     ·have hb20' := of_decide_eq_true hb20
      refine w_ ?_
      apply dV [io 42 _, io 43 _, io 44 _, io 45 _, io 46 _, io 47 (lf (dS (wdA c a))), io 48 (lf (dS (x.1 ++ (wdA c a)))), io 49 _, io 50 _, ⟨some 51, lR 9, [(9, some (.arr 3 .int ([a.2.2.2])))]⟩, io 52 (lP 6 2), io 53 (lI x.2.2), io 54 (lI (x.2.2 + 1)), io 55 (ag [dS (x.1 ++ (wdA c a)), .ref 9, dI (x.2.2 + 1)]), ⟨some 56, lR 10, [(10, some (.arr 232 (.pr .str (.pr (.sl 3 .int) .int)) (putT (rowT c hidden (c.2.2.take i) x (colT c hidden (list.take k) [])) (x.1 ++ (wdA c a), [a.2.2.2], x.2.2 + 1)))), (7, none), (9, none)]⟩, io 7 _] [0, 1, 1, 7, 15, 7, 1, 127, 127, 127, 1023, 1023, 1023, 1, 0, 0]
      iterate 5 refine z_ ?_
      refine zz (fun _ h_ => ac (dK (fc_spec_l11Word c a hs (arc_sig hs am (by assumption))) enters_289) rfl) ?_
      refine zz (fun _ h_ => ac (Does.addS (h_.v rfl) (h_.v rfl) rfl (by (have := wdA_size (a := a) hs; omega))) rfl) ?_
      iterate 2 refine z_ ?_
      refine zz (fun _ h_ => ac (dBs 9 (e := .int) zer_3) rfl) ?_
      iterate 3 refine z_ ?_
      refine zz (fun _ h_ => ac (Does.build bld_232 ⟨_, _, rfl, (h_.w rfl), ⟨_, _, rfl, (h_.w rfl), ⟨_, _, rfl, (h_.w rfl), rfl⟩⟩⟩ (List.all_eq_true.1 (by simp only [okLVs, okLV, List.all_cons, List.all_nil]; rw [(h_.en 9 rfl)]; rfl)) rfl rfl) rfl) ?_
      refine zz (fun _ h_ => ac (dP 10 [(0, 7), (1, 9)] (fc_spec_l11Put (rowT c hidden (c.2.2.take i) x (colT c hidden (list.take k) [])) (x.1 ++ (wdA c a), [a.2.2.2], x.2.2 + 1) ((sm_in hfw hl).le (by omega)) (Nat.le_refl _)) enters_288) rfl) ?_
      refine z_ ?_
      exact zN
      refine (?_ : AC _ _ _ _ _)
      iterate 3 refine w_ ?_
      refine AL.nil <| lend ⟨i + 1, by omega, rfl, rfl⟩ (by omega) ?_
      exact Wk.of [(7, 10)] rfl ⟨rfl, rfl, rfl, rfl, rfl, rfl, rfl, rfl, rfl, rfl, rfl, rfl, rfl, rfl, rfl, trivial⟩ ⟨rfl, rfl, (entE (by first | exact row_y hx16 (by assumption) (by assumption) (by assumption) | exact row_n1 hx16 (by assumption) | exact row_n2 hx16 (by assumption) | exact row_n3 hx16 (by assumption))), trivial⟩ rfl rfl

section
variable {c : DSg} [Decidable (SgOk c)] {h m mo : Int} {n : Nat}
theorem lev_bd (hs : SgOk c) (hf : (txP c h n).length ≤ 400) : (levT c h n).length ≤ 1600000 := by
  cases n with
  | zero => show 1 ≤ _; omega
  | succ n => have h1 := lev_len (h := h) (n := n) hs; have h2 := lev_few (h := h) (n := n) hs; have hf : (txL c h n).length ≤ 400 := hf; omega
theorem lv_0 : [(ByteArray.empty, stl c h [0], 0)] = levT c h (m - m).toNat := by rw [Int.sub_self]; rfl
theorem tp_0 : [] = txP c h (m - m).toNat := by rw [Int.sub_self]; rfl
theorem lv_s (h1 : 0 ≤ mo ∧ mo ≤ m) (h2 : ¬ mo = 0) : morT c h (levT c h (m - mo).toNat) = levT c h (m - (mo - 1)).toNat := by rw [show (m - (mo - 1)).toNat = (m - mo).toNat + 1 by omega]; rfl
theorem tp_s (h1 : 0 ≤ mo ∧ mo ≤ m) (h2 : ¬ mo = 0) : txL c h (m - mo).toNat = txP c h (m - (mo - 1)).toNat := by rw [show (m - (mo - 1)).toNat = (m - mo).toNat + 1 by omega]; rfl
theorem tv_no (k : ¬ TcOk c h m) : ([], false) = trV c h m := (trV_no k).symm
theorem tv_0 (h1 : 0 ≤ mo ∧ mo ≤ m) (k : (400 : Int) < ((txL c h (m - mo).toNat).length : Int)) : ([], false) = trV c h m := (trV_many ltB_to (n := (m - mo).toNat) (by omega) (by omega)).symm
theorem tv_1 (g : TcOk c h m) (h1 : 0 ≤ mo ∧ mo ≤ m) (k : ¬ (400 : Int) < ((txL c h (m - mo).toNat).length : Int)) (e : ((levT c h (m - mo).toNat).length : Int) = 0) : (txL c h (m - mo).toNat, true) = trV c h m := (trV_end g (by omega) (List.eq_nil_of_length_eq_zero (by omega)) (by omega)).symm
theorem tv_2 (g : TcOk c h m) (k : ¬ (400 : Int) < ((txL c h (m - mo).toNat).length : Int)) (e : mo = 0) : (txL c h (m - mo).toNat, true) = trV c h m := by
  subst e
  rw [Int.sub_zero] at k ⊢
  exact (trV_yes g (by omega)).symm
end

theorem fc_spec_Traces (c : (List (ByteArray × Int)) × List ByteArray × (List (Int × Int × Bool × Int))) (hidden : Int) (most : Int) [∀ c, Decidable (SgOk c)]  : FC Tryz.prog 107 [(true, [.dat (.sl 90 (.pr .str .int)) c.1, .dat (.sl 9 .str) c.2.1, .dat (.sl 106 (.pr .int (.pr .int (.pr .bool .int)))) c.2.2]), (false, [dI hidden]), (false, [dI most])] [] 0 (Pure (PV.tup [(false, [.dat (.sl 9 .str) ((trV c hidden most).1)]), (false, [dB ((trV c hidden most).2)])])) := by
 classical
 refine FC.go Tryz.func107 rfl rfl Tryz.ntmps107 fun O_ hO w0_ N0_ X_ h0_ f0_ => ?_
 refine AC.fact (fact_int (x := .tmp 1) (Evl.tmp rfl)) fun hi1 => AC.fact (fact_int (x := .tmp 2) (Evl.tmp rfl)) fun hi2 => ?_
 refine w_ ?_
 refine xbx 0 ?_
 iterate 6 refine w_ ?_
 refine lc (dK (fc_spec_l5Good c) enters_90) ?_
 iterate 2 refine w_ ?_
 cases hb3 : (decide (SgOk c))
 ·have hb3' := of_decide_eq_false hb3
  iterate 19 refine w_ ?_
  refine AC.wk (Wk.nilS 1 6 9 .str rfl (Fresh.of rfl) (nlr rfl)) <| AC.wk (Wk.freeze (i := 6) (q := 1) rfl rfl) <| AC.ret ?_
  subst hO
  have e4 : ([] : ((.sl 9 .str) : Ty).Den) = ((trV c hidden most).1) := by
   exact congrArg Prod.fst (tv_no (fun g => by first | exact absurd g.1 (by assumption) | exact absurd g.2.1 (by assumption) | exact absurd g.2.2 (by assumption)))
  have e5 : (false : Bool) = ((trV c hidden most).2) := by
   exact congrArg Prod.snd (tv_no (fun g => by first | exact absurd g.1 (by assumption) | exact absurd g.2.1 (by assumption) | exact absurd g.2.2 (by assumption)))
  exact fin_pure (Res.two rfl (Rs.tmp rfl) (Rs.tmp rfl)) (((congrArg (fun z_ => PV.tup [(false, [.dat (.sl 9 .str) z_]), (false, [dB false])]) e4)).trans (congrArg (fun z_ => PV.tup [(false, [.dat (.sl 9 .str) ((trV c hidden most).1)]), (false, [dB z_])]) e5)) rfl
 ·have hb3' := of_decide_eq_true hb3
  iterate 3 refine w_ ?_
  refine AL.fact (fact_len (x := .tmp 18) (Evl.tmp rfl)) fun hl6 => ?_
  iterate 2 refine w_ ?_
  refine lgy rfl rfl (dK (fc_spec_l1In hidden (-1) ((c.1.length : Int) - 1)) enters_174) ?_
  iterate 3 refine w_ ?_
  cases hb7 : (decide ((-1) ≤ hidden ∧ hidden ≤ ((c.1.length : Int) - 1)))
  ·have hb7' := of_decide_eq_false hb7
   iterate 10 refine w_ ?_
   refine AC.wk (Wk.nilS 2 6 9 .str rfl (Fresh.of rfl) (nlr rfl)) <| AC.wk (Wk.freeze (i := 6) (q := 2) rfl rfl) <| AC.ret ?_
   subst hO
   have e8 : ([] : ((.sl 9 .str) : Ty).Den) = ((trV c hidden most).1) := by
    exact congrArg Prod.fst (tv_no (fun g => by first | exact absurd g.1 (by assumption) | exact absurd g.2.1 (by assumption) | exact absurd g.2.2 (by assumption)))
   have e9 : (false : Bool) = ((trV c hidden most).2) := by
    exact congrArg Prod.snd (tv_no (fun g => by first | exact absurd g.1 (by assumption) | exact absurd g.2.1 (by assumption) | exact absurd g.2.2 (by assumption)))
   exact fin_pure (Res.two rfl (Rs.tmp rfl) (Rs.tmp rfl)) (((congrArg (fun z_ => PV.tup [(false, [.dat (.sl 9 .str) z_]), (false, [dB false])]) e8)).trans (congrArg (fun z_ => PV.tup [(false, [.dat (.sl 9 .str) ((trV c hidden most).1)]), (false, [dB z_])]) e9)) rfl
  ·have hb7' := of_decide_eq_true hb7
   refine w_ ?_
   refine lgy rfl rfl (dK (fc_spec_l1In most 0 6) enters_174) ?_
   iterate 3 refine w_ ?_
   cases hb10 : (decide (0 ≤ most ∧ most ≤ 6))
   ·have hb10' := of_decide_eq_false hb10
    iterate 5 refine w_ ?_
    refine AC.wk (Wk.nilS 3 6 9 .str rfl (Fresh.of rfl) (nlr rfl)) <| AC.wk (Wk.freeze (i := 6) (q := 3) rfl rfl) <| AC.ret ?_
    subst hO
    have e11 : ([] : ((.sl 9 .str) : Ty).Den) = ((trV c hidden most).1) := by
     exact congrArg Prod.fst (tv_no (fun g => by first | exact absurd g.1 (by assumption) | exact absurd g.2.1 (by assumption) | exact absurd g.2.2 (by assumption)))
    have e12 : (false : Bool) = ((trV c hidden most).2) := by
     exact congrArg Prod.snd (tv_no (fun g => by first | exact absurd g.1 (by assumption) | exact absurd g.2.1 (by assumption) | exact absurd g.2.2 (by assumption)))
    exact fin_pure (Res.two rfl (Rs.tmp rfl) (Rs.tmp rfl)) (((congrArg (fun z_ => PV.tup [(false, [.dat (.sl 9 .str) z_]), (false, [dB false])]) e11)).trans (congrArg (fun z_ => PV.tup [(false, [.dat (.sl 9 .str) ((trV c hidden most).1)]), (false, [dB z_])]) e12)) rfl
   ·have hb10' := of_decide_eq_true hb10
    iterate 5 refine w_ ?_
    refine lc (dBs 4 (e := .int) zer_3) ?_
    refine lc (dP 5 [(0, 4)] (fc_spec_l11Still c hidden ([0]) (by assumption) (by simp)) enters_209) ?_
    refine lc (Does.build bld_232 ⟨_, _, rfl, (Ev.tmp rfl), rfl⟩ (List.all_eq_true.1 rfl) rfl rfl) ?_
    refine lc (dBs 6 (e := (.pr .str (.pr (.sl 3 .int) .int))) zer_232 (hab := by exact ⟨_, _, _, _, rfl, ⟨[dS ByteArray.empty], [.ref 5, dI 0], _, _, _, _, rfl, rfl, ⟨rfl, rfl⟩, ⟨[.ref 5], [dI 0], _, _, _, _, rfl, rfl, (.inl ⟨_, rfl, rfl, rfl⟩), ⟨rfl, rfl⟩, rfl⟩, rfl⟩, ⟨rfl, rfl⟩, rfl⟩)) ?_
    iterate 6 refine w_ ?_
    refine AC.wk (Wk.freeze (i := 8) (q := 6) rfl rfl) <| AC.wk (Wk.nilS 7 9 9 .str rfl (Fresh.of rfl) (nlr rfl)) <| AC.wk (Wk.freeze (i := 9) (q := 7) rfl rfl) ?_
    refine AC.loopW (fun m_ s_ => ∃  (mo : Int), m_ = mo.toNat ∧ (0 ≤ mo ∧ mo ≤ most) ∧ ((txP c hidden (most - mo).toNat).length ≤ 400) ∧ s_ = ⟨[(1, lI hidden), (2, lI mo), (3, lP 0 0), (8, lf (.dat (.sl 232 (.pr .str (.pr (.sl 3 .int) .int))) (levT c hidden (most - mo).toNat))), (9, lf (.dat (.sl 9 .str) (txP c hidden (most - mo).toNat)))], [(0, some (.box 52 [.dat (.sl 90 (.pr .str .int)) c.1, .dat (.sl 9 .str) c.2.1, .dat (.sl 106 (.pr .int (.pr .int (.pr .bool .int)))) c.2.2]))]⟩) ⟨most, rfl, (by omega), (by rw [← tp_0]; exact Nat.zero_le _), rfl⟩ ?_ ?_
    · exact Wk.of [] rfl ⟨rfl, rfl, rfl, (show some (lf (.dat (.sl 232 (.pr .str (.pr (.sl 3 .int) .int))) ([(ByteArray.empty, stl c hidden ([0]), 0)]))) = some (lf (.dat (.sl 232 (.pr .str (.pr (.sl 3 .int) .int))) (levT c hidden (most - most).toNat))) from congrArg (fun z_ => some (lf (.dat (.sl 232 (.pr .str (.pr (.sl 3 .int) .int))) z_))) (lv_0)), (show some (lf (.dat (.sl 9 .str) ([]))) = some (lf (.dat (.sl 9 .str) (txP c hidden (most - most).toNat))) from congrArg (fun z_ => some (lf (.dat (.sl 9 .str) z_))) (tp_0)), trivial⟩ ⟨rfl, trivial⟩ rfl rfl
    rintro m_ s_ ⟨mo, hm16, hmo, hfe, rfl⟩
    have hlb := lev_bd (h := hidden) (n := (most - mo).toNat) ‹SgOk c› hfe
    iterate 4 refine w_ ?_
    refine AL.fact (fact_len (x := .tmp 35) (Evl.tmp rfl)) fun hl17 => ?_
    iterate 4 refine w_ ?_
    refine AC.loopW (fun m_ s_ => ∃ (i : Nat), i ≤ (levT c hidden (most - mo).toNat).length ∧ m_ = (levT c hidden (most - mo).toNat).length - i ∧ s_ = ⟨[(1, lI hidden), (2, lI mo), (3, lP 0 0), (8, lf (.dat (.sl 232 (.pr .str (.pr (.sl 3 .int) .int))) (levT c hidden (most - mo).toNat))), (9, lf (.dat (.sl 9 .str) (outT ((levT c hidden (most - mo).toNat).take i) (txP c hidden (most - mo).toNat)))), (35, lf (.dat (.sl 232 (.pr .str (.pr (.sl 3 .int) .int))) (levT c hidden (most - mo).toNat))), (36, lI ((levT c hidden (most - mo).toNat).length : Int)), (37, lI (i : Int))], [(0, some (.box 52 [.dat (.sl 90 (.pr .str .int)) c.1, .dat (.sl 9 .str) c.2.1, .dat (.sl 106 (.pr .int (.pr .int (.pr .bool .int)))) c.2.2]))]⟩) ⟨0, Nat.zero_le _, rfl, rfl⟩ ?_ ?_
    · exact Wk.of [] rfl ⟨rfl, rfl, rfl, rfl, (show some (lf (.dat (.sl 9 .str) (txP c hidden (most - mo).toNat))) = some (lf (.dat (.sl 9 .str) (outT ((levT c hidden (most - mo).toNat).take 0) (txP c hidden (most - mo).toNat)))) from congrArg (fun z_ => some (lf (.dat (.sl 9 .str) z_))) (rfl)), rfl, rfl, rfl, trivial⟩ ⟨rfl, trivial⟩ rfl rfl
    rintro m_ s_ ⟨i, hk19, hm20, rfl⟩
    iterate 4 refine w_ ?_
    cases hb21 : (decide ((i : Int) < ((levT c hidden (most - mo).toNat).length : Int)))
    ·have hb21' := of_decide_eq_false hb21
     refine w_ ?_
     refine AC.exit ?_
     refine (?_ : AC _ _ _ _ _)
     refine w_ ?_
     refine AC.seq ?_
     have hoe : outT ((levT c hidden (most - mo).toNat).take i) (txP c hidden (most - mo).toNat) = txL c hidden (most - mo).toNat := by rw [List.take_of_length_le (by omega), txL_P]
     rw [hoe]
     have hlf := lev_few (h := hidden) (n := (most - mo).toNat) ‹SgOk c›
     iterate 2 refine w_ ?_
     refine AL.fact (fact_len (x := .tmp 46) (Evl.tmp rfl)) fun hl22 => ?_
     iterate 3 refine w_ ?_
     cases hb23 : (decide (400 < ((txL c hidden (most - mo).toNat).length : Int)))
     ·have hb23' := of_decide_eq_false hb23
      iterate 5 refine w_ ?_
      refine AL.fact (fact_len (x := .tmp 49) (Evl.tmp rfl)) fun hl24 => ?_
      iterate 3 refine w_ ?_
      cases hb25 : (decide (((levT c hidden (most - mo).toNat).length : Int) = 0))
      ·have hb25' := of_decide_eq_false hb25
       iterate 4 refine w_ ?_
       cases hb26 : (decide (mo = 0))
       ·have hb26' := of_decide_eq_false hb26
        iterate 6 refine w_ ?_
        refine lc (dK (fc_spec_l11More c hidden (levT c hidden (most - mo).toNat) (by assumption) (by omega) (fun x hx => by have h1 := lev_size ‹SgOk c› hx; have h2 := lev_many ‹SgOk c› hx; omega)).frozen enters_211) ?_
        iterate 6 refine w_ ?_
        refine AL.nil <| lend ⟨(mo - 1), rfl, (by omega), (by rw [← tp_s (by omega) (by assumption)]; omega), rfl⟩ (by omega) ?_
        exact Wk.of [] rfl ⟨rfl, rfl, rfl, (show some (lf (.dat (.sl 232 (.pr .str (.pr (.sl 3 .int) .int))) (morT c hidden (levT c hidden (most - mo).toNat)))) = some (lf (.dat (.sl 232 (.pr .str (.pr (.sl 3 .int) .int))) (levT c hidden (most - (mo - 1)).toNat))) from congrArg (fun z_ => some (lf (.dat (.sl 232 (.pr .str (.pr (.sl 3 .int) .int))) z_))) (lv_s (by omega) (by assumption))), (show some (lf (.dat (.sl 9 .str) (txL c hidden (most - mo).toNat))) = some (lf (.dat (.sl 9 .str) (txP c hidden (most - (mo - 1)).toNat))) from congrArg (fun z_ => some (lf (.dat (.sl 9 .str) z_))) (tp_s (by omega) (by assumption))), trivial⟩ ⟨rfl, trivial⟩ rfl rfl
       ·have hb26' := of_decide_eq_true hb26
        iterate 6 refine w_ ?_
        refine AC.ret ?_
        subst hO
        have e29 : (txL c hidden (most - mo).toNat : ((.sl 9 .str) : Ty).Den) = ((trV c hidden most).1) := by
         exact congrArg Prod.fst (tv_2 ⟨by assumption, by omega, by omega⟩ (by assumption) (by assumption))
        have e30 : (true : Bool) = ((trV c hidden most).2) := by
         exact congrArg Prod.snd (tv_2 ⟨by assumption, by omega, by omega⟩ (by assumption) (by assumption))
        exact fin_pure (Res.two rfl (Rs.tmp rfl) (Rs.tmp rfl)) (((congrArg (fun z_ => PV.tup [(false, [.dat (.sl 9 .str) z_]), (false, [dB true])]) e29)).trans (congrArg (fun z_ => PV.tup [(false, [.dat (.sl 9 .str) ((trV c hidden most).1)]), (false, [dB z_])]) e30)) rfl
      ·have hb25' := of_decide_eq_true hb25
       iterate 10 refine w_ ?_
       refine AC.ret ?_
       subst hO
       have e31 : (txL c hidden (most - mo).toNat : ((.sl 9 .str) : Ty).Den) = ((trV c hidden most).1) := by
        exact congrArg Prod.fst (tv_1 ⟨by assumption, by omega, by omega⟩ (by omega) (by assumption) (by assumption))
       have e32 : (true : Bool) = ((trV c hidden most).2) := by
        exact congrArg Prod.snd (tv_1 ⟨by assumption, by omega, by omega⟩ (by omega) (by assumption) (by assumption))
       exact fin_pure (Res.two rfl (Rs.tmp rfl) (Rs.tmp rfl)) (((congrArg (fun z_ => PV.tup [(false, [.dat (.sl 9 .str) z_]), (false, [dB true])]) e31)).trans (congrArg (fun z_ => PV.tup [(false, [.dat (.sl 9 .str) ((trV c hidden most).1)]), (false, [dB z_])]) e32)) rfl
     ·have hb23' := of_decide_eq_true hb23
      iterate 5 refine w_ ?_
      refine AC.wk (Wk.nilS 8 6 9 .str rfl (Fresh.of rfl) (nlr rfl)) <| AC.wk (Wk.freeze (i := 6) (q := 8) rfl rfl) <| AC.ret ?_
      subst hO
      have e33 : ([] : ((.sl 9 .str) : Ty).Den) = ((trV c hidden most).1) := by
       exact congrArg Prod.fst (tv_0 (mo := mo) (by omega) (by assumption))
      have e34 : (false : Bool) = ((trV c hidden most).2) := by
       exact congrArg Prod.snd (tv_0 (mo := mo) (by omega) (by assumption))
      exact fin_pure (Res.two rfl (Rs.tmp rfl) (Rs.tmp rfl)) (((congrArg (fun z_ => PV.tup [(false, [.dat (.sl 9 .str) z_]), (false, [dB false])]) e33)).trans (congrArg (fun z_ => PV.tup [(false, [.dat (.sl 9 .str) ((trV c hidden most).1)]), (false, [dB z_])]) e34)) rfl
    ·have hb21' := of_decide_eq_true hb21
     iterate 5 refine w_ ?_
     obtain ⟨x, hx36⟩ : ∃ z, (levT c hidden (most - mo).toNat)[i]? = some z := ⟨_, List.getElem?_eq_getElem (by omega)⟩
     iterate 2 refine w_ ?_
     refine lc (xal 9 (.pr .str (.pr (.sl 3 .int) .int)) zer_232) ?_
     iterate 6 refine w_ ?_
     refine lc (dK (fc_spec_l9PutS (outT ((levT c hidden (most - mo).toNat).take i) (txP c hidden (most - mo).toNat)) x.1 (by have h1 := outT_len ((levT c hidden (most - mo).toNat).take i) (o := txP c hidden (most - mo).toNat); simp only [List.length_take] at h1; omega)) enters_210) ?_
     refine w_ ?_
     refine AL.nil ?_
     refine (?_ : AC _ _ _ _ _)
     iterate 3 refine w_ ?_
     refine AL.nil <| lend ⟨i + 1, by omega, rfl, rfl⟩ (by omega) ?_
     exact Wk.of [] rfl ⟨rfl, rfl, rfl, rfl, (show some (lf (.dat (.sl 9 .str) (putG ltB x.1 (outT ((levT c hidden (most - mo).toNat).take i) (txP c hidden (most - mo).toNat))))) = some (lf (.dat (.sl 9 .str) (outT ((levT c hidden (most - mo).toNat).take (i + 1)) (txP c hidden (most - mo).toNat)))) from congrArg (fun z_ => some (lf (.dat (.sl 9 .str) z_))) (outT_snoc hx36)), rfl, rfl, rfl, trivial⟩ ⟨rfl, trivial⟩ rfl rfl

section
variable {a b : DSTG} [∀ s, Decidable (StgOk s)] [∀ c, Decidable (SgOk c)] {m : Int} {k : Nat} {s : ByteArray}
/-- What 'TracesIncluded' answers. -/
def tiV (a b : DSTG) [∀ s, Decidable (StgOk s)] [∀ c, Decidable (SgOk c)] (m : Int) : Bool × Bool :=
  if (sgV a).2 = true ∧ (sgV b).2 = true ∧ (trV (sgV a).1 (-1) m).2 = true ∧ (trV (sgV b).1 (-1) m).2 = true then ((trV (sgV a).1 (-1) m).1.all fun s => hasB (trV (sgV b).1 (-1) m).1 s, true) else (false, false)
theorem ti_no (h : ¬ ((sgV a).2 = true ∧ (sgV b).2 = true ∧ (trV (sgV a).1 (-1) m).2 = true ∧ (trV (sgV b).1 (-1) m).2 = true)) : (false, false) = tiV a b m := (if_neg h).symm
theorem ti_n1 (h : (sgV a).2 = false) : (false, false) = tiV a b m := ti_no fun g => Bool.false_ne_true (h.symm.trans g.1)
theorem ti_n2 (h : (sgV b).2 = false) : (false, false) = tiV a b m := ti_no fun g => Bool.false_ne_true (h.symm.trans g.2.1)
theorem ti_n3 (h : (trV (sgV a).1 (-1) m).2 = false) : (false, false) = tiV a b m := ti_no fun g => Bool.false_ne_true (h.symm.trans g.2.2.1)
theorem ti_n4 (h : (trV (sgV b).1 (-1) m).2 = false) : (false, false) = tiV a b m := ti_no fun g => Bool.false_ne_true (h.symm.trans g.2.2.2)
theorem ti_yes (h1 : (sgV a).2 = true) (h2 : (sgV b).2 = true) (h3 : (trV (sgV a).1 (-1) m).2 = true) (h4 : (trV (sgV b).1 (-1) m).2 = true) : tiV a b m = ((trV (sgV a).1 (-1) m).1.all fun s => hasB (trV (sgV b).1 (-1) m).1 s, true) := if_pos ⟨h1, h2, h3, h4⟩
theorem ti_out (h1 : (sgV a).2 = true) (h2 : (sgV b).2 = true) (h3 : (trV (sgV a).1 (-1) m).2 = true) (h4 : (trV (sgV b).1 (-1) m).2 = true) (hx : (trV (sgV a).1 (-1) m).1[k]? = some s) (h : ¬ s ∈ (trV (sgV b).1 (-1) m).1) : (false, true) = tiV a b m := by
  rw [ti_yes h1 h2 h3 h4, show ((trV (sgV a).1 (-1) m).1.all fun s => hasB (trV (sgV b).1 (-1) m).1 s) = false from List.all_eq_false.2 ⟨s, List.mem_of_getElem? hx, by rw [hasB_f h]; decide⟩]
theorem ti_in (h1 : (sgV a).2 = true) (h2 : (sgV b).2 = true) (h3 : (trV (sgV a).1 (-1) m).2 = true) (h4 : (trV (sgV b).1 (-1) m).2 = true) (h : ∀ s ∈ (trV (sgV a).1 (-1) m).1, s ∈ (trV (sgV b).1 (-1) m).1) : (true, true) = tiV a b m := by
  rw [ti_yes h1 h2 h3 h4, show ((trV (sgV a).1 (-1) m).1.all fun s => hasB (trV (sgV b).1 (-1) m).1 s) = true from List.all_eq_true.2 fun s hs => hasB_t.2 (h s hs)]
end

theorem fc_spec_TracesIncluded (a : (Int × (List (List Int × List Int))) × (List (ByteArray × Int)) × (List (Int × Bool)) × ByteArray) (b : (Int × (List (List Int × List Int))) × (List (ByteArray × Int)) × (List (Int × Bool)) × ByteArray) (most : Int) [∀ s, Decidable (StgOk s)] [∀ c, Decidable (SgOk c)]  : FC Tryz.prog 31 [(true, [dI a.1.1, .dat (.sl 198 (.pr (.sl 3 .int) (.sl 3 .int))) a.1.2, .dat (.sl 90 (.pr .str .int)) a.2.1, .dat (.sl 55 (.pr .int .bool)) a.2.2.1, dS a.2.2.2]), (true, [dI b.1.1, .dat (.sl 198 (.pr (.sl 3 .int) (.sl 3 .int))) b.1.2, .dat (.sl 90 (.pr .str .int)) b.2.1, .dat (.sl 55 (.pr .int .bool)) b.2.2.1, dS b.2.2.2]), (false, [dI most])] [] 0 (Pure (PV.tup [(false, [dB ((tiV a b most).1)]), (false, [dB ((tiV a b most).2)])])) := by
 refine FC.go Tryz.func31 rfl rfl Tryz.ntmps31 fun O_ hO w0_ N0_ X_ h0_ f0_ => ?_
 refine AC.fact (fact_ag (x := .tmp 0) (i := 0) (Ev.tmp rfl) rfl) fun hi1 => AC.fact (fact_ag (x := .tmp 1) (i := 0) (Ev.tmp rfl) rfl) fun hi2 => AC.fact (fact_int (x := .tmp 2) (Evl.tmp rfl)) fun hi3 => ?_
 refine w_ ?_
 refine xbx 0 ?_
 refine xbx 1 ?_
 iterate 5 refine w_ ?_
 refine lc (dK (fc_spec_BuildStateGraph a).frozenG enters_106) ?_
 iterate 3 refine w_ ?_
 refine lc (xal 2 (.pr (.sl 90 (.pr .str .int)) (.pr (.sl 9 .str) (.sl 106 (.pr .int (.pr .int (.pr .bool .int)))))) zer_52) ?_
 iterate 5 refine w_ ?_
 refine lc (dK (fc_spec_BuildStateGraph b).frozenG enters_106) ?_
 iterate 3 refine w_ ?_
 refine lc (xal 3 (.pr (.sl 90 (.pr .str .int)) (.pr (.sl 9 .str) (.sl 106 (.pr .int (.pr .int (.pr .bool .int)))))) zer_52) ?_
 iterate 8 refine w_ ?_
 cases hb4 : ((sgV a).2)
 ·iterate 9 refine w_ ?_
  refine AC.ret ?_
  subst hO
  have e5 : (false : Bool) = ((tiV a b most).1) := by
   exact congrArg Prod.fst (ti_n1 (by assumption))
  have e6 : (false : Bool) = ((tiV a b most).2) := by
   exact congrArg Prod.snd (ti_n1 (by assumption))
  exact fin_pure (Res.two rfl (Rs.tmp rfl) (Rs.tmp rfl)) (((congrArg (fun z_ => PV.tup [(false, [dB z_]), (false, [dB false])]) e5)).trans (congrArg (fun z_ => PV.tup [(false, [dB ((tiV a b most).1)]), (false, [dB z_])]) e6)) rfl
 ·iterate 4 refine w_ ?_
  cases hb7 : ((sgV b).2)
  ·iterate 5 refine w_ ?_
   refine AC.ret ?_
   subst hO
   have e8 : (false : Bool) = ((tiV a b most).1) := by
    exact congrArg Prod.fst (ti_n2 (by assumption))
   have e9 : (false : Bool) = ((tiV a b most).2) := by
    exact congrArg Prod.snd (ti_n2 (by assumption))
   exact fin_pure (Res.two rfl (Rs.tmp rfl) (Rs.tmp rfl)) (((congrArg (fun z_ => PV.tup [(false, [dB z_]), (false, [dB false])]) e8)).trans (congrArg (fun z_ => PV.tup [(false, [dB ((tiV a b most).1)]), (false, [dB z_])]) e9)) rfl
  ·iterate 5 refine w_ ?_
   refine lc (dK (fc_spec_Traces ((sgV a).1) (-1) most) enters_107) ?_
   iterate 9 refine w_ ?_
   refine lc (dK (fc_spec_Traces ((sgV b).1) (-1) most) enters_107) ?_
   iterate 11 refine w_ ?_
   cases hb10 : ((trV ((sgV a).1) (-1) most).2)
   ·iterate 9 refine w_ ?_
    refine AC.ret ?_
    subst hO
    have e11 : (false : Bool) = ((tiV a b most).1) := by
     exact congrArg Prod.fst (ti_n3 (by assumption))
    have e12 : (false : Bool) = ((tiV a b most).2) := by
     exact congrArg Prod.snd (ti_n3 (by assumption))
    exact fin_pure (Res.two rfl (Rs.tmp rfl) (Rs.tmp rfl)) (((congrArg (fun z_ => PV.tup [(false, [dB z_]), (false, [dB false])]) e11)).trans (congrArg (fun z_ => PV.tup [(false, [dB ((tiV a b most).1)]), (false, [dB z_])]) e12)) rfl
   ·iterate 4 refine w_ ?_
    cases hb13 : ((trV ((sgV b).1) (-1) most).2)
    ·iterate 5 refine w_ ?_
     refine AC.ret ?_
     subst hO
     have e14 : (false : Bool) = ((tiV a b most).1) := by
      exact congrArg Prod.fst (ti_n4 (by assumption))
     have e15 : (false : Bool) = ((tiV a b most).2) := by
      exact congrArg Prod.snd (ti_n4 (by assumption))
     exact fin_pure (Res.two rfl (Rs.tmp rfl) (Rs.tmp rfl)) (((congrArg (fun z_ => PV.tup [(false, [dB z_]), (false, [dB false])]) e14)).trans (congrArg (fun z_ => PV.tup [(false, [dB ((tiV a b most).1)]), (false, [dB z_])]) e15)) rfl
    ·iterate 5 refine w_ ?_
     refine AL.fact (fact_len (x := .tmp 52) (Evl.tmp rfl)) fun hl16 => ?_
     iterate 4 refine w_ ?_
     refine AC.loopW (fun m_ s_ => ∃ (k : Nat), k ≤ ((trV ((sgV a).1) (-1) most).1).length ∧ m_ = ((trV ((sgV a).1) (-1) most).1).length - k ∧ (∀ j, j < k → ∀ s, (trV (sgV a).1 (-1) most).1[j]? = some s → s ∈ (trV (sgV b).1 (-1) most).1) ∧ s_ = ⟨[(14, lf (.dat (.sl 9 .str) ((trV ((sgV b).1) (-1) most).1))), (52, lf (.dat (.sl 9 .str) ((trV ((sgV a).1) (-1) most).1))), (53, lI (((trV ((sgV a).1) (-1) most).1).length : Int)), (54, lI (k : Int))], []⟩) ⟨0, Nat.zero_le _, rfl, (fun j hj => absurd hj (Nat.not_lt_zero j)), rfl⟩ ?_ ?_
     · exact Wk.of [] rfl ⟨rfl, rfl, rfl, rfl, trivial⟩ trivial rfl rfl
     rintro m_ s_ ⟨k, hk17, hm18, hin, rfl⟩
     iterate 4 refine w_ ?_
     cases hb19 : (decide ((k : Int) < (((trV ((sgV a).1) (-1) most).1).length : Int)))
     ·have hb19' := of_decide_eq_false hb19
      refine w_ ?_
      refine AC.exit ?_
      refine (?_ : AC _ _ _ _ _)
      iterate 4 refine w_ ?_
      refine AC.ret ?_
      subst hO
      have e20 : (true : Bool) = ((tiV a b most).1) := by
       exact congrArg Prod.fst (ti_in (by assumption) (by assumption) (by assumption) (by assumption) (each_all hin (by omega)))
      have e21 : (true : Bool) = ((tiV a b most).2) := by
       exact congrArg Prod.snd (ti_in (by assumption) (by assumption) (by assumption) (by assumption) (each_all hin (by omega)))
      exact fin_pure (Res.two rfl (Rs.tmp rfl) (Rs.tmp rfl)) (((congrArg (fun z_ => PV.tup [(false, [dB z_]), (false, [dB true])]) e20)).trans (congrArg (fun z_ => PV.tup [(false, [dB ((tiV a b most).1)]), (false, [dB z_])]) e21)) rfl
     ·have hb19' := of_decide_eq_true hb19
      iterate 5 refine w_ ?_
      obtain ⟨x22, hx23⟩ : ∃ z, ((trV ((sgV a).1) (-1) most).1)[k]? = some z := ⟨_, List.getElem?_eq_getElem (by omega)⟩
      iterate 7 refine w_ ?_
      refine lc (dK (fc_spec_l1HasS ((trV ((sgV b).1) (-1) most).1) x22) enters_108) ?_
      iterate 2 refine w_ ?_
      cases hb24 : (hasB ((trV ((sgV b).1) (-1) most).1) x22)
      ·iterate 5 refine w_ ?_
       refine AC.ret ?_
       subst hO
       have e25 : (false : Bool) = ((tiV a b most).1) := by
        exact congrArg Prod.fst (ti_out (by assumption) (by assumption) (by assumption) (by assumption) hx23 (fun g => Bool.false_ne_true ((Eq.symm ‹hasB _ _ = false›).trans (hasB_t.2 g))))
       have e26 : (true : Bool) = ((tiV a b most).2) := by
        exact congrArg Prod.snd (ti_out (by assumption) (by assumption) (by assumption) (by assumption) hx23 (fun g => Bool.false_ne_true ((Eq.symm ‹hasB _ _ = false›).trans (hasB_t.2 g))))
       exact fin_pure (Res.two rfl (Rs.tmp rfl) (Rs.tmp rfl)) (((congrArg (fun z_ => PV.tup [(false, [dB z_]), (false, [dB true])]) e25)).trans (congrArg (fun z_ => PV.tup [(false, [dB ((tiV a b most).1)]), (false, [dB z_])]) e26)) rfl
      ·refine w_ ?_
       refine AC.skip ?_
       refine (?_ : AC _ _ _ _ _)
       iterate 3 refine w_ ?_
       refine AL.nil <| lend ⟨k + 1, by omega, rfl, (each_step hin hx23 (hasB_t.1 (by assumption))), rfl⟩ (by omega) ?_
       exact Wk.of [] rfl ⟨rfl, rfl, rfl, rfl, trivial⟩ trivial rfl rfl

end Go.Proofs.YtjaadeknhofhpaaGreat
