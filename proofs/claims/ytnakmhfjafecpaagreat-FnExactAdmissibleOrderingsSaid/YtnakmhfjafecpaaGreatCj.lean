/- Walks over abstract states: the orders that may be put in, the reference. -/
import Derived.Test.YtnakmhfjafecpaaGreatCf
import Derived.Test.YtnakmhfjafecpaaGreatUa
import Derived.Test.YtnakmhfjafecpaaGreatAg
set_option linter.unusedSimpArgs false
set_option linter.unusedVariables false
set_option linter.unusedSectionVars false
namespace Go.Proofs.YtnakmhfjafecpaaGreat
open Go.RowKit
set_option maxRecDepth 100000
set_option maxHeartbeats 4000000

section
variable [∀ s, Decidable (StgOk s)] {s : DSTG} {P : List (List Int)} {a b : Int} {k i j n : Nat} {m : Bool} {ms : List Bool} {x : List Int} {os_ : List DOrdering}
def rowM (s : DSTG) (a b : Int) (ms : List Bool) : List DOrdering := (ms.filter fun m => outB s b && goodV s (a, b, m)).map fun m => (a, b, m)
def cellO (s : DSTG) (P : List (List Int)) (a b : Int) : List DOrdering := if (P.any fun p => decide (p = [min a b, max a b])) = true ∧ a ≠ b then rowM s a b [false, true] else []
def rowO (s : DSTG) (P : List (List Int)) (a : Int) (i : Nat) : List DOrdering := (List.range i).flatMap fun b => cellO s P a ((b : Nat) : Int)
def allO (s : DSTG) (P : List (List Int)) (n k : Nat) : List DOrdering := (List.range k).flatMap fun a => rowO s P ((a : Nat) : Int) n
theorem rowM_yes (hx : ms[j]? = some m) (h : (outB s b && goodV s (a, b, m)) = true) : rowM s a b (ms.take j) ++ [(a, b, m)] = rowM s a b (ms.take (j + 1)) := by
  unfold rowM
  rw [take_snoc hx, List.filter_append, List.map_append]; simp [h]
theorem rowM_no (hx : ms[j]? = some m) (h : (outB s b && goodV s (a, b, m)) = false) : rowM s a b (ms.take j) = rowM s a b (ms.take (j + 1)) := by
  unfold rowM
  rw [take_snoc hx, List.filter_append, List.map_append]; simp [h]
theorem rowM_len : (rowM s a b ms).length ≤ ms.length := by unfold rowM; rw [List.length_map]; exact List.length_filter_le ..
theorem cellO_len : (cellO s P a b).length ≤ 2 := by
  unfold cellO
  split
  · exact rowM_len
  · exact Nat.zero_le _
theorem rowO_succ : rowO s P a i ++ cellO s P a (i : Int) = rowO s P a (i + 1) := by unfold rowO; rw [List.range_succ, List.flatMap_append]; simp
theorem allO_succ : allO s P n k ++ rowO s P (k : Int) n = allO s P n (k + 1) := by unfold allO; rw [List.range_succ, List.flatMap_append]; simp
theorem rowO_len : ∀ i, (rowO s P a i).length ≤ 2 * i
  | 0 => Nat.le_refl _
  | i + 1 => by rw [← rowO_succ, List.length_append]; have := rowO_len i; have := cellO_len (s := s) (P := P) (a := a) (b := (i : Int)); omega
theorem allO_len (hn : n ≤ 24) : ∀ k, (allO s P n k).length ≤ 48 * k
  | 0 => Nat.le_refl _
  | k + 1 => by rw [← allO_succ, List.length_append]; have := allO_len hn k; have := rowO_len n (s := s) (P := P) (a := (k : Int)); omega
theorem any_yes {l : List (List Int)} {y : List Int} (hx : l[k]? = some x) (h : x = y) : (true : Bool) = ((l.take (k + 1)).any fun p => decide (p = y)) := by rw [take_snoc hx]; simp [h]
theorem any_no {l : List (List Int)} {y : List Int} (hx : l[k]? = some x) (h : ¬ x = y) : ((l.take k).any fun p => decide (p = y)) = ((l.take (k + 1)).any fun p => decide (p = y)) := by rw [take_snoc hx]; simp [h]
theorem any_old {l : List (List Int)} {y : List Int} (h : ((l.take k).any fun p => decide (p = y)) = true) : (true : Bool) = ((l.take (k + 1)).any fun p => decide (p = y)) := by
  obtain ⟨z, h1, h2⟩ := List.any_eq_true.1 h
  exact (List.any_eq_true.2 ⟨z, List.mem_of_mem_take (i := k) (by rw [List.take_take, show min k (k + 1) = k by omega]; exact h1), h2⟩).symm
def cellP (s : DSTG) (c : Bool) (a b : Int) (ms : List Bool) : List DOrdering := if c = true ∧ a ≠ b then rowM s a b ms else []
theorem cellP_yes {c : Bool} (hx : ms[j]? = some m) (hc : c = true) (hab : a ≠ b) (h : (outB s b && goodV s (a, b, m)) = true) : cellP s c a b (ms.take j) ++ [(a, b, m)] = cellP s c a b (ms.take (j + 1)) := by
  unfold cellP
  rw [if_pos ⟨hc, hab⟩, if_pos ⟨hc, hab⟩, rowM_yes hx h]
theorem cellP_no {c : Bool} (hx : ms[j]? = some m) (h : (outB s b && goodV s (a, b, m)) = false) : cellP s c a b (ms.take j) = cellP s c a b (ms.take (j + 1)) := by
  unfold cellP
  rw [rowM_no hx h]
theorem cellP_off {c : Bool} (h : ¬ (c = true ∧ a ≠ b)) : cellP s c a b (ms.take j) = cellP s c a b (ms.take (j + 1)) := by
  unfold cellP
  rw [if_neg h, if_neg h]
theorem cellP_len {c : Bool} : (cellP s c a b ms).length ≤ ms.length := by
  unfold cellP
  split
  · exact rowM_len
  · exact Nat.zero_le _
theorem cellP_end (hj : P.length ≤ j) : cellP s ((P.take j).any fun p => decide (p = [min a b, max a b])) a b [false, true] = cellO s P a b := by rw [List.take_of_length_le hj]; rfl
theorem cell_end (hm : ([false, true] : List Bool).length ≤ k) (hj : P.length ≤ j) : os_ ++ rowO s P a i ++ cellP s ((P.take j).any fun p => decide (p = [min a (i : Int), max a (i : Int)])) a (i : Int) (([false, true] : List Bool).take k) = os_ ++ rowO s P a (i + 1) := by
  rw [List.take_of_length_le hm, cellP_end hj, List.append_assoc, rowO_succ]
theorem cell_app {c : Bool} {os2 : List DOrdering} (h : cellP s c a b (ms.take j) ++ [(a, b, m)] = cellP s c a b (ms.take (j + 1))) : (os2 ++ cellP s c a b (ms.take j)) ++ [(a, b, m)] = os2 ++ cellP s c a b (ms.take (j + 1)) := by rw [List.append_assoc, h]
theorem any_new {l : List (List Int)} {y : List Int} (hx : l[k]? = some x) (h : ((l.take k).any fun p => decide (p = y)) = false) : decide (x = y) = ((l.take (k + 1)).any fun p => decide (p = y)) := by rw [take_snoc hx, List.any_append, h]; simp
theorem all_end (hi : i = n) : allO s P n k ++ rowO s P (k : Int) i = allO s P n (k + 1) := by rw [hi, allO_succ]
theorem ords_len {c : Bool} (hn : n ≤ 24) (hk : k ≤ n) (hi : i ≤ n) (hj : ms.length ≤ 2) : (allO s P n k ++ rowO s P a i ++ cellP s c a b ms).length ≤ 5000 := by
  have h1 := allO_len hn k (s := s) (P := P)
  have h2 := rowO_len i (s := s) (P := P) (a := a)
  have h3 := cellP_len (s := s) (c := c) (a := a) (b := b) (ms := ms)
  simp only [List.length_append]; omega
/-- All orders that may be put in. -/
def ordsV (s : DSTG) : List DOrdering := allO s (concV s) s.1.2.length s.1.2.length
end

theorem fc_spec_l26Orders (s : (Int × (List (List Int × List Int))) × (List (ByteArray × Int)) × (List (Int × Bool)) × ByteArray) [∀ s, Decidable (StgOk s)] (hz : Ty.tot tSTG s ≤ 2000000) (he : (exploreV s).2 = true) : FC Tryz.prog 90 [(true, [dI s.1.1, .dat (.sl 159 (.pr (.sl 3 .int) (.sl 3 .int))) s.1.2, .dat (.sl 145 (.pr .str .int)) s.2.1, .dat (.sl 61 (.pr .int .bool)) s.2.2.1, dS s.2.2.2])] [] 0 (Own1 85 (.pr .int (.pr .int .bool)) (ordsV s)) := by
 obtain ⟨hsg, _⟩ := exploreV_ok he
 have hnn := exploreV_net he
 have hsl := hsg.len
 have hlb : ∀ l ∈ s.2.2.1, l.1 < (s.2.1.length : Int) := fun l hl => by rcases hsg.labs l hl with h | h <;> omega
 refine FC.go Tryz.func90 rfl rfl Tryz.ntmps90 fun O_ hO w0_ N0_ X_ h0_ f0_ => ?_
 refine AC.fact (fact_ag (x := .tmp 0) (i := 0) (Ev.tmp rfl) rfl) fun hi1 => ?_
 refine w_ ?_
 refine lc (Does.box 0 (Ev.tmp rfl) rfl rfl (Fresh.of rfl) (nlr rfl)) ?_
 iterate 4 refine w_ ?_
 refine lc (Does.call (fc_spec_Explore s).frozenG enters_52 ⟨_, _, rfl, (Ev.tmp rfl), rfl⟩ rfl rfl) ?_
 iterate 3 refine w_ ?_
 refine lc (Does.alloc 1 (.pr (.sl 9 .str) (.sl 226 (.pr .int (.pr .int .int)))) zer_98 rfl rfl (Fresh.of rfl) (nlr rfl)) <| lc (Does.storeP (Evl.tmp rfl) rfl (Ev.tmp rfl) rfl tsh_98 rfl) ?_
 iterate 5 refine w_ ?_
 refine lc (Does.call (fc_spec_l26Pairs s ((exploreV s).1) exploreV_pl (exploreV_net he) exploreV_few).frozen enters_53 ⟨_, _, rfl, (Ev.tmp rfl), ⟨_, _, rfl, (Ev.tmp rfl), rfl⟩⟩ rfl rfl) ?_
 iterate 10 refine w_ ?_
 refine AL.fact (fact_len (x := .tmp 25) (Evl.tmp rfl)) fun hl2 => ?_
 iterate 4 refine w_ ?_
 refine AC.wk (Wk.nilS 2 6 85 (.pr .int (.pr .int .bool)) rfl (Fresh.of rfl) (nlr rfl)) ?_
 refine AC.loopW (fun m_ s_ => ∃ (k : Nat), k ≤ s.1.2.length ∧ m_ = s.1.2.length - k ∧ s_ = ⟨[(1, lP 0 0), (2, lf (.val (.slice none 0 0))), (5, lf (.dat (.sl 106 (.sl 3 .int)) (ofG ltP (togS s.1 ((exploreV s).1).1)))), (6, lR 3), (26, lI (s.1.2.length : Int)), (27, lI (k : Int))], [(0, some (.box 39 [dI s.1.1, .dat (.sl 159 (.pr (.sl 3 .int) (.sl 3 .int))) s.1.2, .dat (.sl 145 (.pr .str .int)) s.2.1, .dat (.sl 61 (.pr .int .bool)) s.2.2.1, dS s.2.2.2])), (3, some (.arr 85 (.pr .int (.pr .int .bool)) (allO s (ofG ltP (togS s.1 (((exploreV s).1).1))) s.1.2.length k)))]⟩) ⟨0, Nat.zero_le _, rfl, rfl⟩ ?_ ?_
 · exact Wk.of [(0, 0), (3, 2)] rfl ⟨rfl, rfl, rfl, rfl, rfl, rfl, trivial⟩ ⟨rfl, (entE (by first | rfl | simp)), trivial⟩ rfl rfl
 rintro m_ s_ ⟨k, hk3, hm4, rfl⟩
 iterate 4 refine w_ ?_
 cases hb5 : (decide ((k : Int) < (s.1.2.length : Int)))
 ·have hb5' := of_decide_eq_false hb5
  refine w_ ?_
  refine AC.exit ?_
  refine (?_ : AC _ _ _ _ _)
  iterate 4 refine w_ ?_
  refine AC.ret ?_
  subst hO
  refine fin_own (e := (.pr .int (.pr .int .bool))) (xs := (allO s (ofG ltP (togS s.1 (((exploreV s).1).1))) s.1.2.length k)) (Res.one rfl (Rs.tmp rfl)) rfl ?_
  (have hkk : k = s.1.2.length := (by omega); rw [hkk]; rfl)
 ·have hb5' := of_decide_eq_true hb5
  iterate 12 refine w_ ?_
  refine AL.fact (fact_len (x := .tmp 32) (Evl.tmp rfl)) fun hl6 => ?_
  iterate 4 refine w_ ?_
  refine AC.loopW (fun m_ s_ => ∃ (i : Nat), i ≤ s.1.2.length ∧ m_ = s.1.2.length - i ∧ s_ = ⟨[(1, lP 0 0), (2, lf (.val (.slice none 0 0))), (5, lf (.dat (.sl 106 (.sl 3 .int)) (ofG ltP (togS s.1 ((exploreV s).1).1)))), (6, lR 4), (7, lI (k : Int)), (26, lI (s.1.2.length : Int)), (27, lI (k : Int)), (28, lB true), (29, lI (k : Int)), (30, lP 0 0), (31, lP 0 1), (32, lf (.dat (.sl 159 (.pr (.sl 3 .int) (.sl 3 .int))) s.1.2)), (33, lI (s.1.2.length : Int)), (34, lI (i : Int))], [(0, some (.box 39 [dI s.1.1, .dat (.sl 159 (.pr (.sl 3 .int) (.sl 3 .int))) s.1.2, .dat (.sl 145 (.pr .str .int)) s.2.1, .dat (.sl 61 (.pr .int .bool)) s.2.2.1, dS s.2.2.2])), (4, some (.arr 85 (.pr .int (.pr .int .bool)) (allO s (ofG ltP (togS s.1 (((exploreV s).1).1))) s.1.2.length k ++ rowO s (ofG ltP (togS s.1 (((exploreV s).1).1))) (k : Int) i)))]⟩) ⟨0, Nat.zero_le _, rfl, rfl⟩ ?_ ?_
  · exact Wk.of [(0, 0), (4, 3)] rfl ⟨rfl, rfl, rfl, rfl, rfl, rfl, rfl, rfl, rfl, rfl, rfl, rfl, rfl, rfl, trivial⟩ ⟨rfl, (entE (by simp [rowO])), trivial⟩ rfl rfl
  rintro m_ s_ ⟨i, hk7, hm8, rfl⟩
  iterate 4 refine w_ ?_
  cases hb9 : (decide ((i : Int) < (s.1.2.length : Int)))
  ·have hb9' := of_decide_eq_false hb9
   refine w_ ?_
   refine AC.exit ?_
   refine (?_ : AC _ _ _ _ _)
   iterate 3 refine w_ ?_
   refine AL.nil <| lend ⟨k + 1, by omega, rfl, rfl⟩ (by omega) ?_
   exact Wk.of [(0, 0), (3, 4)] rfl ⟨rfl, rfl, rfl, rfl, rfl, rfl, trivial⟩ ⟨rfl, (entE (all_end (by omega))), trivial⟩ rfl rfl
  ·have hb9' := of_decide_eq_true hb9
   iterate 14 refine w_ ?_
   refine AL.fact (fact_len (x := .tmp 37) (Evl.tmp rfl)) fun hl10 => ?_
   iterate 4 refine w_ ?_
   refine AC.loopW (fun m_ s_ => ∃ (j : Nat), j ≤ (ofG ltP (togS s.1 (((exploreV s).1).1))).length ∧ m_ = (ofG ltP (togS s.1 (((exploreV s).1).1))).length - j ∧ s_ = ⟨[(1, lP 0 0), (2, lf (.val (.slice none 0 0))), (5, lf (.dat (.sl 106 (.sl 3 .int)) (ofG ltP (togS s.1 ((exploreV s).1).1)))), (6, lR 4), (7, lI (k : Int)), (8, lI (i : Int)), (9, lB (((ofG ltP (togS s.1 (((exploreV s).1).1))).take j).any (fun p => decide (p = [min (k : Int) (i : Int), max (k : Int) (i : Int)])))), (26, lI (s.1.2.length : Int)), (27, lI (k : Int)), (28, lB true), (29, lI (k : Int)), (30, lP 0 0), (31, lP 0 1), (32, lf (.dat (.sl 159 (.pr (.sl 3 .int) (.sl 3 .int))) s.1.2)), (33, lI (s.1.2.length : Int)), (34, lI (i : Int)), (35, lB true), (36, lI (i : Int)), (37, lf (.dat (.sl 106 (.sl 3 .int)) (ofG ltP (togS s.1 ((exploreV s).1).1)))), (38, lI ((ofG ltP (togS s.1 ((exploreV s).1).1)).length : Int)), (39, lI (j : Int))], [(0, some (.box 39 [dI s.1.1, .dat (.sl 159 (.pr (.sl 3 .int) (.sl 3 .int))) s.1.2, .dat (.sl 145 (.pr .str .int)) s.2.1, .dat (.sl 61 (.pr .int .bool)) s.2.2.1, dS s.2.2.2])), (4, some (.arr 85 (.pr .int (.pr .int .bool)) (allO s (ofG ltP (togS s.1 (((exploreV s).1).1))) s.1.2.length k ++ rowO s (ofG ltP (togS s.1 (((exploreV s).1).1))) (k : Int) i)))]⟩) ⟨0, Nat.zero_le _, rfl, rfl⟩ ?_ ?_
   · exact Wk.of [(0, 0), (4, 4)] rfl ⟨rfl, rfl, rfl, rfl, rfl, rfl, (show some (lB false) = some (lB (((ofG ltP (togS s.1 (((exploreV s).1).1))).take 0).any (fun p => decide (p = [min (k : Int) (i : Int), max (k : Int) (i : Int)])))) from congrArg (fun z_ => some (lB z_)) (by simp)), rfl, rfl, rfl, rfl, rfl, rfl, rfl, rfl, rfl, rfl, rfl, rfl, rfl, rfl, trivial⟩ ⟨rfl, rfl, trivial⟩ rfl rfl
   rintro m_ s_ ⟨j, hk12, hm13, rfl⟩
   iterate 4 refine w_ ?_
   cases hb14 : (decide ((j : Int) < ((ofG ltP (togS s.1 ((exploreV s).1).1)).length : Int)))
   ·have hb14' := of_decide_eq_false hb14
    refine w_ ?_
    refine AC.exit ?_
    refine (?_ : AC _ _ _ _ _)
    refine w_ ?_
    refine lc (Does.buildSlice 5 (e := .bool) und_143 tsh_4 zer_4 rfl ⟨_, _, rfl, (Evl.ev Evl.bool), ⟨_, _, rfl, (Evl.ev Evl.bool), rfl⟩⟩ (List.all_eq_true.1 rfl) ⟨_, _, _, _, rfl, ⟨rfl, rfl⟩, ⟨_, _, _, _, rfl, ⟨rfl, rfl⟩, ⟨rfl, rfl⟩, rfl⟩, rfl⟩ (by decide) rfl rfl (Fresh.of rfl) (nlr rfl)) ?_
    iterate 4 refine w_ ?_
    refine AC.loopW (fun m_ s_ => ∃ (m : Nat), m ≤ ([false, true]).length ∧ m_ = ([false, true]).length - m ∧ s_ = ⟨[(1, lP 0 0), (2, lf (.val (.slice none 0 0))), (5, lf (.dat (.sl 106 (.sl 3 .int)) (ofG ltP (togS s.1 ((exploreV s).1).1)))), (6, lR 6), (7, lI (k : Int)), (8, lI (i : Int)), (9, lB (((ofG ltP (togS s.1 (((exploreV s).1).1))).take j).any (fun p => decide (p = [min (k : Int) (i : Int), max (k : Int) (i : Int)])))), (26, lI (s.1.2.length : Int)), (27, lI (k : Int)), (28, lB true), (29, lI (k : Int)), (30, lP 0 0), (31, lP 0 1), (32, lf (.dat (.sl 159 (.pr (.sl 3 .int) (.sl 3 .int))) s.1.2)), (33, lI (s.1.2.length : Int)), (34, lI (i : Int)), (35, lB true), (36, lI (i : Int)), (37, lf (.dat (.sl 106 (.sl 3 .int)) (ofG ltP (togS s.1 ((exploreV s).1).1)))), (38, lI ((ofG ltP (togS s.1 ((exploreV s).1).1)).length : Int)), (39, lI (j : Int)), (40, lB false), (56, lR 5), (57, lI (([false, true]).length : Int)), (58, lI (m : Int))], [(0, some (.box 39 [dI s.1.1, .dat (.sl 159 (.pr (.sl 3 .int) (.sl 3 .int))) s.1.2, .dat (.sl 145 (.pr .str .int)) s.2.1, .dat (.sl 61 (.pr .int .bool)) s.2.2.1, dS s.2.2.2])), (5, some (.arr 4 .bool ([false, true]))), (6, some (.arr 85 (.pr .int (.pr .int .bool)) (allO s (ofG ltP (togS s.1 (((exploreV s).1).1))) s.1.2.length k ++ rowO s (ofG ltP (togS s.1 (((exploreV s).1).1))) (k : Int) i ++ cellP s (((ofG ltP (togS s.1 (((exploreV s).1).1))).take j).any (fun p => decide (p = [min (k : Int) (i : Int), max (k : Int) (i : Int)]))) (k : Int) (i : Int) (([false, true] : List Bool).take m))))]⟩) ⟨0, Nat.zero_le _, rfl, rfl⟩ ?_ ?_
    · exact Wk.of [(0, 0), (5, 5), (6, 4)] rfl ⟨rfl, rfl, rfl, rfl, rfl, rfl, rfl, rfl, rfl, rfl, rfl, rfl, rfl, rfl, rfl, rfl, rfl, rfl, rfl, rfl, rfl, rfl, rfl, rfl, rfl, trivial⟩ ⟨rfl, rfl, (entE (by simp [cellP, rowM])), trivial⟩ rfl rfl
    rintro m_ s_ ⟨m, hk15, hm16, rfl⟩
    have h2l : (([false, true] : List Bool).length) = 2 := rfl
    iterate 4 refine w_ ?_
    cases hb17 : (decide ((m : Int) < (([false, true]).length : Int)))
    ·have hb17' := of_decide_eq_false hb17
     refine w_ ?_
     refine AC.exit ?_
     refine (?_ : AC _ _ _ _ _)
     iterate 3 refine w_ ?_
     refine AL.nil <| lend ⟨i + 1, by omega, rfl, rfl⟩ (by omega) ?_
     exact Wk.of [(0, 0), (4, 6)] rfl ⟨rfl, rfl, rfl, rfl, rfl, rfl, rfl, rfl, rfl, rfl, rfl, rfl, rfl, rfl, trivial⟩ ⟨rfl, (entE (cell_end (by omega) (by omega))), trivial⟩ rfl rfl
    ·have hb17' := of_decide_eq_true hb17
     iterate 5 refine w_ ?_
     refine lc (Does.indexI (e := .bool) (Evl.tmp rfl) rfl (Evl.tmp rfl) und_143 tsh_4 rfl (by omega) (by first | omega | (simp only [List.length_set]; omega))) ?_
     obtain ⟨mg, hx19⟩ : ∃ z, ([false, true])[m]? = some z := ⟨_, List.getElem?_eq_getElem (by omega)⟩
     have mgh := hx19
     refine lc (Does.loadI (e := .bool) (Evl.tmp rfl) rfl hx19 rfl tsh_4 rfl rfl) ?_
     iterate 6 refine w_ ?_
     refine lc (Does.build bld_85 ⟨_, _, rfl, (Ev.tmp rfl), ⟨_, _, rfl, (Ev.tmp rfl), ⟨_, _, rfl, (Ev.tmp rfl), rfl⟩⟩⟩ (List.all_eq_true.1 rfl) rfl rfl) <| lc (Does.alloc 7 (.pr .int (.pr .int .bool)) zer_85 rfl rfl (Fresh.of rfl) (nlr rfl)) <| lc (Does.storeP (Evl.tmp rfl) rfl (Ev.tmp rfl) rfl tsh_85 rfl) ?_
     iterate 4 refine w_ ?_
     cases hb20 : (((ofG ltP (togS s.1 (((exploreV s).1).1))).take j).any (fun p => decide (p = [min (k : Int) (i : Int), max (k : Int) (i : Int)])))
     ·iterate 11 refine w_ ?_
      refine AC.skip ?_
      refine (?_ : AC _ _ _ _ _)
      iterate 3 refine w_ ?_
      refine AL.nil <| lend ⟨m + 1, by omega, rfl, rfl⟩ (by omega) ?_
      exact Wk.of [(0, 0), (5, 5), (6, 6)] rfl ⟨rfl, rfl, rfl, rfl, rfl, rfl, rfl, rfl, rfl, rfl, rfl, rfl, rfl, rfl, rfl, rfl, rfl, rfl, rfl, rfl, rfl, rfl, rfl, rfl, rfl, trivial⟩ ⟨rfl, rfl, (entE (by first | exact cell_app (cellP_yes mgh rfl (by omega) (by assumption)) | exact congrArg _ (cellP_no mgh (by assumption)) | exact congrArg _ (cellP_off (fun h => h.2 (by omega))) | exact congrArg _ (cellP_off (fun h => by cases h.1)))), trivial⟩ rfl rfl
     ·iterate 5 refine w_ ?_
      cases hb21 : (!decide ((k : Int) = (i : Int)))
      ·have hb21' : ((k : Int) = (i : Int)) := nd_false hb21
       iterate 6 refine w_ ?_
       refine AC.skip ?_
       refine (?_ : AC _ _ _ _ _)
       iterate 3 refine w_ ?_
       refine AL.nil <| lend ⟨m + 1, by omega, rfl, rfl⟩ (by omega) ?_
       exact Wk.of [(0, 0), (5, 5), (6, 6)] rfl ⟨rfl, rfl, rfl, rfl, rfl, rfl, rfl, rfl, rfl, rfl, rfl, rfl, rfl, rfl, rfl, rfl, rfl, rfl, rfl, rfl, rfl, rfl, rfl, rfl, rfl, trivial⟩ ⟨rfl, rfl, (entE (by first | exact cell_app (cellP_yes mgh rfl (by omega) (by assumption)) | exact congrArg _ (cellP_no mgh (by assumption)) | exact congrArg _ (cellP_off (fun h => h.2 (by omega))) | exact congrArg _ (cellP_off (fun h => by cases h.1)))), trivial⟩ rfl rfl
      ·have hb21' : ¬ ((k : Int) = (i : Int)) := nd_true hb21
       iterate 2 refine w_ ?_
       refine lgy rfl rfl (Does.call (fc_spec_l26Good s ((k : Int), (i : Int), mg) hz (by show (0 : Int) ≤ (i : Int) ∧ (i : Int) < _; omega) hlb) enters_167 ⟨_, _, rfl, (Ev.tmp rfl), ⟨_, _, rfl, (Ev.tmp rfl), rfl⟩⟩ rfl rfl) ?_
       iterate 2 refine w_ ?_
       cases hb22 : (outB s ((k : Int), (i : Int), mg).2.1 && goodV s ((k : Int), (i : Int), mg))
       ·refine w_ ?_
        refine AC.skip ?_
        refine (?_ : AC _ _ _ _ _)
        iterate 3 refine w_ ?_
        refine AL.nil <| lend ⟨m + 1, by omega, rfl, rfl⟩ (by omega) ?_
        exact Wk.of [(0, 0), (5, 5), (6, 6)] rfl ⟨rfl, rfl, rfl, rfl, rfl, rfl, rfl, rfl, rfl, rfl, rfl, rfl, rfl, rfl, rfl, rfl, rfl, rfl, rfl, rfl, rfl, rfl, rfl, rfl, rfl, trivial⟩ ⟨rfl, rfl, (entE (by first | exact cell_app (cellP_yes mgh rfl (by omega) (by assumption)) | exact congrArg _ (cellP_no mgh (by assumption)) | exact congrArg _ (cellP_off (fun h => h.2 (by omega))) | exact congrArg _ (cellP_off (fun h => by cases h.1)))), trivial⟩ rfl rfl
       ·iterate 4 refine w_ ?_
        refine lc (Does.buildSlice 8 (e := (.pr .int (.pr .int .bool))) und_77 tsh_85 zer_85 rfl ⟨_, _, rfl, (Ev.tmp rfl), rfl⟩ (List.all_eq_true.1 rfl) ⟨_, _, _, _, rfl, ⟨[dI (k : Int)], [dI (i : Int), dB mg], _, _, _, _, rfl, rfl, ⟨rfl, rfl⟩, ⟨[dI (i : Int)], [dB mg], _, _, _, _, rfl, rfl, ⟨rfl, rfl⟩, ⟨rfl, rfl⟩, rfl⟩, rfl⟩, ⟨rfl, rfl⟩, rfl⟩ (by decide) rfl rfl (Fresh.of rfl) (nlr rfl)) <| lc (Does.append 9 (Evl.tmp rfl) rfl (Evl.tmp rfl) rfl rfl und_77 elb_85 (by (have := ords_len (s := s) (P := ofG ltP (togS s.1 (((exploreV s).1).1))) (n := s.1.2.length) (k := k) (i := i) (a := (k : Int)) (b := (i : Int)) (c := true) (ms := ([false, true] : List Bool).take m) hnn (by omega) (by omega) (by simp only [List.length_take]; omega); simp only [List.length_cons, List.length_nil] at *; omega)) rfl (Fresh.of rfl) (nlr rfl)) ?_
        refine w_ ?_
        refine AL.nil ?_
        refine (?_ : AC _ _ _ _ _)
        iterate 3 refine w_ ?_
        refine AL.nil <| lend ⟨m + 1, by omega, rfl, rfl⟩ (by omega) ?_
        exact Wk.of [(0, 0), (5, 5), (6, 9)] rfl ⟨rfl, rfl, rfl, rfl, rfl, rfl, rfl, rfl, rfl, rfl, rfl, rfl, rfl, rfl, rfl, rfl, rfl, rfl, rfl, rfl, rfl, rfl, rfl, rfl, rfl, trivial⟩ ⟨rfl, rfl, (entE (by first | exact cell_app (cellP_yes mgh rfl (by omega) (by assumption)) | exact congrArg _ (cellP_no mgh (by assumption)) | exact congrArg _ (cellP_off (fun h => h.2 (by omega))) | exact congrArg _ (cellP_off (fun h => by cases h.1)))), trivial⟩ rfl rfl
   ·have hb14' := of_decide_eq_true hb14
    iterate 5 refine w_ ?_
    obtain ⟨x23, hx24⟩ : ∃ z, (ofG ltP (togS s.1 ((exploreV s).1).1))[j]? = some z := ⟨_, List.getElem?_eq_getElem (by omega)⟩
    refine lc (Does.indexE (Evl.tmp rfl) (Evl.tmp rfl) und_30 tsh_106 rfl (by omega) hx24) ?_
    iterate 6 refine w_ ?_
    cases hb25 : (((ofG ltP (togS s.1 (((exploreV s).1).1))).take j).any (fun p => decide (p = [min (k : Int) (i : Int), max (k : Int) (i : Int)])))
    ·iterate 3 refine w_ ?_
     refine lgy rfl rfl (Does.call (fc_spec_l1Least (k : Int) (i : Int)) enters_165 ⟨_, _, rfl, (Ev.tmp rfl), ⟨_, _, rfl, (Ev.tmp rfl), rfl⟩⟩ rfl rfl) ?_
     iterate 2 refine w_ ?_
     refine lgy rfl rfl (Does.call (fc_spec_l1Most (k : Int) (i : Int)) enters_166 ⟨_, _, rfl, (Ev.tmp rfl), ⟨_, _, rfl, (Ev.tmp rfl), rfl⟩⟩ rfl rfl) <| lgy rfl rfl (Does.buildSlice 10 (e := .int) und_106 tsh_3 zer_3 rfl ⟨_, _, rfl, (Ev.tmp rfl), ⟨_, _, rfl, (Ev.tmp rfl), rfl⟩⟩ (List.all_eq_true.1 rfl) ⟨_, _, _, _, rfl, ⟨rfl, rfl⟩, ⟨_, _, _, _, rfl, ⟨rfl, rfl⟩, ⟨rfl, rfl⟩, rfl⟩, rfl⟩ (by decide) rfl rfl (Fresh.of rfl) (nlr rfl)) <| lgy rfl rfl (Does.callB (fc_spec_l1Same x23 ([min (k : Int) (i : Int), max (k : Int) (i : Int)])) enters_164 ⟨_, _, rfl, (Ev.b (Ev.tmp rfl)), ⟨_, _, rfl, (Evl.ob (Evl.tmp rfl) rfl), rfl⟩⟩ rfl rfl rfl) ?_
     iterate 2 refine w_ ?_
     refine AL.nil ?_
     refine (?_ : AC _ _ _ _ _)
     iterate 3 refine w_ ?_
     refine AL.nil <| lend ⟨j + 1, by omega, rfl, rfl⟩ (by omega) ?_
     exact Wk.of [(0, 0), (4, 4)] rfl ⟨rfl, rfl, rfl, rfl, rfl, rfl, (show some (lB (decide (x23 = ([min (k : Int) (i : Int), max (k : Int) (i : Int)])))) = some (lB (((ofG ltP (togS s.1 (((exploreV s).1).1))).take (j + 1)).any (fun p => decide (p = [min (k : Int) (i : Int), max (k : Int) (i : Int)])))) from congrArg (fun z_ => some (lB z_)) (by first | exact any_old (by assumption) | exact any_new hx24 (by assumption) | exact any_yes hx24 (of_decide_eq_true (by assumption)) | exact any_no hx24 (of_decide_eq_false (by assumption)))), rfl, rfl, rfl, rfl, rfl, rfl, rfl, rfl, rfl, rfl, rfl, rfl, rfl, rfl, trivial⟩ ⟨rfl, rfl, trivial⟩ rfl rfl
    ·iterate 11 refine w_ ?_
     refine AL.nil ?_
     refine (?_ : AC _ _ _ _ _)
     iterate 3 refine w_ ?_
     refine AL.nil <| lend ⟨j + 1, by omega, rfl, rfl⟩ (by omega) ?_
     exact Wk.of [(0, 0), (4, 4)] rfl ⟨rfl, rfl, rfl, rfl, rfl, rfl, (show some (lB true) = some (lB (((ofG ltP (togS s.1 (((exploreV s).1).1))).take (j + 1)).any (fun p => decide (p = [min (k : Int) (i : Int), max (k : Int) (i : Int)])))) from congrArg (fun z_ => some (lB z_)) (by first | exact any_old (by assumption) | exact any_new hx24 (by assumption) | exact any_yes hx24 (of_decide_eq_true (by assumption)) | exact any_no hx24 (of_decide_eq_false (by assumption)))), rfl, rfl, rfl, rfl, rfl, rfl, rfl, rfl, rfl, rfl, rfl, rfl, rfl, rfl, trivial⟩ ⟨rfl, rfl, trivial⟩ rfl rfl

section
variable [∀ s, Decidable (StgOk s)] {s : DSTG}
theorem sgV_exp (h : (sgV s).2 = true) : (exploreV s).2 = true := by
  cases he : (exploreV s).2 with
  | true => rfl
  | false => rw [sgV_no1 he] at h; cases h
def admV (s : DSTG) : List DOrdering := if (sgV s).2 = true then ordsV s else []
theorem admV_yes (h : (sgV s).2 = true) : ordsV s = admV s := by unfold admV; rw [if_pos h]
theorem admV_no (h : (sgV s).2 = false) : [] = admV s := by unfold admV; rw [if_neg (by rw [h]; decide)]
end

theorem fc_spec_AdmissibleOrderings (s : (Int × (List (List Int × List Int))) × (List (ByteArray × Int)) × (List (Int × Bool)) × ByteArray) [∀ s, Decidable (StgOk s)] (hz : Ty.tot tSTG s ≤ 2000000) : FC Tryz.prog 35 [(true, [dI s.1.1, .dat (.sl 159 (.pr (.sl 3 .int) (.sl 3 .int))) s.1.2, .dat (.sl 145 (.pr .str .int)) s.2.1, .dat (.sl 61 (.pr .int .bool)) s.2.2.1, dS s.2.2.2])] [] 0 (Is (PV.tup [(false, [.ref 0]), (false, [dB ((sgV s).2)])]) [(0, some (.arr 85 (.pr .int (.pr .int .bool)) (admV s)))]) := by
 refine FC.go Tryz.func35 rfl rfl Tryz.ntmps35 fun O_ hO w0_ N0_ X_ h0_ f0_ => ?_
 refine AC.fact (fact_ag (x := .tmp 0) (i := 0) (Ev.tmp rfl) rfl) fun hi1 => ?_
 refine w_ ?_
 refine lc (Does.box 0 (Ev.tmp rfl) rfl rfl (Fresh.of rfl) (nlr rfl)) ?_
 iterate 6 refine w_ ?_
 refine lc (Does.call (fc_spec_l26Coded s) enters_89 ⟨_, _, rfl, (Ev.tmp rfl), rfl⟩ rfl rfl) ?_
 iterate 2 refine w_ ?_
 cases hb2 : ((sgV s).2)
 ·iterate 5 refine w_ ?_
  refine AC.wk (Wk.nilS 1 2 85 (.pr .int (.pr .int .bool)) rfl (Fresh.of rfl) (nlr rfl)) <| AC.ret ?_
  subst hO
  have e3 : (false : Bool) = ((sgV s).2) := by
   simp_all
  exact fin_is _ _ [(0, 1)] (Res.two rfl (Rs.tmp rfl) (Rs.tmp rfl)) ((congrArg (fun z_ => PV.tup [(false, [.ref 1]), (false, [dB z_])]) e3)) ⟨(entE (by exact admV_no (by assumption))), trivial⟩ rfl rfl
 ·iterate 4 refine w_ ?_
  refine lc (Does.callO 2 (fc_spec_l26Orders s hz (sgV_exp (by assumption))) enters_90 ⟨_, _, rfl, (Ev.tmp rfl), rfl⟩ rfl (Fresh.of rfl) (nlr rfl)) ?_
  iterate 3 refine w_ ?_
  refine AC.ret ?_
  subst hO
  have e4 : (true : Bool) = ((sgV s).2) := by
   simp_all
  exact fin_is _ _ [(0, 2)] (Res.two rfl (Rs.tmp rfl) (Rs.tmp rfl)) ((congrArg (fun z_ => PV.tup [(false, [.ref 2]), (false, [dB z_])]) e4)) ⟨(entE (by exact admV_yes (by assumption))), trivial⟩ rfl rfl

end Go.Proofs.YtnakmhfjafecpaaGreat

/- The orders that may be put in: pair by pair in the order of the sorted pairs. Plain law. -/
namespace Go.Proofs.YtnakmhfjafecpaaGreat
open Go.RowKit
set_option maxRecDepth 100000
set_option maxHeartbeats 4000000

def swp (p : List Int) : List Int := [(p[1]?).getD 0, (p[0]?).getD 0]
def enuP (P : List (List Int)) (n : Nat) : List (List Int) := (List.range n).flatMap fun a : Nat => ((List.range n).filter fun b : Nat => (P.any fun p => decide (p = [min (a : Int) (b : Int), max (a : Int) (b : Int)])) && decide ((a : Int) ≠ (b : Int))).map fun b : Nat => [(a : Int), (b : Int)]
section
variable {P : List (List Int)} {n : Nat} {x : List Int} {ms : List ByteArray} {g : DNet}
theorem togS_mem (h : x ∈ togS g ms) : ∃ t u : Int, x = [t, u] ∧ t < u ∧ 0 ≤ t ∧ u < (g.2.length : Int) := by
  unfold togS allS rowS at h
  simp only [List.mem_flatMap, List.mem_map, List.mem_filter, Bool.and_eq_true, decide_eq_true_eq] at h
  obtain ⟨mk, _, t, ht, u, ⟨hu, h1, _⟩, rfl⟩ := h
  obtain ⟨i, hi⟩ := List.mem_iff_getElem?.1 ht
  obtain ⟨j, hj⟩ := List.mem_iff_getElem?.1 hu
  exact ⟨t, u, rfl, h1, (enbs_mem hi).1, (enbs_mem hj).2⟩
theorem enuP_mem (hP : ∀ x ∈ P, ∃ t u : Int, x = [t, u] ∧ t < u ∧ 0 ≤ t ∧ u < (n : Int)) : x ∈ enuP P n ↔ x ∈ P ++ P.map swp := by
  unfold enuP
  simp only [List.mem_flatMap, List.mem_range, List.mem_map, List.mem_filter, Bool.and_eq_true, decide_eq_true_eq, List.any_eq_true, List.mem_append]
  constructor
  · rintro ⟨a, ha, b, ⟨hb, ⟨p, hp, rfl⟩, hne⟩, rfl⟩
    rcases Int.lt_or_gt_of_ne hne with h | h
    · left; rwa [show min (a : Int) (b : Int) = a by omega, show max (a : Int) (b : Int) = b by omega] at hp
    · right; exact ⟨_, hp, by rw [show min (a : Int) (b : Int) = b by omega, show max (a : Int) (b : Int) = a by omega]; rfl⟩
  · rintro (h | ⟨p, hp, rfl⟩)
    · obtain ⟨t, u, rfl, h1, h2, h3⟩ := hP x h
      refine ⟨t.toNat, by omega, u.toNat, ⟨by omega, ⟨_, h, ?_⟩, by omega⟩, ?_⟩
      · rw [show min (t.toNat : Int) (u.toNat : Int) = t by omega, show max (t.toNat : Int) (u.toNat : Int) = u by omega]
      · rw [show (t.toNat : Int) = t by omega, show (u.toNat : Int) = u by omega]
    · obtain ⟨t, u, rfl, h1, h2, h3⟩ := hP p hp
      refine ⟨u.toNat, by omega, t.toNat, ⟨by omega, ⟨_, hp, ?_⟩, by omega⟩, ?_⟩
      · rw [show min (u.toNat : Int) (t.toNat : Int) = t by omega, show max (u.toNat : Int) (t.toNat : Int) = u by omega]
      · rw [show (t.toNat : Int) = t by omega, show (u.toNat : Int) = u by omega]; rfl
theorem ltP_fst {a b c d : Int} (h : a < c) : ltP [a, b] [c, d] = true := by unfold ltP; rw [if_pos h]
theorem ltP_snd {a b d : Int} (h : b < d) : ltP [a, b] [a, d] = true := by unfold ltP; rw [if_neg (by omega), if_neg (by omega)]; unfold ltP; rw [if_pos h]
theorem enuP_str : (enuP P n).Pairwise fun x y => ltP x y = true := by
  unfold enuP
  rw [List.pairwise_flatMap]
  refine ⟨fun a _ => ?_, ?_⟩
  · rw [List.pairwise_map]
    exact (List.pairwise_lt_range.filter _).imp fun h => ltP_snd (by omega)
  · refine List.pairwise_lt_range.imp fun {a b} h x hx y hy => ?_
    obtain ⟨_, _, rfl⟩ := List.mem_map.1 hx
    obtain ⟨_, _, rfl⟩ := List.mem_map.1 hy
    exact ltP_fst (by omega)
theorem strP_nodup {l : List (List Int)} (h : l.Pairwise fun x y => ltP x y = true) : l.Nodup := h.imp fun h e => by rw [e, ltP_irr] at h; cases h
theorem sort_swp (hs : P.Pairwise fun x y => ltP x y = true) (hP : ∀ x ∈ P, ∃ t u : Int, x = [t, u] ∧ t < u ∧ 0 ≤ t ∧ u < (n : Int)) : lsort (P ++ P.map swp) = enuP P n := by
  have hn : (P ++ P.map swp).Nodup := by
    refine List.nodup_append.2 ⟨strP_nodup hs, ?_, fun a ha b hb e => ?_⟩
    · refine List.Pairwise.map (R := fun x y => x ∈ P ∧ y ∈ P ∧ x ≠ y) _ (fun x y h e => ?_) ?_
      · obtain ⟨hx, hy, hne⟩ := h
        obtain ⟨t, u, rfl, _⟩ := hP x hx
        obtain ⟨t', u', rfl, _⟩ := hP y hy
        simp [swp] at e
        exact hne (by rw [e.1, e.2])
      · exact List.Pairwise.imp_of_mem (fun hx hy h => ⟨hx, hy, h⟩) (strP_nodup hs)
    · obtain ⟨p, hp, rfl⟩ := List.mem_map.1 hb
      obtain ⟨t, u, rfl, h1, _⟩ := hP a ha
      obtain ⟨t', u', rfl, h1', _⟩ := hP p hp
      simp [swp] at e
      omega
  have hn2 : (lsort (P ++ P.map swp)).Nodup := (lsort_perm _).nodup_iff.2 hn
  refine ltP_to.ext ?_ enuP_str fun x => ?_
  · refine ((lsort_sorted _).and hn2).imp fun ⟨h1, h2⟩ => ?_
    rcases ltP_tot _ _ with h | h | h
    · exact h
    · exact absurd h h2
    · rw [h1] at h; cases h
  · rw [(lsort_perm _).mem_iff, enuP_mem hP]
theorem flat_fm {α β γ : Type} (c : α → Bool) (f : α → β) (h : β → List γ) : ∀ l : List α, ((l.filter c).map f).flatMap h = l.flatMap fun a => if c a = true then h (f a) else []
  | [] => rfl
  | a :: l => by
    rw [List.filter_cons, List.flatMap_cons, ← flat_fm c f h l]
    split <;> simp
variable [∀ s, Decidable (StgOk s)] {s : DSTG}
theorem ordsV_of : ordsV s = (lsort (concV s ++ (concV s).map swp)).flatMap fun p => rowM s ((p[0]?).getD 0) ((p[1]?).getD 0) [false, true] := by
  have hc : concV s = ofG ltP (togS s.1 (exploreV s).1.1) := rfl
  rw [sort_swp (P := concV s) (n := s.1.2.length) (hc ▸ ofG_str ltP_to _) fun x hx => togS_mem ((ofG_mem ltP_to _).1 (hc ▸ hx))]
  unfold ordsV allO enuP rowO
  rw [List.flatMap_assoc]
  refine congrArg (fun f => (List.range s.1.2.length).flatMap f) (funext fun a => ?_)
  rw [flat_fm]
  refine congrArg (fun f => (List.range s.1.2.length).flatMap f) (funext fun b => ?_)
  unfold cellO
  simp only [Bool.and_eq_true, decide_eq_true_eq]
  rfl
end

end Go.Proofs.YtnakmhfjafecpaaGreat

/- Walks over abstract states: a clone of frozen lists. -/
namespace Go.Proofs.YtnakmhfjafecpaaGreat
open Go.RowKit
set_option maxRecDepth 100000
set_option maxHeartbeats 4000000

theorem fc_slices_Clone_int_int (s : List (List Int)) (hl : s.length ≤ 1000000) : FC Tryz.prog 92 [(false, [.ref 0])] [(0, some (.fz 106 (.sl 3 .int) s))] 1 (Is (lf (.dat (.sl 106 (.sl 3 .int)) s)) [(0, some (.fz 106 (.sl 3 .int) s))]) := by
 refine FC.go Tryz.func92 rfl rfl Tryz.ntmps92 fun O_ hO w0_ N0_ X_ h0_ f0_ => ?_
 iterate 6 refine w_ ?_
 refine AL.eqNilZ (Evl.tmp rfl) rfl Evl.val und_30 rfl fun b1 hnil => ?_
 refine w_ ?_
 cases hb2 : (b1)
 ·iterate 3 refine w_ ?_
  refine lc (Does.buildSlice 1 (e := (.sl 3 .int)) und_30 tsh_106 zer_106 rfl rfl (List.all_eq_true.1 rfl) ⟨rfl, rfl⟩ (by decide) rfl rfl (Fresh.of rfl) (nlr rfl)) ?_
  refine w_ ?_
  refine AL.wk (Wk.toFz (q := 1) rfl) <| lc (Does.appendFK 2 (Evl.tmp rfl) rfl (Evl.tmp rfl) rfl und_30 elb_106 (by first | omega | (simp only [List.length_append, List.length_map, List.length_take, List.length_cons, List.length_nil]; omega) | (simp only [List.length_append, List.length_drop, List.length_take, List.length_cons, List.length_nil]; omega)) rfl (Fresh.of rfl) (nlr rfl)) ?_
  iterate 2 refine w_ ?_
  refine AC.wk (Wk.freezeZ (i := 2) (q := 2) rfl rfl) <| AC.ret ?_
  subst hO
  have e3 : (([]) ++ s : ((.sl 106 (.sl 3 .int)) : Ty).Den) = s := by
   rfl
  exact fin_is _ _ [(0, 0)] (Res.one rfl (Rs.tmp rfl)) ((congrArg (fun z_ => lf (.dat (.sl 106 (.sl 3 .int)) z_)) e3)) ⟨rfl, trivial⟩ rfl rfl
 ·iterate 4 refine w_ ?_
  refine AC.wk (Wk.nilS 3 2 106 (.sl 3 .int) rfl (Fresh.of rfl) (nlr rfl)) <| AC.wk (Wk.toFz (q := 3) rfl) <| AC.wk (Wk.freezeZ (i := 2) (q := 3) rfl rfl) <| AC.ret ?_
  subst hO
  have e4 : ([] : ((.sl 106 (.sl 3 .int)) : Ty).Den) = s := by
   exact (hnil (by assumption)).symm
  exact fin_is _ _ [(0, 0)] (Res.one rfl (Rs.tmp rfl)) ((congrArg (fun z_ => lf (.dat (.sl 106 (.sl 3 .int)) z_)) e4)) ⟨rfl, trivial⟩ rfl rfl

end Go.Proofs.YtnakmhfjafecpaaGreat

/- Walks over abstract states: the orders that may be put in, the program. -/
namespace Go.Proofs.YtnakmhfjafecpaaGreat
open Go.RowKit
set_option maxRecDepth 100000
set_option maxHeartbeats 4000000

section
variable [∀ s, Decidable (StgOk s)] {s : DSTG} {l : List (List Int)} {p : List Int} {k i m : Nat} {a b : Int}
def ordI (s : DSTG) (l : List (List Int)) : List DOrdering := l.flatMap fun p => rowM s ((p[0]?).getD 0) ((p[1]?).getD 0) [false, true]
theorem concV_le (s : DSTG) : (concV s).length ≤ 200000 := by
  cases h : (exploreV s).2 with
  | false => rw [← concV_no h]; exact Nat.zero_le _
  | true =>
    have h1 := ofG_len (lt := ltP) (togS s.1 (exploreV s).1.1)
    have h2 := conc_lenT (k := (exploreV s).1.1.length) h
    rw [List.take_length] at h2
    exact Nat.le_trans h1 h2
theorem concV_two : ∀ x ∈ concV s, ∃ t u : Int, x = [t, u] ∧ t < u ∧ 0 ≤ t ∧ u < (s.1.2.length : Int) := fun x hx => togS_mem ((ofG_mem ltP_to _).1 hx)
theorem swp_app {as_ : List (List Int)} (hx : l[k]? = some p) (h0 : p[0]? = some a) (h1 : p[1]? = some b) : (as_ ++ (l.take k).map swp) ++ [[b, a]] = as_ ++ (l.take (k + 1)).map swp := by
  rw [take_snoc hx, List.map_append, List.append_assoc]; simp [swp, h0, h1]
theorem sorted_two (h : p ∈ lsort (concV s ++ ((concV s).take k).map swp)) : ∃ t u : Int, p = [t, u] ∧ 0 ≤ t ∧ t < (s.1.2.length : Int) ∧ 0 ≤ u ∧ u < (s.1.2.length : Int) := by
  rcases List.mem_append.1 ((lsort_perm _).mem_iff.1 h) with h | h
  · obtain ⟨t, u, rfl, h1, h2, h3⟩ := concV_two p h; exact ⟨t, u, rfl, by omega, by omega, by omega, by omega⟩
  · obtain ⟨q, hq, rfl⟩ := List.mem_map.1 h
    obtain ⟨t, u, rfl, h1, h2, h3⟩ := concV_two q (List.mem_of_mem_take hq); exact ⟨u, t, rfl, by omega, by omega, by omega, by omega⟩
theorem ordI_succ (hx : l[i]? = some p) {ms : List Bool} (hm : ms.length ≤ m) (h2 : ms = [false, true]) : ordI s (l.take i) ++ rowM s ((p[0]?).getD 0) ((p[1]?).getD 0) (ms.take m) = ordI s (l.take (i + 1)) := by
  rw [List.take_of_length_le hm, h2]; unfold ordI; rw [take_snoc hx, List.flatMap_append]; simp
theorem ordI_len : ∀ l : List (List Int), (ordI s l).length ≤ 2 * l.length
  | [] => Nat.le_refl _
  | p :: l => by
    have h1 := ordI_len l
    have h2 := rowM_len (s := s) (a := (p[0]?).getD 0) (b := (p[1]?).getD 0) (ms := [false, true])
    unfold ordI at *
    rw [List.flatMap_cons, List.length_append, List.length_cons]
    simp only [List.length_cons, List.length_nil] at h2
    omega
theorem ord_few {ms : List Bool} (h2 : ms.length ≤ 2) : (ordI s ((lsort (concV s ++ ((concV s).take k).map swp)).take i) ++ rowM s a b ms).length ≤ 900000 := by
  have h1 := ordI_len (s := s) ((lsort (concV s ++ ((concV s).take k).map swp)).take i)
  have h3 := rowM_len (s := s) (a := a) (b := b) (ms := ms)
  have h4 := (lsort_perm (concV s ++ ((concV s).take k).map swp)).length_eq
  have h5 := concV_le s
  simp only [List.length_append, List.length_map, List.length_take] at *
  omega
theorem ord_few0 : (ordI s ((lsort (concV s ++ ((concV s).take k).map swp)).take i)).length ≤ 900000 := by
  have h := ord_few (s := s) (k := k) (i := i) (a := 0) (b := 0) (ms := []) (Nat.zero_le _)
  rw [List.length_append] at h; omega
theorem sorted_rng (h : p ∈ lsort (concV s ++ ((concV s).take k).map swp)) {z : Int} (hz : z ∈ p) : 0 ≤ z ∧ z < (s.1.2.length : Int) := by
  obtain ⟨t, u, rfl, h1, h2, h3, h4⟩ := sorted_two h
  rcases List.mem_cons.1 hz with rfl | hz
  · exact ⟨h1, h2⟩
  · rcases List.mem_cons.1 hz with rfl | hz
    · exact ⟨h3, h4⟩
    · cases hz
theorem sorted_len (h : p ∈ lsort (concV s ++ ((concV s).take k).map swp)) : p.length = 2 := by
  obtain ⟨t, u, rfl, _⟩ := sorted_two h; rfl
theorem conc_len2 (h : p ∈ concV s) : p.length = 2 := by
  obtain ⟨t, u, rfl, _⟩ := concV_two p h; rfl
theorem row_yes1 {A : List DOrdering} {ms : List Bool} {g : Bool} (h0 : p[0]? = some a) (h1 : p[1]? = some b) (hx : ms[m]? = some g) (ho : outB s b = true) (hg : goodV s (a, b, g) = true) :
    (A ++ rowM s ((p[0]?).getD 0) ((p[1]?).getD 0) (ms.take m)) ++ [(a, b, g)] = A ++ rowM s ((p[0]?).getD 0) ((p[1]?).getD 0) (ms.take (m + 1)) := by
  rw [h0, h1, List.append_assoc]
  exact congrArg _ (rowM_yes hx (by show (outB s b && goodV s (a, b, g)) = true; rw [ho, hg]; rfl))
theorem row_no1 {A : List DOrdering} {ms : List Bool} {g : Bool} (h1 : p[1]? = some b) (hx : ms[m]? = some g) (ho : outB s b = false) :
    A ++ rowM s ((p[0]?).getD 0) ((p[1]?).getD 0) (ms.take m) = A ++ rowM s ((p[0]?).getD 0) ((p[1]?).getD 0) (ms.take (m + 1)) := by
  rw [h1]
  exact congrArg _ (rowM_no hx (by show (outB s b && _) = false; rw [ho]; rfl))
theorem row_no2 {A : List DOrdering} {ms : List Bool} {g : Bool} (h0 : p[0]? = some a) (h1 : p[1]? = some b) (hx : ms[m]? = some g) (hg : goodV s (a, b, g) = false) :
    A ++ rowM s ((p[0]?).getD 0) ((p[1]?).getD 0) (ms.take m) = A ++ rowM s ((p[0]?).getD 0) ((p[1]?).getD 0) (ms.take (m + 1)) := by
  rw [h0, h1]
  exact congrArg _ (rowM_no hx (by show (_ && goodV s (a, b, g)) = false; rw [hg]; simp))
theorem outB_off1 {l : Int × Bool} (hx : s.2.2.1[b.toNat]? = some l) (h : ¬ 0 ≤ l.1) : outB s b = false := by unfold outB; rw [hx]; simp; intro h2; omega
theorem outB_off2 {l : Int × Bool} {g : DSignal} (hx : s.2.2.1[b.toNat]? = some l) (hg : s.2.1[(l.1).toNat]? = some g) (h : g.2 = 1) : outB s b = false := by unfold outB; rw [hx]; simp [hg, h]
theorem outB_on {l : Int × Bool} {g : DSignal} (hx : s.2.2.1[b.toNat]? = some l) (h0 : 0 ≤ l.1) (hg : s.2.1[(l.1).toNat]? = some g) (h : ¬ g.2 = 1) : outB s b = true := by unfold outB; rw [hx]; simp [hg, h, h0]
theorem ordI_all (hk : (concV s).length ≤ k) (hi : (lsort (concV s ++ ((concV s).take k).map swp)).length ≤ i) : ordI s ((lsort (concV s ++ ((concV s).take k).map swp)).take i) = ordsV s := by
  rw [List.take_of_length_le hi, List.take_of_length_le hk, ordsV_of]; rfl
end

theorem fc_impl_AdmissibleOrderings (s : (Int × (List (List Int × List Int))) × (List (ByteArray × Int)) × (List (Int × Bool)) × ByteArray) [∀ s, Decidable (StgOk s)] (hz : Ty.tot tSTG s ≤ 2000000) : FC Tryz.prog 36 [(true, [dI s.1.1, .dat (.sl 159 (.pr (.sl 3 .int) (.sl 3 .int))) s.1.2, .dat (.sl 145 (.pr .str .int)) s.2.1, .dat (.sl 61 (.pr .int .bool)) s.2.2.1, dS s.2.2.2])] [] 0 (Is (PV.tup [(false, [.ref 0]), (false, [dB ((sgV s).2)])]) [(0, some (.arr 85 (.pr .int (.pr .int .bool)) (admV s)))]) := by
 refine FC.go Tryz.func36 rfl rfl Tryz.ntmps36 fun O_ hO w0_ N0_ X_ h0_ f0_ => ?_
 refine AC.fact (fact_ag (x := .tmp 0) (i := 0) (Ev.tmp rfl) rfl) fun hi1 => ?_
 refine w_ ?_
 refine lc (Does.box 0 (Ev.tmp rfl) rfl rfl (Fresh.of rfl) (nlr rfl)) ?_
 iterate 6 refine w_ ?_
 refine lc (Does.call (fc_impl_BuildStateGraph s).frozenG enters_91 ⟨_, _, rfl, (Ev.tmp rfl), rfl⟩ rfl rfl) ?_
 iterate 3 refine w_ ?_
 refine lc (Does.alloc 1 (.pr (.sl 145 (.pr .str .int)) (.pr (.sl 9 .str) (.sl 179 (.pr .int (.pr .int (.pr .bool .int)))))) zer_59 rfl rfl (Fresh.of rfl) (nlr rfl)) <| lc (Does.storeP (Evl.tmp rfl) rfl (Ev.tmp rfl) rfl tsh_59 rfl) ?_
 iterate 6 refine w_ ?_
 cases hb2 : ((sgV s).2)
 ·iterate 5 refine w_ ?_
  refine AC.wk (Wk.nilS 2 2 85 (.pr .int (.pr .int .bool)) rfl (Fresh.of rfl) (nlr rfl)) <| AC.ret ?_
  subst hO
  have e3 : (false : Bool) = ((sgV s).2) := by
   simp_all
  exact fin_is _ _ [(0, 2)] (Res.two rfl (Rs.tmp rfl) (Rs.tmp rfl)) ((congrArg (fun z_ => PV.tup [(false, [.ref 2]), (false, [dB z_])]) e3)) ⟨(entE (by exact admV_no (by assumption))), trivial⟩ rfl rfl
 ·iterate 4 refine w_ ?_
  refine lc (Does.callG 3 (fc_impl_concurrent s) enters_57 ⟨_, _, rfl, (Ev.tmp rfl), rfl⟩ rfl rfl ⟨Fresh.of rfl, trivial⟩ (nlr rfl)) ?_
  iterate 7 refine w_ ?_
  refine AC.seq ?_
  have hsv : (sgV s).2 = true := by assumption
  obtain ⟨hsg, _⟩ := exploreV_ok (sgV_exp hsv)
  have hsl := hsg.len
  have hlb : ∀ l ∈ s.2.2.1, l.1 < (s.2.1.length : Int) := fun l hl => by rcases hsg.labs l hl with h | h <;> omega
  refine AC.wk (Wk.toFz (q := 3) rfl) ?_
  iterate 2 refine w_ ?_
  refine lc (Does.callP 4 [(0, 3)] (fc_slices_Clone_int_int (concV s) (by have := concV_le s; omega)) enters_92 ⟨_, _, rfl, (Ev.tmp rfl), rfl⟩ ⟨rfl, trivial⟩ rfl ⟨trivial, trivial⟩ (nlr rfl)) <| AL.fact (fact_len (x := .tmp 30) (Evl.tmp rfl)) fun hl4 => ?_
  iterate 4 refine w_ ?_
  refine AC.loopW (fun m_ s_ => ∃ (k : Nat), k ≤ (concV s).length ∧ m_ = (concV s).length - k ∧ s_ = ⟨[(1, lP 0 0), (2, lf (.val (.slice none 0 0))), (3, lB false), (6, lR 5), (30, lf (.dat (.sl 106 (.sl 3 .int)) (concV s))), (31, lI ((concV s).length : Int)), (32, lI (k : Int))], [(0, some (.box 39 [dI s.1.1, .dat (.sl 159 (.pr (.sl 3 .int) (.sl 3 .int))) s.1.2, .dat (.sl 145 (.pr .str .int)) s.2.1, .dat (.sl 61 (.pr .int .bool)) s.2.2.1, dS s.2.2.2])), (5, some (.fz 106 (.sl 3 .int) (concV s ++ ((concV s).take k).map swp)))]⟩) ⟨0, Nat.zero_le _, rfl, rfl⟩ ?_ ?_
  · exact Wk.of [(0, 0), (5, 3)] rfl ⟨rfl, rfl, rfl, rfl, rfl, rfl, rfl, trivial⟩ ⟨rfl, (entZ (by simp)), trivial⟩ rfl rfl
  rintro m_ s_ ⟨k, hk5, hm6, rfl⟩
  have hcf := concV_le s
  have hcl : (concV s ++ ((concV s).take k).map swp).length ≤ 400000 := by simp only [List.length_append, List.length_map, List.length_take]; omega
  iterate 4 refine w_ ?_
  cases hb7 : (decide ((k : Int) < ((concV s).length : Int)))
  ·have hb7' := of_decide_eq_false hb7
   refine w_ ?_
   refine AC.exit ?_
   refine (?_ : AC _ _ _ _ _)
   iterate 2 refine w_ ?_
   refine lc (Does.callP 6 [(0, 5)] (fc_sortZ (concV s ++ ((concV s).take k).map swp) (by have := concV_le s; simp only [List.length_append, List.length_map, List.length_take]; omega)) enters_93 ⟨_, _, rfl, (Ev.tmp rfl), ⟨_, _, rfl, (Evl.ev Evl.func), rfl⟩⟩ ⟨rfl, trivial⟩ rfl ⟨trivial, trivial⟩ (nlr rfl)) ?_
   iterate 2 refine w_ ?_
   refine lc (Does.buildSlice 7 (e := (.pr .int (.pr .int .bool))) und_77 tsh_85 zer_85 rfl rfl (List.all_eq_true.1 rfl) ⟨rfl, rfl⟩ (by decide) rfl rfl (Fresh.of rfl) (nlr rfl)) ?_
   iterate 3 refine w_ ?_
   refine AC.seq <| AC.wk (Wk.freezeZ (i := 6) (q := 5) rfl rfl) ?_
   iterate 2 refine w_ ?_
   refine AL.fact (fact_len (x := .tmp 50) (Evl.tmp rfl)) fun hl8 => ?_
   iterate 4 refine w_ ?_
   refine AC.loopW (fun m_ s_ => ∃ (i : Nat), i ≤ (lsort (concV s ++ ((concV s).take k).map swp)).length ∧ m_ = (lsort (concV s ++ ((concV s).take k).map swp)).length - i ∧ s_ = ⟨[(1, lP 0 0), (2, lf (.val (.slice none 0 0))), (3, lB false), (10, lR 8), (50, lf (.dat (.sl 106 (.sl 3 .int)) (lsort (concV s ++ ((concV s).take k).map swp)))), (51, lI ((lsort (concV s ++ ((concV s).take k).map swp)).length : Int)), (52, lI (i : Int))], [(0, some (.box 39 [dI s.1.1, .dat (.sl 159 (.pr (.sl 3 .int) (.sl 3 .int))) s.1.2, .dat (.sl 145 (.pr .str .int)) s.2.1, .dat (.sl 61 (.pr .int .bool)) s.2.2.1, dS s.2.2.2])), (8, some (.arr 85 (.pr .int (.pr .int .bool)) (ordI s ((lsort (concV s ++ ((concV s).take k).map swp)).take i))))]⟩) ⟨0, Nat.zero_le _, rfl, rfl⟩ ?_ ?_
   · exact Wk.of [(0, 0), (8, 7)] rfl ⟨rfl, rfl, rfl, rfl, rfl, rfl, rfl, trivial⟩ ⟨rfl, (entE (by simp [ordI])), trivial⟩ rfl rfl
   rintro m_ s_ ⟨i, hk9, hm10, rfl⟩
   have hof := ord_few0 (s := s) (k := k) (i := i)
   iterate 4 refine w_ ?_
   cases hb11 : (decide ((i : Int) < ((lsort (concV s ++ ((concV s).take k).map swp)).length : Int)))
   ·have hb11' := of_decide_eq_false hb11
    refine w_ ?_
    refine AC.exit ?_
    refine (?_ : AC _ _ _ _ _)
    iterate 5 refine w_ ?_
    refine AC.ret ?_
    subst hO
    have e12 : (true : Bool) = ((sgV s).2) := by
     simp_all
    exact fin_is _ _ [(0, 8)] (Res.two rfl (Rs.tmp rfl) (Rs.tmp rfl)) ((congrArg (fun z_ => PV.tup [(false, [.ref 8]), (false, [dB z_])]) e12)) ⟨(entE (by (rw [ordI_all (by omega) (by omega)]; exact admV_yes (by assumption)))), trivial⟩ rfl rfl
   ·have hb11' := of_decide_eq_true hb11
    iterate 5 refine w_ ?_
    obtain ⟨pr, hx14⟩ : ∃ z, (lsort (concV s ++ ((concV s).take k).map swp))[i]? = some z := ⟨_, List.getElem?_eq_getElem (by omega)⟩
    have prh := hx14
    have prl := sorted_len (List.mem_of_getElem? hx14)
    refine lc (Does.indexE (Evl.tmp rfl) (Evl.tmp rfl) und_30 tsh_106 rfl (by omega) hx14) ?_
    iterate 3 refine w_ ?_
    obtain ⟨rb, hx16⟩ : ∃ z, pr[1]? = some z := ⟨_, List.getElem?_eq_getElem (by omega)⟩
    have hrb := hx16
    have hrrb := sorted_rng (List.mem_of_getElem? prh) (List.mem_of_getElem? hx16)
    obtain ⟨lb, hx18⟩ : ∃ z, s.2.2.1[(rb).toNat]? = some z := ⟨_, List.getElem?_eq_getElem (by omega)⟩
    have lbh := hx18
    have lbr := hlb _ (List.mem_of_getElem? hx18)
    refine dw [io 56 (lP 0 3), io 57 (lf (.dat (.sl 61 (.pr .int .bool)) s.2.2.1)), io 58 (lf (.dat (.sl 3 .int) pr)), io 59 (lf (.elt .int rb 0)), io 60 (lI rb), io 61 (lf (.elt (.pr .int .bool) lb 0)), io 62 (lf (.elt (.pr .int .bool) lb 0)), io 63 (lI lb.1), io 13 (lI lb.1)] [0, 1, 0, 4, 12, 31, 63, 127, 255] mixed rfl (by kernel_rfl) ⟨dxf fld_39_2 rfl rfl rfl, dxl tsh_37 rfl rfl rfl rfl rfl, dxm rfl rfl, fun _ h_ => ac (Does.indexE (h_.v rfl) (Evl.int rfl) und_106 tsh_3 rfl (by omega) hx16) rfl, fun _ h_ => ac (Does.loadE (h_.v rfl) tsh_3 rfl rfl) rfl, fun _ h_ => ac (Does.indexE (h_.v rfl) (h_.v rfl) und_37 tsh_61 rfl (by omega) hx18) rfl, fun _ h_ => ac (Does.fieldE (h_.v rfl) fld_61_0 rfl) rfl, fun _ h_ => ac (Does.loadE (h_.v rfl) tsh_3 rfl rfl) rfl, dxt rfl rfl, ⟨⟩⟩ ?_
    refine w_ ?_
    refine lc (Does.buildSlice 9 (e := .bool) und_143 tsh_4 zer_4 rfl ⟨_, _, rfl, (Evl.ev Evl.bool), ⟨_, _, rfl, (Evl.ev Evl.bool), rfl⟩⟩ (List.all_eq_true.1 rfl) ⟨_, _, _, _, rfl, ⟨rfl, rfl⟩, ⟨_, _, _, _, rfl, ⟨rfl, rfl⟩, ⟨rfl, rfl⟩, rfl⟩, rfl⟩ (by decide) rfl rfl (Fresh.of rfl) (nlr rfl)) ?_
    iterate 4 refine w_ ?_
    refine AC.loopW (fun m_ s_ => ∃ (m : Nat), m ≤ ([false, true]).length ∧ m_ = ([false, true]).length - m ∧ s_ = ⟨[(1, lP 0 0), (2, lf (.val (.slice none 0 0))), (3, lB false), (10, lR 10), (12, lf (.dat (.sl 3 .int) pr)), (13, lI lb.1), (50, lf (.dat (.sl 106 (.sl 3 .int)) (lsort (concV s ++ ((concV s).take k).map swp)))), (51, lI ((lsort (concV s ++ ((concV s).take k).map swp)).length : Int)), (52, lI (i : Int)), (53, lB true), (54, lf (.elt (.sl 3 .int) pr 0)), (55, lf (.dat (.sl 3 .int) pr)), (56, lP 0 3), (57, lf (.dat (.sl 61 (.pr .int .bool)) s.2.2.1)), (58, lf (.dat (.sl 3 .int) pr)), (59, lf (.elt .int rb 0)), (60, lI rb), (61, lf (.elt (.pr .int .bool) lb 0)), (62, lf (.elt (.pr .int .bool) lb 0)), (63, lI lb.1), (64, lR 9), (65, lI (([false, true]).length : Int)), (66, lI (m : Int))], [(0, some (.box 39 [dI s.1.1, .dat (.sl 159 (.pr (.sl 3 .int) (.sl 3 .int))) s.1.2, .dat (.sl 145 (.pr .str .int)) s.2.1, .dat (.sl 61 (.pr .int .bool)) s.2.2.1, dS s.2.2.2])), (9, some (.arr 4 .bool ([false, true]))), (10, some (.arr 85 (.pr .int (.pr .int .bool)) (ordI s ((lsort (concV s ++ ((concV s).take k).map swp)).take i) ++ rowM s ((pr[0]?).getD 0) ((pr[1]?).getD 0) (([false, true] : List Bool).take m))))]⟩) ⟨0, Nat.zero_le _, rfl, rfl⟩ ?_ ?_
    · exact Wk.of [(0, 0), (9, 9), (10, 8)] rfl ⟨rfl, rfl, rfl, rfl, rfl, rfl, rfl, rfl, rfl, rfl, rfl, rfl, rfl, rfl, rfl, rfl, rfl, rfl, rfl, rfl, rfl, rfl, rfl, trivial⟩ ⟨rfl, rfl, (entE (by simp [rowM])), trivial⟩ rfl rfl
    rintro m_ s_ ⟨m, hk19, hm20, rfl⟩
    have h2l : (([false, true] : List Bool).length) = 2 := rfl
    have hog := ord_few (s := s) (k := k) (i := i) (a := (pr[0]?).getD 0) (b := (pr[1]?).getD 0) (ms := ([false, true] : List Bool).take m) (by simp only [List.length_take]; omega)
    iterate 4 refine w_ ?_
    cases hb21 : (decide ((m : Int) < (([false, true]).length : Int)))
    ·have hb21' := of_decide_eq_false hb21
     refine w_ ?_
     refine AC.exit ?_
     refine (?_ : AC _ _ _ _ _)
     iterate 3 refine w_ ?_
     refine AL.nil <| lend ⟨i + 1, by omega, rfl, rfl⟩ (by omega) ?_
     exact Wk.of [(0, 0), (8, 10)] rfl ⟨rfl, rfl, rfl, rfl, rfl, rfl, rfl, trivial⟩ ⟨rfl, (entE (ordI_succ prh (by omega) rfl)), trivial⟩ rfl rfl
    ·have hb21' := of_decide_eq_true hb21
     iterate 5 refine w_ ?_
     refine lc (Does.indexI (e := .bool) (Evl.tmp rfl) rfl (Evl.tmp rfl) und_143 tsh_4 rfl (by omega) (by first | omega | (simp only [List.length_set]; omega))) ?_
     obtain ⟨mg, hx23⟩ : ∃ z, ([false, true])[m]? = some z := ⟨_, List.getElem?_eq_getElem (by omega)⟩
     have mgh := hx23
     refine lc (Does.loadI (e := .bool) (Evl.tmp rfl) rfl hx23 rfl tsh_4 rfl rfl) ?_
     iterate 2 refine w_ ?_
     obtain ⟨ra, hx25⟩ : ∃ z, pr[0]? = some z := ⟨_, List.getElem?_eq_getElem (by omega)⟩
     have hra := hx25
     have hrra := sorted_rng (List.mem_of_getElem? prh) (List.mem_of_getElem? hx25)
     refine dw [io 70 (lf (.dat (.sl 3 .int) pr)), io 71 (lf (.elt .int ra 0)), io 72 (lI ra), io 73 (lf (.dat (.sl 3 .int) pr)), io 74 (lf (.elt .int rb 0)), io 75 (lI rb), io 76 (lB mg), io 77 (ag [dI ra, dI rb, dB mg]), ⟨some 16, lP 11 0, [(11, some (.box 85 [dI 0, dI 0, dB false]))]⟩, ⟨none, lf (.val undef), [(11, some (.box 85 [dI ra, dI rb, dB mg]))]⟩] [0, 1, 3, 0, 8, 24, 0, 127, 0, 511] mixed rfl (by kernel_rfl) ⟨dxm rfl rfl, fun _ h_ => ac (Does.indexE (h_.v rfl) (Evl.int rfl) und_106 tsh_3 rfl (by omega) hx25) rfl, fun _ h_ => ac (Does.loadE (h_.v rfl) tsh_3 rfl rfl) rfl, dxm rfl rfl, fun _ h_ => ac (Does.indexE (h_.v rfl) (Evl.int rfl) und_106 tsh_3 rfl (by omega) hx16) rfl, fun _ h_ => ac (Does.loadE (h_.v rfl) tsh_3 rfl rfl) rfl, dxm rfl rfl, fun _ h_ => ac (Does.build bld_85 ⟨_, _, rfl, (h_.w rfl), ⟨_, _, rfl, (h_.w rfl), ⟨_, _, rfl, (h_.w rfl), rfl⟩⟩⟩ (List.all_eq_true.1 rfl) rfl rfl) rfl, fun _ h_ => ac (Does.alloc 11 (.pr .int (.pr .int .bool)) zer_85 rfl rfl (h_.fr 11 rfl) (nlr rfl)) rfl, fun _ h_ => ac (Does.storeP (h_.v rfl) (h_.n 11 rfl) (h_.w rfl) rfl tsh_85 rfl) rfl, ⟨⟩⟩ ?_
     iterate 4 refine w_ ?_
     cases hb26 : (decide (0 ≤ lb.1))
     ·have hb26' := of_decide_eq_false hb26
      iterate 15 refine w_ ?_
      refine AC.skip ?_
      refine (?_ : AC _ _ _ _ _)
      iterate 3 refine w_ ?_
      refine AL.nil <| lend ⟨m + 1, by omega, rfl, rfl⟩ (by omega) ?_
      exact Wk.of [(0, 0), (9, 9), (10, 10)] rfl ⟨rfl, rfl, rfl, rfl, rfl, rfl, rfl, rfl, rfl, rfl, rfl, rfl, rfl, rfl, rfl, rfl, rfl, rfl, rfl, rfl, rfl, rfl, rfl, trivial⟩ ⟨rfl, rfl, (entE (by first | exact row_yes1 hra hrb mgh (outB_on lbh (by assumption) sgh (by assumption)) (by assumption) | exact row_no1 hrb mgh (outB_off1 lbh (by assumption)) | exact row_no1 hrb mgh (outB_off2 lbh sgh (by assumption)) | exact row_no2 hra hrb mgh (by assumption))), trivial⟩ rfl rfl
     ·have hb26' := of_decide_eq_true hb26
      iterate 3 refine w_ ?_
      obtain ⟨sg, hx28⟩ : ∃ z, s.2.1[(lb.1).toNat]? = some z := ⟨_, List.getElem?_eq_getElem (by omega)⟩
      have sgh := hx28
      refine lgy rfl rfl (Does.indexE (Evl.tmp rfl) (Evl.tmp rfl) und_36 tsh_145 rfl (by omega) hx28) ?_
      iterate 5 refine w_ ?_
      cases hb29 : (!decide (sg.2 = 1))
      ·have hb29' : (sg.2 = 1) := nd_false hb29
       iterate 6 refine w_ ?_
       refine AC.skip ?_
       refine (?_ : AC _ _ _ _ _)
       iterate 3 refine w_ ?_
       refine AL.nil <| lend ⟨m + 1, by omega, rfl, rfl⟩ (by omega) ?_
       exact Wk.of [(0, 0), (9, 9), (10, 10)] rfl ⟨rfl, rfl, rfl, rfl, rfl, rfl, rfl, rfl, rfl, rfl, rfl, rfl, rfl, rfl, rfl, rfl, rfl, rfl, rfl, rfl, rfl, rfl, rfl, trivial⟩ ⟨rfl, rfl, (entE (by first | exact row_yes1 hra hrb mgh (outB_on lbh (by assumption) sgh (by assumption)) (by assumption) | exact row_no1 hrb mgh (outB_off1 lbh (by assumption)) | exact row_no1 hrb mgh (outB_off2 lbh sgh (by assumption)) | exact row_no2 hra hrb mgh (by assumption))), trivial⟩ rfl rfl
      ·have hb29' : ¬ (sg.2 = 1) := nd_true hb29
       iterate 2 refine w_ ?_
       refine lgy rfl rfl (Does.call (fc_impl_isAdmissible s (ra, rb, mg) hz) enters_95 ⟨_, _, rfl, (Ev.tmp rfl), ⟨_, _, rfl, (Ev.tmp rfl), rfl⟩⟩ rfl rfl) ?_
       iterate 2 refine w_ ?_
       cases hb30 : (goodV s (ra, rb, mg))
       ·refine w_ ?_
        refine AC.skip ?_
        refine (?_ : AC _ _ _ _ _)
        iterate 3 refine w_ ?_
        refine AL.nil <| lend ⟨m + 1, by omega, rfl, rfl⟩ (by omega) ?_
        exact Wk.of [(0, 0), (9, 9), (10, 10)] rfl ⟨rfl, rfl, rfl, rfl, rfl, rfl, rfl, rfl, rfl, rfl, rfl, rfl, rfl, rfl, rfl, rfl, rfl, rfl, rfl, rfl, rfl, rfl, rfl, trivial⟩ ⟨rfl, rfl, (entE (by first | exact row_yes1 hra hrb mgh (outB_on lbh (by assumption) sgh (by assumption)) (by assumption) | exact row_no1 hrb mgh (outB_off1 lbh (by assumption)) | exact row_no1 hrb mgh (outB_off2 lbh sgh (by assumption)) | exact row_no2 hra hrb mgh (by assumption))), trivial⟩ rfl rfl
       ·iterate 4 refine w_ ?_
        refine lc (Does.buildSlice 12 (e := (.pr .int (.pr .int .bool))) und_77 tsh_85 zer_85 rfl ⟨_, _, rfl, (Ev.tmp rfl), rfl⟩ (List.all_eq_true.1 rfl) ⟨_, _, _, _, rfl, ⟨[dI ra], [dI rb, dB mg], _, _, _, _, rfl, rfl, ⟨rfl, rfl⟩, ⟨[dI rb], [dB mg], _, _, _, _, rfl, rfl, ⟨rfl, rfl⟩, ⟨rfl, rfl⟩, rfl⟩, rfl⟩, ⟨rfl, rfl⟩, rfl⟩ (by decide) rfl rfl (Fresh.of rfl) (nlr rfl)) <| lc (Does.append 13 (Evl.tmp rfl) rfl (Evl.tmp rfl) rfl rfl und_77 elb_85 (by first | omega | (simp only [List.length_append, List.length_map, List.length_take, List.length_cons, List.length_nil] at *; omega)) rfl (Fresh.of rfl) (nlr rfl)) ?_
        refine w_ ?_
        refine AL.nil ?_
        refine (?_ : AC _ _ _ _ _)
        iterate 3 refine w_ ?_
        refine AL.nil <| lend ⟨m + 1, by omega, rfl, rfl⟩ (by omega) ?_
        exact Wk.of [(0, 0), (9, 9), (10, 13)] rfl ⟨rfl, rfl, rfl, rfl, rfl, rfl, rfl, rfl, rfl, rfl, rfl, rfl, rfl, rfl, rfl, rfl, rfl, rfl, rfl, rfl, rfl, rfl, rfl, trivial⟩ ⟨rfl, rfl, (entE (by first | exact row_yes1 hra hrb mgh (outB_on lbh (by assumption) sgh (by assumption)) (by assumption) | exact row_no1 hrb mgh (outB_off1 lbh (by assumption)) | exact row_no1 hrb mgh (outB_off2 lbh sgh (by assumption)) | exact row_no2 hra hrb mgh (by assumption))), trivial⟩ rfl rfl
  ·have hb7' := of_decide_eq_true hb7
   iterate 5 refine w_ ?_
   obtain ⟨p, hx32⟩ : ∃ z, (concV s)[k]? = some z := ⟨_, List.getElem?_eq_getElem (by omega)⟩
   have ph := hx32
   have pl := conc_len2 (List.mem_of_getElem? hx32)
   refine lc (Does.indexE (Evl.tmp rfl) (Evl.tmp rfl) und_30 tsh_106 rfl (by omega) hx32) ?_
   iterate 3 refine w_ ?_
   obtain ⟨pb, hx34⟩ : ∃ z, p[1]? = some z := ⟨_, List.getElem?_eq_getElem (by omega)⟩
   have hpb := hx34
   obtain ⟨pa, hx36⟩ : ∃ z, p[0]? = some z := ⟨_, List.getElem?_eq_getElem (by omega)⟩
   have hpa := hx36
   refine dv [io 36 (lR 5), io 37 (lf (.dat (.sl 3 .int) p)), io 38 (lf (.elt .int pb 0)), io 39 (lI pb), io 40 (lf (.dat (.sl 3 .int) p)), io 41 (lf (.elt .int pa 0)), io 42 (lI pa), ⟨some 43, lR 14, [(14, some (.arr 3 .int ([pb, pa])))]⟩, ⟨some 44, lR 15, [(15, some (.arr 106 (.sl 3 .int) ([[pb, pa]]))), (14, none)]⟩, ⟨some 45, lR 16, [(16, some (.fz 106 (.sl 3 .int) ((concV s ++ ((concV s).take k).map swp) ++ ([[pb, pa]])))), (5, none), (15, none)]⟩, io 6 (lR 16)] [0, 0, 2, 6, 0, 16, 48, 126, 254, 511, 1023] mixed rfl (by kernel_rfl) ⟨dxm rfl rfl, dxm rfl rfl, fun _ h_ => ac (Does.indexE (h_.v rfl) (Evl.int rfl) und_106 tsh_3 rfl (by omega) hx34) rfl, fun _ h_ => ac (Does.loadE (h_.v rfl) tsh_3 rfl rfl) rfl, dxm rfl rfl, fun _ h_ => ac (Does.indexE (h_.v rfl) (Evl.int rfl) und_106 tsh_3 rfl (by omega) hx36) rfl, fun _ h_ => ac (Does.loadE (h_.v rfl) tsh_3 rfl rfl) rfl, fun _ h_ => ac (Does.buildSlice 14 (e := .int) und_106 tsh_3 zer_3 rfl ⟨_, _, rfl, (h_.w rfl), ⟨_, _, rfl, (h_.w rfl), rfl⟩⟩ (List.all_eq_true.1 rfl) ⟨_, _, _, _, rfl, ⟨rfl, rfl⟩, ⟨_, _, _, _, rfl, ⟨rfl, rfl⟩, ⟨rfl, rfl⟩, rfl⟩, rfl⟩ (by decide) rfl rfl (h_.fr 14 rfl) (nlr rfl)) rfl, fun _ h_ => ac (Does.buildSlice 15 (e := (.sl 3 .int)) und_30 tsh_106 zer_106 rfl ⟨_, _, rfl, (h_.w rfl), rfl⟩ (List.all_eq_true.1 (by simp only [okLVs, okLV, List.all_cons, List.all_nil]; rw [(h_.en 14 rfl)]; rfl)) ⟨_, _, _, _, rfl, (.inl ⟨_, rfl, (h_.en 14 rfl), rfl⟩), ⟨rfl, rfl⟩, rfl⟩ (by decide) rfl rfl (h_.fr 15 rfl) (nlr rfl)) rfl, fun _ h_ => ac (Does.appendFz 16 (h_.v rfl) (h_.en 5 rfl) (h_.v rfl) (h_.en 15 rfl) rfl und_30 elb_106 (by first | omega | (simp only [List.length_append, List.length_map, List.length_take, List.length_cons, List.length_nil] at *; omega)) rfl (h_.fr 16 rfl) (nlr rfl)) rfl, dxt rfl rfl, ⟨⟩⟩ ?_
   refine (?_ : AC _ _ _ _ _)
   iterate 3 refine w_ ?_
   refine AL.nil <| lend ⟨k + 1, by omega, rfl, rfl⟩ (by omega) ?_
   exact Wk.of [(0, 0), (5, 16)] rfl ⟨rfl, rfl, rfl, rfl, rfl, rfl, rfl, trivial⟩ ⟨rfl, (entZ (swp_app ph hpa hpb)), trivial⟩ rfl rfl

end Go.Proofs.YtnakmhfjafecpaaGreat
