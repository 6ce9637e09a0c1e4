/- Walks over abstract states: marks in transitions. -/
import Derived.Test.YtnakmhfjafecpaaGreatWd
import Derived.Test.YtnakmhfjafecpaaGreatAk
import Derived.Test.YtnakmhfjafecpaaGreatTrd
import Derived.Test.YtnakmhfjafecpaaGreatAg
set_option linter.unusedSimpArgs false
set_option linter.unusedVariables false
set_option linter.unusedSectionVars false
namespace Go.Proofs.YtnakmhfjafecpaaGreat
open Go.RowKit
set_option maxRecDepth 100000
set_option maxHeartbeats 4000000

@[reducible] def fT : List Int × List Int → Int → (List Int × List Int) × Int := fun t k => (((marks fI t.1 k).1, (marks fI t.2 (marks fI t.1 k).2).1), (marks fI t.2 (marks fI t.1 k).2).2)
def cT (t : List Int × List Int) : Nat := t.1.length + t.2.length
theorem mI_sum (l : List Int) (k : Int) : (marks fI l k).2 = k + l.length := by rw [mkC_sum _ fI_c, sum_one]
theorem fT_c : ∀ (x : List Int × List Int) (k : Int), (fT x k).2 = k + (cT x : Nat) := fun x k => by simp only [fT, mI_sum, cT]; omega
def tsum (a : List (List Int × List Int)) : Nat := (a.map cT).sum
theorem mkT_le (a : List (List Int × List Int)) (k : Int) (i : Nat) : k ≤ mkC fT a k i ∧ mkC fT a k i ≤ k + tsum a := mkC_le _ fT_c a k i
theorem mkT_at {a : List (List Int × List Int)} {k : Int} {i : Nat} {x : List Int × List Int} (h : a[i]? = some x) : mkC fT a k i + x.1.length + x.2.length ≤ k + tsum a := by
  have h1 := (mkT_le a k (i + 1)).2
  rw [mkC_succ h, fT_c] at h1
  simp only [cT] at h1
  omega
theorem tr_close {ts : List DTransition} {i : Nat} {x : DTransition} (hx : ts[i]? = some x) (a b : LV) (ys zs : List Int) : ((((cellsL tTransition ts).set (i * 2 + 0) a).set (i * 2 + 0) (.dat (.sl 3 .int) ys)).set (i * 2 + 1) b).set (i * 2 + 1) (.dat (.sl 3 .int) zs) = cellsL tTransition (ts.set i (ys, zs)) := by
  rw [List.set_set, List.set_set, cells_set0 hx, cells_set1 (x := (ys, x.2)) (by rw [List.getElem?_set_self (List.getElem?_eq_some_iff.1 hx).1]), List.set_set]

theorem fc_laws_markTransitionS (a : List (List Int × List Int)) (k : Int) (hk : (0 ≤ k ∧ k + tsum a ≤ 1000000000) ∧ a.length ≤ 1000000000) : FC Tryz.prog 120 [(false, [.ref 0]), (false, [dI k])] [(0, some (.arr 159 (.pr (.sl 3 .int) (.sl 3 .int)) a))] 1 (Is (lI ((marks fT a k).2)) [(0, some (.arr 159 (.pr (.sl 3 .int) (.sl 3 .int)) ((marks fT a k).1)))]) := by
 refine FC.go Tryz.func120 rfl rfl Tryz.ntmps120 fun O_ hO w0_ N0_ X_ h0_ f0_ => ?_
 refine AC.fact (fact_int (x := .tmp 1) (Evl.tmp rfl)) fun hi1 => ?_
 iterate 8 refine w_ ?_
 refine AC.loopW (fun m_ s_ => ∃ (i : Nat), i ≤ a.length ∧ m_ = a.length - i ∧ s_ = ⟨[(0, lR 0), (1, lI (mkC fT a k i)), (4, lI 0), (5, lI (i : Int))], [(0, some (.arr 159 (.pr (.sl 3 .int) (.sl 3 .int)) (mkA fT a k i)))]⟩) ⟨0, Nat.zero_le _, rfl, rfl⟩ ?_ ?_
 · exact Wk.of [(0, 0)] rfl ⟨rfl, (show some (lI k) = some (lI (mkC fT a k 0)) from congrArg (fun z_ => some (lI z_)) (by rw [mkC_0])), rfl, rfl, trivial⟩ ⟨(entE (mkA_0 fT a k)), trivial⟩ rfl rfl
 rintro m_ s_ ⟨i, hk3, hm4, rfl⟩
 have hml := mkA_len fT a k i
 have hmc := mkT_le a k i
 iterate 7 refine w_ ?_
 cases hb5 : (decide ((i : Int) < ((mkA fT a k i).length : Int)))
 ·have hb5' := of_decide_eq_false hb5
  refine w_ ?_
  refine AC.exit ?_
  refine (?_ : AC _ _ _ _ _)
  iterate 4 refine w_ ?_
  refine AC.ret ?_
  subst hO
  have e6 : (mkC fT a k i : Int) = ((marks fT a k).2) := by
   (rw [mkC_end _ (by omega)]; done)
  exact fin_is _ _ [(0, 0)] (Res.one rfl (Rs.tmp rfl)) ((congrArg (fun z_ => lI z_) e6)) ⟨(entE (by (rw [mkA_end _ (by omega)]; done))), trivial⟩ rfl rfl
 ·have hb5' := of_decide_eq_true hb5
  iterate 4 refine w_ ?_
  refine AC.seq ?_
  obtain ⟨x, hx⟩ : ∃ z, a[i]? = some z := ⟨_, List.getElem?_eq_getElem (by omega)⟩
  have hxa : (mkA fT a k i)[i]? = some x := mkA_get hx
  have hc0 := (cells_at hxa).2
  have hc1 := (cells_at hxa).1
  have hxl := mkT_at (k := k) hx
  have hp0 : i * 2 + 0 < (cellsL (.pr (.sl 3 .int) (.sl 3 .int)) (mkA fT a k i)).length := by rw [cellsL_len]; exact pos0 (by omega)
  have hp1 : i * 2 + 1 < (cellsL (.pr (.sl 3 .int) (.sl 3 .int)) (mkA fT a k i)).length := by rw [cellsL_len]; exact pos1 (by omega)
  have hp01 : i * 2 + 0 ≠ i * 2 + 1 := by omega
  have hm1 := mI_sum x.1 (mkC fT a k i)
  have hm2 := mI_sum x.2 (marks fI x.1 (mkC fT a k i)).2
  refine AC.wk (Wk.open (q := 0) rfl (by omega)) <| AC.wk (Wk.splitX 1 (q := 0) (p := i * 2 + 0) (E' := 3) (e' := .int) (ys := x.1) rfl (hc0) (Fresh.of rfl) (Nat.le_of_ble_eq_true rfl)) ?_
  iterate 3 refine w_ ?_
  refine lc (Does.indexX (Evl.tmp rfl) rfl (Evl.tmp rfl) und_33 tsh_159 rfl (by omega) (by omega)) ?_
  refine w_ ?_
  refine lc (Does.loadX (Evl.tmp rfl) rfl (show (ovr _ _)[i * 2 + 0]? = some (.ref 1) from by simp only [ovr, List.getElem?_set, List.length_set, hp0, hp1, hp01, hp01.symm, hc0, hc1, eq_self, if_true, if_false, ↓reduceIte]) rfl tsh_106 rfl) ?_
  refine w_ ?_
  refine lc (Does.callP 2 [(0, 1)] (fc_laws_markIntS x.1 (mkC fT a k i) (by omega)) enters_65 ⟨_, _, rfl, (Ev.tmp rfl), ⟨_, _, rfl, (Ev.tmp rfl), rfl⟩⟩ ⟨rfl, trivial⟩ rfl ⟨trivial, trivial⟩ (nlr rfl)) ?_
  iterate 2 refine w_ ?_
  refine AC.wk (Wk.joinX (q := 0) (t := 1) (p := i * 2 + 0) rfl (by simp only [ovr, List.getElem?_set, List.length_set, hp0, hp1, hp01, hp01.symm, hc0, hc1, eq_self, if_true, if_false, ↓reduceIte]) rfl) ?_
  refine AC.wk (Wk.splitX 3 (q := 0) (p := i * 2 + 1) (E' := 3) (e' := .int) (ys := x.2) rfl (by simp only [ovr, List.getElem?_set, List.length_set, hp0, hp1, hp01, hp01.symm, hc0, hc1, eq_self, if_true, if_false, ↓reduceIte]) (Fresh.of rfl) (Nat.le_of_ble_eq_true rfl)) ?_
  iterate 3 refine w_ ?_
  refine lc (Does.indexX (Evl.tmp rfl) rfl (Evl.tmp rfl) und_33 tsh_159 rfl (by omega) (by omega)) ?_
  refine w_ ?_
  refine lc (Does.loadX (Evl.tmp rfl) rfl (show (ovr _ _)[i * 2 + 1]? = some (.ref 3) from by simp only [ovr, List.getElem?_set, List.length_set, hp0, hp1, hp01, hp01.symm, hc0, hc1, eq_self, if_true, if_false, ↓reduceIte]) rfl tsh_106 rfl) ?_
  refine w_ ?_
  refine lc (Does.callP 4 [(0, 3)] (fc_laws_markIntS x.2 ((marks fI x.1 (mkC fT a k i)).2) (by omega)) enters_65 ⟨_, _, rfl, (Ev.tmp rfl), ⟨_, _, rfl, (Ev.tmp rfl), rfl⟩⟩ ⟨rfl, trivial⟩ rfl ⟨trivial, trivial⟩ (nlr rfl)) ?_
  refine w_ ?_
  refine AL.nil ?_
  refine (?_ : AC _ _ _ _ _)
  refine AC.wk (Wk.joinX (q := 0) (t := 3) (p := i * 2 + 1) rfl (by simp only [ovr, List.getElem?_set, List.length_set, hp0, hp1, hp01, hp01.symm, hc0, hc1, eq_self, if_true, if_false, ↓reduceIte]) rfl) ?_
  refine AC.wk (Wk.close (q := 0) (e := (.pr (.sl 3 .int) (.sl 3 .int))) ((mkA fT a k i).set i ((marks fI x.1 (mkC fT a k i)).1, (marks fI x.2 (marks fI x.1 (mkC fT a k i)).2).1)) rfl (by simp only [List.length_set]) (by simp only [ovr]; exact tr_close hxa _ _ _ _)) ?_
  iterate 4 refine w_ ?_
  refine AL.nil <| lend ⟨i + 1, by omega, rfl, rfl⟩ (by omega) ?_
  exact Wk.of [(0, 0)] rfl ⟨rfl, (show some (lI ((marks fI x.2 ((marks fI x.1 (mkC fT a k i)).2)).2)) = some (lI (mkC fT a k (i + 1))) from congrArg (fun z_ => some (lI z_)) ((mkC_succ (f := fT) hx).symm)), rfl, rfl, trivial⟩ ⟨(entE (mkA_set (f := fT) hx)), trivial⟩ rfl rfl

end Go.Proofs.YtnakmhfjafecpaaGreat

/- Walks over abstract states: the texts of marks. -/
namespace Go.Proofs.YtnakmhfjafecpaaGreat
open Go.RowKit
set_option maxRecDepth 100000
set_option maxHeartbeats 4000000

/-- The digits of k. -/
def dg (k : Int) : Nat → ByteArray
  | 0 => (⟨#[]⟩ : ByteArray)
  | j + 1 => (⟨#[UInt8.ofNat ((48 + (k / 10 ^ j) % 10) : Int).toNat]⟩ : ByteArray) ++ dg k j
theorem dg_size (k : Int) (j : Nat) : (dg k j).size = j := by
  induction j with
  | zero => rfl
  | succ j ih => rw [dg, ByteArray.size_append, ih]; show 1 + j = _; omega
def mt (k : Int) : Nat → Nat → ByteArray
  | 0, j => dg k j
  | n + 1, j => if k / 10 ^ j ≤ 0 then dg k j else mt k n (j + 1)
def markT (k : Int) : ByteArray := if k ≤ 0 then (⟨#[109, 48]⟩ : ByteArray) else (⟨#[109]⟩ : ByteArray) ++ mt k 20 0
theorem pow10 (k : Int) (j : Nat) : k / 10 ^ j / 10 = k / 10 ^ (j + 1) := by
  rw [Int.pow_succ, Int.ediv_ediv_of_nonneg (Int.pow_nonneg (by decide))]
theorem div_big {k : Int} (h : k ≤ 9223372036854775807) (h0 : 0 ≤ k) : k / 10 ^ 20 = 0 := Int.ediv_eq_zero_of_lt h0 (by omega)
theorem mt_stop {k : Int} {n j : Nat} (h : k / 10 ^ j ≤ 0) : mt k n j = dg k j := by
  cases n with
  | zero => rfl
  | succ n => rw [mt, if_pos h]
theorem div_nn {k : Int} (h0 : 0 ≤ k) (j : Nat) : 0 ≤ k / 10 ^ j ∧ k / 10 ^ j ≤ k := ⟨Int.ediv_nonneg h0 (Int.pow_nonneg (by decide)), Int.ediv_le_self _ h0⟩

theorem fc_laws_markText (k : Int)  : FC Tryz.prog 121 [(false, [dI k])] [] 0 (Pure (lf (dS (markT k)))) := by
 refine FC.go Tryz.func121 rfl rfl Tryz.ntmps121 fun O_ hO w0_ N0_ X_ h0_ f0_ => ?_
 refine AC.fact (fact_int (x := .tmp 0) (Evl.tmp rfl)) fun hi1 => ?_
 iterate 8 refine w_ ?_
 cases hb2 : (decide (k ≤ 0))
 ·have hb2' := of_decide_eq_false hb2
  iterate 7 refine w_ ?_
  refine AC.loopW (fun m_ s_ => ∃ (j : Nat), j ≤ 20 ∧ m_ = 20 - j ∧ (mt k (20 - j) j = mt k 20 0) ∧ s_ = ⟨[(0, lI (k / 10 ^ j)), (2, lf (dS (⟨#[]⟩ : ByteArray))), (3, lf (dS (dg k j)))], []⟩) ⟨0, Nat.zero_le _, rfl, rfl, rfl⟩ ?_ ?_
  · exact Wk.of [] rfl ⟨(show some (lI k) = some (lI (k / 10 ^ 0)) from congrArg (fun z_ => some (lI z_)) (by simp)), rfl, (show some (lf (dS (⟨#[]⟩ : ByteArray))) = some (lf (dS (dg k 0))) from congrArg (fun z_ => some (lf (dS z_))) (rfl)), trivial⟩ trivial rfl rfl
  rintro m_ s_ ⟨j, hk5, hm6, hf, rfl⟩
  have hdn := div_nn (k := k) (by omega) j
  have hds := dg_size k j
  have hj20 : j = 20 → k / 10 ^ j = 0 := fun h => by subst h; exact div_big (by omega) (by omega)
  iterate 5 refine w_ ?_
  cases hb7 : (decide (0 < (k / 10 ^ j)))
  ·have hb7' := of_decide_eq_false hb7
   refine w_ ?_
   refine AC.exit ?_
   refine (?_ : AC _ _ _ _ _)
   iterate 2 refine w_ ?_
   refine lc (Does.addS (Evl.str rfl) (Evl.tmp rfl) rfl (by first | (simp only [bsize1]; omega) | (rw [dg_size]; simp only [bsize1]; omega) | (rw [dg_size]; show 1 + _ ≤ _; omega))) ?_
   iterate 2 refine w_ ?_
   refine AC.ret ?_
   subst hO
   have e8 : ((⟨#[109]⟩ : ByteArray) ++ (dg k j) : ByteArray) = (markT k) := by
    (rw [markT, if_neg (by omega), ← hf, mt_stop (by omega)])
   exact fin_pure (Res.one rfl (Rs.tmp rfl)) ((congrArg (fun z_ => lf (dS z_)) e8)) rfl
  ·have hb7' := of_decide_eq_true hb7
   iterate 5 refine w_ ?_
   refine lc (Does.rem (Evl.tmp rfl) (Evl.int rfl) rfl (by omega) (by omega)) ?_
   refine w_ ?_
   refine lc (Does.toU8 (Evl.tmp rfl) und_3 und_5 (by omega) (by omega) rfl) <| lc (Does.buildSlice 0 (e := .u8) und_209 tsh_5 zer_5 rfl ⟨_, _, rfl, (Ev.tmp rfl), rfl⟩ (List.all_eq_true.1 rfl) ⟨_, _, _, _, rfl, ⟨rfl, rfl⟩, ⟨rfl, rfl⟩, rfl⟩ (by decide) rfl rfl (Fresh.of rfl) (nlr rfl)) <| lc (Does.ofBytes (ys := [UInt8.ofNat (48 + ((k / 10 ^ j) % 10)).toNat]) (Evl.repO (Evl.tmp rfl) rfl) und_209 und_5 und_9 rfl) ?_
   refine w_ ?_
   refine lc (Does.addS (Evl.tmp rfl) (Evl.tmp rfl) rfl (by first | (simp only [bsize1]; omega) | (rw [dg_size]; simp only [bsize1]; omega) | (rw [dg_size]; show 1 + _ ≤ _; omega))) ?_
   iterate 4 refine w_ ?_
   refine lc (Does.quo (Evl.tmp rfl) (Evl.int rfl) rfl (by omega) (by omega)) ?_
   refine w_ ?_
   refine AL.nil <| lend ⟨j + 1, by omega, rfl, by rw [← hf, show 20 - j = (20 - (j + 1)) + 1 by omega, mt, if_neg (by omega)], rfl⟩ (by omega) ?_
   exact Wk.of [] rfl ⟨(show some (lI ((k / 10 ^ j) / 10)) = some (lI (k / 10 ^ (j + 1))) from congrArg (fun z_ => some (lI z_)) (pow10 k j)), rfl, (show some (lf (dS ((⟨#[UInt8.ofNat (48 + ((k / 10 ^ j) % 10)).toNat]⟩ : ByteArray) ++ (dg k j)))) = some (lf (dS (dg k (j + 1)))) from congrArg (fun z_ => some (lf (dS z_))) (rfl)), trivial⟩ trivial rfl rfl
 ·have hb2' := of_decide_eq_true hb2
  iterate 4 refine w_ ?_
  refine AC.ret ?_
  subst hO
  have e11 : ((⟨#[109, 48]⟩ : ByteArray) : ByteArray) = (markT k) := by
   (rw [markT, if_pos (by omega)]; done)
  exact fin_pure (Res.one rfl (Rs.tmp rfl)) ((congrArg (fun z_ => lf (dS z_)) e11)) rfl

end Go.Proofs.YtnakmhfjafecpaaGreat

/- Walks over abstract states: marks in signals, nets and graphs. -/
namespace Go.Proofs.YtnakmhfjafecpaaGreat
open Go.RowKit
set_option maxRecDepth 100000
set_option maxHeartbeats 4000000

@[reducible] def fS : ByteArray × Int → Int → (ByteArray × Int) × Int := fun _ k => ((markT k, k + 1), k + 2)
theorem fS_c : ∀ (x : ByteArray × Int) (k : Int), (fS x k).2 = k + ((fun _ => 2 : ByteArray × Int → Nat) x : Nat) := fun _ _ => rfl
theorem mkS_le (a : List (ByteArray × Int)) (k : Int) (i : Nat) : k ≤ mkC fS a k i ∧ mkC fS a k i ≤ k + 2 * a.length := by
  have := mkC_le _ fS_c a k i
  rw [sum_two] at this
  omega
theorem mkS_succ {l : List (ByteArray × Int)} {k : Int} {i : Nat} (h : i < l.length) : mkC fS l k i + 1 + 1 = mkC fS l k (i + 1) := by rw [mkC_succ (List.getElem?_eq_getElem h)]; simp only [fS]; omega

theorem fc_laws_markSignalS (a : List (ByteArray × Int)) (k : Int) (hk : 0 ≤ k ∧ k + 2 * a.length ≤ 1000000000) : FC Tryz.prog 63 [(false, [.ref 0]), (false, [dI k])] [(0, some (.arr 145 (.pr .str .int) a))] 1 (Is (lI ((marks fS a k).2)) [(0, some (.arr 145 (.pr .str .int) ((marks fS a k).1)))]) := by
 refine FC.go Tryz.func63 rfl rfl Tryz.ntmps63 fun O_ hO w0_ N0_ X_ h0_ f0_ => ?_
 refine AC.fact (fact_int (x := .tmp 1) (Evl.tmp rfl)) fun hi1 => ?_
 iterate 8 refine w_ ?_
 refine AC.loopW (fun m_ s_ => ∃ (i : Nat), i ≤ a.length ∧ m_ = a.length - i ∧ s_ = ⟨[(0, lR 0), (1, lI (mkC fS a k i)), (4, lI 0), (5, lI (i : Int))], [(0, some (.arr 145 (.pr .str .int) (mkA fS a k i)))]⟩) ⟨0, Nat.zero_le _, rfl, rfl⟩ ?_ ?_
 · exact Wk.of [(0, 0)] rfl ⟨rfl, (show some (lI k) = some (lI (mkC fS a k 0)) from congrArg (fun z_ => some (lI z_)) (by rw [mkC_0])), rfl, rfl, trivial⟩ ⟨(entE (mkA_0 fS a k)), trivial⟩ rfl rfl
 rintro m_ s_ ⟨i, hk3, hm4, rfl⟩
 have hml := mkA_len fS a k i
 have hmc := mkS_le a k i
 iterate 7 refine w_ ?_
 cases hb5 : (decide ((i : Int) < ((mkA fS a k i).length : Int)))
 ·have hb5' := of_decide_eq_false hb5
  refine w_ ?_
  refine AC.exit ?_
  refine (?_ : AC _ _ _ _ _)
  iterate 4 refine w_ ?_
  refine AC.ret ?_
  subst hO
  have e6 : (mkC fS a k i : Int) = ((marks fS a k).2) := by
   (rw [mkC_end _ (by omega)]; done)
  exact fin_is _ _ [(0, 0)] (Res.one rfl (Rs.tmp rfl)) ((congrArg (fun z_ => lI z_) e6)) ⟨(entE (by (rw [mkA_end _ (by omega)]; done))), trivial⟩ rfl rfl
 ·have hb5' := of_decide_eq_true hb5
  iterate 8 refine w_ ?_
  refine lc (Does.call (fc_laws_markText (mkC fS a k i)) enters_121 ⟨_, _, rfl, (Ev.tmp rfl), rfl⟩ rfl rfl) <| lc (Does.indexI (e := (.pr .str .int)) (Evl.tmp rfl) rfl (Evl.tmp rfl) und_36 tsh_145 rfl (by omega) (by first | omega | (simp only [List.length_set]; omega))) ?_
  refine w_ ?_
  obtain ⟨x7, hx8⟩ : ∃ z, (mkA fS a k i)[i]? = some z := ⟨_, List.getElem?_eq_getElem (by omega)⟩
  refine lc (Does.storeI (e := (.pr .str .int)) (z' := (markT (mkC fS a k i), x7.2)) (Evl.tmp rfl) rfl hx8 rfl (Ev.tmp rfl) rfl tsh_9 rfl rfl) ?_
  iterate 10 refine w_ ?_
  refine lc (Does.indexI (e := (.pr .str .int)) (Evl.tmp rfl) rfl (Evl.tmp rfl) und_36 tsh_145 rfl (by omega) (by first | omega | (simp only [List.length_set]; omega))) ?_
  refine w_ ?_
  refine lc (Does.storeI (e := (.pr .str .int)) (z' := ((markT (mkC fS a k i), x7.2).1, (mkC fS a k i) + 1)) (Evl.tmp rfl) rfl (List.getElem?_set_self (by first | omega | (simp only [List.length_set]; omega))) rfl (Ev.tmp rfl) rfl tsh_3 rfl rfl) ?_
  iterate 5 refine w_ ?_
  refine AL.nil ?_
  refine (?_ : AC _ _ _ _ _)
  iterate 4 refine w_ ?_
  refine AL.nil <| lend ⟨i + 1, by omega, rfl, rfl⟩ (by omega) ?_
  exact Wk.of [(0, 0)] rfl ⟨rfl, (show some (lI (((mkC fS a k i) + 1) + 1)) = some (lI (mkC fS a k (i + 1))) from congrArg (fun z_ => some (lI z_)) (mkS_succ (by omega))), rfl, rfl, trivial⟩ ⟨(entE (by rw [List.set_set]; exact mkA_set (f := fS) (mkA_back hx8))), trivial⟩ rfl rfl

theorem fc_laws_markNet (a : Int × (List (List Int × List Int))) (k : Int) (hk : (0 ≤ k ∧ k + tsum a.2 ≤ 1000000000) ∧ a.2.length ≤ 1000000000) : FC Tryz.prog 62 [(true, [dI a.1, .ref 0]), (false, [dI k])] [(0, some (.arr 159 (.pr (.sl 3 .int) (.sl 3 .int)) a.2))] 1 (Is (lI ((marks fT a.2 k).2)) [(0, some (.arr 159 (.pr (.sl 3 .int) (.sl 3 .int)) ((marks fT a.2 k).1)))]) := by
 refine FC.go Tryz.func62 rfl rfl Tryz.ntmps62 fun O_ hO w0_ N0_ X_ h0_ f0_ => ?_
 refine AC.fact (fact_ag (x := .tmp 0) (i := 0) (Ev.tmp rfl) rfl) fun hi1 => AC.fact (fact_int (x := .tmp 1) (Evl.tmp rfl)) fun hi2 => ?_
 refine w_ ?_
 refine lc (Does.box 1 (Ev.tmp rfl) rfl rfl (Fresh.of rfl) (nlr rfl)) ?_
 iterate 6 refine w_ ?_
 refine lc (Does.callP 2 [(0, 0)] (fc_laws_markTransitionS a.2 k hk) enters_120 ⟨_, _, rfl, (Ev.tmp rfl), ⟨_, _, rfl, (Ev.tmp rfl), rfl⟩⟩ ⟨rfl, trivial⟩ rfl ⟨trivial, trivial⟩ (nlr rfl)) ?_
 iterate 6 refine w_ ?_
 refine AC.ret ?_
 subst hO
 exact fin_is _ _ [(0, 0)] (Res.one rfl (Rs.tmp rfl)) (rfl) ⟨rfl, trivial⟩ rfl rfl

theorem mT_sum (l : List (List Int × List Int)) (k : Int) : (marks fT l k).2 = k + tsum l := mkC_sum _ fT_c l k
theorem mS_sum (l : List (ByteArray × Int)) (k : Int) : (marks fS l k).2 = k + 2 * l.length := by rw [mkC_sum _ fS_c, sum_two]; omega
theorem mL_sum (l : List (Int × Bool)) (k : Int) : (marks fL l k).2 = k + 2 * l.length := by rw [mkC_sum _ fL_c, sum_two]; omega

/-- A graph with marks in all that it holds, and the count behind. -/
def mSTG (s : DSTG) (k : Int) : DSTG × Int := (((s.1.1, (marks fT s.1.2 k).1), (marks fS s.2.1 (marks fT s.1.2 k).2).1, (marks fL s.2.2.1 (marks fS s.2.1 (marks fT s.1.2 k).2).2).1, s.2.2.2), (marks fL s.2.2.1 (marks fS s.2.1 (marks fT s.1.2 k).2).2).2)

theorem fc_laws_markSTG (a : (Int × (List (List Int × List Int))) × (List (ByteArray × Int)) × (List (Int × Bool)) × ByteArray) (k : Int) (hk : (0 ≤ k ∧ k + tsum a.1.2 + 2 * a.2.1.length + 2 * a.2.2.1.length ≤ 1000000000) ∧ a.1.2.length ≤ 1000000000) : FC Tryz.prog 17 [(true, [dI a.1.1, .ref 0, .ref 1, .ref 2, dS a.2.2.2]), (false, [dI k])] [(0, some (.arr 159 (.pr (.sl 3 .int) (.sl 3 .int)) a.1.2)), (1, some (.arr 145 (.pr .str .int) a.2.1)), (2, some (.arr 61 (.pr .int .bool) a.2.2.1))] 3 (Is (lI ((mSTG a k).2)) [(0, some (.arr 159 (.pr (.sl 3 .int) (.sl 3 .int)) ((mSTG a k).1.1.2))), (1, some (.arr 145 (.pr .str .int) ((mSTG a k).1.2.1))), (2, some (.arr 61 (.pr .int .bool) ((mSTG a k).1.2.2.1)))]) := by
 have hs1 := mT_sum a.1.2 k
 have hs2 := mS_sum a.2.1 (marks fT a.1.2 k).2
 refine FC.go Tryz.func17 rfl rfl Tryz.ntmps17 fun O_ hO w0_ N0_ X_ h0_ f0_ => ?_
 refine AC.fact (fact_ag (x := .tmp 0) (i := 0) (Ev.tmp rfl) rfl) fun hi1 => AC.fact (fact_int (x := .tmp 1) (Evl.tmp rfl)) fun hi2 => ?_
 refine w_ ?_
 refine lc (Does.box 3 (Ev.tmp rfl) rfl rfl (Fresh.of rfl) (nlr rfl)) ?_
 iterate 6 refine w_ ?_
 refine lc (Does.callP 4 [(0, 0)] (fc_laws_markNet a.1 k (by omega)) enters_62 ⟨_, _, rfl, (Ev.tmp rfl), ⟨_, _, rfl, (Ev.tmp rfl), rfl⟩⟩ ⟨rfl, trivial⟩ rfl ⟨trivial, trivial⟩ (nlr rfl)) ?_
 iterate 6 refine w_ ?_
 refine lc (Does.callP 5 [(0, 1)] (fc_laws_markSignalS a.2.1 ((marks fT a.1.2 k).2) (by omega)) enters_63 ⟨_, _, rfl, (Ev.tmp rfl), ⟨_, _, rfl, (Ev.tmp rfl), rfl⟩⟩ ⟨rfl, trivial⟩ rfl ⟨trivial, trivial⟩ (nlr rfl)) ?_
 iterate 6 refine w_ ?_
 refine lc (Does.callP 6 [(0, 2)] (fc_laws_markLabelS a.2.2.1 ((marks fS a.2.1 ((marks fT a.1.2 k).2)).2) (by omega)) enters_64 ⟨_, _, rfl, (Ev.tmp rfl), ⟨_, _, rfl, (Ev.tmp rfl), rfl⟩⟩ ⟨rfl, trivial⟩ rfl ⟨trivial, trivial⟩ (nlr rfl)) ?_
 iterate 6 refine w_ ?_
 refine AC.ret ?_
 subst hO
 have e3 : ((marks fL a.2.2.1 ((marks fS a.2.1 ((marks fT a.1.2 k).2)).2)).2 : Int) = ((mSTG a k).2) := by
  rfl
 exact fin_is _ _ [(0, 0), (1, 1), (2, 2)] (Res.one rfl (Rs.tmp rfl)) ((congrArg (fun z_ => lI z_) e3)) ⟨(entE (by rfl)), (entE (by rfl)), (entE (by rfl)), trivial⟩ rfl rfl

end Go.Proofs.YtnakmhfjafecpaaGreat

/- Contracts over states for the measures, the copies and the comparisons of the laws. -/
namespace Go.Proofs.YtnakmhfjafecpaaGreat
open Go.RowKit
set_option maxRecDepth 100000
set_option maxHeartbeats 4000000

theorem fc_szSTG (x : DSTG) (left : Int) (h0 : 0 ≤ left) (h1 : left ≤ 1048576) : FC Tryz.prog 11 [(true, leaves lSTG x), (false, [dI left])] [] 0 (Pure (lf (dI (szv left (Ty.tot lSTG x))))) :=
  FC.ofSzA (fun us w hr => by
    obtain ⟨a0, a1, a2, a3, a4, rfl⟩ := list_len5 hr.len
    exact szSTG_any a0 a1 a2 a3 a4 x left w hr h0 h1) h0 h1

theorem fc_toSTG (x : DSTG) (hz : Ty.tot lSTG x ≤ 1048576) : FC Tryz.prog 13 [(true, leaves lSTG x)] [] 0 (Is (ag (oL tSTG x 0)) (oT tSTG x 0)) :=
  FC.ofOwnA fun gh w vs ha => by
    obtain ⟨us, vs, rfl, hr, ha⟩ := ha.agg_cons
    obtain rfl := ha.nil_
    obtain ⟨a0, a1, a2, a3, a4, rfl⟩ := list_len5 hr.len
    refine Calls.mono (toSTG_any a0 a1 a2 a3 a4 x w hr hz) fun e w' he => ?_
    obtain ⟨u0, u1, u2, u3, u4, rfl, h1, h2⟩ := he
    exact ⟨_, rfl, h1, h2⟩

theorem fc_eqSTG (x y : DSTG) (h : x = y) : FC Tryz.prog 16 [(true, leaves tSTG x), (true, leaves tSTG y)] [] 0 (Pure (lf (dB true))) :=
  FC.ofEqA h fun us vs w h1 h2 => by
    obtain ⟨a0, a1, a2, a3, a4, rfl⟩ := list_len5 h1.len
    obtain ⟨b0, b1, b2, b3, b4, rfl⟩ := list_len5 h2.len
    exact eqSTG_same a0 a1 a2 a3 a4 b0 b1 b2 b3 b4 x w h1 h2

theorem fc_eqOrderingS (x y : List DOrdering) (h : x = y) : FC Tryz.prog 37 [(false, [.dat (.sl 85 tOrdering) x]), (false, [.dat (.sl 85 tOrdering) y])] [] 0 (Pure (lf (dB true))) :=
  FC.ofEqS h fun u v w h1 h2 => eqOrderingS_same u v x w h1 h2

end Go.Proofs.YtnakmhfjafecpaaGreat

/- laws.FnExactAddOrdering walked. -/
namespace Go.Proofs.YtnakmhfjafecpaaGreat
open Go.RowKit
set_option maxRecDepth 100000
set_option maxHeartbeats 4000000

theorem tot_tr (t : DTransition) : Ty.tot tTransition t = cT t := by
  have : Ty.tot tTransition t = (t.1.length + (t.1.map (Ty.tot .int)).sum) + (t.2.length + (t.2.map (Ty.tot .int)).sum) := rfl
  rw [this, map_zero_sum t.1 (Ty.tot .int) (fun _ => rfl), map_zero_sum t.2 (Ty.tot .int) (fun _ => rfl)]
  simp [cT]
theorem tot_net (n : DNet) : Ty.tot tNet n = n.2.length + tsum n.2 := by
  have : Ty.tot tNet n = 0 + (n.2.length + (n.2.map (Ty.tot tTransition)).sum) := rfl
  rw [this, List.map_congr_left (g := cT) fun t _ => tot_tr t, tsum]
  omega
theorem tot_stg (s : DSTG) : Ty.tot tSTG s = Ty.tot tNet s.1 + ((s.2.1.length + (s.2.1.map (Ty.tot tSignal)).sum) + ((s.2.2.1.length + (s.2.2.1.map (Ty.tot tLabel)).sum) + s.2.2.2.size)) := rfl
theorem mark_ok {s : DSTG} (h : Ty.tot tSTG s ≤ 100000000) : (0 ≤ (1 : Int) ∧ (1 : Int) + tsum s.1.2 + 2 * s.2.1.length + 2 * s.2.2.1.length ≤ 1000000000) ∧ s.1.2.length ≤ 1000000000 := by
  rw [tot_stg, tot_net] at h
  omega
theorem mSTG_cnt (s : DSTG) (k : Int) : (mSTG s k).2 = k + tsum s.1.2 + 2 * s.2.1.length + 2 * s.2.2.1.length := by
  simp only [mSTG, mL_sum, mS_sum, mT_sum]
end Go.Proofs.YtnakmhfjafecpaaGreat

/- Walks over abstract states: orderings applied one behind the other. -/
namespace Go.Proofs.YtnakmhfjafecpaaGreat
open Go.RowKit
set_option maxRecDepth 100000
set_option maxHeartbeats 4000000

section
variable [∀ s, Decidable (StgOk s)]
def appV : DSTG → List DOrdering → DSTG × Bool
  | s, [] => (s, true)
  | s, o :: os => if (addV s o).2 = true then appV (addV s o).1 os else (zeroSTG, false)
def applyV (s : DSTG) (l : List DOrdering) : DSTG × Bool := if StgOk s ∧ l.length ≤ 6 then appV s l else (zeroSTG, false)
end

@[reducible] def f_Ordering : (DOrdering) → Int → (DOrdering) × Int := fun _ k => ((k, k + 1, decide ((k + 1 + 1) % 3 = 0)), k + 1 + 1 + 1)
theorem f_Ordering_c : ∀ (x : (DOrdering)) (k : Int), (f_Ordering x k).2 = k + ((fun _ => 3 : (DOrdering) → Nat) x : Nat) := fun _ k => by show k + 1 + 1 + 1 = k + ((3 : Nat) : Int); omega
theorem sum_f_Ordering (a : List (DOrdering)) : (a.map fun _ => 3).sum = 3 * a.length := by
  induction a with
  | nil => rfl
  | cons x xs ih => simp [ih]; omega
theorem mk_f_Ordering_le (a : List (DOrdering)) (k : Int) (i : Nat) : k ≤ mkC f_Ordering a k i ∧ mkC f_Ordering a k i ≤ k + 3 * a.length := by
  have := mkC_le _ f_Ordering_c a k i
  rw [sum_f_Ordering] at this
  omega
theorem mk_f_Ordering_succ {l : List (DOrdering)} {k : Int} {i : Nat} (h : i < l.length) : mkC f_Ordering l k i + 1 + 1 + 1 = mkC f_Ordering l k (i + 1) := by rw [mkC_succ (List.getElem?_eq_getElem h)]
theorem mk_f_Ordering_sum (l : List (DOrdering)) (k : Int) : (marks f_Ordering l k).2 = k + 3 * l.length := by rw [mkC_sum _ f_Ordering_c, sum_f_Ordering]; omega

theorem fc_laws_markOrderingS (a : List (Int × Int × Bool)) (k : Int) (hk : 0 ≤ k ∧ k + 3 * a.length ≤ 1000000000) : FC Tryz.prog 38 [(false, [.ref 0]), (false, [dI k])] [(0, some (.arr 85 (.pr .int (.pr .int .bool)) a))] 1 (Is (lI ((marks f_Ordering a k).2)) [(0, some (.arr 85 (.pr .int (.pr .int .bool)) ((marks f_Ordering a k).1)))]) := by
 refine FC.go Tryz.func38 rfl rfl Tryz.ntmps38 fun O_ hO w0_ N0_ X_ h0_ f0_ => ?_
 refine AC.fact (fact_int (x := .tmp 1) (Evl.tmp rfl)) fun hi1 => ?_
 iterate 8 refine w_ ?_
 refine AC.loopW (fun m_ s_ => ∃ (i : Nat), i ≤ a.length ∧ m_ = a.length - i ∧ s_ = ⟨[(0, lR 0), (1, lI (mkC f_Ordering a k i)), (4, lI 0), (5, lI (i : Int))], [(0, some (.arr 85 (.pr .int (.pr .int .bool)) (mkA f_Ordering a k i)))]⟩) ⟨0, Nat.zero_le _, rfl, rfl⟩ ?_ ?_
 · exact Wk.of [(0, 0)] rfl ⟨rfl, (show some (lI k) = some (lI (mkC f_Ordering a k 0)) from congrArg (fun z_ => some (lI z_)) (by rw [mkC_0])), rfl, rfl, trivial⟩ ⟨(entE (mkA_0 f_Ordering a k)), trivial⟩ rfl rfl
 rintro m_ s_ ⟨i, hk3, hm4, rfl⟩
 have hml := mkA_len f_Ordering a k i
 have hmc := mk_f_Ordering_le a k i
 iterate 7 refine w_ ?_
 cases hb5 : (decide ((i : Int) < ((mkA f_Ordering a k i).length : Int)))
 ·have hb5' := of_decide_eq_false hb5
  refine w_ ?_
  refine AC.exit ?_
  refine (?_ : AC _ _ _ _ _)
  iterate 4 refine w_ ?_
  refine AC.ret ?_
  subst hO
  have e6 : (mkC f_Ordering a k i : Int) = ((marks f_Ordering a k).2) := by
   (rw [mkC_end _ (by omega)]; done)
  exact fin_is _ _ [(0, 0)] (Res.one rfl (Rs.tmp rfl)) ((congrArg (fun z_ => lI z_) e6)) ⟨(entE (by (rw [mkA_end _ (by omega)]; done))), trivial⟩ rfl rfl
 ·have hb5' := of_decide_eq_true hb5
  iterate 8 refine w_ ?_
  refine lc (Does.indexI (e := (.pr .int (.pr .int .bool))) (Evl.tmp rfl) rfl (Evl.tmp rfl) und_77 tsh_85 rfl (by omega) (by first | omega | (simp only [List.length_set]; omega))) ?_
  refine w_ ?_
  obtain ⟨x7, hx8⟩ : ∃ z, (mkA f_Ordering a k i)[i]? = some z := ⟨_, List.getElem?_eq_getElem (by omega)⟩
  refine lc (Does.storeI (e := (.pr .int (.pr .int .bool))) (z' := (mkC f_Ordering a k i, x7.2.1, x7.2.2)) (Evl.tmp rfl) rfl hx8 rfl (Ev.tmp rfl) rfl tsh_3 rfl rfl) ?_
  iterate 10 refine w_ ?_
  refine lc (Does.indexI (e := (.pr .int (.pr .int .bool))) (Evl.tmp rfl) rfl (Evl.tmp rfl) und_77 tsh_85 rfl (by omega) (by first | omega | (simp only [List.length_set]; omega))) ?_
  refine w_ ?_
  refine lc (Does.storeI (e := (.pr .int (.pr .int .bool))) (z' := ((mkC f_Ordering a k i, x7.2.1, x7.2.2).1, (mkC f_Ordering a k i) + 1, (mkC f_Ordering a k i, x7.2.1, x7.2.2).2.2)) (Evl.tmp rfl) rfl (List.getElem?_set_self (by first | omega | (simp only [List.length_set]; omega))) rfl (Ev.tmp rfl) rfl tsh_3 rfl rfl) ?_
  iterate 10 refine w_ ?_
  refine lc (Does.rem (Evl.tmp rfl) (Evl.int rfl) rfl (by omega) (by omega)) ?_
  refine w_ ?_
  refine lc (Does.indexI (e := (.pr .int (.pr .int .bool))) (Evl.tmp rfl) rfl (Evl.tmp rfl) und_77 tsh_85 rfl (by omega) (by first | omega | (simp only [List.length_set]; omega))) ?_
  refine w_ ?_
  refine lc (Does.storeI (e := (.pr .int (.pr .int .bool))) (z' := (((mkC f_Ordering a k i, x7.2.1, x7.2.2).1, (mkC f_Ordering a k i) + 1, (mkC f_Ordering a k i, x7.2.1, x7.2.2).2.2).1, ((mkC f_Ordering a k i, x7.2.1, x7.2.2).1, (mkC f_Ordering a k i) + 1, (mkC f_Ordering a k i, x7.2.1, x7.2.2).2.2).2.1, decide (((((mkC f_Ordering a k i) + 1) + 1) % 3) = 0))) (Evl.tmp rfl) rfl (List.getElem?_set_self (by first | omega | (simp only [List.length_set]; omega))) rfl (Ev.tmp rfl) rfl tsh_4 rfl rfl) ?_
  iterate 5 refine w_ ?_
  refine AL.nil ?_
  refine (?_ : AC _ _ _ _ _)
  iterate 4 refine w_ ?_
  refine AL.nil <| lend ⟨i + 1, by omega, rfl, rfl⟩ (by omega) ?_
  exact Wk.of [(0, 0)] rfl ⟨rfl, (show some (lI ((((mkC f_Ordering a k i) + 1) + 1) + 1)) = some (lI (mkC f_Ordering a k (i + 1))) from congrArg (fun z_ => some (lI z_)) (mk_f_Ordering_succ (by omega))), rfl, rfl, trivial⟩ ⟨(entE (by rw [List.set_set, List.set_set]; exact mkA_set (f := f_Ordering) (mkA_back hx8))), trivial⟩ rfl rfl

theorem fc_laws_heldOrderingS (a : List (Int × Int × Bool)) (k : Int) (l : List (DOrdering)) (hm : a = (marks f_Ordering l k).1) (hk : 0 ≤ k ∧ k + 3 * a.length ≤ 1000000000) : FC Tryz.prog 39 [(false, [.dat (.sl 85 (.pr .int (.pr .int .bool))) a]), (false, [dI k])] [] 0 (Pure (lI ((marks f_Ordering l k).2))) := by
 have hla : a.length = l.length := by rw [hm, marks_len]
 refine FC.go Tryz.func39 rfl rfl Tryz.ntmps39 fun O_ hO w0_ N0_ X_ h0_ f0_ => ?_
 refine AC.fact (fact_int (x := .tmp 1) (Evl.tmp rfl)) fun hi1 => ?_
 iterate 8 refine w_ ?_
 refine AC.loopW (fun m_ s_ => ∃ (i : Nat), i ≤ a.length ∧ m_ = a.length - i ∧ s_ = ⟨[(0, lf (.dat (.sl 85 (.pr .int (.pr .int .bool))) a)), (1, lI (mkC f_Ordering l k i)), (5, lI (i : Int))], []⟩) ⟨0, Nat.zero_le _, rfl, rfl⟩ ?_ ?_
 · exact Wk.of [] rfl ⟨rfl, (show some (lI k) = some (lI (mkC f_Ordering l k 0)) from congrArg (fun z_ => some (lI z_)) (by rw [mkC_0])), rfl, trivial⟩ trivial rfl rfl
 rintro m_ s_ ⟨i, hk3, hm4, rfl⟩
 have hmc := mk_f_Ordering_le l k i
 iterate 4 refine w_ ?_
 refine AL.fact (fact_len (x := .tmp 7) (Evl.tmp rfl)) fun hl5 => ?_
 iterate 3 refine w_ ?_
 cases hb6 : (decide ((i : Int) < (a.length : Int)))
 ·have hb6' := of_decide_eq_false hb6
  refine w_ ?_
  refine AC.exit ?_
  refine (?_ : AC _ _ _ _ _)
  iterate 4 refine w_ ?_
  refine AC.ret ?_
  subst hO
  have e7 : (mkC f_Ordering l k i : Int) = ((marks f_Ordering l k).2) := by
   (rw [mkC_end _ (by omega)]; done)
  exact fin_pure (Res.one rfl (Rs.tmp rfl)) ((congrArg (fun z_ => lI z_) e7)) rfl
 ·have hb6' := of_decide_eq_true hb6
  iterate 8 refine w_ ?_
  obtain ⟨x8, hx9⟩ : ∃ z, a[i]? = some z := ⟨_, List.getElem?_eq_getElem (by omega)⟩
  have hv0x8 : x8.1 = mkC f_Ordering l k i := by obtain ⟨_, _, h⟩ := held_at hm hx9; rw [h]
  have hv1x8 : x8.2.1 = mkC f_Ordering l k i + 1 := by obtain ⟨_, _, h⟩ := held_at hm hx9; rw [h]
  have hv2x8 : x8.2.2 = decide ((mkC f_Ordering l k i + 1 + 1) % 3 = 0) := by obtain ⟨_, _, h⟩ := held_at hm hx9; rw [h]
  refine lc (Does.indexE (Evl.tmp rfl) (Evl.tmp rfl) und_77 tsh_85 rfl (by omega) hx9) ?_
  iterate 2 refine w_ ?_
  refine AL.fact (fact_int (x := .tmp 16) (Evl.tmp rfl)) fun hi10 => ?_
  iterate 3 refine w_ ?_
  cases hb11 : (!decide (x8.1 = (mkC f_Ordering l k i)))
  ·have hb11' : (x8.1 = (mkC f_Ordering l k i)) := nd_false hb11
   iterate 11 refine w_ ?_
   refine lc (Does.indexE (Evl.tmp rfl) (Evl.tmp rfl) und_77 tsh_85 rfl (by omega) hx9) ?_
   iterate 2 refine w_ ?_
   refine AL.fact (fact_int (x := .tmp 25) (Evl.tmp rfl)) fun hi12 => ?_
   iterate 3 refine w_ ?_
   cases hb13 : (!decide (x8.2.1 = ((mkC f_Ordering l k i) + 1)))
   ·have hb13' : (x8.2.1 = ((mkC f_Ordering l k i) + 1)) := nd_false hb13
    iterate 11 refine w_ ?_
    refine lc (Does.indexE (Evl.tmp rfl) (Evl.tmp rfl) und_77 tsh_85 rfl (by omega) hx9) ?_
    iterate 3 refine w_ ?_
    refine lc (Does.rem (Evl.tmp rfl) (Evl.int rfl) rfl (by omega) (by omega)) ?_
    refine w_ ?_
    refine lc (Does.neqB (Evl.tmp rfl) (Evl.tmp rfl) rfl und_4) ?_
    refine w_ ?_
    cases hb14 : (x8.2.2 == (decide (((((mkC f_Ordering l k i) + 1) + 1) % 3) = 0)))
    ·iterate 4 refine w_ ?_
     refine AC.ret ?_
     subst hO
     have e15 : ((-1) : Int) = ((marks f_Ordering l k).2) := by
      (exfalso; simp_all; done)
     exact fin_pure (Res.one rfl (Rs.tmp rfl)) ((congrArg (fun z_ => lI z_) e15)) rfl
    ·iterate 6 refine w_ ?_
     refine AL.nil ?_
     refine (?_ : AC _ _ _ _ _)
     iterate 4 refine w_ ?_
     refine AL.nil <| lend ⟨i + 1, by omega, rfl, rfl⟩ (by omega) ?_
     exact Wk.of [] rfl ⟨rfl, (show some (lI ((((mkC f_Ordering l k i) + 1) + 1) + 1)) = some (lI (mkC f_Ordering l k (i + 1))) from congrArg (fun z_ => some (lI z_)) (mk_f_Ordering_succ (by omega))), rfl, trivial⟩ trivial rfl rfl
   ·have hb13' : ¬ (x8.2.1 = ((mkC f_Ordering l k i) + 1)) := nd_true hb13
    iterate 4 refine w_ ?_
    refine AC.ret ?_
    subst hO
    have e17 : ((-1) : Int) = ((marks f_Ordering l k).2) := by
     (exfalso; omega)
    exact fin_pure (Res.one rfl (Rs.tmp rfl)) ((congrArg (fun z_ => lI z_) e17)) rfl
  ·have hb11' : ¬ (x8.1 = (mkC f_Ordering l k i)) := nd_true hb11
   iterate 4 refine w_ ?_
   refine AC.ret ?_
   subst hO
   have e18 : ((-1) : Int) = ((marks f_Ordering l k).2) := by
    (exfalso; omega)
   exact fin_pure (Res.one rfl (Rs.tmp rfl)) ((congrArg (fun z_ => lI z_) e18)) rfl

end Go.Proofs.YtnakmhfjafecpaaGreat
