/- Walks over abstract states: marks in transitions. -/
import Derived.Test.YtbelopdphlllnaaWd
namespace Go.Proofs.Ytbelopdphlllnaa
open Go.RowKit

@[reducible] def fT : List Int × List Int → Int → (List Int × List Int) × Int := fun t k => (((marks fI t.1 k).1, (marks fI t.2 (marks fI t.1 k).2).1), (marks fI t.2 (marks fI t.1 k).2).2)
def cT (t : List Int × List Int) : Nat := t.1.length + t.2.length
theorem mI_sum (l : List Int) (k : Int) : (marks fI l k).2 = k + l.length := by rw [mkC_sum _ fI_c, sum_one]
theorem fT_c : ∀ (x : List Int × List Int) (k : Int), (fT x k).2 = k + (cT x : Nat) := fun x k => by simp only [fT, mI_sum, cT]; omega
def tsum (a : List (List Int × List Int)) : Nat := (a.map cT).sum
theorem mkT_le (a : List (List Int × List Int)) (k : Int) (i : Nat) : k ≤ mkC fT a k i ∧ mkC fT a k i ≤ k + tsum a := mkC_le _ fT_c a k i
theorem mkT_at {a : List (List Int × List Int)} {k : Int} {i : Nat} {x : List Int × List Int} (h : a[i]? = some x) : mkC fT a k i + x.1.length + x.2.length ≤ k + tsum a := by
  have h1 := (mkT_le a k (i + 1)).2
  rw [mkC_succ h, fT_c] at h1
  simp only [cT] at h1
  omega
theorem tr_close {ts : List DTransition} {i : Nat} {x : DTransition} (hx : ts[i]? = some x) (a b : LV) (ys zs : List Int) : ((((cellsL tTransition ts).set (i * 2 + 0) a).set (i * 2 + 0) (.dat (.sl 3 .int) ys)).set (i * 2 + 1) b).set (i * 2 + 1) (.dat (.sl 3 .int) zs) = cellsL tTransition (ts.set i (ys, zs)) := by
  rw [List.set_set, List.set_set, cells_set0 hx, cells_set1 (x := (ys, x.2)) (by rw [List.getElem?_set_self (List.getElem?_eq_some_iff.1 hx).1]), List.set_set]

set_option maxRecDepth 100000 in
set_option maxHeartbeats 4000000 in
theorem fc_laws_markTransitionS (a : List (List Int × List Int)) (k : Int) (hk : (0 ≤ k ∧ k + tsum a ≤ 1000000000) ∧ a.length ≤ 1000000000) : FC Try.prog 116 [(false, [.ref 0]), (false, [dI k])] [(0, some (.arr 146 (.pr (.sl 3 .int) (.sl 3 .int)) a))] 1 (Is (lf (dI ((marks fT a k).2))) [(0, some (.arr 146 (.pr (.sl 3 .int) (.sl 3 .int)) ((marks fT a k).1)))]) := by
  obtain ⟨O_, hO⟩ : ∃ x : PV → Tab → Prop, x = Is (lf (dI ((marks fT a k).2))) [(0, some (.arr 146 (.pr (.sl 3 .int) (.sl 3 .int)) ((marks fT a k).1)))] := ⟨_, rfl⟩
  refine FC.O_of hO (FC.ren (FC.of Try.func116 rfl rfl fun A_ hn_ hk_ => ?_))
  obtain ⟨w0_, N0_, X_, n_, k0_, h0_, f0_⟩ := A_
  obtain rfl : n_ = 27 := hn_.trans Try.ntmps116
  obtain rfl : k0_ = 1 := hk_
  refine AC.fact (fact_int (x := .tmp 1) (Evl.tmp rfl)) fun hi1 => ?_
  refine AC.seq ?_
  refine AC.region ?_
  refine AL.cons rfl (Does.assignC (Evl.int rfl) rfl) ?_
  refine AL.nil ?_
  refine (?_ : AC _ _ _ _ _)
  refine AC.seq ?_
  refine AC.seq ?_
  refine AC.region ?_
  refine AL.cons rfl (Does.assignC (Evl.int rfl) rfl) ?_
  refine AL.nil ?_
  refine (?_ : AC _ _ _ _ _)
  refine AC.block ?_
  refine AC.wk (s' := ⟨[(0, lf (.ref 0)), (1, lf (dI (mkC fT a k 0))), (4, lf (dI 0)), (5, lf (dI (0 : Int)))], [(0, some (.arr 146 (.pr (.sl 3 .int) (.sl 3 .int)) (mkA fT a k 0)))]⟩) (Wk.of [(0, 0)] rfl ⟨rfl, (show some (lf (dI k)) = some (lf (dI (mkC fT a k 0))) from congrArg (fun z_ => some (lf (dI z_))) (by rw [mkC_0])), rfl, rfl, trivial⟩ ⟨(show some (Ent.arr 146 (.pr (.sl 3 .int) (.sl 3 .int)) a) = some (Ent.arr 146 (.pr (.sl 3 .int) (.sl 3 .int)) (mkA fT a k 0)) from congrArg (fun z => some (Ent.arr 146 (.pr (.sl 3 .int) (.sl 3 .int)) z)) (mkA_0 fT a k)), trivial⟩ rfl rfl) ?_
  refine AC.loop (fun m_ s_ => ∃ (i : Nat), i ≤ a.length ∧ m_ = a.length - i ∧ s_ = ⟨[(0, lf (.ref 0)), (1, lf (dI (mkC fT a k i))), (4, lf (dI 0)), (5, lf (dI (i : Int)))], [(0, some (.arr 146 (.pr (.sl 3 .int) (.sl 3 .int)) (mkA fT a k i)))]⟩) (m := a.length - 0) ⟨0, Nat.zero_le _, rfl, rfl⟩ ?_
  rintro m_ s_ ⟨i, hk3, hm4, rfl⟩
  have hml := mkA_len fT a k i
  have hmc := mkT_le a k i
  refine AC.seq ?_
  refine AC.seq ?_
  refine AC.region ?_
  refine AL.cons rfl (Does.move rfl rfl) ?_
  refine AL.cons rfl (Does.move rfl rfl) ?_
  refine AL.cons rfl (Does.lenO (Evl.tmp rfl) rfl rfl und_45) ?_
  refine AL.cons rfl (Does.lss (Evl.tmp rfl) (Evl.tmp rfl) rfl) ?_
  refine AL.nil ?_
  refine (?_ : AC _ _ _ _ _)
  cases hb5 : (decide ((i : Int) < ((mkA fT a k i).length : Int)))
  · have _h := hb5
    have hb5' : ¬ ((i : Int) < ((mkA fT a k i).length : Int)) := of_decide_eq_false hb5
    refine AC.condF (Evl.tmp rfl) ?_
    refine AC.exit ?_
    refine (?_ : AC _ _ _ _ _)
    refine AC.seq ?_
    refine AC.region ?_
    refine AL.cons rfl (Does.move rfl rfl) ?_
    refine AL.cons rfl (Does.assign rfl rfl) ?_
    refine AL.nil ?_
    refine (?_ : AC _ _ _ _ _)
    refine AC.ret ?_
    subst hO
    have e6 : (mkC fT a k i : Int) = (marks fT a k).2 := by
      first | (rw [mkA_end _ (by omega)]; done) | (rw [mkC_end _ (by omega)]; done)
    exact fin_is (lf (dI ((marks fT a k).2))) [(0, some (.arr 146 (.pr (.sl 3 .int) (.sl 3 .int)) ((marks fT a k).1)))] [(0, 0)] (Res.one rfl (Rs.tmp rfl)) (show lf (dI (mkC fT a k i)) = lf (dI ((marks fT a k).2)) by exact (congrArg (fun z_ => lf (dI z_)) e6)) ⟨(show some (Ent.arr 146 (.pr (.sl 3 .int) (.sl 3 .int)) (mkA fT a k i)) = some (Ent.arr 146 (.pr (.sl 3 .int) (.sl 3 .int)) ((marks fT a k).1)) from congrArg (fun z => some (Ent.arr 146 (.pr (.sl 3 .int) (.sl 3 .int)) z)) (by first | (rw [mkA_end _ (by omega)]; done) | (rw [mkC_end _ (by omega)]; done))), trivial⟩ rfl rfl
  · have _h := hb5
    have hb5' : ((i : Int) < ((mkA fT a k i).length : Int)) := of_decide_eq_true hb5
    refine AC.condT (Evl.tmp rfl) ?_
    refine AC.skip ?_
    refine (?_ : AC _ _ _ _ _)
    refine AC.seq ?_
    refine AC.block ?_
    refine AC.seq ?_
    obtain ⟨x, hx⟩ : ∃ z, a[i]? = some z := ⟨_, List.getElem?_eq_getElem (by omega)⟩
    have hxa : (mkA fT a k i)[i]? = some x := mkA_get hx
    have hc0 := (cells_at hxa).2
    have hc1 := (cells_at hxa).1
    have hxl := mkT_at (k := k) hx
    have hp0 : i * 2 + 0 < (cellsL (.pr (.sl 3 .int) (.sl 3 .int)) (mkA fT a k i)).length := by rw [cellsL_len]; exact pos0 (by omega)
    have hp1 : i * 2 + 1 < (cellsL (.pr (.sl 3 .int) (.sl 3 .int)) (mkA fT a k i)).length := by rw [cellsL_len]; exact pos1 (by omega)
    have hp01 : i * 2 + 0 ≠ i * 2 + 1 := by omega
    have hm1 := mI_sum x.1 (mkC fT a k i)
    have hm2 := mI_sum x.2 (marks fI x.1 (mkC fT a k i)).2
    refine AC.wk (Wk.open (q := 0) rfl (by omega)) ?_
    refine AC.wk (Wk.splitX 1 (q := 0) (p := i * 2 + 0) (E' := 3) (e' := .int) (ys := x.1) rfl (hc0) (Fresh.of rfl) (Nat.le_of_ble_eq_true rfl)) ?_
    refine AC.region ?_
    refine AL.cons rfl (Does.move rfl rfl) ?_
    refine AL.cons rfl (Does.move rfl rfl) ?_
    refine AL.cons rfl (Does.indexX (Evl.tmp rfl) rfl (Evl.tmp rfl) und_45 tsh_146 rfl (by omega) (by omega)) ?_
    refine AL.cons rfl (Does.fieldI (Evl.tmp rfl) fld_146_0 rfl rfl) ?_
    refine AL.cons rfl (Does.loadX (Evl.tmp rfl) rfl (show (ovr _ _)[i * 2 + 0]? = some (.ref 1) from by simp only [ovr, List.getElem?_set, List.length_set, hp0, hp1, hp01, hp01.symm, hc0, hc1, eq_self, if_true, if_false, ↓reduceIte]) rfl tsh_72 rfl) ?_
    refine AL.cons rfl (Does.move rfl rfl) ?_
    refine AL.cons rfl (Does.callP 2 [(0, 1)] (fc_laws_markIntS x.1 (mkC fT a k i) (by omega)) enters_35 ⟨_, _, rfl, (Ev.tmp rfl), ⟨_, _, rfl, (Ev.tmp rfl), rfl⟩⟩ ⟨rfl, trivial⟩ rfl ⟨trivial, trivial⟩ (Nat.le_of_ble_eq_true rfl)) ?_
    refine AL.cons rfl (Does.assign rfl rfl) ?_
    refine AL.nil ?_
    refine (?_ : AC _ _ _ _ _)
    refine AC.wk (Wk.joinX (q := 0) (t := 1) (p := i * 2 + 0) rfl (by simp only [ovr, List.getElem?_set, List.length_set, hp0, hp1, hp01, hp01.symm, hc0, hc1, eq_self, if_true, if_false, ↓reduceIte]) rfl) ?_
    refine AC.wk (Wk.splitX 3 (q := 0) (p := i * 2 + 1) (E' := 3) (e' := .int) (ys := x.2) rfl (by simp only [ovr, List.getElem?_set, List.length_set, hp0, hp1, hp01, hp01.symm, hc0, hc1, eq_self, if_true, if_false, ↓reduceIte]) (Fresh.of rfl) (Nat.le_of_ble_eq_true rfl)) ?_
    refine AC.region ?_
    refine AL.cons rfl (Does.move rfl rfl) ?_
    refine AL.cons rfl (Does.move rfl rfl) ?_
    refine AL.cons rfl (Does.indexX (Evl.tmp rfl) rfl (Evl.tmp rfl) und_45 tsh_146 rfl (by omega) (by omega)) ?_
    refine AL.cons rfl (Does.fieldI (Evl.tmp rfl) fld_146_1 rfl rfl) ?_
    refine AL.cons rfl (Does.loadX (Evl.tmp rfl) rfl (show (ovr _ _)[i * 2 + 1]? = some (.ref 3) from by simp only [ovr, List.getElem?_set, List.length_set, hp0, hp1, hp01, hp01.symm, hc0, hc1, eq_self, if_true, if_false, ↓reduceIte]) rfl tsh_72 rfl) ?_
    refine AL.cons rfl (Does.move rfl rfl) ?_
    refine AL.cons rfl (Does.callP 4 [(0, 3)] (fc_laws_markIntS x.2 ((marks fI x.1 (mkC fT a k i)).2) (by omega)) enters_35 ⟨_, _, rfl, (Ev.tmp rfl), ⟨_, _, rfl, (Ev.tmp rfl), rfl⟩⟩ ⟨rfl, trivial⟩ rfl ⟨trivial, trivial⟩ (Nat.le_of_ble_eq_true rfl)) ?_
    refine AL.cons rfl (Does.assign rfl rfl) ?_
    refine AL.nil ?_
    refine (?_ : AC _ _ _ _ _)
    refine AC.wk (Wk.joinX (q := 0) (t := 3) (p := i * 2 + 1) rfl (by simp only [ovr, List.getElem?_set, List.length_set, hp0, hp1, hp01, hp01.symm, hc0, hc1, eq_self, if_true, if_false, ↓reduceIte]) rfl) ?_
    refine AC.wk (Wk.close (q := 0) (e := (.pr (.sl 3 .int) (.sl 3 .int))) ((mkA fT a k i).set i ((marks fI x.1 (mkC fT a k i)).1, (marks fI x.2 (marks fI x.1 (mkC fT a k i)).2).1)) rfl (by simp only [List.length_set]) (by simp only [ovr]; exact tr_close hxa _ _ _ _)) ?_
    refine AC.region ?_
    refine AL.cons rfl (Does.move rfl rfl) ?_
    refine AL.cons rfl (Does.add (Evl.tmp rfl) (Evl.int rfl) rfl (by omega)) ?_
    refine AL.cons rfl (Does.assign rfl rfl) ?_
    refine AL.nil ?_
    exact loop_end (a.length - (i + 1)) ⟨[(0, lf (.ref 0)), (1, lf (dI (mkC fT a k (i + 1)))), (4, lf (dI 0)), (5, lf (dI ((i + 1) : Int)))], [(0, some (.arr 146 (.pr (.sl 3 .int) (.sl 3 .int)) (mkA fT a k (i + 1))))]⟩ (by omega) (Wk.of [(0, 0)] rfl ⟨rfl, (show some (lf (dI ((marks fI x.2 ((marks fI x.1 (mkC fT a k i)).2)).2))) = some (lf (dI (mkC fT a k (i + 1)))) from congrArg (fun z_ => some (lf (dI z_))) ((mkC_succ (f := fT) hx).symm)), rfl, rfl, trivial⟩ ⟨(show some (Ent.arr 146 (.pr (.sl 3 .int) (.sl 3 .int)) ((mkA fT a k i).set i ((marks fI x.1 (mkC fT a k i)).1, (marks fI x.2 (marks fI x.1 (mkC fT a k i)).2).1))) = some (Ent.arr 146 (.pr (.sl 3 .int) (.sl 3 .int)) (mkA fT a k (i + 1))) from congrArg (fun z => some (Ent.arr 146 (.pr (.sl 3 .int) (.sl 3 .int)) z)) (mkA_set (f := fT) hx)), trivial⟩ rfl rfl) ⟨i + 1, by omega, rfl, rfl⟩

set_option maxRecDepth 100000 in
set_option maxHeartbeats 4000000 in
theorem fc_laws_heldTransitionS (a : List (List Int × List Int)) (k : Int) (l : List (List Int × List Int)) (hm : a = (marks fT l k).1) (hk : (0 ≤ k ∧ k + tsum l ≤ 1000000000) ∧ a.length ≤ 1000000000) : FC Try.prog 118 [(false, [.dat (.sl 146 (.pr (.sl 3 .int) (.sl 3 .int))) a]), (false, [dI k])] [] 0 (Pure (lf (dI ((marks fT l k).2)))) := by
  have hla : a.length = l.length := by rw [hm, marks_len]
  obtain ⟨O_, hO⟩ : ∃ x : PV → Tab → Prop, x = Pure (lf (dI ((marks fT l k).2))) := ⟨_, rfl⟩
  refine FC.O_of hO (FC.ren (FC.of Try.func118 rfl rfl fun A_ hn_ hk_ => ?_))
  obtain ⟨w0_, N0_, X_, n_, k0_, h0_, f0_⟩ := A_
  obtain rfl : n_ = 31 := hn_.trans Try.ntmps118
  obtain rfl : k0_ = 0 := hk_
  refine AC.fact (fact_int (x := .tmp 1) (Evl.tmp rfl)) fun hi1 => ?_
  refine AC.seq ?_
  refine AC.region ?_
  refine AL.cons rfl (Does.assignC (Evl.int rfl) rfl) ?_
  refine AL.nil ?_
  refine (?_ : AC _ _ _ _ _)
  refine AC.seq ?_
  refine AC.seq ?_
  refine AC.region ?_
  refine AL.cons rfl (Does.assignC (Evl.int rfl) rfl) ?_
  refine AL.nil ?_
  refine (?_ : AC _ _ _ _ _)
  refine AC.block ?_
  refine AC.wk (s' := ⟨[(0, lf (.dat (.sl 146 (.pr (.sl 3 .int) (.sl 3 .int))) a)), (1, lf (dI (mkC fT l k 0))), (5, lf (dI (0 : Int)))], []⟩) (Wk.of [] rfl ⟨rfl, (show some (lf (dI k)) = some (lf (dI (mkC fT l k 0))) from congrArg (fun z_ => some (lf (dI z_))) (by rw [mkC_0])), rfl, trivial⟩ trivial rfl rfl) ?_
  refine AC.loop (fun m_ s_ => ∃ (i : Nat), i ≤ a.length ∧ m_ = a.length - i ∧ s_ = ⟨[(0, lf (.dat (.sl 146 (.pr (.sl 3 .int) (.sl 3 .int))) a)), (1, lf (dI (mkC fT l k i))), (5, lf (dI (i : Int)))], []⟩) (m := a.length - 0) ⟨0, Nat.zero_le _, rfl, rfl⟩ ?_
  rintro m_ s_ ⟨i, hk3, hm4, rfl⟩
  have hmc := mkT_le l k i
  refine AC.seq ?_
  refine AC.seq ?_
  refine AC.region ?_
  refine AL.cons rfl (Does.move rfl rfl) ?_
  refine AL.cons rfl (Does.move rfl rfl) ?_
  refine AL.fact (fact_len (x := .tmp 7) (Evl.tmp rfl)) fun hl5 => ?_
  refine AL.cons rfl (Does.len (Evl.tmp rfl) rfl und_45) ?_
  refine AL.cons rfl (Does.lss (Evl.tmp rfl) (Evl.tmp rfl) rfl) ?_
  refine AL.nil ?_
  refine (?_ : AC _ _ _ _ _)
  cases hb6 : (decide ((i : Int) < (a.length : Int)))
  · have _h := hb6
    have hb6' : ¬ ((i : Int) < (a.length : Int)) := of_decide_eq_false hb6
    refine AC.condF (Evl.tmp rfl) ?_
    refine AC.exit ?_
    refine (?_ : AC _ _ _ _ _)
    refine AC.seq ?_
    refine AC.region ?_
    refine AL.cons rfl (Does.move rfl rfl) ?_
    refine AL.cons rfl (Does.assign rfl rfl) ?_
    refine AL.nil ?_
    refine (?_ : AC _ _ _ _ _)
    refine AC.ret ?_
    subst hO
    have e7 : (mkC fT l k i : Int) = (marks fT l k).2 := by
      first | (exfalso; omega) | (rw [mkC_end _ (by omega)]; done)
    exact fin_pure (Res.one rfl (Rs.tmp rfl)) ((congrArg (fun z_ => lf (dI z_)) e7)) rfl
  · have _h := hb6
    have hb6' : ((i : Int) < (a.length : Int)) := of_decide_eq_true hb6
    refine AC.condT (Evl.tmp rfl) ?_
    refine AC.skip ?_
    refine (?_ : AC _ _ _ _ _)
    refine AC.seq ?_
    refine AC.block ?_
    refine AC.seq ?_
    refine AC.region ?_
    refine AL.cons rfl (Does.move rfl rfl) ?_
    refine AL.cons rfl (Does.move rfl rfl) ?_
    obtain ⟨x8, hx9⟩ : ∃ z, a[i]? = some z := ⟨_, List.getElem?_eq_getElem (by omega)⟩
    obtain ⟨y, hy, hyx⟩ := held_at hm hx9
    have hy1 : x8.1 = (marks fI y.1 (mkC fT l k i)).1 := by rw [hyx]
    have hy2 : x8.2 = (marks fI y.2 (marks fI y.1 (mkC fT l k i)).2).1 := by rw [hyx]
    have hyl := mkT_at (k := k) hy
    have hm1 := mI_sum y.1 (mkC fT l k i)
    have hm2 := mI_sum y.2 (marks fI y.1 (mkC fT l k i)).2
    have hl1 : x8.1.length = y.1.length := by rw [hy1, marks_len]
    have hl2 : x8.2.length = y.2.length := by rw [hy2, marks_len]
    refine AL.cons rfl (Does.indexE (Evl.tmp rfl) (Evl.tmp rfl) und_45 tsh_146 rfl (by omega) hx9) ?_
    refine AL.cons rfl (Does.fieldE (Evl.tmp rfl) fld_146_0 rfl) ?_
    refine AL.cons rfl (Does.loadE (Evl.tmp rfl) tsh_72 rfl rfl) ?_
    refine AL.cons rfl (Does.move rfl rfl) ?_
    refine AL.cons rfl (Does.call (fc_laws_heldIntS x8.1 (mkC fT l k i) y.1 hy1 (by omega)) enters_36 ⟨_, _, rfl, (Ev.tmp rfl), ⟨_, _, rfl, (Ev.tmp rfl), rfl⟩⟩ rfl rfl) ?_
    refine AL.cons rfl (Does.assign rfl rfl) ?_
    refine AL.nil ?_
    refine (?_ : AC _ _ _ _ _)
    refine AC.seq ?_
    refine AC.seq ?_
    refine AC.region ?_
    refine AL.cons rfl (Does.move rfl rfl) ?_
    refine AL.cons rfl (Does.lss (Evl.tmp rfl) (Evl.int rfl) rfl) ?_
    refine AL.nil ?_
    refine (?_ : AC _ _ _ _ _)
    cases hb10 : (decide (((marks fI y.1 (mkC fT l k i)).2) < 0))
    · have _h := hb10
      have hb10' : ¬ (((marks fI y.1 (mkC fT l k i)).2) < 0) := of_decide_eq_false hb10
      refine AC.condF (Evl.tmp rfl) ?_
      refine AC.skip ?_
      refine (?_ : AC _ _ _ _ _)
      refine AC.seq ?_
      refine AC.region ?_
      refine AL.cons rfl (Does.move rfl rfl) ?_
      refine AL.cons rfl (Does.move rfl rfl) ?_
      refine AL.cons rfl (Does.indexE (Evl.tmp rfl) (Evl.tmp rfl) und_45 tsh_146 rfl (by omega) hx9) ?_
      refine AL.cons rfl (Does.fieldE (Evl.tmp rfl) fld_146_1 rfl) ?_
      refine AL.cons rfl (Does.loadE (Evl.tmp rfl) tsh_72 rfl rfl) ?_
      refine AL.cons rfl (Does.move rfl rfl) ?_
      refine AL.cons rfl (Does.call (fc_laws_heldIntS x8.2 ((marks fI y.1 (mkC fT l k i)).2) y.2 hy2 (by omega)) enters_36 ⟨_, _, rfl, (Ev.tmp rfl), ⟨_, _, rfl, (Ev.tmp rfl), rfl⟩⟩ rfl rfl) ?_
      refine AL.cons rfl (Does.assign rfl rfl) ?_
      refine AL.nil ?_
      refine (?_ : AC _ _ _ _ _)
      refine AC.seq ?_
      refine AC.region ?_
      refine AL.cons rfl (Does.move rfl rfl) ?_
      refine AL.cons rfl (Does.lss (Evl.tmp rfl) (Evl.int rfl) rfl) ?_
      refine AL.nil ?_
      refine (?_ : AC _ _ _ _ _)
      cases hb11 : (decide (((marks fI y.2 ((marks fI y.1 (mkC fT l k i)).2)).2) < 0))
      · have _h := hb11
        have hb11' : ¬ (((marks fI y.2 ((marks fI y.1 (mkC fT l k i)).2)).2) < 0) := of_decide_eq_false hb11
        refine AC.condF (Evl.tmp rfl) ?_
        refine AC.skip ?_
        refine (?_ : AC _ _ _ _ _)
        refine AC.region ?_
        refine AL.cons rfl (Does.move rfl rfl) ?_
        refine AL.cons rfl (Does.add (Evl.tmp rfl) (Evl.int rfl) rfl (by omega)) ?_
        refine AL.cons rfl (Does.assign rfl rfl) ?_
        refine AL.nil ?_
        exact loop_end (a.length - (i + 1)) ⟨[(0, lf (.dat (.sl 146 (.pr (.sl 3 .int) (.sl 3 .int))) a)), (1, lf (dI (mkC fT l k (i + 1)))), (5, lf (dI ((i + 1) : Int)))], []⟩ (by omega) (Wk.of [] rfl ⟨rfl, (show some (lf (dI ((marks fI y.2 ((marks fI y.1 (mkC fT l k i)).2)).2))) = some (lf (dI (mkC fT l k (i + 1)))) from congrArg (fun z_ => some (lf (dI z_))) ((mkC_succ (f := fT) hy).symm)), rfl, trivial⟩ trivial rfl rfl) ⟨i + 1, by omega, rfl, rfl⟩
      · have _h := hb11
        have hb11' : (((marks fI y.2 ((marks fI y.1 (mkC fT l k i)).2)).2) < 0) := of_decide_eq_true hb11
        refine AC.condT (Evl.tmp rfl) ?_
        refine AC.seq ?_
        refine AC.region ?_
        refine AL.cons rfl (Does.assignC (Evl.int rfl) rfl) ?_
        refine AL.nil ?_
        refine (?_ : AC _ _ _ _ _)
        refine AC.ret ?_
        subst hO
        have e13 : ((-1) : Int) = (marks fT l k).2 := by
          first | (exfalso; omega) | (rw [mkC_end _ (by omega)]; done)
        exact fin_pure (Res.one rfl (Rs.tmp rfl)) ((congrArg (fun z_ => lf (dI z_)) e13)) rfl
    · have _h := hb10
      have hb10' : (((marks fI y.1 (mkC fT l k i)).2) < 0) := of_decide_eq_true hb10
      refine AC.condT (Evl.tmp rfl) ?_
      refine AC.seq ?_
      refine AC.region ?_
      refine AL.cons rfl (Does.assignC (Evl.int rfl) rfl) ?_
      refine AL.nil ?_
      refine (?_ : AC _ _ _ _ _)
      refine AC.ret ?_
      subst hO
      have e14 : ((-1) : Int) = (marks fT l k).2 := by
        first | (exfalso; omega) | (rw [mkC_end _ (by omega)]; done)
      exact fin_pure (Res.one rfl (Rs.tmp rfl)) ((congrArg (fun z_ => lf (dI z_)) e14)) rfl

end Go.Proofs.Ytbelopdphlllnaa
