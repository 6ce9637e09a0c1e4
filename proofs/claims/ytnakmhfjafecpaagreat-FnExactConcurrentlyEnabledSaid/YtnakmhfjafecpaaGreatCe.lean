/- laws.FnExactConcurrentlyEnabled walked. -/
import Derived.Test.YtnakmhfjafecpaaGreatCd
import Derived.Test.YtnakmhfjafecpaaGreatWi
import Derived.Test.YtnakmhfjafecpaaGreatBc
set_option linter.unusedSimpArgs false
set_option linter.unusedVariables false
set_option linter.unusedSectionVars false
namespace Go.Proofs.YtnakmhfjafecpaaGreat
open Go.RowKit
set_option maxRecDepth 100000
set_option maxHeartbeats 4000000

theorem elt_eq2 {α : Type} {x y : List α} {k : Nat} {a b : α} (h : x = y) (h1 : x[k]? = some a) (h2 : y[k]? = some b) : a = b := by
  rw [h, h2] at h1; exact (Option.some.inj h1).symm
@[reducible] def fII : List Int → Int → List Int × Int := fun x k => ((marks fI x k).1, (marks fI x k).2)
def isum (a : List (List Int)) : Nat := (a.map List.length).sum
theorem fII_c : ∀ (x : List Int) (k : Int), (fII x k).2 = k + (x.length : Nat) := fun x k => mI_sum x k
theorem mkII_le (a : List (List Int)) (k : Int) (i : Nat) : k ≤ mkC fII a k i ∧ mkC fII a k i ≤ k + isum a := mkC_le _ fII_c a k i
theorem mkII_at {a : List (List Int)} {k : Int} {i : Nat} {x : List Int} (h : a[i]? = some x) : mkC fII a k i + x.length ≤ k + isum a := by
  have h1 := (mkII_le a k (i + 1)).2
  rw [mkC_succ h, fII_c] at h1
  omega
theorem ss_at {ts : List (List Int)} {i : Nat} {x : List Int} (h : ts[i]? = some x) : (cellsL (.sl 3 .int) ts)[i * 1 + 0]? = some (.dat (.sl 3 .int) x) := cellsL_get (e := .sl 3 .int) (j := 0) h rfl
theorem ss_close {ts : List (List Int)} {i : Nat} {x : List Int} (hx : ts[i]? = some x) (a : LV) (ys : List Int) : ((cellsL (.sl 3 .int) ts).set (i * 1 + 0) a).set (i * 1 + 0) (.dat (.sl 3 .int) ys) = cellsL (.sl 3 .int) (ts.set i ys) := by
  rw [List.set_set]
  exact (cellsL_set (e := .sl 3 .int) (j := 0) (x' := ys) hx rfl (by decide)).symm
theorem togS_two {n : DNet} {ms : List ByteArray} : ∀ x ∈ togS n ms, x.length = 2 := fun x hx => by
  unfold togS allS rowS at hx
  simp only [List.mem_flatMap, List.mem_map] at hx
  obtain ⟨_, _, _, _, _, _, rfl⟩ := hx
  rfl
theorem sum_pairs : ∀ {a : List (List Int)}, (∀ x ∈ a, x.length = 2) → isum a = 2 * a.length
  | [], _ => rfl
  | x :: a, h => by
    have h1 := sum_pairs (a := a) fun y hy => h y (List.mem_cons_of_mem _ hy)
    have h2 := h x (List.mem_cons_self ..)
    unfold isum at *
    rw [List.map_cons, List.sum_cons, h1, h2, List.length_cons]; omega
theorem concV_few [∀ s, Decidable (StgOk s)] (s : DSTG) : (concV s).length ≤ 200000 ∧ isum (concV s) = 2 * (concV s).length := by
  refine ⟨?_, sum_pairs fun x hx => togS_two x ((ofG_mem ltP_to _).1 hx)⟩
  cases h : (exploreV s).2 with
  | false => rw [← concV_no h]; exact Nat.zero_le _
  | true =>
    have h1 := ofG_len (lt := ltP) (togS s.1 (exploreV s).1.1)
    have h2 := conc_lenT (k := (exploreV s).1.1.length) h
    rw [List.take_length] at h2
    exact Nat.le_trans h1 h2

theorem fc_laws_eqIntSS (x : List (List Int)) (y : List (List Int)) (h : x = y) : FC Tryz.prog 15 [(false, [.dat (.sl 106 (.sl 3 .int)) x]), (false, [.dat (.sl 106 (.sl 3 .int)) y])] [] 0 (Pure (lB true)) := by
 have hlx : x.length = y.length := by rw [h]
 refine FC.go Tryz.func15 rfl rfl Tryz.ntmps15 fun O_ hO w0_ N0_ X_ h0_ f0_ => ?_
 iterate 6 refine w_ ?_
 refine AL.fact (fact_len (x := .tmp 6) (Evl.tmp rfl)) fun hl1 => ?_
 iterate 2 refine w_ ?_
 refine AL.fact (fact_len (x := .tmp 8) (Evl.tmp rfl)) fun hl2 => ?_
 iterate 3 refine w_ ?_
 cases hb3 : (!decide ((x.length : Int) = (y.length : Int)))
 ·have hb3' : ((x.length : Int) = (y.length : Int)) := nd_false hb3
  iterate 7 refine w_ ?_
  refine AC.loopW (fun m_ s_ => ∃ (k : Nat), k ≤ x.length ∧ m_ = x.length - k ∧ s_ = ⟨[(0, lf (.dat (.sl 106 (.sl 3 .int)) x)), (1, lf (.dat (.sl 106 (.sl 3 .int)) y)), (5, lI (k : Int))], []⟩) ⟨0, Nat.zero_le _, rfl, rfl⟩ ?_ ?_
  · exact Wk.of [] rfl ⟨rfl, rfl, rfl, trivial⟩ trivial rfl rfl
  rintro m_ s_ ⟨k, hk4, hm5, rfl⟩
  iterate 4 refine w_ ?_
  refine AL.fact (fact_len (x := .tmp 12) (Evl.tmp rfl)) fun hl6 => ?_
  iterate 3 refine w_ ?_
  cases hb7 : (decide ((k : Int) < (x.length : Int)))
  ·have hb7' := of_decide_eq_false hb7
   refine w_ ?_
   refine AC.exit ?_
   refine (?_ : AC _ _ _ _ _)
   iterate 3 refine w_ ?_
   refine AC.ret ?_
   subst hO
   exact fin_pure (Res.one rfl (Rs.tmp rfl)) rfl rfl
  ·have hb7' := of_decide_eq_true hb7
   iterate 4 refine w_ ?_
   obtain ⟨a, hx9⟩ : ∃ z, x[k]? = some z := ⟨_, List.getElem?_eq_getElem (by omega)⟩
   obtain ⟨b, hx11⟩ : ∃ z, y[k]? = some z := ⟨_, List.getElem?_eq_getElem (by omega)⟩
   refine dw [io 17 (lf (.dat (.sl 106 (.sl 3 .int)) x)), io 18 (lI (k : Int)), io 19 (lf (.elt (.sl 3 .int) a 0)), io 20 (lf (.dat (.sl 3 .int) a)), io 21 (lf (.dat (.sl 106 (.sl 3 .int)) y)), io 22 (lI (k : Int)), io 23 (lf (.elt (.sl 3 .int) b 0)), io 24 (lf (.dat (.sl 3 .int) b)), io 25 (lB true), io 26 (lB false)] [0, 0, 3, 7, 0, 0, 48, 112, 255, 511] mixed rfl (by kernel_rfl) ⟨dxm rfl rfl, dxm rfl rfl, fun _ h_ => ac (Does.indexE (h_.v rfl) (h_.v rfl) und_30 tsh_106 rfl (by omega) hx9) rfl, fun _ h_ => ac (Does.loadE (h_.v rfl) tsh_106 rfl rfl) rfl, dxm rfl rfl, dxm rfl rfl, fun _ h_ => ac (Does.indexE (h_.v rfl) (h_.v rfl) und_30 tsh_106 rfl (by omega) hx11) rfl, fun _ h_ => ac (Does.loadE (h_.v rfl) tsh_106 rfl rfl) rfl, fun _ h_ => ac (Does.call (fc_eqIntS a b (elt_eq2 h hx9 hx11)) enters_58 ⟨_, _, rfl, (h_.w rfl), ⟨_, _, rfl, (h_.w rfl), rfl⟩⟩ rfl rfl) rfl, fun _ h_ => ac (Does.not (h_.v rfl) rfl) rfl, ⟨⟩⟩ ?_
   refine w_ ?_
   refine AC.skip ?_
   refine (?_ : AC _ _ _ _ _)
   iterate 4 refine w_ ?_
   refine AL.nil <| lend ⟨k + 1, by omega, rfl, rfl⟩ (by omega) ?_
   exact Wk.of [] rfl ⟨rfl, rfl, rfl, trivial⟩ trivial rfl rfl
 ·have hb3' : ¬ ((x.length : Int) = (y.length : Int)) := nd_true hb3
  iterate 4 refine w_ ?_
  refine AC.ret ?_
  subst hO
  have e12 : (false : Bool) = true := by
   (exfalso; simp_all; done)
  exact fin_pure (Res.one rfl (Rs.tmp rfl)) ((congrArg (fun z_ => lB z_) e12)) rfl

theorem fc_laws_markIntSS (a : List (List Int)) (k : Int) (hk : (0 ≤ k ∧ k + isum a ≤ 1000000000) ∧ a.length ≤ 1000000000) : FC Tryz.prog 18 [(false, [.ref 0]), (false, [dI k])] [(0, some (.arr 106 (.sl 3 .int) a))] 1 (Is (lI ((marks fII a k).2)) [(0, some (.arr 106 (.sl 3 .int) ((marks fII a k).1)))]) := by
 refine FC.go Tryz.func18 rfl rfl Tryz.ntmps18 fun O_ hO w0_ N0_ X_ h0_ f0_ => ?_
 refine AC.fact (fact_int (x := .tmp 1) (Evl.tmp rfl)) fun hi1 => ?_
 iterate 8 refine w_ ?_
 refine AC.loopW (fun m_ s_ => ∃ (i : Nat), i ≤ a.length ∧ m_ = a.length - i ∧ s_ = ⟨[(0, lR 0), (1, lI (mkC fII a k i)), (4, lI 0), (5, lI (i : Int))], [(0, some (.arr 106 (.sl 3 .int) (mkA fII a k i)))]⟩) ⟨0, Nat.zero_le _, rfl, rfl⟩ ?_ ?_
 · exact Wk.of [(0, 0)] rfl ⟨rfl, (show some (lI k) = some (lI (mkC fII a k 0)) from congrArg (fun z_ => some (lI z_)) (by rw [mkC_0])), rfl, rfl, trivial⟩ ⟨(entE (mkA_0 fII a k)), trivial⟩ rfl rfl
 rintro m_ s_ ⟨i, hk3, hm4, rfl⟩
 have hml := mkA_len fII a k i
 have hmc := mkII_le a k i
 iterate 7 refine w_ ?_
 cases hb5 : (decide ((i : Int) < ((mkA fII a k i).length : Int)))
 ·have hb5' := of_decide_eq_false hb5
  refine w_ ?_
  refine AC.exit ?_
  refine (?_ : AC _ _ _ _ _)
  iterate 4 refine w_ ?_
  refine AC.ret ?_
  subst hO
  have e6 : (mkC fII a k i : Int) = ((marks fII a k).2) := by
   (rw [mkC_end _ (by omega)]; done)
  exact fin_is _ _ [(0, 0)] (Res.one rfl (Rs.tmp rfl)) ((congrArg (fun z_ => lI z_) e6)) ⟨(entE (by (rw [mkA_end _ (by omega)]; done))), trivial⟩ rfl rfl
 ·have hb5' := of_decide_eq_true hb5
  iterate 4 refine w_ ?_
  obtain ⟨x, hx⟩ : ∃ z, a[i]? = some z := ⟨_, List.getElem?_eq_getElem (by omega)⟩
  have hxa : (mkA fII a k i)[i]? = some x := mkA_get hx
  have hc0 := ss_at hxa
  have hxl := mkII_at (k := k) hx
  have hp0 : i * 1 + 0 < (cellsL (.sl 3 .int) (mkA fII a k i)).length := by rw [cellsL_len]; show _ < _ * 1; omega
  have hm1 := mI_sum x (mkC fII a k i)
  refine AC.wk (Wk.open (q := 0) rfl (by omega)) <| AC.wk (Wk.splitX 1 (q := 0) (p := i * 1 + 0) (E' := 3) (e' := .int) (ys := x) rfl (hc0) (Fresh.of rfl) (Nat.le_of_ble_eq_true rfl)) ?_
  iterate 3 refine w_ ?_
  refine lc (Does.indexX (Evl.tmp rfl) rfl (Evl.tmp rfl) und_30 tsh_106 rfl (by omega) (by omega)) ?_
  refine lc (Does.loadX (Evl.tmp rfl) rfl (show (ovr _ _)[i * 1 + 0]? = some (.ref 1) from by simp only [ovr, List.getElem?_set, List.length_set, hp0, hc0, eq_self, if_true, if_false, ↓reduceIte]) rfl tsh_106 rfl) ?_
  refine w_ ?_
  refine lc (Does.callP 2 [(0, 1)] (fc_laws_markIntS x (mkC fII a k i) (by omega)) enters_65 ⟨_, _, rfl, (Ev.tmp rfl), ⟨_, _, rfl, (Ev.tmp rfl), rfl⟩⟩ ⟨rfl, trivial⟩ rfl ⟨trivial, trivial⟩ (nlr rfl)) ?_
  refine w_ ?_
  refine AL.nil ?_
  refine (?_ : AC _ _ _ _ _)
  refine AC.wk (Wk.joinX (q := 0) (t := 1) (p := i * 1 + 0) rfl (by simp only [ovr, List.getElem?_set, List.length_set, hp0, hc0, eq_self, if_true, if_false, ↓reduceIte]) rfl) ?_
  refine AC.wk (Wk.close (q := 0) (e := (.sl 3 .int)) ((mkA fII a k i).set i (marks fI x (mkC fII a k i)).1) rfl (by simp only [List.length_set]) (by simp only [ovr]; exact ss_close hxa _ _)) ?_
  iterate 4 refine w_ ?_
  refine AL.nil <| lend ⟨i + 1, by omega, rfl, rfl⟩ (by omega) ?_
  exact Wk.of [(0, 0)] rfl ⟨rfl, (show some (lI ((marks fI x (mkC fII a k i)).2)) = some (lI (mkC fII a k (i + 1))) from congrArg (fun z_ => some (lI z_)) ((mkC_succ (f := fII) hx).symm)), rfl, rfl, trivial⟩ ⟨(entE (mkA_set (f := fII) hx)), trivial⟩ rfl rfl

theorem fc_laws_heldIntSS (a : List (List Int)) (k : Int) (l : List (List Int)) (hm : a = (marks fII l k).1) (hk : (0 ≤ k ∧ k + isum l ≤ 1000000000) ∧ a.length ≤ 1000000000) : FC Tryz.prog 19 [(false, [.dat (.sl 106 (.sl 3 .int)) a]), (false, [dI k])] [] 0 (Pure (lI ((marks fII l k).2))) := by
 have hla : a.length = l.length := by rw [hm, marks_len]
 refine FC.go Tryz.func19 rfl rfl Tryz.ntmps19 fun O_ hO w0_ N0_ X_ h0_ f0_ => ?_
 refine AC.fact (fact_int (x := .tmp 1) (Evl.tmp rfl)) fun hi1 => ?_
 iterate 8 refine w_ ?_
 refine AC.loopW (fun m_ s_ => ∃ (i : Nat), i ≤ a.length ∧ m_ = a.length - i ∧ s_ = ⟨[(0, lf (.dat (.sl 106 (.sl 3 .int)) a)), (1, lI (mkC fII l k i)), (5, lI (i : Int))], []⟩) ⟨0, Nat.zero_le _, rfl, rfl⟩ ?_ ?_
 · exact Wk.of [] rfl ⟨rfl, (show some (lI k) = some (lI (mkC fII l k 0)) from congrArg (fun z_ => some (lI z_)) (by rw [mkC_0])), rfl, trivial⟩ trivial rfl rfl
 rintro m_ s_ ⟨i, hk3, hm4, rfl⟩
 have hmc := mkII_le l k i
 iterate 4 refine w_ ?_
 refine AL.fact (fact_len (x := .tmp 7) (Evl.tmp rfl)) fun hl5 => ?_
 iterate 3 refine w_ ?_
 cases hb6 : (decide ((i : Int) < (a.length : Int)))
 ·have hb6' := of_decide_eq_false hb6
  refine w_ ?_
  refine AC.exit ?_
  refine (?_ : AC _ _ _ _ _)
  iterate 4 refine w_ ?_
  refine AC.ret ?_
  subst hO
  have e7 : (mkC fII l k i : Int) = ((marks fII l k).2) := by
   (rw [mkC_end _ (by omega)]; done)
  exact fin_pure (Res.one rfl (Rs.tmp rfl)) ((congrArg (fun z_ => lI z_) e7)) rfl
 ·have hb6' := of_decide_eq_true hb6
  iterate 7 refine w_ ?_
  obtain ⟨x8, hx9⟩ : ∃ z, a[i]? = some z := ⟨_, List.getElem?_eq_getElem (by omega)⟩
  obtain ⟨y, hy, hyx⟩ := held_at hm hx9
  have hyl := mkII_at (k := k) hy
  have hm1 := mI_sum y (mkC fII l k i)
  have hl1 : x8.length = y.length := by rw [hyx, marks_len]
  refine lc (Does.indexE (Evl.tmp rfl) (Evl.tmp rfl) und_30 tsh_106 rfl (by omega) hx9) ?_
  iterate 2 refine w_ ?_
  refine lc (Does.call (fc_laws_heldIntS x8 (mkC fII l k i) y hyx (by omega)) enters_66 ⟨_, _, rfl, (Ev.tmp rfl), ⟨_, _, rfl, (Ev.tmp rfl), rfl⟩⟩ rfl rfl) ?_
  iterate 6 refine w_ ?_
  cases hb10 : (decide (((marks fI y (mkC fII l k i)).2) < 0))
  ·have hb10' := of_decide_eq_false hb10
   refine w_ ?_
   refine AC.skip ?_
   refine (?_ : AC _ _ _ _ _)
   iterate 4 refine w_ ?_
   refine AL.nil <| lend ⟨i + 1, by omega, rfl, rfl⟩ (by omega) ?_
   exact Wk.of [] rfl ⟨rfl, (show some (lI ((marks fI y (mkC fII l k i)).2)) = some (lI (mkC fII l k (i + 1))) from congrArg (fun z_ => some (lI z_)) ((mkC_succ (f := fII) hy).symm)), rfl, trivial⟩ trivial rfl rfl
  ·have hb10' := of_decide_eq_true hb10
   iterate 4 refine w_ ?_
   refine AC.ret ?_
   subst hO
   have e12 : ((-1) : Int) = ((marks fII l k).2) := by
    (exfalso; omega)
   exact fin_pure (Res.one rfl (Rs.tmp rfl)) ((congrArg (fun z_ => lI z_) e12)) rfl

theorem fc_laws_FnExactConcurrentlyEnabled (aS : (Int × (List (List Int × List Int))) × (List (ByteArray × Int)) × (List (Int × Bool)) × ByteArray)  : FC Tryz.prog 3 [(true, [dI aS.1.1, .dat (.sl 222 (.pr (.sl 3 .int) (.sl 3 .int))) aS.1.2, .dat (.sl 153 (.pr .str .int)) aS.2.1, .dat (.sl 51 (.pr .int .bool)) aS.2.2.1, dS aS.2.2.2])] [] 0 (Pure (lB true)) := by
 classical
 have hs := szv_spec 1048576 (Ty.tot lSTG aS)
 have ht : Ty.tot tSTG aS = Ty.tot lSTG aS := rfl
 have hc := mSTG_cnt aS 1
 obtain ⟨hv1, hv2⟩ := concV_few aS
 have hms := mkC_sum _ fII_c (concV aS) 1
 have hms2 := (mkII_le (concV aS) 1 (concV aS).length)
 refine FC.go Tryz.func3 rfl rfl Tryz.ntmps3 fun O_ hO w0_ N0_ X_ h0_ f0_ => ?_
 refine AC.fact (fact_ag (x := .tmp 0) (i := 0) (Ev.tmp rfl) rfl) fun hi1 => ?_
 refine w_ ?_
 refine lc (Does.box 0 (Ev.tmp rfl) rfl rfl (Fresh.of rfl) (nlr rfl)) ?_
 iterate 8 refine w_ ?_
 refine lc (Does.call (fc_szSTG aS 1048576 (by omega) (by omega)) enters_11 ⟨_, _, rfl, (Ev.tmp rfl), ⟨_, _, rfl, (Ev.tmp rfl), rfl⟩⟩ rfl rfl) ?_
 iterate 7 refine w_ ?_
 cases hb2 : (decide ((szv 1048576 (Ty.tot lSTG aS)) < 0))
 ·have hb2' := of_decide_eq_false hb2
  iterate 4 refine w_ ?_
  refine lc (Does.callG 1 (fc_toSTG aS (by omega)) enters_13 ⟨_, _, rfl, (Ev.tmp rfl), rfl⟩ rfl rfl ⟨Fresh.of rfl, Fresh.of rfl, Fresh.of rfl, trivial⟩ (nlr rfl)) <| lc (Does.callGB 4 (fc_spec_ConcurrentlyEnabled aS) enters_12 ⟨_, _, rfl, (Ev.ob (Ev.tmp rfl) ⟨_, _, rfl, .inl rfl, ⟨_, _, rfl, .inr ⟨_, _, _, _, rfl, rfl, rfl⟩, ⟨_, _, rfl, .inr ⟨_, _, _, _, rfl, rfl, rfl⟩, ⟨_, _, rfl, .inr ⟨_, _, _, _, rfl, rfl, rfl⟩, ⟨_, _, rfl, .inl rfl, rfl⟩⟩⟩⟩⟩), rfl⟩ rfl rfl rfl ⟨Fresh.of rfl, trivial⟩ (nlr rfl)) ?_
  iterate 8 refine w_ ?_
  refine lc (Does.callG 5 (fc_toSTG aS (by omega)) enters_13 ⟨_, _, rfl, (Ev.tmp rfl), rfl⟩ rfl rfl ⟨Fresh.of rfl, Fresh.of rfl, Fresh.of rfl, trivial⟩ (nlr rfl)) <| lc (Does.alloc 8 (.pr (.pr .int (.sl 159 (.pr (.sl 3 .int) (.sl 3 .int)))) (.pr (.sl 145 (.pr .str .int)) (.pr (.sl 61 (.pr .int .bool)) .str))) zer_39 rfl rfl (Fresh.of rfl) (nlr rfl)) <| lc (Does.storeP (Evl.tmp rfl) rfl (Ev.tmp rfl) rfl tsh_39 rfl) ?_
  iterate 3 refine w_ ?_
  refine lc (Does.callGB 9 (fc_impl_ConcurrentlyEnabled aS) enters_14 ⟨_, _, rfl, (Ev.ob (Ev.tmp rfl) ⟨_, _, rfl, .inl rfl, ⟨_, _, rfl, .inr ⟨_, _, _, _, rfl, rfl, rfl⟩, ⟨_, _, rfl, .inr ⟨_, _, _, _, rfl, rfl, rfl⟩, ⟨_, _, rfl, .inr ⟨_, _, _, _, rfl, rfl, rfl⟩, ⟨_, _, rfl, .inl rfl, rfl⟩⟩⟩⟩⟩), rfl⟩ rfl rfl rfl ⟨Fresh.of rfl, trivial⟩ (nlr rfl)) ?_
  iterate 10 refine w_ ?_
  refine lc (Does.callB (fc_laws_eqIntSS (concV aS) (concV aS) rfl) enters_15 ⟨_, _, rfl, (Evl.ob (Evl.tmp rfl) rfl), ⟨_, _, rfl, (Evl.ob (Evl.tmp rfl) rfl), rfl⟩⟩ rfl rfl rfl) ?_
  iterate 4 refine w_ ?_
  refine lgy rfl rfl (Does.neqB (Evl.tmp rfl) (Evl.tmp rfl) rfl und_4) ?_
  iterate 2 refine w_ ?_
  cases hb3 : (((exploreV aS).2) == ((exploreV aS).2))
  ·iterate 4 refine w_ ?_
   refine AC.ret ?_
   subst hO
   have e4 : (false : Bool) = true := by
    exfalso; first | omega | (simp at hb3; done)
   exact fin_pure (Res.one rfl (Rs.tmp rfl)) ((congrArg (fun z_ => lB z_) e4)) rfl
  ·iterate 3 refine w_ ?_
   refine dw [io 41 (ag [dI aS.1.1, .ref 5, .ref 6, .ref 7, dS aS.2.2.2]), io 42 (ag [dI aS.1.1, .dat (.sl 222 (.pr (.sl 3 .int) (.sl 3 .int))) aS.1.2, .dat (.sl 153 (.pr .str .int)) aS.2.1, .dat (.sl 51 (.pr .int .bool)) aS.2.2.1, dS aS.2.2.2]), ⟨some 43, ag [dI aS.1.1, .ref 10, .ref 11, .ref 12, dS aS.2.2.2], [(10, some (.arr 159 (.pr (.sl 3 .int) (.sl 3 .int)) aS.1.2)), (11, some (.arr 145 (.pr .str .int) aS.2.1)), (12, some (.arr 61 (.pr .int .bool) aS.2.2.1))]⟩, io 44 (lB true), io 45 (lB false)] [0, 0, 2, 7, 15] mixed rfl (by kernel_rfl) ⟨dxa tsh_39 rfl rfl rfl rfl, dxa tsh_28 rfl rfl rfl rfl, fun _ h_ => ac (Does.callG 10 (fc_toSTG aS (by omega)) enters_13 ⟨_, _, rfl, (h_.w rfl), rfl⟩ rfl rfl ⟨(h_.fr 10 rfl), (h_.fr 11 rfl), (h_.fr 12 rfl), trivial⟩ (nlr rfl)) rfl, fun _ h_ => ac (Does.callB (fc_eqSTG aS aS rfl) enters_16 ⟨_, _, rfl, (Ev.ob (h_.w rfl) ⟨_, _, rfl, .inl rfl, ⟨_, _, rfl, .inr ⟨_, _, _, _, rfl, (h_.n 5 rfl), rfl⟩, ⟨_, _, rfl, .inr ⟨_, _, _, _, rfl, (h_.n 6 rfl), rfl⟩, ⟨_, _, rfl, .inr ⟨_, _, _, _, rfl, (h_.n 7 rfl), rfl⟩, ⟨_, _, rfl, .inl rfl, rfl⟩⟩⟩⟩⟩), ⟨_, _, rfl, (Ev.ob (h_.w rfl) ⟨_, _, rfl, .inl rfl, ⟨_, _, rfl, .inr ⟨_, _, _, _, rfl, (h_.n 10 rfl), rfl⟩, ⟨_, _, rfl, .inr ⟨_, _, _, _, rfl, (h_.n 11 rfl), rfl⟩, ⟨_, _, rfl, .inr ⟨_, _, _, _, rfl, (h_.n 12 rfl), rfl⟩, ⟨_, _, rfl, .inl rfl, rfl⟩⟩⟩⟩⟩), rfl⟩⟩ rfl rfl rfl) rfl, fun _ h_ => ac (Does.not (h_.v rfl) rfl) rfl, ⟨⟩⟩ ?_
   iterate 8 refine w_ ?_
   refine lc (Does.callP 13 [(0, 5), (1, 6), (2, 7)] (fc_laws_markSTG aS 1 (mark_ok (by omega))) enters_17 ⟨_, _, rfl, (Ev.tmp rfl), ⟨_, _, rfl, (Ev.tmp rfl), rfl⟩⟩ ⟨rfl, rfl, rfl, trivial⟩ rfl ⟨trivial, trivial, trivial, trivial⟩ (nlr rfl)) ?_
   iterate 7 refine w_ ?_
   cases hb5 : (decide (((mSTG aS 1).2) < 0))
   ·have hb5' := of_decide_eq_false hb5
    iterate 2 refine w_ ?_
    refine lgy rfl rfl (Does.callB (fc_laws_eqIntSS (concV aS) (concV aS) rfl) enters_15 ⟨_, _, rfl, (Evl.ob (Evl.tmp rfl) rfl), ⟨_, _, rfl, (Evl.ob (Evl.tmp rfl) rfl), rfl⟩⟩ rfl rfl rfl) ?_
    iterate 5 refine w_ ?_
    refine lgy rfl rfl (Does.neqB (Evl.tmp rfl) (Evl.tmp rfl) rfl und_4) ?_
    iterate 2 refine w_ ?_
    have hb6 : (((exploreV aS).2) == ((exploreV aS).2)) = true := hb3
    try rw [hb6]
    iterate 8 refine w_ ?_
    refine lc (Does.callP 16 [(0, 9)] (fc_laws_markIntSS (concV aS) 1 (by omega)) enters_18 ⟨_, _, rfl, (Ev.tmp rfl), ⟨_, _, rfl, (Ev.tmp rfl), rfl⟩⟩ ⟨rfl, trivial⟩ rfl ⟨trivial, trivial⟩ (nlr rfl)) ?_
    iterate 8 refine w_ ?_
    refine lc (Does.callB (fc_laws_heldIntSS ((marks fII (concV aS) 1).1) 1 (concV aS) rfl (by rw [marks_len]; omega)) enters_19 ⟨_, _, rfl, (Evl.ob (Evl.tmp rfl) rfl), ⟨_, _, rfl, (Ev.b (Ev.tmp rfl)), rfl⟩⟩ rfl rfl rfl) ?_
    iterate 7 refine w_ ?_
    cases hb7 : (decide (((marks fII (concV aS) 1).2) < 0))
    ·have hb7' := of_decide_eq_false hb7
     iterate 8 refine w_ ?_
     cases hb8 : (!decide (((marks fII (concV aS) 1).2) = ((marks fII (concV aS) 1).2)))
     ·have hb8' : (((marks fII (concV aS) 1).2) = ((marks fII (concV aS) 1).2)) := nd_false hb8
      iterate 4 refine w_ ?_
      refine lc (Does.callG 17 (fc_toSTG aS (by omega)) enters_13 ⟨_, _, rfl, (Ev.tmp rfl), rfl⟩ rfl rfl ⟨Fresh.of rfl, Fresh.of rfl, Fresh.of rfl, trivial⟩ (nlr rfl)) <| lc (Does.callGB 20 (fc_impl_ConcurrentlyEnabled aS) enters_14 ⟨_, _, rfl, (Ev.ob (Ev.tmp rfl) ⟨_, _, rfl, .inl rfl, ⟨_, _, rfl, .inr ⟨_, _, _, _, rfl, rfl, rfl⟩, ⟨_, _, rfl, .inr ⟨_, _, _, _, rfl, rfl, rfl⟩, ⟨_, _, rfl, .inr ⟨_, _, _, _, rfl, rfl, rfl⟩, ⟨_, _, rfl, .inl rfl, rfl⟩⟩⟩⟩⟩), rfl⟩ rfl rfl rfl ⟨Fresh.of rfl, trivial⟩ (nlr rfl)) ?_
      iterate 10 refine w_ ?_
      refine lc (Does.callB (fc_laws_eqIntSS (concV aS) (concV aS) rfl) enters_15 ⟨_, _, rfl, (Evl.ob (Evl.tmp rfl) rfl), ⟨_, _, rfl, (Evl.ob (Evl.tmp rfl) rfl), rfl⟩⟩ rfl rfl rfl) ?_
      iterate 4 refine w_ ?_
      refine lgy rfl rfl (Does.neqB (Evl.tmp rfl) (Evl.tmp rfl) rfl und_4) ?_
      iterate 2 refine w_ ?_
      have hb9 : (((exploreV aS).2) == ((exploreV aS).2)) = true := hb3
      try rw [hb9]
      iterate 8 refine w_ ?_
      refine lc (Does.callB (fc_laws_heldIntSS ((marks fII (concV aS) 1).1) 1 (concV aS) rfl (by rw [marks_len]; omega)) enters_19 ⟨_, _, rfl, (Evl.ob (Evl.tmp rfl) rfl), ⟨_, _, rfl, (Ev.b (Ev.tmp rfl)), rfl⟩⟩ rfl rfl rfl) ?_
      iterate 7 refine w_ ?_
      have hb10 : (decide (((marks fII (concV aS) 1).2) < 0)) = false := hb7
      try rw [hb10]
      iterate 8 refine w_ ?_
      have hb11 : (!decide (((marks fII (concV aS) 1).2) = ((marks fII (concV aS) 1).2))) = false := nb_to (nb_of hb8)
      try rw [hb11]
      iterate 5 refine w_ ?_
      refine AC.ret ?_
      subst hO
      exact fin_pure (Res.one rfl (Rs.tmp rfl)) rfl rfl
     ·have hb8' : ¬ (((marks fII (concV aS) 1).2) = ((marks fII (concV aS) 1).2)) := nd_true hb8
      iterate 4 refine w_ ?_
      refine AC.ret ?_
      subst hO
      have e12 : (false : Bool) = true := by
       exfalso; first | omega | (simp at hb11; done)
      exact fin_pure (Res.one rfl (Rs.tmp rfl)) ((congrArg (fun z_ => lB z_) e12)) rfl
    ·have hb7' := of_decide_eq_true hb7
     iterate 4 refine w_ ?_
     refine AC.ret ?_
     subst hO
     have e13 : (false : Bool) = true := by
      exfalso; first | omega | (simp at hb11; done)
     exact fin_pure (Res.one rfl (Rs.tmp rfl)) ((congrArg (fun z_ => lB z_) e13)) rfl
   ·have hb5' := of_decide_eq_true hb5
    iterate 15 refine w_ ?_
    refine AC.ret ?_
    subst hO
    have e14 : (false : Bool) = true := by
     exfalso; first | omega | (simp at hb11; done)
    exact fin_pure (Res.one rfl (Rs.tmp rfl)) ((congrArg (fun z_ => lB z_) e14)) rfl
 ·have hb2' := of_decide_eq_true hb2
  iterate 4 refine w_ ?_
  refine AC.ret ?_
  subst hO
  exact fin_pure (Res.one rfl (Rs.tmp rfl)) rfl rfl

end Go.Proofs.YtnakmhfjafecpaaGreat
