/- Walks over abstract states: what is enabled together, both sides. -/
import Derived.Test.YtnakmhfjafecpaaGreatCb
import Derived.Test.YtnakmhfjafecpaaGreatWy
import Derived.Test.YtnakmhfjafecpaaGreatWj
set_option linter.unusedSimpArgs false
set_option linter.unusedVariables false
set_option linter.unusedSectionVars false
namespace Go.Proofs.YtnakmhfjafecpaaGreat
open Go.RowKit
set_option maxRecDepth 100000
set_option maxHeartbeats 4000000

theorem picks_inc {α : Type} (f : α → Bool) (l : List α) : ∀ k, (picks f l k).Pairwise (· < ·)
  | 0 => List.Pairwise.nil
  | k + 1 => by
    unfold picks
    have h : ∀ x ∈ picks f l k, x < (k : Int) := fun x hx => by obtain ⟨_, _, _, h, _⟩ := picks_mem hx; exact h
    refine List.pairwise_append.2 ⟨picks_inc f l k, ?_, fun x hx y hy => ?_⟩
    · split
      · split <;> simp
      · simp
    · split at hy
      · split at hy
        · rw [List.mem_singleton.1 hy]; exact h x hx
        · cases hy
      · cases hy
section
variable {n : DNet} {k i j m : Nat} {mk : ByteArray} {t u : Int} {on l : List Int} {s : DSTG} {xt xu : DTransition} {ms : List ByteArray} {as_ : List (List Int)}
theorem enbs_inc : (enbs n mk).Pairwise (· < ·) := picks_inc ..
theorem inc_drop {P : Int → Bool} (h : on.Pairwise (· < ·)) (hx : on[i]? = some t) : (on.filter fun u => decide (t < u) && P u) = (on.drop (i + 1)).filter P := by
  induction on generalizing i with
  | nil => cases hx
  | cons y on ih =>
    obtain ⟨h1, h2⟩ := List.pairwise_cons.1 h
    cases i with
    | zero =>
      cases hx
      rw [List.filter_cons, if_neg (by simp), List.drop_succ_cons, List.drop_zero]
      exact List.filter_congr fun u hu => by simp [h1 u hu]
    | succ i =>
      have h3 : on[i]? = some t := hx
      rw [List.filter_cons, if_neg (by have := h1 t (List.mem_of_getElem? h3); simp; omega), List.drop_succ_cons]
      exact ih h2 h3
theorem rowI_eq (h : on.Pairwise (· < ·)) (hx : on[i]? = some t) : rowI n t (on.drop (i + 1)) = rowS n t on := by unfold rowI rowS; rw [inc_drop h hx]
theorem allI_upto (h : on.Pairwise (· < ·)) : ∀ k, k ≤ on.length → allI n on k = allS n on (on.take k)
  | 0, _ => rfl
  | k + 1, hk => by
    have hx := List.getElem?_eq_getElem (l := on) (i := k) (by omega)
    rw [← allS_succ hx, ← allI_upto h k (by omega)]
    unfold allI
    rw [List.range_succ, List.flatMap_append]
    simp only [List.flatMap_cons, List.flatMap_nil, List.append_nil]
    rw [hx, Option.getD_some, rowI_eq h hx]
theorem allI_eq (h : on.Pairwise (· < ·)) (hk : k = on.length) : allI n on k = allS n on on := by rw [allI_upto h k (by omega), hk, List.take_length]
theorem rowI_yes (hx : l[k]? = some u) (h1 : n.2[t.toNat]? = some xt) (h2 : n.2[u.toNat]? = some xu) (h : (!(xt.1.any fun z => xu.1.any fun y => decide (z = y))) = true) : rowI n t (l.take k) ++ [[t, u]] = rowI n t (l.take (k + 1)) := by
  unfold rowI
  rw [take_snoc hx, List.filter_append, List.map_append]
  have : shV n t u = false := by
    rw [shV_at h1 h2]
    simp only [Bool.not_eq_true', List.any_eq_false, decide_eq_true_eq] at h ⊢
    intro z hz hu
    exact h z hz (List.any_eq_true.2 ⟨z, hu, by simp⟩)
  simp [this]
theorem rowI_no (hx : l[k]? = some u) (h1 : n.2[t.toNat]? = some xt) (h2 : n.2[u.toNat]? = some xu) (h : (!(xt.1.any fun z => xu.1.any fun y => decide (z = y))) = false) : rowI n t (l.take k) = rowI n t (l.take (k + 1)) := by
  unfold rowI
  rw [take_snoc hx, List.filter_append, List.map_append]
  have : shV n t u = true := by
    rw [shV_at h1 h2]
    simp only [Bool.not_eq_false', List.any_eq_true, decide_eq_true_eq] at h ⊢
    obtain ⟨z, hz, y, hy, rfl⟩ := h
    exact ⟨z, hz, hy⟩
  simp [this]
/-- What is enabled together: sorted, each pair once. -/
def concV [∀ s, Decidable (StgOk s)] (s : DSTG) : List (List Int) := ofG ltP (togS s.1 (exploreV s).1.1)
theorem concV_no [∀ s, Decidable (StgOk s)] (h : (exploreV s).2 = false) : [] = concV s := by unfold concV; rw [exploreV_noM h]; rfl
theorem two_max (h : t < u) : [min t u, max t u] = [t, u] := by rw [show min t u = t by omega, show max t u = u by omega]
theorem conc_len3 (hn : n.2.length ≤ 24) (hk : k ≤ ms.length) (hm : ms.length ≤ 300) (he : on.length ≤ 24) (hi : i ≤ on.length) (hj : l.length ≤ 24) : (togS n (ms.take k) ++ allS n on (on.take i) ++ rowS n t l).length ≤ 200000 := by
  have h1 := togS_len (n := n) (ms := ms.take k) hn
  have h2 := allS_len (n := n) (on := on) (l := on.take i) he
  have h3 := rowS_len (n := n) (t := t) (l := l)
  simp only [List.length_append, List.length_take] at *
  omega
end

theorem fc_spec_l26Pairs (s : (Int × (List (List Int × List Int))) × (List (ByteArray × Int)) × (List (Int × Bool)) × ByteArray) (r : List ByteArray × (List (Int × Int × Int))) (hB : ∀ m ∈ r.1, ∀ t ∈ s.1.2, PlOk m t.1 ∧ PlOk m t.2) (hn : s.1.2.length ≤ 24) (hr : r.1.length ≤ 300) : FC Tryz.prog 53 [(true, [dI s.1.1, .dat (.sl 159 (.pr (.sl 3 .int) (.sl 3 .int))) s.1.2, .dat (.sl 145 (.pr .str .int)) s.2.1, .dat (.sl 61 (.pr .int .bool)) s.2.2.1, dS s.2.2.2]), (true, [.dat (.sl 9 .str) r.1, .dat (.sl 226 (.pr .int (.pr .int .int))) r.2])] [] 0 (Own1 106 (.sl 3 .int) (ofG ltP (togS s.1 r.1))) := by
 refine FC.go Tryz.func53 rfl rfl Tryz.ntmps53 fun O_ hO w0_ N0_ X_ h0_ f0_ => ?_
 refine AC.fact (fact_ag (x := .tmp 0) (i := 0) (Ev.tmp rfl) rfl) fun hi1 => ?_
 refine w_ ?_
 refine lc (Does.box 0 (Ev.tmp rfl) rfl rfl (Fresh.of rfl) (nlr rfl)) <| lc (Does.box 1 (Ev.tmp rfl) rfl rfl (Fresh.of rfl) (nlr rfl)) ?_
 iterate 9 refine w_ ?_
 refine AL.fact (fact_len (x := .tmp 14) (Evl.tmp rfl)) fun hl2 => ?_
 iterate 4 refine w_ ?_
 refine AC.wk (Wk.nilS 2 5 106 (.sl 3 .int) rfl (Fresh.of rfl) (nlr rfl)) ?_
 refine AC.loopW (fun m_ s_ => ∃ (k : Nat), k ≤ r.1.length ∧ m_ = r.1.length - k ∧ s_ = ⟨[(2, lP 0 0), (4, lf (.val (.slice none 0 0))), (5, lR 3), (14, lf (.dat (.sl 9 .str) r.1)), (15, lI (r.1.length : Int)), (16, lI (k : Int))], [(0, some (.box 39 [dI s.1.1, .dat (.sl 159 (.pr (.sl 3 .int) (.sl 3 .int))) s.1.2, .dat (.sl 145 (.pr .str .int)) s.2.1, .dat (.sl 61 (.pr .int .bool)) s.2.2.1, dS s.2.2.2])), (3, some (.arr 106 (.sl 3 .int) (ofG ltP (togS s.1 (r.1.take k)))))]⟩) ⟨0, Nat.zero_le _, rfl, rfl⟩ ?_ ?_
 · exact Wk.of [(0, 0), (3, 2)] rfl ⟨rfl, rfl, rfl, rfl, rfl, rfl, trivial⟩ ⟨rfl, (entE (by first | rfl | simp)), trivial⟩ rfl rfl
 rintro m_ s_ ⟨k, hk3, hm4, rfl⟩
 iterate 4 refine w_ ?_
 cases hb5 : (decide ((k : Int) < (r.1.length : Int)))
 ·have hb5' := of_decide_eq_false hb5
  refine w_ ?_
  refine AC.exit ?_
  refine (?_ : AC _ _ _ _ _)
  iterate 4 refine w_ ?_
  refine AC.ret ?_
  subst hO
  refine fin_own (e := (.sl 3 .int)) (xs := (ofG ltP (togS s.1 (r.1.take k)))) (Res.one rfl (Rs.tmp rfl)) rfl ?_
  (rw [List.take_of_length_le (by omega)])
 ·have hb5' := of_decide_eq_true hb5
  iterate 5 refine w_ ?_
  obtain ⟨mk, hx7⟩ : ∃ z, r.1[k]? = some z := ⟨_, List.getElem?_eq_getElem (by omega)⟩
  have mkh := hx7
  refine lc (Does.indexE (Evl.tmp rfl) (Evl.tmp rfl) und_46 tsh_9 rfl (by omega) hx7) ?_
  iterate 7 refine w_ ?_
  refine lc (Does.call (fc_spec_l1Enabled s.1 mk (hB _ (List.mem_of_getElem? hx7)) (by omega)).frozen enters_108 ⟨_, _, rfl, (Ev.tmp rfl), ⟨_, _, rfl, (Ev.tmp rfl), rfl⟩⟩ rfl rfl) ?_
  iterate 4 refine w_ ?_
  refine AL.fact (fact_len (x := .tmp 24) (Evl.tmp rfl)) fun hl8 => ?_
  iterate 4 refine w_ ?_
  refine AC.loopW (fun m_ s_ => ∃ (i : Nat), i ≤ (enbs s.1 mk).length ∧ m_ = (enbs s.1 mk).length - i ∧ s_ = ⟨[(2, lP 0 0), (4, lf (.val (.slice none 0 0))), (5, lR 4), (7, lf (dS mk)), (8, lf (.dat (.sl 3 .int) (enbs s.1 mk))), (14, lf (.dat (.sl 9 .str) r.1)), (15, lI (r.1.length : Int)), (16, lI (k : Int)), (17, lB true), (18, lf (.elt .str mk 0)), (19, lf (dS mk)), (20, lP 0 0), (21, ag [dI s.1.1, .dat (.sl 159 (.pr (.sl 3 .int) (.sl 3 .int))) s.1.2]), (22, lf (dS mk)), (23, lf (.dat (.sl 3 .int) (enbs s.1 mk))), (24, lf (.dat (.sl 3 .int) (enbs s.1 mk))), (25, lI ((enbs s.1 mk).length : Int)), (26, lI (i : Int))], [(0, some (.box 39 [dI s.1.1, .dat (.sl 159 (.pr (.sl 3 .int) (.sl 3 .int))) s.1.2, .dat (.sl 145 (.pr .str .int)) s.2.1, .dat (.sl 61 (.pr .int .bool)) s.2.2.1, dS s.2.2.2])), (4, some (.arr 106 (.sl 3 .int) (ofG ltP (togS s.1 (r.1.take k) ++ allS s.1 (enbs s.1 mk) ((enbs s.1 mk).take i)))))]⟩) ⟨0, Nat.zero_le _, rfl, rfl⟩ ?_ ?_
  · exact Wk.of [(0, 0), (4, 3)] rfl ⟨rfl, rfl, rfl, rfl, rfl, rfl, rfl, rfl, rfl, rfl, rfl, rfl, rfl, rfl, rfl, rfl, rfl, rfl, trivial⟩ ⟨rfl, (entE (by simp [allS])), trivial⟩ rfl rfl
  rintro m_ s_ ⟨i, hk9, hm10, rfl⟩
  iterate 4 refine w_ ?_
  cases hb11 : (decide ((i : Int) < ((enbs s.1 mk).length : Int)))
  ·have hb11' := of_decide_eq_false hb11
   refine w_ ?_
   refine AC.exit ?_
   refine (?_ : AC _ _ _ _ _)
   iterate 3 refine w_ ?_
   refine AL.nil <| lend ⟨k + 1, by omega, rfl, rfl⟩ (by omega) ?_
   exact Wk.of [(0, 0), (3, 4)] rfl ⟨rfl, rfl, rfl, rfl, rfl, rfl, trivial⟩ ⟨rfl, (entE (togS_end mkh (by omega))), trivial⟩ rfl rfl
  ·have hb11' := of_decide_eq_true hb11
   iterate 5 refine w_ ?_
   obtain ⟨t, hx13⟩ : ∃ z, (enbs s.1 mk)[i]? = some z := ⟨_, List.getElem?_eq_getElem (by omega)⟩
   have tq := enbs_mem hx13
   have th := hx13
   have hon := enbs_len s.1 mk
   refine lc (Does.indexE (Evl.tmp rfl) (Evl.tmp rfl) und_106 tsh_3 rfl (by omega) hx13) ?_
   refine w_ ?_
   refine AL.fact (fact_int (x := .tmp 29) (Evl.tmp rfl)) fun hi14 => ?_
   iterate 4 refine w_ ?_
   refine AL.fact (fact_len (x := .tmp 30) (Evl.tmp rfl)) fun hl15 => ?_
   iterate 4 refine w_ ?_
   refine AC.loopW (fun m_ s_ => ∃ (j : Nat), j ≤ (enbs s.1 mk).length ∧ m_ = (enbs s.1 mk).length - j ∧ s_ = ⟨[(2, lP 0 0), (4, lf (.val (.slice none 0 0))), (5, lR 5), (7, lf (dS mk)), (8, lf (.dat (.sl 3 .int) (enbs s.1 mk))), (10, lI t), (14, lf (.dat (.sl 9 .str) r.1)), (15, lI (r.1.length : Int)), (16, lI (k : Int)), (17, lB true), (18, lf (.elt .str mk 0)), (19, lf (dS mk)), (20, lP 0 0), (21, ag [dI s.1.1, .dat (.sl 159 (.pr (.sl 3 .int) (.sl 3 .int))) s.1.2]), (22, lf (dS mk)), (23, lf (.dat (.sl 3 .int) (enbs s.1 mk))), (24, lf (.dat (.sl 3 .int) (enbs s.1 mk))), (25, lI ((enbs s.1 mk).length : Int)), (26, lI (i : Int)), (27, lB true), (28, lf (.elt .int t 0)), (29, lI t), (30, lf (.dat (.sl 3 .int) (enbs s.1 mk))), (31, lI ((enbs s.1 mk).length : Int)), (32, lI (j : Int))], [(0, some (.box 39 [dI s.1.1, .dat (.sl 159 (.pr (.sl 3 .int) (.sl 3 .int))) s.1.2, .dat (.sl 145 (.pr .str .int)) s.2.1, .dat (.sl 61 (.pr .int .bool)) s.2.2.1, dS s.2.2.2])), (5, some (.arr 106 (.sl 3 .int) (ofG ltP (togS s.1 (r.1.take k) ++ allS s.1 (enbs s.1 mk) ((enbs s.1 mk).take i) ++ rowS s.1 t ((enbs s.1 mk).take j)))))]⟩) ⟨0, Nat.zero_le _, rfl, rfl⟩ ?_ ?_
   · exact Wk.of [(0, 0), (5, 4)] rfl ⟨rfl, rfl, rfl, rfl, rfl, rfl, rfl, rfl, rfl, rfl, rfl, rfl, rfl, rfl, rfl, rfl, rfl, rfl, rfl, rfl, rfl, rfl, rfl, rfl, rfl, trivial⟩ ⟨rfl, (entE (by simp [rowS])), trivial⟩ rfl rfl
   rintro m_ s_ ⟨j, hk16, hm17, rfl⟩
   iterate 4 refine w_ ?_
   cases hb18 : (decide ((j : Int) < ((enbs s.1 mk).length : Int)))
   ·have hb18' := of_decide_eq_false hb18
    refine w_ ?_
    refine AC.exit ?_
    refine (?_ : AC _ _ _ _ _)
    iterate 3 refine w_ ?_
    refine AL.nil <| lend ⟨i + 1, by omega, rfl, rfl⟩ (by omega) ?_
    exact Wk.of [(0, 0), (4, 5)] rfl ⟨rfl, rfl, rfl, rfl, rfl, rfl, rfl, rfl, rfl, rfl, rfl, rfl, rfl, rfl, rfl, rfl, rfl, rfl, trivial⟩ ⟨rfl, (entE (allS_end th (by omega))), trivial⟩ rfl rfl
   ·have hb18' := of_decide_eq_true hb18
    iterate 5 refine w_ ?_
    obtain ⟨u, hx20⟩ : ∃ z, (enbs s.1 mk)[j]? = some z := ⟨_, List.getElem?_eq_getElem (by omega)⟩
    have uq := enbs_mem hx20
    have uh := hx20
    have hon := enbs_len s.1 mk
    refine lc (Does.indexE (Evl.tmp rfl) (Evl.tmp rfl) und_106 tsh_3 rfl (by omega) hx20) ?_
    refine w_ ?_
    refine AL.fact (fact_int (x := .tmp 35) (Evl.tmp rfl)) fun hi21 => ?_
    iterate 2 refine w_ ?_
    cases hb22 : (decide (t < u))
    ·have hb22' := of_decide_eq_false hb22
     refine dw [io 36 (lI t), io 37 (lI u), io 38 (lB false), io 39 (lB false), io 40 (lf (.val undef)), io 41 (lf (.val undef)), io 42 (lf (.val undef)), io 43 (lf (.val undef)), io 44 (lf (.val undef)), io 45 (lf (.val undef)), io 46 (lf (.val undef)), io 47 (lf (.val undef)), io 48 (lf (.val undef)), io 49 (lf (.val undef)), io 50 (lf (.val undef)), io 51 (lf (.val undef)), io 52 (lf (.val undef)), io 53 (lf (.val undef)), io 54 (lf (.val undef)), io 55 (lf (.val undef)), io 56 (lB false)] [0, 0, 3, 7, 15, 31, 63, 15, 255, 511, 1023, 15, 2063, 6159, 15, 30735, 63503, 129039, 262143, 524287, 1048575] mixed rfl (by kernel_rfl) ⟨dxm rfl rfl, dxm rfl rfl, fun _ h_ => ac (Does.asB (hb22) (Does.lss (h_.v rfl) (h_.v rfl) rfl)) rfl, dxm rfl rfl, dxo rfl rfl rfl, dxo rfl rfl rfl, dxo rfl rfl rfl, dxo rfl rfl rfl, dxo rfl rfl rfl, dxo rfl rfl rfl, dxo rfl rfl rfl, dxo rfl rfl rfl, dxo rfl rfl rfl, dxo rfl rfl rfl, dxo rfl rfl rfl, dxo rfl rfl rfl, dxo rfl rfl rfl, dxo rfl rfl rfl, dxo rfl rfl rfl, dxo rfl rfl rfl, fun _ h_ => ac (Does.pickF (h_.v rfl) (Evl.ev Evl.bool) rfl) rfl, ⟨⟩⟩ ?_
     refine w_ ?_
     refine AC.skip ?_
     refine (?_ : AC _ _ _ _ _)
     iterate 3 refine w_ ?_
     refine AL.nil <| lend ⟨j + 1, by omega, rfl, rfl⟩ (by omega) ?_
     exact Wk.of [(0, 0), (5, 5)] rfl ⟨rfl, rfl, rfl, rfl, rfl, rfl, rfl, rfl, rfl, rfl, rfl, rfl, rfl, rfl, rfl, rfl, rfl, rfl, rfl, rfl, rfl, rfl, rfl, rfl, rfl, trivial⟩ ⟨rfl, (entE (by first | exact (by rw [two_max (of_decide_eq_true (by assumption)), ofG_snoc, List.append_assoc, rowS_yes uh xth xuh (of_decide_eq_true (by assumption)) (by assumption)]) | exact (by rw [rowS_lt uh (of_decide_eq_false (by assumption))]) | exact (by rw [rowS_no uh xth xuh (by assumption)]))), trivial⟩ rfl rfl
    ·have hb22' := of_decide_eq_true hb22
     obtain ⟨xt, hx24⟩ : ∃ z, s.1.2[(t).toNat]? = some z := ⟨_, List.getElem?_eq_getElem (by omega)⟩
     have xth := hx24
     obtain ⟨xu, hx26⟩ : ∃ z, s.1.2[(u).toNat]? = some z := ⟨_, List.getElem?_eq_getElem (by omega)⟩
     have xuh := hx26
     refine dw [io 36 (lI t), io 37 (lI u), io 38 (lB true), io 39 (lB true), io 40 (lP 0 0), io 41 (lP 0 1), io 42 (lf (.dat (.sl 159 (.pr (.sl 3 .int) (.sl 3 .int))) s.1.2)), io 43 (lI t), io 44 (lf (.elt (.pr (.sl 3 .int) (.sl 3 .int)) xt 0)), io 45 (lf (.elt (.pr (.sl 3 .int) (.sl 3 .int)) xt 0)), io 46 (lf (.dat (.sl 3 .int) xt.1)), io 47 (lP 0 0), io 48 (lP 0 1), io 49 (lf (.dat (.sl 159 (.pr (.sl 3 .int) (.sl 3 .int))) s.1.2)), io 50 (lI u), io 51 (lf (.elt (.pr (.sl 3 .int) (.sl 3 .int)) xu 0)), io 52 (lf (.elt (.pr (.sl 3 .int) (.sl 3 .int)) xu 0)), io 53 (lf (.dat (.sl 3 .int) xu.1)), io 54 (lB (xt.1.any fun z => decide (z ∈ xu.1))), io 55 (lB (!(xt.1.any fun z => decide (z ∈ xu.1)))), io 56 (lB (!(xt.1.any fun z => decide (z ∈ xu.1))))] [0, 0, 3, 7, 15, 31, 63, 15, 255, 511, 1023, 15, 2063, 6159, 15, 30735, 63503, 129039, 262143, 524287, 1048575] mixed rfl (by kernel_rfl) ⟨dxm rfl rfl, dxm rfl rfl, fun _ h_ => ac (Does.asB (hb22) (Does.lss (h_.v rfl) (h_.v rfl) rfl)) rfl, dxm rfl rfl, fun _ h_ => day rfl (h_.k rfl) (Does.fieldP (h_.v rfl) fld_39_0 (by rw [(h_.en 0 rfl)]; rfl) rfl) rfl, fun _ h_ => day rfl (h_.k rfl) (Does.fieldP (h_.v rfl) fld_35_1 (by rw [(h_.en 0 rfl)]; rfl) rfl) rfl, fun _ h_ => day rfl (h_.k rfl) (Does.loadP (h_.v rfl) (h_.n 0 rfl) tsh_33 rfl rfl) rfl, fun _ h_ => day rfl (h_.k rfl) (Does.move (h_.k rfl) rfl) rfl, fun _ h_ => day rfl (h_.k rfl) (Does.indexE (h_.v rfl) (h_.v rfl) und_33 tsh_159 rfl (by omega) hx24) rfl, fun _ h_ => day rfl (h_.k rfl) (Does.fieldE (h_.v rfl) fld_159_0 rfl) rfl, fun _ h_ => day rfl (h_.k rfl) (Does.loadE (h_.v rfl) tsh_106 rfl rfl) rfl, fun _ h_ => day rfl (h_.k rfl) (Does.fieldP (h_.v rfl) fld_39_0 (by rw [(h_.en 0 rfl)]; rfl) rfl) rfl, fun _ h_ => day rfl (h_.k rfl) (Does.fieldP (h_.v rfl) fld_35_1 (by rw [(h_.en 0 rfl)]; rfl) rfl) rfl, fun _ h_ => day rfl (h_.k rfl) (Does.loadP (h_.v rfl) (h_.n 0 rfl) tsh_33 rfl rfl) rfl, fun _ h_ => day rfl (h_.k rfl) (Does.move (h_.k rfl) rfl) rfl, fun _ h_ => day rfl (h_.k rfl) (Does.indexE (h_.v rfl) (h_.v rfl) und_33 tsh_159 rfl (by omega) hx26) rfl, fun _ h_ => day rfl (h_.k rfl) (Does.fieldE (h_.v rfl) fld_159_0 rfl) rfl, fun _ h_ => day rfl (h_.k rfl) (Does.loadE (h_.v rfl) tsh_106 rfl rfl) rfl, fun _ h_ => day rfl (h_.k rfl) (Does.call (fc_spec_l1Meet xt.1 xu.1) enters_109 ⟨_, _, rfl, (h_.w rfl), ⟨_, _, rfl, (h_.w rfl), rfl⟩⟩ rfl rfl) rfl, fun _ h_ => day rfl (h_.k rfl) (Does.not (h_.v rfl) rfl) rfl, fun _ h_ => ac (Does.pickT (h_.v rfl) (h_.w rfl) rfl) rfl, ⟨⟩⟩ ?_
     cases hb27 : (xt.1.any fun z => decide (z ∈ xu.1))
     ·iterate 5 refine w_ ?_
      refine lc (Does.callP 6 [(0, 5)] (fc_spec_l9Put (ofG ltP (togS s.1 (r.1.take k) ++ allS s.1 (enbs s.1 mk) ((enbs s.1 mk).take i) ++ rowS s.1 t ((enbs s.1 mk).take j))) t u (by have := conc_len3 (n := s.1) (ms := r.1) (k := k) (on := enbs s.1 mk) (i := i) (l := (enbs s.1 mk).take j) (t := t) hn (by omega) hr (by omega) (by omega) (by simp only [List.length_take]; omega); have := ofG_len (lt := ltP) (togS s.1 (r.1.take k) ++ allS s.1 (enbs s.1 mk) ((enbs s.1 mk).take i) ++ rowS s.1 t ((enbs s.1 mk).take j)); omega)) enters_110 ⟨_, _, rfl, (Ev.tmp rfl), ⟨_, _, rfl, (Ev.tmp rfl), ⟨_, _, rfl, (Ev.tmp rfl), rfl⟩⟩⟩ ⟨rfl, trivial⟩ rfl ⟨(Fresh.of rfl), trivial⟩ (nlr rfl)) ?_
      refine w_ ?_
      refine AL.nil ?_
      refine (?_ : AC _ _ _ _ _)
      iterate 3 refine w_ ?_
      refine AL.nil <| lend ⟨j + 1, by omega, rfl, rfl⟩ (by omega) ?_
      exact Wk.of [(0, 0), (5, 6)] rfl ⟨rfl, rfl, rfl, rfl, rfl, rfl, rfl, rfl, rfl, rfl, rfl, rfl, rfl, rfl, rfl, rfl, rfl, rfl, rfl, rfl, rfl, rfl, rfl, rfl, rfl, trivial⟩ ⟨rfl, (entE (by first | exact (by rw [two_max (of_decide_eq_true (by assumption)), ofG_snoc, List.append_assoc, rowS_yes uh xth xuh (of_decide_eq_true (by assumption)) (by assumption)]) | exact (by rw [rowS_lt uh (of_decide_eq_false (by assumption))]) | exact (by rw [rowS_no uh xth xuh (by assumption)]))), trivial⟩ rfl rfl
     ·refine w_ ?_
      refine AC.skip ?_
      refine (?_ : AC _ _ _ _ _)
      iterate 3 refine w_ ?_
      refine AL.nil <| lend ⟨j + 1, by omega, rfl, rfl⟩ (by omega) ?_
      exact Wk.of [(0, 0), (5, 5)] rfl ⟨rfl, rfl, rfl, rfl, rfl, rfl, rfl, rfl, rfl, rfl, rfl, rfl, rfl, rfl, rfl, rfl, rfl, rfl, rfl, rfl, rfl, rfl, rfl, rfl, rfl, trivial⟩ ⟨rfl, (entE (by first | exact (by rw [two_max (of_decide_eq_true (by assumption)), ofG_snoc, List.append_assoc, rowS_yes uh xth xuh (of_decide_eq_true (by assumption)) (by assumption)]) | exact (by rw [rowS_lt uh (of_decide_eq_false (by assumption))]) | exact (by rw [rowS_no uh xth xuh (by assumption)]))), trivial⟩ rfl rfl

theorem fc_impl_share_1 (p : Int) (b : List Int)  : FC Tryz.prog 193 [(false, [dI p]), (false, [.ptr 0 0])] [(0, some (.box 106 [.dat (.sl 3 .int) b]))] 1 (Is (lB (b.any (fun y => decide (p = y)))) [(0, some (.box 106 [.dat (.sl 3 .int) b]))]) := by
 refine FC.go Tryz.func193 rfl rfl Tryz.ntmps193 fun O_ hO w0_ N0_ X_ h0_ f0_ => ?_
 refine AC.fact (fact_int (x := .tmp 0) (Evl.tmp rfl)) fun hi1 => ?_
 iterate 6 refine w_ ?_
 refine lc (Does.call (fc_slices_Contains_int_int b p) enters_158 ⟨_, _, rfl, (Ev.tmp rfl), ⟨_, _, rfl, (Ev.tmp rfl), rfl⟩⟩ rfl rfl) ?_
 iterate 2 refine w_ ?_
 refine AC.ret ?_
 subst hO
 exact fin_is _ _ [(0, 0)] (Res.one rfl (Rs.tmp rfl)) (rfl) ⟨rfl, trivial⟩ rfl rfl

theorem fc_IndexFunc_int_share (s : List Int) (b : List Int)  : FC Tryz.prog 218 [(false, [.dat (.sl 3 .int) s]), (false, [.clo 193 [0]])] [(0, some (.box 106 [.dat (.sl 3 .int) b]))] 1 (Is (lI (idxF (fun p => b.any (fun y => decide (p = y))) s)) [(0, some (.box 106 [.dat (.sl 3 .int) b]))]) := by
 refine FC.go Tryz.func218 rfl rfl Tryz.ntmps218 fun O_ hO w0_ N0_ X_ h0_ f0_ => ?_
 iterate 6 refine w_ ?_
 refine AL.fact (fact_len (x := .tmp 6) (Evl.tmp rfl)) fun hl1 => ?_
 iterate 4 refine w_ ?_
 refine AC.loopW (fun m_ s_ => ∃ (k : Nat), k ≤ s.length ∧ m_ = s.length - k ∧ (NoneTo (fun p => b.any (fun y => decide (p = y))) s k) ∧ s_ = ⟨[(0, lf (.dat (.sl 3 .int) s)), (1, lf (.clo 193 [0])), (7, lI (s.length : Int)), (8, lI (k : Int))], [(0, some (.box 106 [.dat (.sl 3 .int) b]))]⟩) ⟨0, Nat.zero_le _, rfl, NoneTo.zero, rfl⟩ ?_ ?_
 · exact Wk.of [(0, 0)] rfl ⟨rfl, rfl, rfl, rfl, trivial⟩ ⟨rfl, trivial⟩ rfl rfl
 rintro m_ s_ ⟨k, hk2, hm3, hno, rfl⟩
 iterate 4 refine w_ ?_
 cases hb4 : (decide ((k : Int) < (s.length : Int)))
 ·have hb4' := of_decide_eq_false hb4
  refine w_ ?_
  refine AC.exit ?_
  refine (?_ : AC _ _ _ _ _)
  iterate 3 refine w_ ?_
  refine AC.ret ?_
  subst hO
  have e5 : ((-1) : Int) = (idxF (fun p => b.any (fun y => decide (p = y))) s) := by
   first | exact (hno.no (by omega)).symm
  exact fin_is _ _ [(0, 0)] (Res.one rfl (Rs.tmp rfl)) ((congrArg (fun z_ => lI z_) e5)) ⟨rfl, trivial⟩ rfl rfl
 ·have hb4' := of_decide_eq_true hb4
  iterate 12 refine w_ ?_
  obtain ⟨x6, hx7⟩ : ∃ z, s[k]? = some z := ⟨_, List.getElem?_eq_getElem (by omega)⟩
  refine lc (Does.indexE (Evl.tmp rfl) (Evl.tmp rfl) und_106 tsh_3 rfl (by omega) hx7) ?_
  refine w_ ?_
  refine AL.fact (fact_int (x := .tmp 15) (Evl.tmp rfl)) fun hi8 => lc (Does.callF (args0 := [(false, [dI x6])]) (caps := [0]) 1 [(0, 0)] (fc_impl_share_1 x6 b) enters_193 rfl (Evl.tmp rfl) rfl rfl ⟨_, _, rfl, (Ev.tmp rfl), rfl⟩ ⟨rfl, trivial⟩ rfl ⟨trivial, trivial⟩ (nlr rfl)) ?_
  refine w_ ?_
  cases hb9 : (b.any (fun y => decide (x6 = y)))
  ·refine w_ ?_
   refine AC.skip ?_
   refine (?_ : AC _ _ _ _ _)
   iterate 3 refine w_ ?_
   refine AL.nil <| lend ⟨k + 1, by omega, rfl, hno.step hx7 (by assumption), rfl⟩ (by omega) ?_
   exact Wk.of [(0, 0)] rfl ⟨rfl, rfl, rfl, rfl, trivial⟩ ⟨rfl, trivial⟩ rfl rfl
  ·iterate 5 refine w_ ?_
   refine AC.ret ?_
   subst hO
   have e10 : ((k : Int) : Int) = (idxF (fun p => b.any (fun y => decide (p = y))) s) := by
    exact (hno.at hx7 (by assumption)).symm
   exact fin_is _ _ [(0, 0)] (Res.one rfl (Rs.tmp rfl)) ((congrArg (fun z_ => lI z_) e10)) ⟨rfl, trivial⟩ rfl rfl

theorem fc_ContainsFunc_int_share (s : List Int) (b : List Int)  : FC Tryz.prog 145 [(false, [.dat (.sl 3 .int) s]), (false, [.clo 193 [0]])] [(0, some (.box 106 [.dat (.sl 3 .int) b]))] 1 (Is (lB (s.any (fun p => b.any (fun y => decide (p = y))))) [(0, some (.box 106 [.dat (.sl 3 .int) b]))]) := by
 refine FC.go Tryz.func145 rfl rfl Tryz.ntmps145 fun O_ hO w0_ N0_ X_ h0_ f0_ => ?_
 iterate 6 refine w_ ?_
 refine lc (Does.callP 1 [(0, 0)] (fc_IndexFunc_int_share s b) enters_218 ⟨_, _, rfl, (Ev.tmp rfl), ⟨_, _, rfl, (Ev.tmp rfl), rfl⟩⟩ ⟨rfl, trivial⟩ rfl ⟨trivial, trivial⟩ (nlr rfl)) ?_
 iterate 3 refine w_ ?_
 refine AC.ret ?_
 subst hO
 have e1 : (decide (0 ≤ (idxF (fun p => b.any (fun y => decide (p = y))) s)) : Bool) = (s.any (fun p => b.any (fun y => decide (p = y)))) := by
  exact idxF_any _ _
 exact fin_is _ _ [(0, 0)] (Res.one rfl (Rs.tmp rfl)) ((congrArg (fun z_ => lB z_) e1)) ⟨rfl, trivial⟩ rfl rfl

theorem fc_impl_share (a : List Int) (b : List Int)  : FC Tryz.prog 115 [(false, [.dat (.sl 3 .int) a]), (false, [.dat (.sl 3 .int) b])] [] 0 (Pure (lB (a.any (fun p => b.any (fun y => decide (p = y)))))) := by
 refine FC.go Tryz.func115 rfl rfl Tryz.ntmps115 fun O_ hO w0_ N0_ X_ h0_ f0_ => ?_
 refine w_ ?_
 refine lc (Does.box 0 (Ev.tmp rfl) rfl rfl (Fresh.of rfl) (nlr rfl)) ?_
 iterate 4 refine w_ ?_
 refine lc (Does.makeFunc ⟨_, _, rfl, (Evl.tmp rfl), rfl, rfl⟩ rfl) <| lc (Does.callP 1 [(0, 0)] (fc_ContainsFunc_int_share a b) enters_145 ⟨_, _, rfl, (Ev.tmp rfl), ⟨_, _, rfl, (Ev.tmp rfl), rfl⟩⟩ ⟨rfl, trivial⟩ rfl ⟨trivial, trivial⟩ (nlr rfl)) ?_
 iterate 2 refine w_ ?_
 refine AC.ret ?_
 subst hO
 exact fin_pure (Res.one rfl (Rs.tmp rfl)) rfl rfl

end Go.Proofs.YtnakmhfjafecpaaGreat

/- Walks over abstract states: what is enabled together, the program. -/
namespace Go.Proofs.YtnakmhfjafecpaaGreat
open Go.RowKit
set_option maxRecDepth 100000
set_option maxHeartbeats 4000000

section
variable {n : DNet} {k i j m : Nat} {mk : ByteArray} {t u : Int} {on l : List Int} {s : DSTG} {ms : List ByteArray} {as_ : List (List Int)}
theorem allI_len (h : on.length ≤ 24) (hk : k ≤ on.length) : (allI n on k).length ≤ 24 * k := by
  unfold allI
  have := flatS_len (f := fun i => rowI n ((on[i]?).getD 0) (on.drop (i + 1))) (m := 24) (l := List.range k) fun i _ => Nat.le_trans rowI_len (by simp only [List.length_drop]; omega)
  simpa using this
theorem conc_lenI (hn : n.2.length ≤ 24) (hk : k ≤ ms.length) (hm : ms.length ≤ 300) (he : on.length ≤ 24) (hi : i ≤ on.length) (hj : l.length ≤ 24) : (togS n (ms.take k) ++ allI n on i ++ rowI n t l).length ≤ 200000 := by
  have h1 := togS_len (n := n) (ms := ms.take k) hn
  have h2 := allI_len (n := n) he hi
  have h3 := rowI_len (n := n) (t := t) (l := l)
  simp only [List.length_append, List.length_take] at *
  omega
theorem togI_end (hx : ms[k]? = some mk) (hi : i = (enbs n mk).length) : togS n (ms.take k) ++ allI n (enbs n mk) i = togS n (ms.take (k + 1)) := by rw [allI_eq enbs_inc hi, togS_succ hx]
theorem allI_end (hx : on[i]? = some t) (hj : on.length ≤ j + (i + 1)) : as_ ++ allI n on i ++ rowI n t ((on.drop (i + 1)).take j) = as_ ++ allI n on (i + 1) := by
  rw [List.take_of_length_le (by simp only [List.length_drop]; omega), List.append_assoc]
  unfold allI
  rw [List.range_succ, List.flatMap_append]
  simp only [List.flatMap_cons, List.flatMap_nil, List.append_nil]
  rw [hx, Option.getD_some]
theorem conc_lenT [∀ s, Decidable (StgOk s)] (h : (exploreV s).2 = true) : (togS s.1 ((exploreV s).1.1.take k)).length ≤ 200000 := by
  have h1 := togS_len (n := s.1) (ms := (exploreV s).1.1.take k) (exploreV_net h)
  have h2 := exploreV_few (s := s)
  simp only [List.length_take] at h1
  omega
theorem conc_dr (h : ((on.take on.length).drop ((i : Int) + 1).toNat)[j]? = some u) : (on.drop (i + 1))[j]? = some u := by
  rw [List.take_length, show ((i : Int) + 1).toNat = i + 1 by omega] at h; exact h
theorem conc_at (h : ((on.take on.length).drop ((i : Int) + 1).toNat)[j]? = some u) : on[i + 1 + j]? = some u := by
  have := conc_dr h
  rwa [List.getElem?_drop] at this
theorem rowI_app {xt xu : DTransition} (hx : l[k]? = some u) (h1 : n.2[t.toNat]? = some xt) (h2 : n.2[u.toNat]? = some xu) (h : (xt.1.any fun z => xu.1.any fun y => decide (z = y)) = false) : (as_ ++ rowI n t (l.take k)) ++ [[t, u]] = as_ ++ rowI n t (l.take (k + 1)) := by
  rw [List.append_assoc, rowI_yes hx h1 h2 (by rw [h]; rfl)]
theorem rowI_app2 {xt xu : DTransition} (hx : l[k]? = some u) (h1 : n.2[t.toNat]? = some xt) (h2 : n.2[u.toNat]? = some xu) (h : (xt.1.any fun z => xu.1.any fun y => decide (z = y)) = true) : as_ ++ rowI n t (l.take k) = as_ ++ rowI n t (l.take (k + 1)) := by
  rw [rowI_no hx h1 h2 (by rw [h]; rfl)]
theorem concV_yes [∀ s, Decidable (StgOk s)] (hk : k = (exploreV s).1.1.length) : cmpG (lsort (togS s.1 ((exploreV s).1.1.take k))) = concV s := by rw [hk, List.take_length, tidyP_of]; rfl
end

theorem fc_impl_concurrent (s : (Int × (List (List Int × List Int))) × (List (ByteArray × Int)) × (List (Int × Bool)) × ByteArray) [∀ s, Decidable (StgOk s)]  : FC Tryz.prog 57 [(true, [dI s.1.1, .dat (.sl 159 (.pr (.sl 3 .int) (.sl 3 .int))) s.1.2, .dat (.sl 145 (.pr .str .int)) s.2.1, .dat (.sl 61 (.pr .int .bool)) s.2.2.1, dS s.2.2.2])] [] 0 (Is (PV.tup [(false, [.ref 0]), (false, [dB ((exploreV s).2)])]) [(0, some (.arr 106 (.sl 3 .int) (concV s)))]) := by
 refine FC.go Tryz.func57 rfl rfl Tryz.ntmps57 fun O_ hO w0_ N0_ X_ h0_ f0_ => ?_
 refine AC.fact (fact_ag (x := .tmp 0) (i := 0) (Ev.tmp rfl) rfl) fun hi1 => ?_
 refine w_ ?_
 refine lc (Does.box 0 (Ev.tmp rfl) rfl rfl (Fresh.of rfl) (nlr rfl)) ?_
 iterate 5 refine w_ ?_
 refine lc (Does.call (fc_impl_Explore s).frozenG enters_113 ⟨_, _, rfl, (Ev.tmp rfl), rfl⟩ rfl rfl) ?_
 iterate 3 refine w_ ?_
 refine lc (Does.alloc 1 (.pr (.sl 9 .str) (.sl 226 (.pr .int (.pr .int .int)))) zer_98 rfl rfl (Fresh.of rfl) (nlr rfl)) <| lc (Does.storeP (Evl.tmp rfl) rfl (Ev.tmp rfl) rfl tsh_98 rfl) ?_
 iterate 7 refine w_ ?_
 cases hb2 : ((exploreV s).2)
 ·iterate 5 refine w_ ?_
  refine AC.wk (Wk.nilS 2 2 106 (.sl 3 .int) rfl (Fresh.of rfl) (nlr rfl)) <| AC.ret ?_
  subst hO
  have e3 : (false : Bool) = ((exploreV s).2) := by
   simp_all
  exact fin_is _ _ [(0, 2)] (Res.two rfl (Rs.tmp rfl) (Rs.tmp rfl)) ((congrArg (fun z_ => PV.tup [(false, [.ref 2]), (false, [dB z_])]) e3)) ⟨(entE (by exact concV_no (by assumption))), trivial⟩ rfl rfl
 ·iterate 3 refine w_ ?_
  refine lc (Does.buildSlice 3 (e := (.sl 3 .int)) und_30 tsh_106 zer_106 rfl rfl (List.all_eq_true.1 rfl) ⟨rfl, rfl⟩ (by decide) rfl rfl (Fresh.of rfl) (nlr rfl)) ?_
  iterate 6 refine w_ ?_
  refine AL.fact (fact_len (x := .tmp 23) (Evl.tmp rfl)) fun hl4 => ?_
  iterate 4 refine w_ ?_
  refine AC.loopW (fun m_ s_ => ∃ (k : Nat), k ≤ (((exploreV s).1).1).length ∧ m_ = (((exploreV s).1).1).length - k ∧ s_ = ⟨[(1, lP 0 0), (2, lf (.val (.slice none 0 0))), (3, lB false), (6, lR 4), (23, lf (.dat (.sl 9 .str) (((exploreV s).1).1))), (24, lI ((((exploreV s).1).1).length : Int)), (25, lI (k : Int))], [(0, some (.box 39 [dI s.1.1, .dat (.sl 159 (.pr (.sl 3 .int) (.sl 3 .int))) s.1.2, .dat (.sl 145 (.pr .str .int)) s.2.1, .dat (.sl 61 (.pr .int .bool)) s.2.2.1, dS s.2.2.2])), (4, some (.arr 106 (.sl 3 .int) (togS s.1 ((exploreV s).1.1.take k))))]⟩) ⟨0, Nat.zero_le _, rfl, rfl⟩ ?_ ?_
  · exact Wk.of [(0, 0), (4, 3)] rfl ⟨rfl, rfl, rfl, rfl, rfl, rfl, rfl, trivial⟩ ⟨rfl, (entE (by first | rfl | simp)), trivial⟩ rfl rfl
  rintro m_ s_ ⟨k, hk5, hm6, rfl⟩
  iterate 4 refine w_ ?_
  cases hb7 : (decide ((k : Int) < ((((exploreV s).1).1).length : Int)))
  ·have hb7' := of_decide_eq_false hb7
   refine w_ ?_
   refine AC.exit ?_
   refine (?_ : AC _ _ _ _ _)
   iterate 2 refine w_ ?_
   refine lc (Does.callP 5 [(0, 4)] (fc_sortF (togS s.1 ((exploreV s).1.1.take k)) (by have := conc_lenT (s := s) (k := k) (by assumption); omega)) enters_93 ⟨_, _, rfl, (Ev.tmp rfl), ⟨_, _, rfl, (Evl.ev Evl.func), rfl⟩⟩ ⟨rfl, trivial⟩ rfl ⟨trivial, trivial⟩ (nlr rfl)) ?_
   iterate 3 refine w_ ?_
   refine lc (Does.callP 6 [(0, 4)] (fc_slices_CompactFunc_int_int (lsort (togS s.1 ((exploreV s).1.1.take k))) (by rw [lsort_len]; have := conc_lenT (s := s) (k := k) (by assumption); omega)) enters_116 ⟨_, _, rfl, (Ev.tmp rfl), ⟨_, _, rfl, (Evl.ev Evl.func), rfl⟩⟩ ⟨rfl, trivial⟩ rfl ⟨(Fresh.of rfl), trivial⟩ (nlr rfl)) ?_
   iterate 3 refine w_ ?_
   refine AC.ret ?_
   subst hO
   have e8 : (true : Bool) = ((exploreV s).2) := by
    simp_all
   exact fin_is _ _ [(0, 6)] (Res.two rfl (Rs.tmp rfl) (Rs.tmp rfl)) ((congrArg (fun z_ => PV.tup [(false, [.ref 6]), (false, [dB z_])]) e8)) ⟨(entE (by exact concV_yes (by omega))), trivial⟩ rfl rfl
  ·have hb7' := of_decide_eq_true hb7
   iterate 5 refine w_ ?_
   obtain ⟨mk, hx10⟩ : ∃ z, (((exploreV s).1).1)[k]? = some z := ⟨_, List.getElem?_eq_getElem (by omega)⟩
   have mkh := hx10
   have hmn := exploreV_net (s := s) (by assumption)
   have hmf := exploreV_few (s := s)
   refine lc (Does.indexE (Evl.tmp rfl) (Evl.tmp rfl) und_46 tsh_9 rfl (by omega) hx10) ?_
   iterate 7 refine w_ ?_
   refine lc (Does.call (fc_impl_enabled s.1 mk (exploreV_pl _ (List.mem_of_getElem? hx10)) (by have := exploreV_net (s := s) (by assumption); omega)).frozen enters_114 ⟨_, _, rfl, (Ev.tmp rfl), ⟨_, _, rfl, (Ev.tmp rfl), rfl⟩⟩ rfl rfl) ?_
   iterate 4 refine w_ ?_
   refine AL.fact (fact_len (x := .tmp 33) (Evl.tmp rfl)) fun hl11 => ?_
   iterate 4 refine w_ ?_
   refine AC.loopW (fun m_ s_ => ∃ (i : Nat), i ≤ (enbs s.1 mk).length ∧ m_ = (enbs s.1 mk).length - i ∧ s_ = ⟨[(1, lP 0 0), (2, lf (.val (.slice none 0 0))), (3, lB false), (6, lR 7), (8, lf (dS mk)), (9, lf (.dat (.sl 3 .int) (enbs s.1 mk))), (23, lf (.dat (.sl 9 .str) (((exploreV s).1).1))), (24, lI ((((exploreV s).1).1).length : Int)), (25, lI (k : Int)), (26, lB true), (27, lf (.elt .str mk 0)), (28, lf (dS mk)), (29, lP 0 0), (30, ag [dI s.1.1, .dat (.sl 159 (.pr (.sl 3 .int) (.sl 3 .int))) s.1.2]), (31, lf (dS mk)), (32, lf (.dat (.sl 3 .int) (enbs s.1 mk))), (33, lf (.dat (.sl 3 .int) (enbs s.1 mk))), (34, lI ((enbs s.1 mk).length : Int)), (35, lI (i : Int))], [(0, some (.box 39 [dI s.1.1, .dat (.sl 159 (.pr (.sl 3 .int) (.sl 3 .int))) s.1.2, .dat (.sl 145 (.pr .str .int)) s.2.1, .dat (.sl 61 (.pr .int .bool)) s.2.2.1, dS s.2.2.2])), (7, some (.arr 106 (.sl 3 .int) (togS s.1 ((exploreV s).1.1.take k) ++ allI s.1 (enbs s.1 mk) i)))]⟩) ⟨0, Nat.zero_le _, rfl, rfl⟩ ?_ ?_
   · exact Wk.of [(0, 0), (7, 4)] rfl ⟨rfl, rfl, rfl, rfl, rfl, rfl, rfl, rfl, rfl, rfl, rfl, rfl, rfl, rfl, rfl, rfl, rfl, rfl, rfl, trivial⟩ ⟨rfl, (entE (by simp [allI])), trivial⟩ rfl rfl
   rintro m_ s_ ⟨i, hk12, hm13, rfl⟩
   iterate 4 refine w_ ?_
   cases hb14 : (decide ((i : Int) < ((enbs s.1 mk).length : Int)))
   ·have hb14' := of_decide_eq_false hb14
    refine w_ ?_
    refine AC.exit ?_
    refine (?_ : AC _ _ _ _ _)
    iterate 3 refine w_ ?_
    refine AL.nil <| lend ⟨k + 1, by omega, rfl, rfl⟩ (by omega) ?_
    exact Wk.of [(0, 0), (4, 7)] rfl ⟨rfl, rfl, rfl, rfl, rfl, rfl, rfl, trivial⟩ ⟨rfl, (entE (togI_end mkh (by omega))), trivial⟩ rfl rfl
   ·have hb14' := of_decide_eq_true hb14
    iterate 6 refine w_ ?_
    obtain ⟨t, hx16⟩ : ∃ z, (enbs s.1 mk)[i]? = some z := ⟨_, List.getElem?_eq_getElem (by omega)⟩
    have tq := enbs_mem hx16
    have th := hx16
    have hon := enbs_len s.1 mk
    refine lc (Does.indexE (Evl.tmp rfl) (Evl.tmp rfl) und_106 tsh_3 rfl (by omega) hx16) ?_
    refine w_ ?_
    refine AL.fact (fact_int (x := .tmp 39) (Evl.tmp rfl)) fun hi17 => ?_
    iterate 7 refine w_ ?_
    refine lc (Does.sliceD (l := (some ((i : Int) + 1))) (h := none) (Evl.tmp rfl) (by exact (Evl.tmp rfl)) (by exact trivial) und_106 tsh_3 rfl (by simp only [Option.getD_none, Option.getD_some]; omega) (by simp only [Option.getD_none, Option.getD_some]; omega) (by simp only [Option.getD_none, Option.getD_some]; omega)) <| AL.fact (fact_len (x := .tmp 43) (Evl.tmp rfl)) fun hl18 => ?_
    iterate 4 refine w_ ?_
    refine AC.loopW (fun m_ s_ => ∃ (j : Nat), j ≤ (((enbs s.1 mk).take (enbs s.1 mk).length).drop ((i : Int) + 1).toNat).length ∧ m_ = (((enbs s.1 mk).take (enbs s.1 mk).length).drop ((i : Int) + 1).toNat).length - j ∧ s_ = ⟨[(1, lP 0 0), (2, lf (.val (.slice none 0 0))), (3, lB false), (6, lR 8), (8, lf (dS mk)), (9, lf (.dat (.sl 3 .int) (enbs s.1 mk))), (10, lI (i : Int)), (11, lI t), (23, lf (.dat (.sl 9 .str) (((exploreV s).1).1))), (24, lI ((((exploreV s).1).1).length : Int)), (25, lI (k : Int)), (26, lB true), (27, lf (.elt .str mk 0)), (28, lf (dS mk)), (29, lP 0 0), (30, ag [dI s.1.1, .dat (.sl 159 (.pr (.sl 3 .int) (.sl 3 .int))) s.1.2]), (31, lf (dS mk)), (32, lf (.dat (.sl 3 .int) (enbs s.1 mk))), (33, lf (.dat (.sl 3 .int) (enbs s.1 mk))), (34, lI ((enbs s.1 mk).length : Int)), (35, lI (i : Int)), (36, lB true), (37, lI (i : Int)), (38, lf (.elt .int t 0)), (39, lI t), (40, lf (.dat (.sl 3 .int) (enbs s.1 mk))), (41, lI (i : Int)), (42, lI ((i : Int) + 1)), (43, lf (.dat (.sl 3 .int) (((enbs s.1 mk).take (enbs s.1 mk).length).drop ((i : Int) + 1).toNat))), (44, lI ((((enbs s.1 mk).take (enbs s.1 mk).length).drop ((i : Int) + 1).toNat).length : Int)), (45, lI (j : Int))], [(0, some (.box 39 [dI s.1.1, .dat (.sl 159 (.pr (.sl 3 .int) (.sl 3 .int))) s.1.2, .dat (.sl 145 (.pr .str .int)) s.2.1, .dat (.sl 61 (.pr .int .bool)) s.2.2.1, dS s.2.2.2])), (8, some (.arr 106 (.sl 3 .int) (togS s.1 ((exploreV s).1.1.take k) ++ allI s.1 (enbs s.1 mk) i ++ rowI s.1 t (((enbs s.1 mk).drop (i + 1)).take j))))]⟩) ⟨0, Nat.zero_le _, rfl, rfl⟩ ?_ ?_
    · exact Wk.of [(0, 0), (8, 7)] rfl ⟨rfl, rfl, rfl, rfl, rfl, rfl, rfl, rfl, rfl, rfl, rfl, rfl, rfl, rfl, rfl, rfl, rfl, rfl, rfl, rfl, rfl, rfl, rfl, rfl, rfl, rfl, rfl, rfl, rfl, rfl, rfl, trivial⟩ ⟨rfl, (entE (by simp [rowI])), trivial⟩ rfl rfl
    rintro m_ s_ ⟨j, hk19, hm20, rfl⟩
    iterate 4 refine w_ ?_
    cases hb21 : (decide ((j : Int) < ((((enbs s.1 mk).take (enbs s.1 mk).length).drop ((i : Int) + 1).toNat).length : Int)))
    ·have hb21' := of_decide_eq_false hb21
     refine w_ ?_
     refine AC.exit ?_
     refine (?_ : AC _ _ _ _ _)
     iterate 3 refine w_ ?_
     refine AL.nil <| lend ⟨i + 1, by omega, rfl, rfl⟩ (by omega) ?_
     exact Wk.of [(0, 0), (7, 8)] rfl ⟨rfl, rfl, rfl, rfl, rfl, rfl, rfl, rfl, rfl, rfl, rfl, rfl, rfl, rfl, rfl, rfl, rfl, rfl, rfl, trivial⟩ ⟨rfl, (entE (allI_end th (by simp only [List.length_take, List.length_drop] at *; omega))), trivial⟩ rfl rfl
    ·have hb21' := of_decide_eq_true hb21
     iterate 5 refine w_ ?_
     obtain ⟨u, hx23⟩ : ∃ z, (((enbs s.1 mk).take (enbs s.1 mk).length).drop ((i : Int) + 1).toNat)[j]? = some z := ⟨_, List.getElem?_eq_getElem (by omega)⟩
     have hdl : (((enbs s.1 mk).take (enbs s.1 mk).length).drop ((i : Int) + 1).toNat).length ≤ 24 := by simp only [List.length_drop, List.length_take]; omega
     have uh := conc_at hx23
     have ud := conc_dr hx23
     have uq := enbs_mem uh
     refine lc (Does.indexE (Evl.tmp rfl) (Evl.tmp rfl) und_106 tsh_3 rfl (by omega) hx23) ?_
     refine w_ ?_
     refine AL.fact (fact_int (x := .tmp 48) (Evl.tmp rfl)) fun hi24 => ?_
     iterate 2 refine w_ ?_
     obtain ⟨xt, hx26⟩ : ∃ z, s.1.2[(t).toNat]? = some z := ⟨_, List.getElem?_eq_getElem (by omega)⟩
     have xth := hx26
     obtain ⟨xu, hx28⟩ : ∃ z, s.1.2[(u).toNat]? = some z := ⟨_, List.getElem?_eq_getElem (by omega)⟩
     have xuh := hx28
     refine dw [io 49 (lP 0 0), io 50 (lP 0 1), io 51 (lf (.dat (.sl 159 (.pr (.sl 3 .int) (.sl 3 .int))) s.1.2)), io 52 (lI t), io 53 (lf (.elt (.pr (.sl 3 .int) (.sl 3 .int)) xt 0)), io 54 (lf (.elt (.pr (.sl 3 .int) (.sl 3 .int)) xt 0)), io 55 (lf (.dat (.sl 3 .int) xt.1)), io 56 (lP 0 0), io 57 (lP 0 1), io 58 (lf (.dat (.sl 159 (.pr (.sl 3 .int) (.sl 3 .int))) s.1.2)), io 59 (lI u), io 60 (lf (.elt (.pr (.sl 3 .int) (.sl 3 .int)) xu 0)), io 61 (lf (.elt (.pr (.sl 3 .int) (.sl 3 .int)) xu 0)), io 62 (lf (.dat (.sl 3 .int) xu.1)), io 63 (lB (xt.1.any (fun p => xu.1.any (fun y => decide (p = y))))), io 64 (lB (!(xt.1.any (fun p => xu.1.any (fun y => decide (p = y))))))] [0, 1, 3, 0, 15, 31, 63, 0, 128, 384, 0, 1920, 3968, 8064, 16383, 32767] mixed rfl (by kernel_rfl) ⟨dxf fld_39_0 rfl rfl rfl, dxf fld_35_1 rfl rfl rfl, dxl tsh_33 rfl rfl rfl rfl rfl, dxm rfl rfl, fun _ h_ => ac (Does.indexE (h_.v rfl) (h_.v rfl) und_33 tsh_159 rfl (by omega) hx26) rfl, fun _ h_ => ac (Does.fieldE (h_.v rfl) fld_159_0 rfl) rfl, fun _ h_ => ac (Does.loadE (h_.v rfl) tsh_106 rfl rfl) rfl, dxf fld_39_0 rfl rfl rfl, dxf fld_35_1 rfl rfl rfl, dxl tsh_33 rfl rfl rfl rfl rfl, dxm rfl rfl, fun _ h_ => ac (Does.indexE (h_.v rfl) (h_.v rfl) und_33 tsh_159 rfl (by omega) hx28) rfl, fun _ h_ => ac (Does.fieldE (h_.v rfl) fld_159_0 rfl) rfl, fun _ h_ => ac (Does.loadE (h_.v rfl) tsh_106 rfl rfl) rfl, fun _ h_ => ac (Does.call (fc_impl_share xt.1 xu.1) enters_115 ⟨_, _, rfl, (h_.w rfl), ⟨_, _, rfl, (h_.w rfl), rfl⟩⟩ rfl rfl) rfl, fun _ h_ => ac (Does.not (h_.v rfl) rfl) rfl, ⟨⟩⟩ ?_
     cases hb29 : (xt.1.any (fun p => xu.1.any (fun y => decide (p = y))))
     ·iterate 5 refine w_ ?_
      refine lc (Does.buildSlice 9 (e := .int) und_106 tsh_3 zer_3 rfl ⟨_, _, rfl, (Ev.tmp rfl), ⟨_, _, rfl, (Ev.tmp rfl), rfl⟩⟩ (List.all_eq_true.1 rfl) ⟨_, _, _, _, rfl, ⟨rfl, rfl⟩, ⟨_, _, _, _, rfl, ⟨rfl, rfl⟩, ⟨rfl, rfl⟩, rfl⟩, rfl⟩ (by decide) rfl rfl (Fresh.of rfl) (nlr rfl)) <| lc (Does.buildSlice 10 (e := (.sl 3 .int)) und_30 tsh_106 zer_106 rfl ⟨_, _, rfl, (Ev.tmp rfl), rfl⟩ (List.all_eq_true.1 rfl) ⟨_, _, _, _, rfl, (.inl ⟨_, rfl, rfl, rfl⟩), ⟨rfl, rfl⟩, rfl⟩ (by decide) rfl rfl (Fresh.of rfl) (nlr rfl)) <| lc (Does.append 11 (Evl.tmp rfl) rfl (Evl.tmp rfl) rfl rfl und_30 elb_106 (by (have := conc_lenI (n := s.1) (ms := ((exploreV s).1).1) (k := k) (on := enbs s.1 mk) (i := i) (l := ((enbs s.1 mk).drop (i + 1)).take j) (t := t) (exploreV_net (by assumption)) (by omega) exploreV_few (by have := exploreV_net (s := s) (by assumption); omega) (by omega) (by have := exploreV_net (s := s) (by assumption); simp only [List.length_take, List.length_drop]; omega); simp only [List.length_cons, List.length_nil] at *; omega)) rfl (Fresh.of rfl) (nlr rfl)) ?_
      refine w_ ?_
      refine AL.nil ?_
      refine (?_ : AC _ _ _ _ _)
      iterate 3 refine w_ ?_
      refine AL.nil <| lend ⟨j + 1, by omega, rfl, rfl⟩ (by omega) ?_
      exact Wk.of [(0, 0), (8, 11)] rfl ⟨rfl, rfl, rfl, rfl, rfl, rfl, rfl, rfl, rfl, rfl, rfl, rfl, rfl, rfl, rfl, rfl, rfl, rfl, rfl, rfl, rfl, rfl, rfl, rfl, rfl, rfl, rfl, rfl, rfl, rfl, rfl, trivial⟩ ⟨rfl, (entE (by first | exact rowI_app ud xth xuh (by assumption) | exact rowI_app2 ud xth xuh (by assumption))), trivial⟩ rfl rfl
     ·refine w_ ?_
      refine AC.skip ?_
      refine (?_ : AC _ _ _ _ _)
      iterate 3 refine w_ ?_
      refine AL.nil <| lend ⟨j + 1, by omega, rfl, rfl⟩ (by omega) ?_
      exact Wk.of [(0, 0), (8, 8)] rfl ⟨rfl, rfl, rfl, rfl, rfl, rfl, rfl, rfl, rfl, rfl, rfl, rfl, rfl, rfl, rfl, rfl, rfl, rfl, rfl, rfl, rfl, rfl, rfl, rfl, rfl, rfl, rfl, rfl, rfl, rfl, rfl, trivial⟩ ⟨rfl, (entE (by first | exact rowI_app ud xth xuh (by assumption) | exact rowI_app2 ud xth xuh (by assumption))), trivial⟩ rfl rfl

end Go.Proofs.YtnakmhfjafecpaaGreat

/- Walks over abstract states: whether an order may be put in, both sides. -/
namespace Go.Proofs.YtnakmhfjafecpaaGreat
open Go.RowKit
set_option maxRecDepth 100000
set_option maxHeartbeats 4000000

section
variable [∀ s, Decidable (StgOk s)] {s : DSTG} {o : DOrdering}
/-- Whether a graph with an ordering preserves its firings. -/
def goodV (s : DSTG) (o : DOrdering) : Bool := (addV s o).2 && ((pfV s (addV s o).1).2 && (pfV s (addV s o).1).1)
/-- The label's signal is one that is no input. -/
def outB (s : DSTG) (b : Int) : Bool := decide (0 ≤ ((s.2.2.1[b.toNat]?).getD (0, false)).1) && !decide (((s.2.1[(((s.2.2.1[b.toNat]?).getD (0, false)).1).toNat]?).getD (ByteArray.empty, 0)).2 = 1)
theorem goodV_no (h : (addV s o).2 = false) : false = goodV s o := by unfold goodV; rw [h]; rfl
theorem goodV_p2 (h : (addV s o).2 = true) (h2 : (pfV s (addV s o).1).2 = false) : false = goodV s o := by unfold goodV; rw [h, h2]; rfl
theorem goodV_p (h : (addV s o).2 = true) (h2 : (pfV s (addV s o).1).2 = true) : (pfV s (addV s o).1).1 = goodV s o := by unfold goodV; rw [h, h2]; rfl
theorem l26V_add : (l26V s o).2 = (addV s o).2 ∧ ((l26V s o).2 = true → (l26V s o).1 = (addV s o).1) := by
  unfold l26V addV
  split
  · unfold stgIfV
    split
    · rename_i h; exact ⟨decide_eq_true h, fun _ => rfl⟩
    · rename_i h; exact ⟨decide_eq_false h, fun h2 => absurd (of_decide_eq_true h2) h⟩
  · exact ⟨rfl, fun h => by cases h⟩
theorem outB_neg {l : Int × Bool} (hx : s.2.2.1[(o.2.1).toNat]? = some l) (h : l.1 < 0) : false = (outB s o.2.1 && goodV s o) := by unfold outB; rw [hx]; simp; intro h2; omega
theorem outB_in {l : Int × Bool} {g : DSignal} (hx : s.2.2.1[(o.2.1).toNat]? = some l) (hg : s.2.1[(l.1).toNat]? = some g) (h : g.2 = 1) : false = (outB s o.2.1 && goodV s o) := by unfold outB; rw [hx]; simp [hg, h]
theorem outB_yes {l : Int × Bool} {g : DSignal} (hx : s.2.2.1[(o.2.1).toNat]? = some l) (h0 : ¬ l.1 < 0) (hg : s.2.1[(l.1).toNat]? = some g) (h : ¬ g.2 = 1) : outB s o.2.1 = true := by unfold outB; rw [hx]; simp [hg, h]; omega
theorem l26_no (h1 : outB s o.2.1 = true) (h : (l26V s o).2 = false) : false = (outB s o.2.1 && goodV s o) := by rw [h1, ← goodV_no (by rw [← l26V_add.1]; exact h)]; rfl
theorem l26_p2 (h1 : outB s o.2.1 = true) (h : (l26V s o).2 = true) (h2 : (pfV s (l26V s o).1).2 = false) : false = (outB s o.2.1 && goodV s o) := by
  rw [l26V_add.2 h] at h2
  rw [h1, ← goodV_p2 (by rw [← l26V_add.1]; exact h) h2]; rfl
theorem l26_p (h1 : outB s o.2.1 = true) (h : (l26V s o).2 = true) (h2 : (pfV s (l26V s o).1).2 = true) : (pfV s (l26V s o).1).1 = (outB s o.2.1 && goodV s o) := by
  rw [l26V_add.2 h] at h2 ⊢
  rw [h1, goodV_p (by rw [← l26V_add.1]; exact h) h2]; rfl
end

theorem fc_impl_isAdmissible (s : (Int × (List (List Int × List Int))) × (List (ByteArray × Int)) × (List (Int × Bool)) × ByteArray) (o : Int × Int × Bool) [∀ s, Decidable (StgOk s)] (hz : Ty.tot tSTG s ≤ 2000000) : FC Tryz.prog 95 [(true, [dI s.1.1, .dat (.sl 159 (.pr (.sl 3 .int) (.sl 3 .int))) s.1.2, .dat (.sl 145 (.pr .str .int)) s.2.1, .dat (.sl 61 (.pr .int .bool)) s.2.2.1, dS s.2.2.2]), (true, [dI o.1, dI o.2.1, dB o.2.2])] [] 0 (Pure (lB (goodV s o))) := by
 refine FC.go Tryz.func95 rfl rfl Tryz.ntmps95 fun O_ hO w0_ N0_ X_ h0_ f0_ => ?_
 refine AC.fact (fact_ag (x := .tmp 0) (i := 0) (Ev.tmp rfl) rfl) fun hi1 => AC.fact (fact_ag (x := .tmp 1) (i := 0) (Ev.tmp rfl) rfl) fun hi2 => AC.fact (fact_ag (x := .tmp 1) (i := 1) (Ev.tmp rfl) rfl) fun hi3 => ?_
 refine w_ ?_
 refine lc (Does.box 0 (Ev.tmp rfl) rfl rfl (Fresh.of rfl) (nlr rfl)) <| lc (Does.box 1 (Ev.tmp rfl) rfl rfl (Fresh.of rfl) (nlr rfl)) ?_
 iterate 5 refine w_ ?_
 refine lc (Does.call (fc_impl_AddOrdering s o hz).frozenG enters_174 ⟨_, _, rfl, (Ev.tmp rfl), ⟨_, _, rfl, (Ev.tmp rfl), rfl⟩⟩ rfl rfl) ?_
 iterate 3 refine w_ ?_
 refine lc (Does.alloc 2 (.pr (.pr .int (.sl 159 (.pr (.sl 3 .int) (.sl 3 .int)))) (.pr (.sl 145 (.pr .str .int)) (.pr (.sl 61 (.pr .int .bool)) .str))) zer_39 rfl rfl (Fresh.of rfl) (nlr rfl)) <| lc (Does.storeP (Evl.tmp rfl) rfl (Ev.tmp rfl) rfl tsh_39 rfl) ?_
 iterate 7 refine w_ ?_
 cases hb4 : ((addV s o).2)
 ·iterate 4 refine w_ ?_
  refine AC.ret ?_
  subst hO
  have e5 : (false : Bool) = (goodV s o) := by
   exact goodV_no (by assumption)
  exact fin_pure (Res.one rfl (Rs.tmp rfl)) ((congrArg (fun z_ => lB z_) e5)) rfl
 ·iterate 5 refine w_ ?_
  refine lc (Does.call (fc_impl_PreservesFirings s ((addV s o).1)) enters_175 ⟨_, _, rfl, (Ev.tmp rfl), ⟨_, _, rfl, (Ev.tmp rfl), rfl⟩⟩ rfl rfl) ?_
  iterate 9 refine w_ ?_
  cases hb6 : ((pfV s ((addV s o).1)).2)
  ·iterate 4 refine w_ ?_
   refine AC.ret ?_
   subst hO
   have e7 : (false : Bool) = (goodV s o) := by
    exact goodV_p2 (by assumption) (by assumption)
   exact fin_pure (Res.one rfl (Rs.tmp rfl)) ((congrArg (fun z_ => lB z_) e7)) rfl
  ·iterate 4 refine w_ ?_
   refine AC.ret ?_
   subst hO
   have e8 : ((pfV s ((addV s o).1)).1 : Bool) = (goodV s o) := by
    exact goodV_p (by assumption) (by assumption)
   exact fin_pure (Res.one rfl (Rs.tmp rfl)) ((congrArg (fun z_ => lB z_) e8)) rfl

theorem fc_spec_l26Good (s : (Int × (List (List Int × List Int))) × (List (ByteArray × Int)) × (List (Int × Bool)) × ByteArray) (o : Int × Int × Bool) [∀ s, Decidable (StgOk s)] (hz : Ty.tot tSTG s ≤ 2000000) (hb : 0 ≤ o.2.1 ∧ o.2.1 < (s.2.2.1.length : Int)) (hl : ∀ l ∈ s.2.2.1, l.1 < (s.2.1.length : Int)) : FC Tryz.prog 167 [(true, [dI s.1.1, .dat (.sl 159 (.pr (.sl 3 .int) (.sl 3 .int))) s.1.2, .dat (.sl 145 (.pr .str .int)) s.2.1, .dat (.sl 61 (.pr .int .bool)) s.2.2.1, dS s.2.2.2]), (true, [dI o.1, dI o.2.1, dB o.2.2])] [] 0 (Pure (lB (outB s o.2.1 && goodV s o))) := by
 refine FC.go Tryz.func167 rfl rfl Tryz.ntmps167 fun O_ hO w0_ N0_ X_ h0_ f0_ => ?_
 refine AC.fact (fact_ag (x := .tmp 0) (i := 0) (Ev.tmp rfl) rfl) fun hi1 => AC.fact (fact_ag (x := .tmp 1) (i := 0) (Ev.tmp rfl) rfl) fun hi2 => AC.fact (fact_ag (x := .tmp 1) (i := 1) (Ev.tmp rfl) rfl) fun hi3 => ?_
 refine w_ ?_
 refine lc (Does.box 0 (Ev.tmp rfl) rfl rfl (Fresh.of rfl) (nlr rfl)) <| lc (Does.box 1 (Ev.tmp rfl) rfl rfl (Fresh.of rfl) (nlr rfl)) ?_
 iterate 7 refine w_ ?_
 obtain ⟨lb, hx5⟩ : ∃ z, s.2.2.1[(o.2.1).toNat]? = some z := ⟨_, List.getElem?_eq_getElem (by omega)⟩
 have lbh := hx5
 have lbl := hl _ (List.mem_of_getElem? hx5)
 refine lc (Does.indexE (Evl.tmp rfl) (Evl.tmp rfl) und_37 tsh_61 rfl (by omega) hx5) ?_
 refine w_ ?_
 refine lc (Does.alloc 2 (.pr .int .bool) zer_61 rfl rfl (Fresh.of rfl) (nlr rfl)) <| lc (Does.storeP (Evl.tmp rfl) rfl (Ev.tmp rfl) rfl tsh_61 rfl) ?_
 iterate 5 refine w_ ?_
 refine AL.fact (fact_int (x := .tmp 17) (Evl.tmp rfl)) fun hi6 => ?_
 iterate 2 refine w_ ?_
 cases hb7 : (decide (lb.1 < 0))
 ·have hb7' := of_decide_eq_false hb7
  iterate 4 refine w_ ?_
  obtain ⟨sg, hx9⟩ : ∃ z, s.2.1[(lb.1).toNat]? = some z := ⟨_, List.getElem?_eq_getElem (by omega)⟩
  have sgh := hx9
  refine lgy rfl rfl (Does.indexE (Evl.tmp rfl) (Evl.tmp rfl) und_36 tsh_145 rfl (by omega) hx9) ?_
  iterate 5 refine w_ ?_
  cases hb10 : (decide (sg.2 = 1))
  ·have hb10' := of_decide_eq_false hb10
   iterate 5 refine w_ ?_
   refine lc (Does.call (fc_spec_l26Add s o hz).frozenG enters_176 ⟨_, _, rfl, (Ev.tmp rfl), ⟨_, _, rfl, (Ev.tmp rfl), rfl⟩⟩ rfl rfl) ?_
   iterate 3 refine w_ ?_
   refine lc (Does.alloc 3 (.pr (.pr .int (.sl 159 (.pr (.sl 3 .int) (.sl 3 .int)))) (.pr (.sl 145 (.pr .str .int)) (.pr (.sl 61 (.pr .int .bool)) .str))) zer_39 rfl rfl (Fresh.of rfl) (nlr rfl)) <| lc (Does.storeP (Evl.tmp rfl) rfl (Ev.tmp rfl) rfl tsh_39 rfl) ?_
   iterate 7 refine w_ ?_
   cases hb11 : ((l26V s o).2)
   ·iterate 4 refine w_ ?_
    refine AC.ret ?_
    subst hO
    have e12 : (false : Bool) = (outB s o.2.1 && goodV s o) := by
     exact l26_no (outB_yes lbh (by assumption) sgh (by assumption)) (by assumption)
    exact fin_pure (Res.one rfl (Rs.tmp rfl)) ((congrArg (fun z_ => lB z_) e12)) rfl
   ·iterate 5 refine w_ ?_
    refine lc (Does.call (fc_spec_PreservesFirings s ((l26V s o).1)) enters_228 ⟨_, _, rfl, (Ev.tmp rfl), ⟨_, _, rfl, (Ev.tmp rfl), rfl⟩⟩ rfl rfl) ?_
    iterate 9 refine w_ ?_
    cases hb13 : ((pfV s ((l26V s o).1)).2)
    ·iterate 4 refine w_ ?_
     refine AC.ret ?_
     subst hO
     have e14 : (false : Bool) = (outB s o.2.1 && goodV s o) := by
      exact l26_p2 (outB_yes lbh (by assumption) sgh (by assumption)) (by assumption) (by assumption)
     exact fin_pure (Res.one rfl (Rs.tmp rfl)) ((congrArg (fun z_ => lB z_) e14)) rfl
    ·iterate 4 refine w_ ?_
     refine AC.ret ?_
     subst hO
     have e15 : ((pfV s ((l26V s o).1)).1 : Bool) = (outB s o.2.1 && goodV s o) := by
      exact l26_p (outB_yes lbh (by assumption) sgh (by assumption)) (by assumption) (by assumption)
     exact fin_pure (Res.one rfl (Rs.tmp rfl)) ((congrArg (fun z_ => lB z_) e15)) rfl
  ·have hb10' := of_decide_eq_true hb10
   iterate 4 refine w_ ?_
   refine AC.ret ?_
   subst hO
   have e16 : (false : Bool) = (outB s o.2.1 && goodV s o) := by
    exact outB_in lbh sgh (by assumption)
   exact fin_pure (Res.one rfl (Rs.tmp rfl)) ((congrArg (fun z_ => lB z_) e16)) rfl
 ·have hb7' := of_decide_eq_true hb7
  iterate 14 refine w_ ?_
  refine AC.ret ?_
  subst hO
  have e17 : (false : Bool) = (outB s o.2.1 && goodV s o) := by
   exact outB_neg lbh (by assumption)
  exact fin_pure (Res.one rfl (Rs.tmp rfl)) ((congrArg (fun z_ => lB z_) e17)) rfl

end Go.Proofs.YtnakmhfjafecpaaGreat
