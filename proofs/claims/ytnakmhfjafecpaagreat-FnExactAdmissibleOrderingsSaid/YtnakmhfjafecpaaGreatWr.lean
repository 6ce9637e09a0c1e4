/- Walks over abstract states: valid reachability graphs, dead transitions, deadlocks. -/
import Derived.Test.YtnakmhfjafecpaaGreatWq
set_option linter.unusedSimpArgs false
set_option linter.unusedVariables false
set_option linter.unusedSectionVars false
namespace Go.Proofs.YtnakmhfjafecpaaGreat
open Go.RowKit
set_option maxRecDepth 100000
set_option maxHeartbeats 4000000

abbrev DRg := List ByteArray × List DMv
instance (n m : Nat) (v : DMv) : Decidable (MvOk n m v) := inferInstanceAs (Decidable (_ ∧ _))
def GoodR (r : DRg) : Prop := (1 ≤ r.1.length ∧ r.1.length ≤ 300) ∧ r.2.length ≤ 4000 ∧ r.1.Nodup ∧ ∀ v ∈ r.2, MvOk r.1.length 24 v
instance (r : DRg) : Decidable (GoodR r) := inferInstanceAs (Decidable (_ ∧ _))
def seenL (l : List ByteArray) : List (ByteArray × Bool) := l.foldl (fun m x => mset .str m x true) []
section
variable {r : DRg} {k : Nat} {x y : ByteArray} {v : DMv} {l : List ByteArray} {m : List (ByteArray × Bool)}
theorem mset_len : (∃ p ∈ m, p.1 = x) ∧ (mset .str m x true).length = m.length ∧ (∀ z, (∃ p ∈ mset .str m x true, p.1 = z) ↔ ∃ p ∈ m, p.1 = z) ∨ (¬ ∃ p ∈ m, p.1 = x) ∧ mset .str m x true = m ++ [(x, true)] := by
  by_cases h : ∃ p ∈ m, p.1 = x
  · refine .inl ⟨h, ?_⟩
    induction m with
    | nil => obtain ⟨p, hp, _⟩ := h; cases hp
    | cons q m ih =>
      unfold mset
      by_cases e : Ty.beq .str q.1 x = true
      · rw [if_pos e]
        have e2 : q.1 = x := (Ty.beq_iff .str q.1 x).1 e
        refine ⟨by simp, fun z => ?_⟩
        simp [e2]
      · rw [if_neg e]
        obtain ⟨p, hp, h2⟩ := h
        rcases List.mem_cons.1 hp with rfl | hp
        · exact absurd ((Ty.beq_iff .str p.1 x).2 h2) e
        · obtain ⟨h3, h4⟩ := ih ⟨p, hp, h2⟩
          refine ⟨by simp [h3], fun z => ?_⟩
          constructor
          · rintro ⟨p, hp, e3⟩
            rcases List.mem_cons.1 hp with rfl | hp
            · exact ⟨p, List.mem_cons_self .., e3⟩
            · obtain ⟨p2, hp2, e2⟩ := (h4 z).1 ⟨p, hp, e3⟩
              exact ⟨p2, List.mem_cons_of_mem _ hp2, e2⟩
          · rintro ⟨p, hp, e3⟩
            rcases List.mem_cons.1 hp with rfl | hp
            · exact ⟨p, List.mem_cons_self .., e3⟩
            · obtain ⟨p2, hp2, e2⟩ := (h4 z).2 ⟨p, hp, e3⟩
              exact ⟨p2, List.mem_cons_of_mem _ hp2, e2⟩
  · exact .inr ⟨h, mset_none fun p hp e => h ⟨p, hp, e⟩⟩
theorem seen_gen (l : List ByteArray) : ∀ m : List (ByteArray × Bool), (l.foldl (fun m x => mset .str m x true) m).length ≤ m.length + l.length ∧ ((l.foldl (fun m x => mset .str m x true) m).length = m.length + l.length ↔ l.Nodup ∧ ∀ x ∈ l, ¬ ∃ p ∈ m, p.1 = x) := by
  induction l with
  | nil => intro m; simp
  | cons x l ih =>
    intro m
    obtain ⟨h1, h2⟩ := ih (mset .str m x true)
    simp only [List.foldl_cons, List.length_cons]
    rcases mset_len (m := m) (x := x) with ⟨h3, h4, h5⟩ | ⟨h3, h4⟩
    · rw [h4] at h1
      refine ⟨by omega, ⟨fun h => by omega, fun h => absurd h3 (h.2 x (List.mem_cons_self ..))⟩⟩
    · rw [h4, List.length_append] at h1 h2
      rw [h4]
      simp only [List.length_cons, List.length_nil] at h1 h2
      refine ⟨by omega, ⟨fun h => ?_, fun h => ?_⟩⟩
      · obtain ⟨k1, k2⟩ := h2.1 (by omega)
        refine ⟨List.nodup_cons.2 ⟨fun hm => k2 x hm ⟨(x, true), by simp, rfl⟩, k1⟩, fun y hy => ?_⟩
        rcases List.mem_cons.1 hy with rfl | hy
        · exact h3
        · exact fun ⟨p, hp, e⟩ => k2 y hy ⟨p, List.mem_append_left _ hp, e⟩
      · obtain ⟨k1, k2⟩ := h
        have k3 := List.nodup_cons.1 k1
        have := h2.2 ⟨k3.2, fun y hy ⟨p, hp, e⟩ => by
          rcases List.mem_append.1 hp with hp | hp
          · exact k2 y (List.mem_cons_of_mem _ hy) ⟨p, hp, e⟩
          · rw [List.mem_singleton.1 hp] at e
            exact k3.1 (by rw [show x = y from e]; exact hy)⟩
        omega
theorem seenL_len (l : List ByteArray) : (seenL l).length ≤ l.length := by have := (seen_gen l []).1; simpa [seenL] using this
theorem seenL_nd (l : List ByteArray) : (seenL l).length = l.length ↔ l.Nodup := by
  have := (seen_gen l []).2
  simpa [seenL] using this
theorem seenL_snoc (hx : l[k]? = some x) : mset .str (seenL (l.take k)) x true = seenL (l.take (k + 1)) := by
  rw [take_snoc hx]
  simp [seenL]
theorem mvs_step {n q : Nat} {ms : List DMv} (h : ∀ j, j < k → ∀ w, ms[j]? = some w → MvOk n q w) (hx : ms[k]? = some v) (hv : MvOk n q v) : ∀ j, j < k + 1 → ∀ w, ms[j]? = some w → MvOk n q w := fun j hj w hw => by
  by_cases e : j = k
  · subst e; rw [hx] at hw; cases hw; exact hv
  · exact h j (by omega) w hw
theorem mvs_all {n q : Nat} {ms : List DMv} (h : ∀ j, j < k → ∀ w, ms[j]? = some w → MvOk n q w) (hk : ms.length ≤ k) : ∀ w ∈ ms, MvOk n q w := fun w hw => by
  obtain ⟨j, hj⟩ := List.mem_iff_getElem?.1 hw
  have := (List.getElem?_eq_some_iff.1 hj).1
  exact h j (by omega) w hj
theorem good_no (h : ¬ GoodR r) : false = decide (GoodR r) := (decide_eq_false h).symm
theorem good_no_mv (hx : r.2[k]? = some v) (h : ¬ MvOk r.1.length 24 v) : false = decide (GoodR r) := good_no fun g => h (g.2.2.2 v (List.mem_of_getElem? hx))
theorem good_no_len (h : ¬ ((1 : Int) ≤ (r.1.length : Int) ∧ (r.1.length : Int) ≤ 300)) : false = decide (GoodR r) := good_no fun g => h (by have := g.1; omega)
theorem good_no_mvs (h : (4000 : Int) < (r.2.length : Int)) : false = decide (GoodR r) := good_no fun g => by have := g.2.1; omega
theorem good_no_nd (hm : m = seenL (r.1.take k)) (hk : r.1.length ≤ k) (h : ¬ (m.length : Int) = (r.1.length : Int)) : false = decide (GoodR r) := good_no fun g => by
  rw [hm, List.take_of_length_le hk] at h
  exact h (by rw [(seenL_nd r.1).2 g.2.2.1])
theorem good_fin (h1 : (1 : Int) ≤ (r.1.length : Int) ∧ (r.1.length : Int) ≤ 300) (hm : m = seenL (r.1.take k)) (hk : r.1.length ≤ k) (h : (m.length : Int) = (r.1.length : Int)) (h2 : ∀ v ∈ r.2, MvOk r.1.length 24 v) : decide ((r.2.length : Int) ≤ 4000) = decide (GoodR r) := by
  rw [hm, List.take_of_length_le hk] at h
  have h3 := (seenL_nd r.1).1 (by omega)
  refine decide_eq_decide.2 ⟨fun h4 => ⟨by omega, by omega, h3, h2⟩, fun g => by have := g.2.1; omega⟩
theorem good_yes (h1 : (1 : Int) ≤ (r.1.length : Int) ∧ (r.1.length : Int) ≤ 300) (h4 : ¬ (4000 : Int) < (r.2.length : Int)) (h3 : r.1.Nodup) (h2 : ∀ v ∈ r.2, MvOk r.1.length 24 v) : true = decide (GoodR r) := (decide_eq_true ⟨by omega, by omega, h3, h2⟩).symm
theorem good_no_dup (hx : r.1[k]? = some x) (h : x ∈ r.1.take k) : false = decide (GoodR r) := good_no fun g => by
  have h1 := g.2.2.1
  rw [← List.take_append_drop k r.1, drop_cons hx] at h1
  exact (List.nodup_append.1 h1).2.2 x h x (List.mem_cons_self ..) rfl
theorem nd_step (h : (l.take k).Nodup) (hx : l[k]? = some x) (hn : x ∉ l.take k) : (l.take (k + 1)).Nodup := by
  rw [take_snoc hx]
  exact List.nodup_append.2 ⟨h, by simp, fun a ha b hb e => hn (by rw [← List.mem_singleton.1 hb, ← e]; exact ha)⟩
theorem find_in (h : 0 ≤ findB l x) : x ∈ l := by
  unfold findB idxF at h
  cases hf : l.findIdx? (fun y => decide (y = x)) with
  | none => rw [hf] at h; simp at h
  | some i =>
    obtain ⟨h1, h2, _⟩ := List.findIdx?_eq_some_iff_getElem.1 hf
    have := of_decide_eq_true h2
    rw [← this]
    exact List.getElem_mem h1
end
/-- The numbers below k at which f does not hold. -/
def freeI (f : Int → Bool) : Nat → List Int
  | 0 => []
  | k + 1 => freeI f k ++ (if f (k : Int) = true then [] else [(k : Int)])
section
variable {f : Int → Bool} {k n : Nat} {α : Type _} {l : List α} {p : α → Bool} {x : α}
theorem freeI_keep (h : f (k : Int) = true) : freeI f k = freeI f (k + 1) := by simp [freeI, h]
theorem freeI_add (h : f (k : Int) = false) : freeI f k ++ [(k : Int)] = freeI f (k + 1) := by simp [freeI, h]
theorem freeI_len (f : Int → Bool) (k : Nat) : (freeI f k).length ≤ k := by
  induction k with
  | zero => simp [freeI]
  | succ k ih => simp only [freeI, List.length_append]; split <;> simp <;> omega
theorem any_take (hx : l[k]? = some x) : (l.take (k + 1)).any p = ((l.take k).any p || p x) := by rw [take_snoc hx]; simp
end
def byT (r : DRg) (t : Int) : Bool := r.2.any fun v => decide (v.2.1 = t)
def fromK (r : DRg) (t : Int) : Bool := r.2.any fun v => decide (v.1 = t)
def mfV (r : DRg) (k : Int) : List DMv × Bool := if GoodR r ∧ 0 ≤ k ∧ k < r.1.length then (r.2.filter fun v => decide (v.1 = k), true) else ([], false)
def dlV (r : DRg) : List Int × Bool := if GoodR r then (freeI (fromK r) r.1.length, true) else ([], false)
section
variable [∀ s, Decidable (StgOk s)]
def dtV (s : DSTG) (r : DRg) : List Int × Bool := if StgOk s ∧ GoodR r then (freeI (byT r) s.2.2.1.length, true) else ([], false)
theorem dtV_no1 {s : DSTG} {r : DRg} (h : ¬ StgOk s) : dtV s r = ([], false) := if_neg fun g => h g.1
theorem dtV_no2 {s : DSTG} {r : DRg} (h : ¬ GoodR r) : dtV s r = ([], false) := if_neg fun g => h g.2
theorem dtV_yes {s : DSTG} {r : DRg} (h : StgOk s) (g : GoodR r) : dtV s r = (freeI (byT r) s.2.2.1.length, true) := if_pos ⟨h, g⟩
end
theorem dlV_no {r : DRg} (h : ¬ GoodR r) : dlV r = ([], false) := if_neg h
theorem dlV_yes {r : DRg} (g : GoodR r) : dlV r = (freeI (fromK r) r.1.length, true) := if_pos g
theorem mfV_no1 {r : DRg} {k : Int} (h : ¬ GoodR r) : mfV r k = ([], false) := if_neg fun g => h g.1
theorem mfV_no2 {r : DRg} {k : Int} (h : ¬ (0 ≤ k ∧ k ≤ (r.1.length : Int) - 1)) : mfV r k = ([], false) := if_neg fun g => h (by have := g.2; omega)
theorem mfV_yes {r : DRg} {k : Int} (g : GoodR r) (h : 0 ≤ k ∧ k ≤ (r.1.length : Int) - 1) : mfV r k = (r.2.filter fun v => decide (v.1 = k), true) := if_pos ⟨g, by omega⟩
theorem mf_empty {r : DRg} {k : Nat} (g : GoodR r) (hk : k < r.1.length) : fromK r (k : Int) = !decide (((mfV r (k : Int)).1.length : Int) = 0) := by
  rw [mfV_yes g (by omega)]
  unfold fromK
  rw [Bool.eq_iff_iff]
  simp [List.any_eq_true, List.length_eq_zero_iff]
theorem mf_t {r : DRg} {k : Nat} (g : GoodR r) (hk : k < r.1.length) (h : decide (((mfV r (k : Int)).1.length : Int) = 0) = false) : fromK r (k : Int) = true := by rw [mf_empty g hk, h]; rfl
theorem mf_f {r : DRg} {k : Nat} (g : GoodR r) (hk : k < r.1.length) (h : decide (((mfV r (k : Int)).1.length : Int) = 0) = true) : fromK r (k : Int) = false := by rw [mf_empty g hk, h]; rfl
def filtK (k : Int) (ms : List DMv) : List DMv := ms.filter fun v => decide (v.1 = k)
theorem filtK_len {k : Int} {ms : List DMv} {n : Nat} (i : Nat) (h : ms.length ≤ n) : (filtK k (ms.take i)).length ≤ n := Nat.le_trans (List.length_filter_le ..) (Nat.le_trans (by rw [List.length_take]; exact Nat.min_le_right _ _) h)
theorem filt_yes {ms : List DMv} {i : Nat} {v : DMv} {k : Int} (hx : ms[i]? = some v) (h : decide (v.1 = k) = true) : filtK k (ms.take i) ++ [v] = filtK k (ms.take (i + 1)) := by
  unfold filtK
  rw [take_snoc hx, List.filter_append]; simp [h]
theorem filt_no {ms : List DMv} {i : Nat} {v : DMv} {k : Int} (hx : ms[i]? = some v) (h : decide (v.1 = k) = false) : filtK k (ms.take i) = filtK k (ms.take (i + 1)) := by
  unfold filtK
  rw [take_snoc hx, List.filter_append]; simp [h]

theorem fc_impl_isReach (r : List ByteArray × (List (Int × Int × Int)))  : FC Tryz.prog 301 [(true, [.dat (.sl 9 .str) r.1, .dat (.sl 226 (.pr .int (.pr .int .int))) r.2])] [] 0 (Pure (lB (decide (GoodR r)))) := by
 refine FC.go Tryz.func301 rfl rfl Tryz.ntmps301 fun O_ hO w0_ N0_ X_ h0_ f0_ => ?_
 refine w_ ?_
 refine lc (Does.box 0 (Ev.tmp rfl) rfl rfl (Fresh.of rfl) (nlr rfl)) ?_
 iterate 5 refine w_ ?_
 refine AL.fact (fact_len (x := .tmp 10) (Evl.tmp rfl)) fun hl1 => ?_
 iterate 8 refine w_ ?_
 refine AL.fact (fact_len (x := .tmp 14) (Evl.tmp rfl)) fun hl2 => ?_
 iterate 4 refine w_ ?_
 refine AC.loopW (fun m_ s_ => ∃ (k : Nat), k ≤ r.2.length ∧ m_ = r.2.length - k ∧ (∀ j, j < k → ∀ w, r.2[j]? = some w → MvOk r.1.length 24 w) ∧ s_ = ⟨[(1, lP 0 0), (3, lI ((r.1.length : Int) - 1)), (14, lf (.dat (.sl 226 (.pr .int (.pr .int .int))) r.2)), (15, lI (r.2.length : Int)), (16, lI (k : Int))], [(0, some (.box 98 [.dat (.sl 9 .str) r.1, .dat (.sl 226 (.pr .int (.pr .int .int))) r.2]))]⟩) ⟨0, Nat.zero_le _, rfl, (fun j hj => absurd hj (Nat.not_lt_zero j)), rfl⟩ ?_ ?_
 · exact Wk.of [(0, 0)] rfl ⟨rfl, rfl, rfl, rfl, rfl, trivial⟩ ⟨rfl, trivial⟩ rfl rfl
 rintro m_ s_ ⟨k, hk3, hm4, hM, rfl⟩
 iterate 4 refine w_ ?_
 cases hb5 : (decide ((k : Int) < (r.2.length : Int)))
 ·have hb5' := of_decide_eq_false hb5
  refine w_ ?_
  refine AC.exit ?_
  refine (?_ : AC _ _ _ _ _)
  refine w_ ?_
  refine lc (Does.makeMap (kt := 9) (et := 4) (kb := false) (k := .str) (vb := false) (v := .bool) 1 rfl (Fresh.of rfl) (nlr rfl)) ?_
  iterate 6 refine w_ ?_
  refine AL.fact (fact_len (x := .tmp 41) (Evl.tmp rfl)) fun hl6 => ?_
  iterate 4 refine w_ ?_
  refine AC.loopW (fun m_ s_ => ∃ (i : Nat) (sm : List (ByteArray × Bool)), i ≤ r.1.length ∧ m_ = r.1.length - i ∧ (sm = seenL (r.1.take i)) ∧ s_ = ⟨[(1, lP 0 0), (6, lR 2), (41, lf (.dat (.sl 9 .str) r.1)), (42, lI (r.1.length : Int)), (43, lI (i : Int))], [(0, some (.box 98 [.dat (.sl 9 .str) r.1, .dat (.sl 226 (.pr .int (.pr .int .int))) r.2])), (2, some (.mp false .str false .bool sm))]⟩) ⟨0, [], Nat.zero_le _, rfl, rfl, rfl⟩ ?_ ?_
  · exact Wk.of [(0, 0), (2, 1)] rfl ⟨rfl, rfl, rfl, rfl, rfl, trivial⟩ ⟨rfl, (entP (by first | rfl | simp)), trivial⟩ rfl rfl
  rintro m_ s_ ⟨i, sm, hk7, hm8, hS, rfl⟩
  iterate 4 refine w_ ?_
  cases hb9 : (decide ((i : Int) < (r.1.length : Int)))
  ·have hb9' := of_decide_eq_false hb9
   refine w_ ?_
   refine AC.exit ?_
   refine (?_ : AC _ _ _ _ _)
   refine AC.seq ?_
   have hsl : sm.length ≤ r.1.length := by rw [hS]; exact Nat.le_trans (seenL_len _) (by rw [List.length_take]; exact Nat.min_le_right _ _)
   iterate 3 refine w_ ?_
   refine AL.fact (fact_len (x := .tmp 51) (Evl.tmp rfl)) fun hl10 => ?_
   refine w_ ?_
   refine lc (Does.call (fc_impl_within (r.1.length : Int) 1 300) enters_154 ⟨_, _, rfl, (Ev.tmp rfl), ⟨_, _, rfl, (Evl.ev (Evl.int rfl)), ⟨_, _, rfl, (Evl.ev (Evl.int rfl)), rfl⟩⟩⟩ rfl rfl) ?_
   refine w_ ?_
   cases hb11 : (decide (1 ≤ (r.1.length : Int) ∧ (r.1.length : Int) ≤ 300))
   ·have hb11' := of_decide_eq_false hb11
    iterate 15 refine w_ ?_
    refine AC.ret ?_
    subst hO
    have e12 : (false : Bool) = (decide (GoodR r)) := by
     exact good_no_len (by assumption)
    exact fin_pure (Res.one rfl (Rs.tmp rfl)) ((congrArg (fun z_ => lB z_) e12)) rfl
   ·have hb11' := of_decide_eq_true hb11
    refine w_ ?_
    refine lgy rfl rfl (Does.lenM (Evl.tmp rfl) rfl und_340 (by omega) rfl) ?_
    iterate 2 refine w_ ?_
    refine AL.fact (fact_len (x := .tmp 58) (Evl.tmp rfl)) fun hl13 => ?_
    iterate 4 refine w_ ?_
    cases hb14 : (decide ((sm.length : Int) = (r.1.length : Int)))
    ·have hb14' := of_decide_eq_false hb14
     iterate 7 refine w_ ?_
     refine AC.ret ?_
     subst hO
     have e15 : (false : Bool) = (decide (GoodR r)) := by
      exact good_no_nd hS (by omega) (by assumption)
     exact fin_pure (Res.one rfl (Rs.tmp rfl)) ((congrArg (fun z_ => lB z_) e15)) rfl
    ·have hb14' := of_decide_eq_true hb14
     iterate 2 refine w_ ?_
     refine AL.fact (fact_len (x := .tmp 64) (Evl.tmp rfl)) fun hl16 => ?_
     iterate 5 refine w_ ?_
     refine AC.ret ?_
     subst hO
     have e17 : (decide ((r.2.length : Int) ≤ 4000) : Bool) = (decide (GoodR r)) := by
      exact good_fin (by assumption) hS (by omega) (by assumption) (mvs_all hM (by omega))
     exact fin_pure (Res.one rfl (Rs.tmp rfl)) ((congrArg (fun z_ => lB z_) e17)) rfl
  ·have hb9' := of_decide_eq_true hb9
   iterate 5 refine w_ ?_
   obtain ⟨x18, hx19⟩ : ∃ z, r.1[i]? = some z := ⟨_, List.getElem?_eq_getElem (by omega)⟩
   refine lc (Does.indexE (Evl.tmp rfl) (Evl.tmp rfl) und_46 tsh_9 rfl (by omega) hx19) ?_
   iterate 6 refine w_ ?_
   refine lc (Does.mapUpdate key_9 und_340 (Evl.tmp rfl) rfl (Ev.tmp rfl) (p := x18) rfl (Evl.ev Evl.bool) (u := true) rfl) <| AL.nil ?_
   refine (?_ : AC _ _ _ _ _)
   iterate 3 refine w_ ?_
   refine AL.nil <| lend ⟨i + 1, (mset .str sm x18 true), by omega, rfl, (by rw [hS]; exact seenL_snoc hx19), rfl⟩ (by omega) ?_
   exact Wk.of [(0, 0), (2, 2)] rfl ⟨rfl, rfl, rfl, rfl, rfl, trivial⟩ ⟨rfl, (entP (by first | rfl | simp)), trivial⟩ rfl rfl
 ·have hb5' := of_decide_eq_true hb5
  iterate 5 refine w_ ?_
  obtain ⟨x20, hx21⟩ : ∃ z, r.2[k]? = some z := ⟨_, List.getElem?_eq_getElem (by omega)⟩
  refine lc (Does.indexE (Evl.tmp rfl) (Evl.tmp rfl) und_96 tsh_226 rfl (by omega) hx21) ?_
  refine w_ ?_
  refine lc (Does.alloc 3 (.pr .int (.pr .int .int)) zer_226 rfl rfl (Fresh.of rfl) (nlr rfl)) <| lc (Does.storeP (Evl.tmp rfl) rfl (Ev.tmp rfl) rfl tsh_226 rfl) ?_
  iterate 4 refine w_ ?_
  refine AL.fact (fact_int (x := .tmp 21) (Evl.tmp rfl)) fun hi22 => ?_
  refine w_ ?_
  refine lc (Does.call (fc_impl_within x20.1 0 ((r.1.length : Int) - 1)) enters_154 ⟨_, _, rfl, (Ev.tmp rfl), ⟨_, _, rfl, (Evl.ev (Evl.int rfl)), ⟨_, _, rfl, (Ev.tmp rfl), rfl⟩⟩⟩ rfl rfl) ?_
  iterate 2 refine w_ ?_
  cases hb23 : (decide (0 ≤ x20.1 ∧ x20.1 ≤ ((r.1.length : Int) - 1)))
  ·have hb23' := of_decide_eq_false hb23
   iterate 17 refine w_ ?_
   refine AC.ret ?_
   subst hO
   have e24 : (false : Bool) = (decide (GoodR r)) := by
    exact good_no_mv hx21 (by unfold MvOk; omega)
   exact fin_pure (Res.one rfl (Rs.tmp rfl)) ((congrArg (fun z_ => lB z_) e24)) rfl
  ·have hb23' := of_decide_eq_true hb23
   iterate 3 refine w_ ?_
   refine lgy rfl rfl (Does.call (fc_impl_within x20.2.2 0 ((r.1.length : Int) - 1)) enters_154 ⟨_, _, rfl, (Ev.tmp rfl), ⟨_, _, rfl, (Evl.ev (Evl.int rfl)), ⟨_, _, rfl, (Ev.tmp rfl), rfl⟩⟩⟩ rfl rfl) ?_
   iterate 3 refine w_ ?_
   cases hb25 : (decide (0 ≤ x20.2.2 ∧ x20.2.2 ≤ ((r.1.length : Int) - 1)))
   ·have hb25' := of_decide_eq_false hb25
    iterate 10 refine w_ ?_
    refine AC.ret ?_
    subst hO
    have e26 : (false : Bool) = (decide (GoodR r)) := by
     exact good_no_mv hx21 (by unfold MvOk; omega)
    exact fin_pure (Res.one rfl (Rs.tmp rfl)) ((congrArg (fun z_ => lB z_) e26)) rfl
   ·have hb25' := of_decide_eq_true hb25
    iterate 2 refine w_ ?_
    refine lgy rfl rfl (Does.call (fc_impl_within x20.2.1 0 23) enters_154 ⟨_, _, rfl, (Ev.tmp rfl), ⟨_, _, rfl, (Evl.ev (Evl.int rfl)), ⟨_, _, rfl, (Evl.ev (Evl.int rfl)), rfl⟩⟩⟩ rfl rfl) ?_
    iterate 3 refine w_ ?_
    cases hb27 : (decide (0 ≤ x20.2.1 ∧ x20.2.1 ≤ 23))
    ·have hb27' := of_decide_eq_false hb27
     iterate 4 refine w_ ?_
     refine AC.ret ?_
     subst hO
     have e28 : (false : Bool) = (decide (GoodR r)) := by
      exact good_no_mv hx21 (by unfold MvOk; omega)
     exact fin_pure (Res.one rfl (Rs.tmp rfl)) ((congrArg (fun z_ => lB z_) e28)) rfl
    ·have hb27' := of_decide_eq_true hb27
     refine w_ ?_
     refine AC.skip ?_
     refine (?_ : AC _ _ _ _ _)
     iterate 3 refine w_ ?_
     refine AL.nil <| lend ⟨k + 1, by omega, rfl, (mvs_step hM hx21 (by unfold MvOk; omega)), rfl⟩ (by omega) ?_
     exact Wk.of [(0, 0)] rfl ⟨rfl, rfl, rfl, rfl, rfl, trivial⟩ ⟨rfl, trivial⟩ rfl rfl

theorem fc_spec_l4Good (r : List ByteArray × (List (Int × Int × Int)))  : FC Tryz.prog 322 [(true, [.dat (.sl 9 .str) r.1, .dat (.sl 226 (.pr .int (.pr .int .int))) r.2])] [] 0 (Pure (lB (decide (GoodR r)))) := by
 refine FC.go Tryz.func322 rfl rfl Tryz.ntmps322 fun O_ hO w0_ N0_ X_ h0_ f0_ => ?_
 refine w_ ?_
 refine lc (Does.box 0 (Ev.tmp rfl) rfl rfl (Fresh.of rfl) (nlr rfl)) ?_
 iterate 6 refine w_ ?_
 refine AL.fact (fact_len (x := .tmp 8) (Evl.tmp rfl)) fun hl1 => ?_
 refine w_ ?_
 refine lc (Does.call (fc_spec_l1In (r.1.length : Int) 1 300) enters_149 ⟨_, _, rfl, (Ev.tmp rfl), ⟨_, _, rfl, (Evl.ev (Evl.int rfl)), ⟨_, _, rfl, (Evl.ev (Evl.int rfl)), rfl⟩⟩⟩ rfl rfl) ?_
 iterate 2 refine w_ ?_
 cases hb2 : (decide (1 ≤ (r.1.length : Int) ∧ (r.1.length : Int) ≤ 300))
 ·have hb2' := of_decide_eq_false hb2
  iterate 10 refine w_ ?_
  refine AC.ret ?_
  subst hO
  have e3 : (false : Bool) = (decide (GoodR r)) := by
   exact good_no_len (by assumption)
  exact fin_pure (Res.one rfl (Rs.tmp rfl)) ((congrArg (fun z_ => lB z_) e3)) rfl
 ·have hb2' := of_decide_eq_true hb2
  iterate 2 refine w_ ?_
  refine AL.fact (fact_len (x := .tmp 14) (Evl.tmp rfl)) fun hl4 => ?_
  iterate 4 refine w_ ?_
  cases hb5 : (decide (4000 < (r.2.length : Int)))
  ·have hb5' := of_decide_eq_false hb5
   iterate 6 refine w_ ?_
   refine AL.fact (fact_len (x := .tmp 19) (Evl.tmp rfl)) fun hl6 => ?_
   iterate 4 refine w_ ?_
   refine AC.loopW (fun m_ s_ => ∃ (i : Nat), i ≤ r.1.length ∧ m_ = r.1.length - i ∧ ((r.1.take i).Nodup) ∧ s_ = ⟨[(1, lP 0 0), (19, lf (.dat (.sl 9 .str) r.1)), (20, lI (r.1.length : Int)), (21, lI (i : Int))], [(0, some (.box 98 [.dat (.sl 9 .str) r.1, .dat (.sl 226 (.pr .int (.pr .int .int))) r.2]))]⟩) ⟨0, Nat.zero_le _, rfl, List.nodup_nil, rfl⟩ ?_ ?_
   · exact Wk.of [(0, 0)] rfl ⟨rfl, rfl, rfl, rfl, trivial⟩ ⟨rfl, trivial⟩ rfl rfl
   rintro m_ s_ ⟨i, hk7, hm8, hD, rfl⟩
   iterate 4 refine w_ ?_
   cases hb9 : (decide ((i : Int) < (r.1.length : Int)))
   ·have hb9' := of_decide_eq_false hb9
    refine w_ ?_
    refine AC.exit ?_
    refine (?_ : AC _ _ _ _ _)
    iterate 4 refine w_ ?_
    refine AL.fact (fact_len (x := .tmp 35) (Evl.tmp rfl)) fun hl10 => ?_
    iterate 4 refine w_ ?_
    refine AC.loopW (fun m_ s_ => ∃ (k : Nat), k ≤ r.2.length ∧ m_ = r.2.length - k ∧ (∀ j, j < k → ∀ w, r.2[j]? = some w → MvOk r.1.length 24 w) ∧ s_ = ⟨[(1, lP 0 0), (35, lf (.dat (.sl 226 (.pr .int (.pr .int .int))) r.2)), (36, lI (r.2.length : Int)), (37, lI (k : Int))], [(0, some (.box 98 [.dat (.sl 9 .str) r.1, .dat (.sl 226 (.pr .int (.pr .int .int))) r.2]))]⟩) ⟨0, Nat.zero_le _, rfl, (fun j hj => absurd hj (Nat.not_lt_zero j)), rfl⟩ ?_ ?_
    · exact Wk.of [(0, 0)] rfl ⟨rfl, rfl, rfl, rfl, trivial⟩ ⟨rfl, trivial⟩ rfl rfl
    rintro m_ s_ ⟨k, hk11, hm12, hM, rfl⟩
    iterate 4 refine w_ ?_
    cases hb13 : (decide ((k : Int) < (r.2.length : Int)))
    ·have hb13' := of_decide_eq_false hb13
     refine w_ ?_
     refine AC.exit ?_
     refine (?_ : AC _ _ _ _ _)
     iterate 3 refine w_ ?_
     refine AC.ret ?_
     subst hO
     have e14 : (true : Bool) = (decide (GoodR r)) := by
      exact good_yes (by assumption) (by assumption) (by rw [take_end (by omega)] at hD; exact hD) (mvs_all hM (by omega))
     exact fin_pure (Res.one rfl (Rs.tmp rfl)) ((congrArg (fun z_ => lB z_) e14)) rfl
    ·have hb13' := of_decide_eq_true hb13
     iterate 5 refine w_ ?_
     obtain ⟨x15, hx16⟩ : ∃ z, r.2[k]? = some z := ⟨_, List.getElem?_eq_getElem (by omega)⟩
     refine lc (Does.indexE (Evl.tmp rfl) (Evl.tmp rfl) und_96 tsh_226 rfl (by omega) hx16) ?_
     refine w_ ?_
     refine lc (Does.alloc 1 (.pr .int (.pr .int .int)) zer_226 rfl rfl (Fresh.of rfl) (nlr rfl)) <| lc (Does.storeP (Evl.tmp rfl) rfl (Ev.tmp rfl) rfl tsh_226 rfl) ?_
     iterate 4 refine w_ ?_
     refine AL.fact (fact_int (x := .tmp 42) (Evl.tmp rfl)) fun hi17 => ?_
     iterate 2 refine w_ ?_
     refine AL.fact (fact_len (x := .tmp 44) (Evl.tmp rfl)) fun hl18 => ?_
     iterate 2 refine w_ ?_
     refine lc (Does.call (fc_spec_l1In x15.1 0 ((r.1.length : Int) - 1)) enters_149 ⟨_, _, rfl, (Ev.tmp rfl), ⟨_, _, rfl, (Evl.ev (Evl.int rfl)), ⟨_, _, rfl, (Ev.tmp rfl), rfl⟩⟩⟩ rfl rfl) ?_
     iterate 2 refine w_ ?_
     cases hb19 : (decide (0 ≤ x15.1 ∧ x15.1 ≤ ((r.1.length : Int) - 1)))
     ·have hb19' := of_decide_eq_false hb19
      iterate 20 refine w_ ?_
      refine AC.ret ?_
      subst hO
      have e20 : (false : Bool) = (decide (GoodR r)) := by
       exact good_no_mv hx16 (by unfold MvOk; omega)
      exact fin_pure (Res.one rfl (Rs.tmp rfl)) ((congrArg (fun z_ => lB z_) e20)) rfl
     ·have hb19' := of_decide_eq_true hb19
      iterate 4 refine w_ ?_
      refine AL.fact (fact_len (x := .tmp 53) (Evl.tmp rfl)) fun hl21 => ?_
      iterate 2 refine w_ ?_
      refine lgy rfl rfl (Does.call (fc_spec_l1In x15.2.2 0 ((r.1.length : Int) - 1)) enters_149 ⟨_, _, rfl, (Ev.tmp rfl), ⟨_, _, rfl, (Evl.ev (Evl.int rfl)), ⟨_, _, rfl, (Ev.tmp rfl), rfl⟩⟩⟩ rfl rfl) ?_
      iterate 3 refine w_ ?_
      cases hb22 : (decide (0 ≤ x15.2.2 ∧ x15.2.2 ≤ ((r.1.length : Int) - 1)))
      ·have hb22' := of_decide_eq_false hb22
       iterate 10 refine w_ ?_
       refine AC.ret ?_
       subst hO
       have e23 : (false : Bool) = (decide (GoodR r)) := by
        exact good_no_mv hx16 (by unfold MvOk; omega)
       exact fin_pure (Res.one rfl (Rs.tmp rfl)) ((congrArg (fun z_ => lB z_) e23)) rfl
      ·have hb22' := of_decide_eq_true hb22
       iterate 2 refine w_ ?_
       refine lgy rfl rfl (Does.call (fc_spec_l1In x15.2.1 0 23) enters_149 ⟨_, _, rfl, (Ev.tmp rfl), ⟨_, _, rfl, (Evl.ev (Evl.int rfl)), ⟨_, _, rfl, (Evl.ev (Evl.int rfl)), rfl⟩⟩⟩ rfl rfl) ?_
       iterate 3 refine w_ ?_
       cases hb24 : (decide (0 ≤ x15.2.1 ∧ x15.2.1 ≤ 23))
       ·have hb24' := of_decide_eq_false hb24
        iterate 4 refine w_ ?_
        refine AC.ret ?_
        subst hO
        have e25 : (false : Bool) = (decide (GoodR r)) := by
         exact good_no_mv hx16 (by unfold MvOk; omega)
        exact fin_pure (Res.one rfl (Rs.tmp rfl)) ((congrArg (fun z_ => lB z_) e25)) rfl
       ·have hb24' := of_decide_eq_true hb24
        refine w_ ?_
        refine AC.skip ?_
        refine (?_ : AC _ _ _ _ _)
        iterate 3 refine w_ ?_
        refine AL.nil <| lend ⟨k + 1, by omega, rfl, (mvs_step hM hx16 (by unfold MvOk; omega)), rfl⟩ (by omega) ?_
        exact Wk.of [(0, 0)] rfl ⟨rfl, rfl, rfl, rfl, trivial⟩ ⟨rfl, trivial⟩ rfl rfl
   ·have hb9' := of_decide_eq_true hb9
    iterate 6 refine w_ ?_
    obtain ⟨x26, hx27⟩ : ∃ z, r.1[i]? = some z := ⟨_, List.getElem?_eq_getElem (by omega)⟩
    refine lc (Does.indexE (Evl.tmp rfl) (Evl.tmp rfl) und_46 tsh_9 rfl (by omega) hx27) ?_
    iterate 8 refine w_ ?_
    refine lc (Does.sliceD (l := none) (h := (some (i : Int))) (Evl.tmp rfl) (by exact trivial) (by exact (Evl.tmp rfl)) und_46 tsh_9 rfl (by simp only [Option.getD_none, Option.getD_some]; omega) (by simp only [Option.getD_none, Option.getD_some]; omega) (by simp only [Option.getD_none, Option.getD_some]; omega)) ?_
    refine w_ ?_
    refine lc (Does.call (fc_spec_l4Find ((r.1.take ((i : Int)).toNat).drop 0) x26) enters_185 ⟨_, _, rfl, (Ev.tmp rfl), ⟨_, _, rfl, (Ev.tmp rfl), rfl⟩⟩ rfl rfl) ?_
    iterate 2 refine w_ ?_
    cases hb28 : (decide (0 ≤ (findB ((r.1.take ((i : Int)).toNat).drop 0) x26)))
    ·have hb28' := of_decide_eq_false hb28
     refine w_ ?_
     refine AC.skip ?_
     refine (?_ : AC _ _ _ _ _)
     iterate 3 refine w_ ?_
     refine AL.nil <| lend ⟨i + 1, by omega, rfl, (nd_step hD hx27 (fun hm => by have := findB_mem (l := r.1.take i) (by assumption); exact this hm)), rfl⟩ (by omega) ?_
     exact Wk.of [(0, 0)] rfl ⟨rfl, rfl, rfl, rfl, trivial⟩ ⟨rfl, trivial⟩ rfl rfl
    ·have hb28' := of_decide_eq_true hb28
     iterate 4 refine w_ ?_
     refine AC.ret ?_
     subst hO
     have e29 : (false : Bool) = (decide (GoodR r)) := by
      exact good_no_dup hx27 (find_in (l := r.1.take i) (by assumption))
     exact fin_pure (Res.one rfl (Rs.tmp rfl)) ((congrArg (fun z_ => lB z_) e29)) rfl
  ·have hb5' := of_decide_eq_true hb5
   iterate 4 refine w_ ?_
   refine AC.ret ?_
   subst hO
   have e30 : (false : Bool) = (decide (GoodR r)) := by
    exact good_no_mvs (by assumption)
   exact fin_pure (Res.one rfl (Rs.tmp rfl)) ((congrArg (fun z_ => lB z_) e30)) rfl

theorem fc_impl_DeadTransitions_1 (m : Int × Int × Int) (t : Int)  : FC Tryz.prog 303 [(true, [dI m.1, dI m.2.1, dI m.2.2]), (false, [.ptr 0 0])] [(0, some (.box 3 [dI t]))] 1 (Is (lB (decide (m.2.1 = t))) [(0, some (.box 3 [dI t]))]) := by
 refine FC.go Tryz.func303 rfl rfl Tryz.ntmps303 fun O_ hO w0_ N0_ X_ h0_ f0_ => ?_
 refine AC.fact (fact_ag (x := .tmp 0) (i := 0) (Ev.tmp rfl) rfl) fun hi1 => AC.fact (fact_ag (x := .tmp 0) (i := 1) (Ev.tmp rfl) rfl) fun hi2 => AC.fact (fact_ag (x := .tmp 0) (i := 2) (Ev.tmp rfl) rfl) fun hi3 => ?_
 refine w_ ?_
 refine lc (Does.box 1 (Ev.tmp rfl) rfl rfl (Fresh.of rfl) (nlr rfl)) ?_
 iterate 6 refine w_ ?_
 refine AL.fact (fact_int (x := .tmp 6) (Evl.tmp rfl)) fun hi4 => ?_
 iterate 3 refine w_ ?_
 refine AC.ret ?_
 subst hO
 exact fin_is _ _ [(0, 0)] (Res.one rfl (Rs.tmp rfl)) (rfl) ⟨rfl, trivial⟩ rfl rfl

theorem fc_IndexFunc_Move_by (s : List (Int × Int × Int)) (t : Int)  : FC Tryz.prog 324 [(false, [.dat (.sl 226 (.pr .int (.pr .int .int))) s]), (false, [.clo 303 [0]])] [(0, some (.box 3 [dI t]))] 1 (Is (lI (idxF (fun v : DMv => decide (v.2.1 = t)) s)) [(0, some (.box 3 [dI t]))]) := by
 refine FC.go Tryz.func324 rfl rfl Tryz.ntmps324 fun O_ hO w0_ N0_ X_ h0_ f0_ => ?_
 iterate 6 refine w_ ?_
 refine AL.fact (fact_len (x := .tmp 6) (Evl.tmp rfl)) fun hl1 => ?_
 iterate 4 refine w_ ?_
 refine AC.loopW (fun m_ s_ => ∃ (k : Nat), k ≤ s.length ∧ m_ = s.length - k ∧ (NoneTo (fun v : DMv => decide (v.2.1 = t)) s k) ∧ s_ = ⟨[(0, lf (.dat (.sl 226 (.pr .int (.pr .int .int))) s)), (1, lf (.clo 303 [0])), (7, lI (s.length : Int)), (8, lI (k : Int))], [(0, some (.box 3 [dI t]))]⟩) ⟨0, Nat.zero_le _, rfl, NoneTo.zero, rfl⟩ ?_ ?_
 · exact Wk.of [(0, 0)] rfl ⟨rfl, rfl, rfl, rfl, trivial⟩ ⟨rfl, trivial⟩ rfl rfl
 rintro m_ s_ ⟨k, hk2, hm3, hno, rfl⟩
 iterate 4 refine w_ ?_
 cases hb4 : (decide ((k : Int) < (s.length : Int)))
 ·have hb4' := of_decide_eq_false hb4
  refine w_ ?_
  refine AC.exit ?_
  refine (?_ : AC _ _ _ _ _)
  iterate 3 refine w_ ?_
  refine AC.ret ?_
  subst hO
  have e5 : ((-1) : Int) = (idxF (fun v : DMv => decide (v.2.1 = t)) s) := by
   first | exact (hno.no (by omega)).symm
  exact fin_is _ _ [(0, 0)] (Res.one rfl (Rs.tmp rfl)) ((congrArg (fun z_ => lI z_) e5)) ⟨rfl, trivial⟩ rfl rfl
 ·have hb4' := of_decide_eq_true hb4
  iterate 12 refine w_ ?_
  obtain ⟨x6, hx7⟩ : ∃ z, s[k]? = some z := ⟨_, List.getElem?_eq_getElem (by omega)⟩
  refine lc (Does.indexE (Evl.tmp rfl) (Evl.tmp rfl) und_96 tsh_226 rfl (by omega) hx7) ?_
  refine w_ ?_
  refine lc (Does.callF (args0 := [(true, [dI x6.1, dI x6.2.1, dI x6.2.2])]) (caps := [0]) 1 [(0, 0)] (fc_impl_DeadTransitions_1 x6 t) enters_303 rfl (Evl.tmp rfl) rfl rfl ⟨_, _, rfl, (Ev.tmp rfl), rfl⟩ ⟨rfl, trivial⟩ rfl ⟨trivial, trivial⟩ (nlr rfl)) ?_
  refine w_ ?_
  cases hb8 : (decide (x6.2.1 = t))
  ·have hb8' := of_decide_eq_false hb8
   refine w_ ?_
   refine AC.skip ?_
   refine (?_ : AC _ _ _ _ _)
   iterate 3 refine w_ ?_
   refine AL.nil <| lend ⟨k + 1, by omega, rfl, hno.step hx7 (by assumption), rfl⟩ (by omega) ?_
   exact Wk.of [(0, 0)] rfl ⟨rfl, rfl, rfl, rfl, trivial⟩ ⟨rfl, trivial⟩ rfl rfl
  ·have hb8' := of_decide_eq_true hb8
   iterate 5 refine w_ ?_
   refine AC.ret ?_
   subst hO
   have e9 : ((k : Int) : Int) = (idxF (fun v : DMv => decide (v.2.1 = t)) s) := by
    exact (hno.at hx7 (by assumption)).symm
   exact fin_is _ _ [(0, 0)] (Res.one rfl (Rs.tmp rfl)) ((congrArg (fun z_ => lI z_) e9)) ⟨rfl, trivial⟩ rfl rfl

theorem fc_ContainsFunc_Move_by (s : List (Int × Int × Int)) (t : Int)  : FC Tryz.prog 302 [(false, [.dat (.sl 226 (.pr .int (.pr .int .int))) s]), (false, [.clo 303 [0]])] [(0, some (.box 3 [dI t]))] 1 (Is (lB (s.any (fun v : DMv => decide (v.2.1 = t)))) [(0, some (.box 3 [dI t]))]) := by
 refine FC.go Tryz.func302 rfl rfl Tryz.ntmps302 fun O_ hO w0_ N0_ X_ h0_ f0_ => ?_
 iterate 6 refine w_ ?_
 refine lc (Does.callP 1 [(0, 0)] (fc_IndexFunc_Move_by s t) enters_324 ⟨_, _, rfl, (Ev.tmp rfl), ⟨_, _, rfl, (Ev.tmp rfl), rfl⟩⟩ ⟨rfl, trivial⟩ rfl ⟨trivial, trivial⟩ (nlr rfl)) ?_
 iterate 3 refine w_ ?_
 refine AC.ret ?_
 subst hO
 have e1 : (decide (0 ≤ (idxF (fun v : DMv => decide (v.2.1 = t)) s)) : Bool) = (s.any (fun v : DMv => decide (v.2.1 = t))) := by
  exact idxF_any _ _
 exact fin_is _ _ [(0, 0)] (Res.one rfl (Rs.tmp rfl)) ((congrArg (fun z_ => lB z_) e1)) ⟨rfl, trivial⟩ rfl rfl

theorem fc_impl_Deadlocks_1 (m : Int × Int × Int) (q : Int)  : FC Tryz.prog 304 [(true, [dI m.1, dI m.2.1, dI m.2.2]), (false, [.ptr 0 0])] [(0, some (.box 3 [dI q]))] 1 (Is (lB (decide (m.1 = q))) [(0, some (.box 3 [dI q]))]) := by
 refine FC.go Tryz.func304 rfl rfl Tryz.ntmps304 fun O_ hO w0_ N0_ X_ h0_ f0_ => ?_
 refine AC.fact (fact_ag (x := .tmp 0) (i := 0) (Ev.tmp rfl) rfl) fun hi1 => AC.fact (fact_ag (x := .tmp 0) (i := 1) (Ev.tmp rfl) rfl) fun hi2 => AC.fact (fact_ag (x := .tmp 0) (i := 2) (Ev.tmp rfl) rfl) fun hi3 => ?_
 refine w_ ?_
 refine lc (Does.box 1 (Ev.tmp rfl) rfl rfl (Fresh.of rfl) (nlr rfl)) ?_
 iterate 6 refine w_ ?_
 refine AL.fact (fact_int (x := .tmp 6) (Evl.tmp rfl)) fun hi4 => ?_
 iterate 3 refine w_ ?_
 refine AC.ret ?_
 subst hO
 exact fin_is _ _ [(0, 0)] (Res.one rfl (Rs.tmp rfl)) (rfl) ⟨rfl, trivial⟩ rfl rfl

theorem fc_IndexFunc_Move_from (s : List (Int × Int × Int)) (q : Int)  : FC Tryz.prog 324 [(false, [.dat (.sl 226 (.pr .int (.pr .int .int))) s]), (false, [.clo 304 [0]])] [(0, some (.box 3 [dI q]))] 1 (Is (lI (idxF (fun v : DMv => decide (v.1 = q)) s)) [(0, some (.box 3 [dI q]))]) := by
 refine FC.go Tryz.func324 rfl rfl Tryz.ntmps324 fun O_ hO w0_ N0_ X_ h0_ f0_ => ?_
 iterate 6 refine w_ ?_
 refine AL.fact (fact_len (x := .tmp 6) (Evl.tmp rfl)) fun hl1 => ?_
 iterate 4 refine w_ ?_
 refine AC.loopW (fun m_ s_ => ∃ (k : Nat), k ≤ s.length ∧ m_ = s.length - k ∧ (NoneTo (fun v : DMv => decide (v.1 = q)) s k) ∧ s_ = ⟨[(0, lf (.dat (.sl 226 (.pr .int (.pr .int .int))) s)), (1, lf (.clo 304 [0])), (7, lI (s.length : Int)), (8, lI (k : Int))], [(0, some (.box 3 [dI q]))]⟩) ⟨0, Nat.zero_le _, rfl, NoneTo.zero, rfl⟩ ?_ ?_
 · exact Wk.of [(0, 0)] rfl ⟨rfl, rfl, rfl, rfl, trivial⟩ ⟨rfl, trivial⟩ rfl rfl
 rintro m_ s_ ⟨k, hk2, hm3, hno, rfl⟩
 iterate 4 refine w_ ?_
 cases hb4 : (decide ((k : Int) < (s.length : Int)))
 ·have hb4' := of_decide_eq_false hb4
  refine w_ ?_
  refine AC.exit ?_
  refine (?_ : AC _ _ _ _ _)
  iterate 3 refine w_ ?_
  refine AC.ret ?_
  subst hO
  have e5 : ((-1) : Int) = (idxF (fun v : DMv => decide (v.1 = q)) s) := by
   first | exact (hno.no (by omega)).symm
  exact fin_is _ _ [(0, 0)] (Res.one rfl (Rs.tmp rfl)) ((congrArg (fun z_ => lI z_) e5)) ⟨rfl, trivial⟩ rfl rfl
 ·have hb4' := of_decide_eq_true hb4
  iterate 12 refine w_ ?_
  obtain ⟨x6, hx7⟩ : ∃ z, s[k]? = some z := ⟨_, List.getElem?_eq_getElem (by omega)⟩
  refine lc (Does.indexE (Evl.tmp rfl) (Evl.tmp rfl) und_96 tsh_226 rfl (by omega) hx7) ?_
  refine w_ ?_
  refine lc (Does.callF (args0 := [(true, [dI x6.1, dI x6.2.1, dI x6.2.2])]) (caps := [0]) 1 [(0, 0)] (fc_impl_Deadlocks_1 x6 q) enters_304 rfl (Evl.tmp rfl) rfl rfl ⟨_, _, rfl, (Ev.tmp rfl), rfl⟩ ⟨rfl, trivial⟩ rfl ⟨trivial, trivial⟩ (nlr rfl)) ?_
  refine w_ ?_
  cases hb8 : (decide (x6.1 = q))
  ·have hb8' := of_decide_eq_false hb8
   refine w_ ?_
   refine AC.skip ?_
   refine (?_ : AC _ _ _ _ _)
   iterate 3 refine w_ ?_
   refine AL.nil <| lend ⟨k + 1, by omega, rfl, hno.step hx7 (by assumption), rfl⟩ (by omega) ?_
   exact Wk.of [(0, 0)] rfl ⟨rfl, rfl, rfl, rfl, trivial⟩ ⟨rfl, trivial⟩ rfl rfl
  ·have hb8' := of_decide_eq_true hb8
   iterate 5 refine w_ ?_
   refine AC.ret ?_
   subst hO
   have e9 : ((k : Int) : Int) = (idxF (fun v : DMv => decide (v.1 = q)) s) := by
    exact (hno.at hx7 (by assumption)).symm
   exact fin_is _ _ [(0, 0)] (Res.one rfl (Rs.tmp rfl)) ((congrArg (fun z_ => lI z_) e9)) ⟨rfl, trivial⟩ rfl rfl

theorem fc_ContainsFunc_Move_from (s : List (Int × Int × Int)) (q : Int)  : FC Tryz.prog 302 [(false, [.dat (.sl 226 (.pr .int (.pr .int .int))) s]), (false, [.clo 304 [0]])] [(0, some (.box 3 [dI q]))] 1 (Is (lB (s.any (fun v : DMv => decide (v.1 = q)))) [(0, some (.box 3 [dI q]))]) := by
 refine FC.go Tryz.func302 rfl rfl Tryz.ntmps302 fun O_ hO w0_ N0_ X_ h0_ f0_ => ?_
 iterate 6 refine w_ ?_
 refine lc (Does.callP 1 [(0, 0)] (fc_IndexFunc_Move_from s q) enters_324 ⟨_, _, rfl, (Ev.tmp rfl), ⟨_, _, rfl, (Ev.tmp rfl), rfl⟩⟩ ⟨rfl, trivial⟩ rfl ⟨trivial, trivial⟩ (nlr rfl)) ?_
 iterate 3 refine w_ ?_
 refine AC.ret ?_
 subst hO
 have e1 : (decide (0 ≤ (idxF (fun v : DMv => decide (v.1 = q)) s)) : Bool) = (s.any (fun v : DMv => decide (v.1 = q))) := by
  exact idxF_any _ _
 exact fin_is _ _ [(0, 0)] (Res.one rfl (Rs.tmp rfl)) ((congrArg (fun z_ => lB z_) e1)) ⟨rfl, trivial⟩ rfl rfl

theorem fc_impl_DeadTransitions (s : (Int × (List (List Int × List Int))) × (List (ByteArray × Int)) × (List (Int × Bool)) × ByteArray) (r : List ByteArray × (List (Int × Int × Int))) [∀ s, Decidable (StgOk s)]  : FC Tryz.prog 283 [(true, [dI s.1.1, .dat (.sl 159 (.pr (.sl 3 .int) (.sl 3 .int))) s.1.2, .dat (.sl 145 (.pr .str .int)) s.2.1, .dat (.sl 61 (.pr .int .bool)) s.2.2.1, dS s.2.2.2]), (true, [.dat (.sl 9 .str) r.1, .dat (.sl 226 (.pr .int (.pr .int .int))) r.2])] [] 0 (Is (PV.tup [(false, [.ref 0]), (false, [dB ((dtV s r).2)])]) [(0, some (.arr 3 .int ((dtV s r).1)))]) := by
 refine FC.go Tryz.func283 rfl rfl Tryz.ntmps283 fun O_ hO w0_ N0_ X_ h0_ f0_ => ?_
 refine AC.fact (fact_ag (x := .tmp 0) (i := 0) (Ev.tmp rfl) rfl) fun hi1 => ?_
 refine w_ ?_
 refine lc (Does.box 0 (Ev.tmp rfl) rfl rfl (Fresh.of rfl) (nlr rfl)) <| lc (Does.box 1 (Ev.tmp rfl) rfl rfl (Fresh.of rfl) (nlr rfl)) ?_
 iterate 6 refine w_ ?_
 refine lc (Does.call (fc_impl_IsValidSTG s) enters_190 ⟨_, _, rfl, (Ev.tmp rfl), rfl⟩ rfl rfl) ?_
 iterate 2 refine w_ ?_
 cases hb2 : (decide (StgOk s))
 ·have hb2' := of_decide_eq_false hb2
  iterate 10 refine w_ ?_
  refine AC.wk (Wk.nilS 2 4 3 .int rfl (Fresh.of rfl) (nlr rfl)) <| AC.ret ?_
  subst hO
  have e3 : (false : Bool) = ((dtV s r).2) := by
   (rw [dtV_no1 (by assumption)]; done)
  exact fin_is _ _ [(0, 2)] (Res.two rfl (Rs.tmp rfl) (Rs.tmp rfl)) ((congrArg (fun z_ => PV.tup [(false, [.ref 2]), (false, [dB z_])]) e3)) ⟨(entE (by (rw [dtV_no1 (by assumption)]; done))), trivial⟩ rfl rfl
 ·have hb2' := of_decide_eq_true hb2
  refine w_ ?_
  refine lgy rfl rfl (Does.call (fc_impl_isReach r) enters_301 ⟨_, _, rfl, (Ev.tmp rfl), rfl⟩ rfl rfl) ?_
  iterate 3 refine w_ ?_
  cases hb4 : (decide (GoodR r))
  ·have hb4' := of_decide_eq_false hb4
   iterate 5 refine w_ ?_
   refine AC.wk (Wk.nilS 3 4 3 .int rfl (Fresh.of rfl) (nlr rfl)) <| AC.ret ?_
   subst hO
   have e5 : (false : Bool) = ((dtV s r).2) := by
    (rw [dtV_no2 (by assumption)]; done)
   exact fin_is _ _ [(0, 3)] (Res.two rfl (Rs.tmp rfl) (Rs.tmp rfl)) ((congrArg (fun z_ => PV.tup [(false, [.ref 3]), (false, [dB z_])]) e5)) ⟨(entE (by (rw [dtV_no2 (by assumption)]; done))), trivial⟩ rfl rfl
  ·have hb4' := of_decide_eq_true hb4
   iterate 3 refine w_ ?_
   refine lc (Does.buildSlice 4 (e := .int) und_106 tsh_3 zer_3 rfl rfl (List.all_eq_true.1 rfl) ⟨rfl, rfl⟩ (by decide) rfl rfl (Fresh.of rfl) (nlr rfl)) ?_
   iterate 6 refine w_ ?_
   refine AL.fact (fact_len (x := .tmp 18) (Evl.tmp rfl)) fun hl6 => ?_
   iterate 4 refine w_ ?_
   refine AC.loopW (fun m_ s_ => ∃ (k : Nat), k ≤ s.2.2.1.length ∧ m_ = s.2.2.1.length - k ∧ s_ = ⟨[(3, lP 1 0), (4, lf (.val (.slice none 0 0))), (5, lB false), (6, lR 5), (19, lI (s.2.2.1.length : Int)), (20, lI (k : Int))], [(1, some (.box 98 [.dat (.sl 9 .str) r.1, .dat (.sl 226 (.pr .int (.pr .int .int))) r.2])), (5, some (.arr 3 .int (freeI (byT r) k)))]⟩) ⟨0, Nat.zero_le _, rfl, rfl⟩ ?_ ?_
   · exact Wk.of [(1, 1), (5, 4)] rfl ⟨rfl, rfl, rfl, rfl, rfl, rfl, trivial⟩ ⟨rfl, (entE (by first | rfl | simp)), trivial⟩ rfl rfl
   rintro m_ s_ ⟨k, hk7, hm8, rfl⟩
   have hfl := freeI_len (byT r) k
   have hnl : s.2.2.1.length ≤ 24 := by rw [‹StgOk s›.len]; exact ‹StgOk s›.net.2.1
   iterate 4 refine w_ ?_
   cases hb9 : (decide ((k : Int) < (s.2.2.1.length : Int)))
   ·have hb9' := of_decide_eq_false hb9
    refine w_ ?_
    refine AC.exit ?_
    refine (?_ : AC _ _ _ _ _)
    iterate 5 refine w_ ?_
    refine AC.ret ?_
    subst hO
    have e10 : (true : Bool) = ((dtV s r).2) := by
     (rw [dtV_yes (by assumption) (by assumption)]; done)
    exact fin_is _ _ [(0, 5)] (Res.two rfl (Rs.tmp rfl) (Rs.tmp rfl)) ((congrArg (fun z_ => PV.tup [(false, [.ref 5]), (false, [dB z_])]) e10)) ⟨(entE (by (rw [dtV_yes (by assumption) (by assumption), show k = s.2.2.1.length by omega]; done))), trivial⟩ rfl rfl
   ·have hb9' := of_decide_eq_true hb9
    iterate 6 refine w_ ?_
    refine lc (Does.alloc 6 .int zer_3 rfl rfl (Fresh.of rfl) (nlr rfl)) <| lc (Does.storeP (Evl.tmp rfl) rfl (Ev.tmp rfl) rfl tsh_3 rfl) ?_
    iterate 4 refine w_ ?_
    refine lc (Does.makeFunc ⟨_, _, rfl, (Evl.tmp rfl), rfl, rfl⟩ rfl) <| lc (Does.callP 7 [(0, 6)] (fc_ContainsFunc_Move_by r.2 (k : Int)) enters_302 ⟨_, _, rfl, (Ev.tmp rfl), ⟨_, _, rfl, (Ev.tmp rfl), rfl⟩⟩ ⟨rfl, trivial⟩ rfl ⟨trivial, trivial⟩ (nlr rfl)) ?_
    iterate 2 refine w_ ?_
    cases hb11 : (r.2.any (fun v : DMv => decide (v.2.1 = (k : Int))))
    ·iterate 4 refine w_ ?_
     refine lc (Does.buildSlice 8 (e := .int) und_106 tsh_3 zer_3 rfl ⟨_, _, rfl, (Ev.tmp rfl), rfl⟩ (List.all_eq_true.1 rfl) ⟨_, _, _, _, rfl, ⟨rfl, rfl⟩, ⟨rfl, rfl⟩, rfl⟩ (by decide) rfl rfl (Fresh.of rfl) (nlr rfl)) <| lc (Does.append 9 (Evl.tmp rfl) rfl (Evl.tmp rfl) rfl rfl und_106 elb_3 (by first | omega | (simp only [List.length_append, List.length_map, List.length_take, List.length_cons, List.length_nil]; omega) | (simp only [List.length_append, List.length_drop, List.length_take, List.length_cons, List.length_nil]; omega)) rfl (Fresh.of rfl) (nlr rfl)) ?_
     refine w_ ?_
     refine AL.nil ?_
     refine (?_ : AC _ _ _ _ _)
     iterate 3 refine w_ ?_
     refine AL.nil <| lend ⟨k + 1, by omega, rfl, rfl⟩ (by omega) ?_
     exact Wk.of [(1, 1), (5, 9)] rfl ⟨rfl, rfl, rfl, rfl, rfl, rfl, trivial⟩ ⟨rfl, (entE (by first | exact freeI_keep (f := byT r) (by assumption) | exact freeI_add (f := byT r) (by assumption))), trivial⟩ rfl rfl
    ·refine w_ ?_
     refine AC.skip ?_
     refine (?_ : AC _ _ _ _ _)
     iterate 3 refine w_ ?_
     refine AL.nil <| lend ⟨k + 1, by omega, rfl, rfl⟩ (by omega) ?_
     exact Wk.of [(1, 1), (5, 5)] rfl ⟨rfl, rfl, rfl, rfl, rfl, rfl, trivial⟩ ⟨rfl, (entE (by first | exact freeI_keep (f := byT r) (by assumption) | exact freeI_add (f := byT r) (by assumption))), trivial⟩ rfl rfl

theorem fc_impl_Deadlocks (r : List ByteArray × (List (Int × Int × Int)))  : FC Tryz.prog 284 [(true, [.dat (.sl 9 .str) r.1, .dat (.sl 226 (.pr .int (.pr .int .int))) r.2])] [] 0 (Is (PV.tup [(false, [.ref 0]), (false, [dB ((dlV r).2)])]) [(0, some (.arr 3 .int ((dlV r).1)))]) := by
 refine FC.go Tryz.func284 rfl rfl Tryz.ntmps284 fun O_ hO w0_ N0_ X_ h0_ f0_ => ?_
 refine w_ ?_
 refine lc (Does.box 0 (Ev.tmp rfl) rfl rfl (Fresh.of rfl) (nlr rfl)) ?_
 iterate 6 refine w_ ?_
 refine lc (Does.call (fc_impl_isReach r) enters_301 ⟨_, _, rfl, (Ev.tmp rfl), rfl⟩ rfl rfl) ?_
 iterate 2 refine w_ ?_
 cases hb1 : (decide (GoodR r))
 ·have hb1' := of_decide_eq_false hb1
  iterate 5 refine w_ ?_
  refine AC.wk (Wk.nilS 1 2 3 .int rfl (Fresh.of rfl) (nlr rfl)) <| AC.ret ?_
  subst hO
  have e2 : (false : Bool) = ((dlV r).2) := by
   (rw [dlV_no (by assumption)]; done)
  exact fin_is _ _ [(0, 1)] (Res.two rfl (Rs.tmp rfl) (Rs.tmp rfl)) ((congrArg (fun z_ => PV.tup [(false, [.ref 1]), (false, [dB z_])]) e2)) ⟨(entE (by (rw [dlV_no (by assumption)]; done))), trivial⟩ rfl rfl
 ·have hb1' := of_decide_eq_true hb1
  iterate 3 refine w_ ?_
  refine lc (Does.buildSlice 2 (e := .int) und_106 tsh_3 zer_3 rfl rfl (List.all_eq_true.1 rfl) ⟨rfl, rfl⟩ (by decide) rfl rfl (Fresh.of rfl) (nlr rfl)) ?_
  iterate 6 refine w_ ?_
  refine AL.fact (fact_len (x := .tmp 11) (Evl.tmp rfl)) fun hl3 => ?_
  iterate 4 refine w_ ?_
  refine AC.loopW (fun m_ s_ => ∃ (k : Nat), k ≤ r.1.length ∧ m_ = r.1.length - k ∧ s_ = ⟨[(1, lP 0 0), (2, lf (.val (.slice none 0 0))), (3, lB false), (4, lR 3), (12, lI (r.1.length : Int)), (13, lI (k : Int))], [(0, some (.box 98 [.dat (.sl 9 .str) r.1, .dat (.sl 226 (.pr .int (.pr .int .int))) r.2])), (3, some (.arr 3 .int (freeI (fromK r) k)))]⟩) ⟨0, Nat.zero_le _, rfl, rfl⟩ ?_ ?_
  · exact Wk.of [(0, 0), (3, 2)] rfl ⟨rfl, rfl, rfl, rfl, rfl, rfl, trivial⟩ ⟨rfl, (entE (by first | rfl | simp)), trivial⟩ rfl rfl
  rintro m_ s_ ⟨k, hk4, hm5, rfl⟩
  have hfl := freeI_len (fromK r) k
  have hgl := ‹GoodR r›.1.2
  iterate 4 refine w_ ?_
  cases hb6 : (decide ((k : Int) < (r.1.length : Int)))
  ·have hb6' := of_decide_eq_false hb6
   refine w_ ?_
   refine AC.exit ?_
   refine (?_ : AC _ _ _ _ _)
   iterate 5 refine w_ ?_
   refine AC.ret ?_
   subst hO
   have e7 : (true : Bool) = ((dlV r).2) := by
    (rw [dlV_yes (by assumption)]; done)
   exact fin_is _ _ [(0, 3)] (Res.two rfl (Rs.tmp rfl) (Rs.tmp rfl)) ((congrArg (fun z_ => PV.tup [(false, [.ref 3]), (false, [dB z_])]) e7)) ⟨(entE (by (rw [dlV_yes (by assumption), show k = r.1.length by omega]; done))), trivial⟩ rfl rfl
  ·have hb6' := of_decide_eq_true hb6
   iterate 6 refine w_ ?_
   refine lc (Does.alloc 4 .int zer_3 rfl rfl (Fresh.of rfl) (nlr rfl)) <| lc (Does.storeP (Evl.tmp rfl) rfl (Ev.tmp rfl) rfl tsh_3 rfl) ?_
   iterate 4 refine w_ ?_
   refine lc (Does.makeFunc ⟨_, _, rfl, (Evl.tmp rfl), rfl, rfl⟩ rfl) <| lc (Does.callP 5 [(0, 4)] (fc_ContainsFunc_Move_from r.2 (k : Int)) enters_302 ⟨_, _, rfl, (Ev.tmp rfl), ⟨_, _, rfl, (Ev.tmp rfl), rfl⟩⟩ ⟨rfl, trivial⟩ rfl ⟨trivial, trivial⟩ (nlr rfl)) ?_
   iterate 2 refine w_ ?_
   cases hb8 : (r.2.any (fun v : DMv => decide (v.1 = (k : Int))))
   ·iterate 4 refine w_ ?_
    refine lc (Does.buildSlice 6 (e := .int) und_106 tsh_3 zer_3 rfl ⟨_, _, rfl, (Ev.tmp rfl), rfl⟩ (List.all_eq_true.1 rfl) ⟨_, _, _, _, rfl, ⟨rfl, rfl⟩, ⟨rfl, rfl⟩, rfl⟩ (by decide) rfl rfl (Fresh.of rfl) (nlr rfl)) <| lc (Does.append 7 (Evl.tmp rfl) rfl (Evl.tmp rfl) rfl rfl und_106 elb_3 (by first | omega | (simp only [List.length_append, List.length_map, List.length_take, List.length_cons, List.length_nil]; omega) | (simp only [List.length_append, List.length_drop, List.length_take, List.length_cons, List.length_nil]; omega)) rfl (Fresh.of rfl) (nlr rfl)) ?_
    refine w_ ?_
    refine AL.nil ?_
    refine (?_ : AC _ _ _ _ _)
    iterate 3 refine w_ ?_
    refine AL.nil <| lend ⟨k + 1, by omega, rfl, rfl⟩ (by omega) ?_
    exact Wk.of [(0, 0), (3, 7)] rfl ⟨rfl, rfl, rfl, rfl, rfl, rfl, trivial⟩ ⟨rfl, (entE (by first | exact freeI_keep (f := fromK r) (by assumption) | exact freeI_add (f := fromK r) (by assumption))), trivial⟩ rfl rfl
   ·refine w_ ?_
    refine AC.skip ?_
    refine (?_ : AC _ _ _ _ _)
    iterate 3 refine w_ ?_
    refine AL.nil <| lend ⟨k + 1, by omega, rfl, rfl⟩ (by omega) ?_
    exact Wk.of [(0, 0), (3, 3)] rfl ⟨rfl, rfl, rfl, rfl, rfl, rfl, trivial⟩ ⟨rfl, (entE (by first | exact freeI_keep (f := fromK r) (by assumption) | exact freeI_add (f := fromK r) (by assumption))), trivial⟩ rfl rfl

theorem fc_spec_MovesFrom (r : List ByteArray × (List (Int × Int × Int))) (k : Int)  : FC Tryz.prog 323 [(true, [.dat (.sl 9 .str) r.1, .dat (.sl 226 (.pr .int (.pr .int .int))) r.2]), (false, [dI k])] [] 0 (Is (PV.tup [(false, [.ref 0]), (false, [dB ((mfV r k).2)])]) [(0, some (.arr 226 (.pr .int (.pr .int .int)) ((mfV r k).1)))]) := by
 refine FC.go Tryz.func323 rfl rfl Tryz.ntmps323 fun O_ hO w0_ N0_ X_ h0_ f0_ => ?_
 refine AC.fact (fact_int (x := .tmp 1) (Evl.tmp rfl)) fun hi1 => ?_
 refine w_ ?_
 refine lc (Does.box 0 (Ev.tmp rfl) rfl rfl (Fresh.of rfl) (nlr rfl)) ?_
 iterate 6 refine w_ ?_
 refine lc (Does.call (fc_spec_l4Good r) enters_322 ⟨_, _, rfl, (Ev.tmp rfl), rfl⟩ rfl rfl) ?_
 iterate 2 refine w_ ?_
 cases hb2 : (decide (GoodR r))
 ·have hb2' := of_decide_eq_false hb2
  iterate 14 refine w_ ?_
  refine AC.wk (Wk.nilS 1 4 226 (.pr .int (.pr .int .int)) rfl (Fresh.of rfl) (nlr rfl)) <| AC.ret ?_
  subst hO
  have e3 : (false : Bool) = ((mfV r k).2) := by
   (rw [mfV_no1 (by assumption)]; done)
  exact fin_is _ _ [(0, 1)] (Res.two rfl (Rs.tmp rfl) (Rs.tmp rfl)) ((congrArg (fun z_ => PV.tup [(false, [.ref 1]), (false, [dB z_])]) e3)) ⟨(entE (by (rw [mfV_no1 (by assumption)]; done))), trivial⟩ rfl rfl
 ·have hb2' := of_decide_eq_true hb2
  iterate 3 refine w_ ?_
  refine AL.fact (fact_len (x := .tmp 15) (Evl.tmp rfl)) fun hl4 => ?_
  iterate 2 refine w_ ?_
  refine lgy rfl rfl (Does.call (fc_spec_l1In k 0 ((r.1.length : Int) - 1)) enters_149 ⟨_, _, rfl, (Ev.tmp rfl), ⟨_, _, rfl, (Evl.ev (Evl.int rfl)), ⟨_, _, rfl, (Ev.tmp rfl), rfl⟩⟩⟩ rfl rfl) ?_
  iterate 3 refine w_ ?_
  cases hb5 : (decide (0 ≤ k ∧ k ≤ ((r.1.length : Int) - 1)))
  ·have hb5' := of_decide_eq_false hb5
   iterate 5 refine w_ ?_
   refine AC.wk (Wk.nilS 2 4 226 (.pr .int (.pr .int .int)) rfl (Fresh.of rfl) (nlr rfl)) <| AC.ret ?_
   subst hO
   have e6 : (false : Bool) = ((mfV r k).2) := by
    (rw [mfV_no2 (by assumption)]; done)
   exact fin_is _ _ [(0, 2)] (Res.two rfl (Rs.tmp rfl) (Rs.tmp rfl)) ((congrArg (fun z_ => PV.tup [(false, [.ref 2]), (false, [dB z_])]) e6)) ⟨(entE (by (rw [mfV_no2 (by assumption)]; done))), trivial⟩ rfl rfl
  ·have hb5' := of_decide_eq_true hb5
   iterate 9 refine w_ ?_
   refine AL.fact (fact_len (x := .tmp 22) (Evl.tmp rfl)) fun hl7 => ?_
   iterate 4 refine w_ ?_
   refine AC.wk (Wk.nilS 3 6 226 (.pr .int (.pr .int .int)) rfl (Fresh.of rfl) (nlr rfl)) ?_
   refine AC.loopW (fun m_ s_ => ∃ (i : Nat), i ≤ r.2.length ∧ m_ = r.2.length - i ∧ s_ = ⟨[(1, lI k), (4, lf (.val (.slice none 0 0))), (5, lB false), (6, lR 4), (22, lf (.dat (.sl 226 (.pr .int (.pr .int .int))) r.2)), (23, lI (r.2.length : Int)), (24, lI (i : Int))], [(4, some (.arr 226 (.pr .int (.pr .int .int)) (filtK k (r.2.take i))))]⟩) ⟨0, Nat.zero_le _, rfl, rfl⟩ ?_ ?_
   · exact Wk.of [(4, 3)] rfl ⟨rfl, rfl, rfl, rfl, rfl, rfl, rfl, trivial⟩ ⟨(entE (by first | rfl | simp)), trivial⟩ rfl rfl
   rintro m_ s_ ⟨i, hk8, hm9, rfl⟩
   have hfl := filtK_len (k := k) i ‹GoodR r›.2.1
   iterate 4 refine w_ ?_
   cases hb10 : (decide ((i : Int) < (r.2.length : Int)))
   ·have hb10' := of_decide_eq_false hb10
    refine w_ ?_
    refine AC.exit ?_
    refine (?_ : AC _ _ _ _ _)
    iterate 5 refine w_ ?_
    refine AC.ret ?_
    subst hO
    have e11 : (true : Bool) = ((mfV r k).2) := by
     (rw [mfV_yes (by assumption) (by assumption)]; done)
    exact fin_is _ _ [(0, 4)] (Res.two rfl (Rs.tmp rfl) (Rs.tmp rfl)) ((congrArg (fun z_ => PV.tup [(false, [.ref 4]), (false, [dB z_])]) e11)) ⟨(entE (by (rw [mfV_yes (by assumption) (by assumption), take_end (by omega)]; rfl))), trivial⟩ rfl rfl
   ·have hb10' := of_decide_eq_true hb10
    iterate 5 refine w_ ?_
    obtain ⟨x12, hx13⟩ : ∃ z, r.2[i]? = some z := ⟨_, List.getElem?_eq_getElem (by omega)⟩
    refine lc (Does.indexE (Evl.tmp rfl) (Evl.tmp rfl) und_96 tsh_226 rfl (by omega) hx13) ?_
    refine w_ ?_
    refine lc (Does.alloc 5 (.pr .int (.pr .int .int)) zer_226 rfl rfl (Fresh.of rfl) (nlr rfl)) <| lc (Does.storeP (Evl.tmp rfl) rfl (Ev.tmp rfl) rfl tsh_226 rfl) ?_
    iterate 4 refine w_ ?_
    refine AL.fact (fact_int (x := .tmp 29) (Evl.tmp rfl)) fun hi14 => ?_
    iterate 3 refine w_ ?_
    cases hb15 : (decide (x12.1 = k))
    ·have hb15' := of_decide_eq_false hb15
     refine w_ ?_
     refine AC.skip ?_
     refine (?_ : AC _ _ _ _ _)
     iterate 3 refine w_ ?_
     refine AL.nil <| lend ⟨i + 1, by omega, rfl, rfl⟩ (by omega) ?_
     exact Wk.of [(4, 4)] rfl ⟨rfl, rfl, rfl, rfl, rfl, rfl, rfl, trivial⟩ ⟨(entE (by first | exact filt_yes hx13 (by assumption) | exact filt_no hx13 (by assumption))), trivial⟩ rfl rfl
    ·have hb15' := of_decide_eq_true hb15
     iterate 4 refine w_ ?_
     refine lc (Does.buildSlice 6 (e := (.pr .int (.pr .int .int))) und_96 tsh_226 zer_226 rfl ⟨_, _, rfl, (Ev.tmp rfl), rfl⟩ (List.all_eq_true.1 rfl) ⟨_, _, _, _, rfl, ⟨[dI x12.1], [dI x12.2.1, dI x12.2.2], _, _, _, _, rfl, rfl, ⟨rfl, rfl⟩, ⟨[dI x12.2.1], [dI x12.2.2], _, _, _, _, rfl, rfl, ⟨rfl, rfl⟩, ⟨rfl, rfl⟩, rfl⟩, rfl⟩, ⟨rfl, rfl⟩, rfl⟩ (by decide) rfl rfl (Fresh.of rfl) (nlr rfl)) <| lc (Does.append 7 (Evl.tmp rfl) rfl (Evl.tmp rfl) rfl rfl und_96 elb_226 (by first | omega | (simp only [List.length_append, List.length_map, List.length_take, List.length_cons, List.length_nil]; omega) | (simp only [List.length_append, List.length_drop, List.length_take, List.length_cons, List.length_nil]; omega)) rfl (Fresh.of rfl) (nlr rfl)) ?_
     refine w_ ?_
     refine AL.nil ?_
     refine (?_ : AC _ _ _ _ _)
     iterate 3 refine w_ ?_
     refine AL.nil <| lend ⟨i + 1, by omega, rfl, rfl⟩ (by omega) ?_
     exact Wk.of [(4, 7)] rfl ⟨rfl, rfl, rfl, rfl, rfl, rfl, rfl, trivial⟩ ⟨(entE (by first | exact filt_yes hx13 (by assumption) | exact filt_no hx13 (by assumption))), trivial⟩ rfl rfl

theorem fc_spec_Deadlocks (r : List ByteArray × (List (Int × Int × Int)))  : FC Tryz.prog 299 [(true, [.dat (.sl 9 .str) r.1, .dat (.sl 226 (.pr .int (.pr .int .int))) r.2])] [] 0 (Is (PV.tup [(false, [.ref 0]), (false, [dB ((dlV r).2)])]) [(0, some (.arr 3 .int ((dlV r).1)))]) := by
 refine FC.go Tryz.func299 rfl rfl Tryz.ntmps299 fun O_ hO w0_ N0_ X_ h0_ f0_ => ?_
 refine w_ ?_
 refine lc (Does.box 0 (Ev.tmp rfl) rfl rfl (Fresh.of rfl) (nlr rfl)) ?_
 iterate 6 refine w_ ?_
 refine lc (Does.call (fc_spec_l4Good r) enters_322 ⟨_, _, rfl, (Ev.tmp rfl), rfl⟩ rfl rfl) ?_
 iterate 2 refine w_ ?_
 cases hb1 : (decide (GoodR r))
 ·have hb1' := of_decide_eq_false hb1
  iterate 5 refine w_ ?_
  refine AC.wk (Wk.nilS 1 2 3 .int rfl (Fresh.of rfl) (nlr rfl)) <| AC.ret ?_
  subst hO
  have e2 : (false : Bool) = ((dlV r).2) := by
   (rw [dlV_no (by assumption)]; done)
  exact fin_is _ _ [(0, 1)] (Res.two rfl (Rs.tmp rfl) (Rs.tmp rfl)) ((congrArg (fun z_ => PV.tup [(false, [.ref 1]), (false, [dB z_])]) e2)) ⟨(entE (by (rw [dlV_no (by assumption)]; done))), trivial⟩ rfl rfl
 ·have hb1' := of_decide_eq_true hb1
  iterate 9 refine w_ ?_
  refine AL.fact (fact_len (x := .tmp 12) (Evl.tmp rfl)) fun hl3 => ?_
  iterate 4 refine w_ ?_
  refine AC.wk (Wk.nilS 2 4 3 .int rfl (Fresh.of rfl) (nlr rfl)) ?_
  refine AC.loopW (fun m_ s_ => ∃ (k : Nat), k ≤ r.1.length ∧ m_ = r.1.length - k ∧ s_ = ⟨[(1, lP 0 0), (2, lf (.val (.slice none 0 0))), (3, lB false), (4, lR 3), (13, lI (r.1.length : Int)), (14, lI (k : Int))], [(0, some (.box 98 [.dat (.sl 9 .str) r.1, .dat (.sl 226 (.pr .int (.pr .int .int))) r.2])), (3, some (.arr 3 .int (freeI (fromK r) k)))]⟩) ⟨0, Nat.zero_le _, rfl, rfl⟩ ?_ ?_
  · exact Wk.of [(0, 0), (3, 2)] rfl ⟨rfl, rfl, rfl, rfl, rfl, rfl, trivial⟩ ⟨rfl, (entE (by first | rfl | simp)), trivial⟩ rfl rfl
  rintro m_ s_ ⟨k, hk4, hm5, rfl⟩
  have hfl := freeI_len (fromK r) k
  have hgl := ‹GoodR r›.1.2
  iterate 4 refine w_ ?_
  cases hb6 : (decide ((k : Int) < (r.1.length : Int)))
  ·have hb6' := of_decide_eq_false hb6
   refine w_ ?_
   refine AC.exit ?_
   refine (?_ : AC _ _ _ _ _)
   iterate 5 refine w_ ?_
   refine AC.ret ?_
   subst hO
   have e7 : (true : Bool) = ((dlV r).2) := by
    (rw [dlV_yes (by assumption)]; done)
   exact fin_is _ _ [(0, 3)] (Res.two rfl (Rs.tmp rfl) (Rs.tmp rfl)) ((congrArg (fun z_ => PV.tup [(false, [.ref 3]), (false, [dB z_])]) e7)) ⟨(entE (by (rw [dlV_yes (by assumption), show k = r.1.length by omega]; done))), trivial⟩ rfl rfl
  ·have hb6' := of_decide_eq_true hb6
   iterate 11 refine w_ ?_
   refine lc (Does.call (fc_spec_MovesFrom r (k : Int)).frozenG enters_323 ⟨_, _, rfl, (Ev.tmp rfl), ⟨_, _, rfl, (Ev.tmp rfl), rfl⟩⟩ rfl rfl) ?_
   iterate 8 refine w_ ?_
   refine AL.fact (fact_len (x := .tmp 23) (Evl.tmp rfl)) fun hl8 => ?_
   iterate 3 refine w_ ?_
   cases hb9 : (decide ((((mfV r (k : Int)).1).length : Int) = 0))
   ·have hb9' := of_decide_eq_false hb9
    refine w_ ?_
    refine AC.skip ?_
    refine (?_ : AC _ _ _ _ _)
    iterate 3 refine w_ ?_
    refine AL.nil <| lend ⟨k + 1, by omega, rfl, rfl⟩ (by omega) ?_
    exact Wk.of [(0, 0), (3, 3)] rfl ⟨rfl, rfl, rfl, rfl, rfl, rfl, trivial⟩ ⟨rfl, (entE (by first | exact freeI_keep (f := fromK r) (mf_t ‹GoodR r› (by omega) (by assumption)) | exact freeI_add (f := fromK r) (mf_f ‹GoodR r› (by omega) (by assumption)))), trivial⟩ rfl rfl
   ·have hb9' := of_decide_eq_true hb9
    iterate 4 refine w_ ?_
    refine lc (Does.buildSlice 4 (e := .int) und_106 tsh_3 zer_3 rfl ⟨_, _, rfl, (Ev.tmp rfl), rfl⟩ (List.all_eq_true.1 rfl) ⟨_, _, _, _, rfl, ⟨rfl, rfl⟩, ⟨rfl, rfl⟩, rfl⟩ (by decide) rfl rfl (Fresh.of rfl) (nlr rfl)) <| lc (Does.append 5 (Evl.tmp rfl) rfl (Evl.tmp rfl) rfl rfl und_106 elb_3 (by first | omega | (simp only [List.length_append, List.length_map, List.length_take, List.length_cons, List.length_nil]; omega) | (simp only [List.length_append, List.length_drop, List.length_take, List.length_cons, List.length_nil]; omega)) rfl (Fresh.of rfl) (nlr rfl)) ?_
    refine w_ ?_
    refine AL.nil ?_
    refine (?_ : AC _ _ _ _ _)
    iterate 3 refine w_ ?_
    refine AL.nil <| lend ⟨k + 1, by omega, rfl, rfl⟩ (by omega) ?_
    exact Wk.of [(0, 0), (3, 5)] rfl ⟨rfl, rfl, rfl, rfl, rfl, rfl, trivial⟩ ⟨rfl, (entE (by first | exact freeI_keep (f := fromK r) (mf_t ‹GoodR r› (by omega) (by assumption)) | exact freeI_add (f := fromK r) (mf_f ‹GoodR r› (by omega) (by assumption)))), trivial⟩ rfl rfl

theorem fc_spec_DeadTransitions (s : (Int × (List (List Int × List Int))) × (List (ByteArray × Int)) × (List (Int × Bool)) × ByteArray) (r : List ByteArray × (List (Int × Int × Int))) [∀ s, Decidable (StgOk s)]  : FC Tryz.prog 298 [(true, [dI s.1.1, .dat (.sl 159 (.pr (.sl 3 .int) (.sl 3 .int))) s.1.2, .dat (.sl 145 (.pr .str .int)) s.2.1, .dat (.sl 61 (.pr .int .bool)) s.2.2.1, dS s.2.2.2]), (true, [.dat (.sl 9 .str) r.1, .dat (.sl 226 (.pr .int (.pr .int .int))) r.2])] [] 0 (Is (PV.tup [(false, [.ref 0]), (false, [dB ((dtV s r).2)])]) [(0, some (.arr 3 .int ((dtV s r).1)))]) := by
 refine FC.go Tryz.func298 rfl rfl Tryz.ntmps298 fun O_ hO w0_ N0_ X_ h0_ f0_ => ?_
 refine AC.fact (fact_ag (x := .tmp 0) (i := 0) (Ev.tmp rfl) rfl) fun hi1 => ?_
 refine w_ ?_
 refine lc (Does.box 0 (Ev.tmp rfl) rfl rfl (Fresh.of rfl) (nlr rfl)) <| lc (Does.box 1 (Ev.tmp rfl) rfl rfl (Fresh.of rfl) (nlr rfl)) ?_
 iterate 6 refine w_ ?_
 refine lc (Does.call (fc_spec_l2Good s) enters_106 ⟨_, _, rfl, (Ev.tmp rfl), rfl⟩ rfl rfl) ?_
 iterate 2 refine w_ ?_
 cases hb2 : (decide (StgOk s))
 ·have hb2' := of_decide_eq_false hb2
  iterate 10 refine w_ ?_
  refine AC.wk (Wk.nilS 2 4 3 .int rfl (Fresh.of rfl) (nlr rfl)) <| AC.ret ?_
  subst hO
  have e3 : (false : Bool) = ((dtV s r).2) := by
   (rw [dtV_no1 (by assumption)]; done)
  exact fin_is _ _ [(0, 2)] (Res.two rfl (Rs.tmp rfl) (Rs.tmp rfl)) ((congrArg (fun z_ => PV.tup [(false, [.ref 2]), (false, [dB z_])]) e3)) ⟨(entE (by (rw [dtV_no1 (by assumption)]; done))), trivial⟩ rfl rfl
 ·have hb2' := of_decide_eq_true hb2
  refine w_ ?_
  refine lgy rfl rfl (Does.call (fc_spec_l4Good r) enters_322 ⟨_, _, rfl, (Ev.tmp rfl), rfl⟩ rfl rfl) ?_
  iterate 3 refine w_ ?_
  cases hb4 : (decide (GoodR r))
  ·have hb4' := of_decide_eq_false hb4
   iterate 5 refine w_ ?_
   refine AC.wk (Wk.nilS 3 4 3 .int rfl (Fresh.of rfl) (nlr rfl)) <| AC.ret ?_
   subst hO
   have e5 : (false : Bool) = ((dtV s r).2) := by
    (rw [dtV_no2 (by assumption)]; done)
   exact fin_is _ _ [(0, 3)] (Res.two rfl (Rs.tmp rfl) (Rs.tmp rfl)) ((congrArg (fun z_ => PV.tup [(false, [.ref 3]), (false, [dB z_])]) e5)) ⟨(entE (by (rw [dtV_no2 (by assumption)]; done))), trivial⟩ rfl rfl
  ·have hb4' := of_decide_eq_true hb4
   iterate 10 refine w_ ?_
   refine AL.fact (fact_len (x := .tmp 21) (Evl.tmp rfl)) fun hl6 => ?_
   iterate 4 refine w_ ?_
   refine AC.wk (Wk.nilS 4 6 3 .int rfl (Fresh.of rfl) (nlr rfl)) ?_
   refine AC.loopW (fun m_ s_ => ∃ (k : Nat), k ≤ s.1.2.length ∧ m_ = s.1.2.length - k ∧ s_ = ⟨[(3, lP 1 0), (4, lf (.val (.slice none 0 0))), (5, lB false), (6, lR 5), (22, lI (s.1.2.length : Int)), (23, lI (k : Int))], [(1, some (.box 98 [.dat (.sl 9 .str) r.1, .dat (.sl 226 (.pr .int (.pr .int .int))) r.2])), (5, some (.arr 3 .int (freeI (byT r) k)))]⟩) ⟨0, Nat.zero_le _, rfl, rfl⟩ ?_ ?_
   · exact Wk.of [(1, 1), (5, 4)] rfl ⟨rfl, rfl, rfl, rfl, rfl, rfl, trivial⟩ ⟨rfl, (entE (by first | rfl | simp)), trivial⟩ rfl rfl
   rintro m_ s_ ⟨k, hk7, hm8, rfl⟩
   have hfl := freeI_len (byT r) k
   have hnl := ‹StgOk s›.net.2.1
   iterate 4 refine w_ ?_
   cases hb9 : (decide ((k : Int) < (s.1.2.length : Int)))
   ·have hb9' := of_decide_eq_false hb9
    refine w_ ?_
    refine AC.exit ?_
    refine (?_ : AC _ _ _ _ _)
    iterate 5 refine w_ ?_
    refine AC.ret ?_
    subst hO
    have e10 : (true : Bool) = ((dtV s r).2) := by
     (rw [dtV_yes (by assumption) (by assumption)]; done)
    exact fin_is _ _ [(0, 5)] (Res.two rfl (Rs.tmp rfl) (Rs.tmp rfl)) ((congrArg (fun z_ => PV.tup [(false, [.ref 5]), (false, [dB z_])]) e10)) ⟨(entE (by (rw [dtV_yes (by assumption) (by assumption), (‹StgOk s›).len, show k = s.1.2.length by omega]; done))), trivial⟩ rfl rfl
   ·have hb9' := of_decide_eq_true hb9
    iterate 15 refine w_ ?_
    refine AL.fact (fact_len (x := .tmp 27) (Evl.tmp rfl)) fun hl11 => ?_
    iterate 4 refine w_ ?_
    refine AC.loopW (fun m_ s_ => ∃ (i : Nat) (met : Bool), i ≤ r.2.length ∧ m_ = r.2.length - i ∧ (met = (r.2.take i).any (fun v : DMv => decide (v.2.1 = (k : Int)))) ∧ s_ = ⟨[(3, lP 1 0), (4, lf (.val (.slice none 0 0))), (5, lB false), (6, lR 5), (7, lI (k : Int)), (8, lB met), (22, lI (s.1.2.length : Int)), (23, lI (k : Int)), (24, lB true), (25, lI (k : Int)), (26, lP 1 1), (27, lf (.dat (.sl 226 (.pr .int (.pr .int .int))) r.2)), (28, lI (r.2.length : Int)), (29, lI (i : Int))], [(1, some (.box 98 [.dat (.sl 9 .str) r.1, .dat (.sl 226 (.pr .int (.pr .int .int))) r.2])), (5, some (.arr 3 .int (freeI (byT r) k)))]⟩) ⟨0, false, Nat.zero_le _, rfl, rfl, rfl⟩ ?_ ?_
    · exact Wk.of [(1, 1), (5, 5)] rfl ⟨rfl, rfl, rfl, rfl, rfl, rfl, rfl, rfl, rfl, rfl, rfl, rfl, rfl, rfl, trivial⟩ ⟨rfl, rfl, trivial⟩ rfl rfl
    rintro m_ s_ ⟨i, met, hk12, hm13, hF, rfl⟩
    iterate 4 refine w_ ?_
    cases hb14 : (decide ((i : Int) < (r.2.length : Int)))
    ·have hb14' := of_decide_eq_false hb14
     refine w_ ?_
     refine AC.exit ?_
     refine (?_ : AC _ _ _ _ _)
     iterate 4 refine w_ ?_
     cases hb15 : (met)
     ·iterate 4 refine w_ ?_
      refine lc (Does.buildSlice 6 (e := .int) und_106 tsh_3 zer_3 rfl ⟨_, _, rfl, (Ev.tmp rfl), rfl⟩ (List.all_eq_true.1 rfl) ⟨_, _, _, _, rfl, ⟨rfl, rfl⟩, ⟨rfl, rfl⟩, rfl⟩ (by decide) rfl rfl (Fresh.of rfl) (nlr rfl)) <| lc (Does.append 7 (Evl.tmp rfl) rfl (Evl.tmp rfl) rfl rfl und_106 elb_3 (by first | omega | (simp only [List.length_append, List.length_map, List.length_take, List.length_cons, List.length_nil]; omega) | (simp only [List.length_append, List.length_drop, List.length_take, List.length_cons, List.length_nil]; omega)) rfl (Fresh.of rfl) (nlr rfl)) ?_
      refine w_ ?_
      refine AL.nil ?_
      refine (?_ : AC _ _ _ _ _)
      iterate 3 refine w_ ?_
      refine AL.nil <| lend ⟨k + 1, by omega, rfl, rfl⟩ (by omega) ?_
      exact Wk.of [(1, 1), (5, 7)] rfl ⟨rfl, rfl, rfl, rfl, rfl, rfl, trivial⟩ ⟨rfl, (entE (by first | exact freeI_keep (f := byT r) (by rw [take_end (by omega)] at hF; rw [byT, ← hF]; assumption) | exact freeI_add (f := byT r) (by rw [take_end (by omega)] at hF; rw [byT, ← hF]; assumption))), trivial⟩ rfl rfl
     ·refine w_ ?_
      refine AC.skip ?_
      refine (?_ : AC _ _ _ _ _)
      iterate 3 refine w_ ?_
      refine AL.nil <| lend ⟨k + 1, by omega, rfl, rfl⟩ (by omega) ?_
      exact Wk.of [(1, 1), (5, 5)] rfl ⟨rfl, rfl, rfl, rfl, rfl, rfl, trivial⟩ ⟨rfl, (entE (by first | exact freeI_keep (f := byT r) (by rw [take_end (by omega)] at hF; rw [byT, ← hF]; assumption) | exact freeI_add (f := byT r) (by rw [take_end (by omega)] at hF; rw [byT, ← hF]; assumption))), trivial⟩ rfl rfl
    ·have hb14' := of_decide_eq_true hb14
     iterate 5 refine w_ ?_
     obtain ⟨x16, hx17⟩ : ∃ z, r.2[i]? = some z := ⟨_, List.getElem?_eq_getElem (by omega)⟩
     refine lc (Does.indexE (Evl.tmp rfl) (Evl.tmp rfl) und_96 tsh_226 rfl (by omega) hx17) ?_
     refine w_ ?_
     refine lc (Does.alloc 8 (.pr .int (.pr .int .int)) zer_226 rfl rfl (Fresh.of rfl) (nlr rfl)) <| lc (Does.storeP (Evl.tmp rfl) rfl (Ev.tmp rfl) rfl tsh_226 rfl) ?_
     iterate 4 refine w_ ?_
     cases hb18 : (met)
     ·iterate 6 refine w_ ?_
      refine AL.nil ?_
      refine (?_ : AC _ _ _ _ _)
      iterate 3 refine w_ ?_
      refine AL.nil <| lend ⟨i + 1, (decide (x16.2.1 = (k : Int))), by omega, rfl, (by rw [any_take hx17, ← hF]; first | exact or_a (by assumption) | exact or_d (by assumption)), rfl⟩ (by omega) ?_
      exact Wk.of [(1, 1), (5, 5)] rfl ⟨rfl, rfl, rfl, rfl, rfl, rfl, rfl, rfl, rfl, rfl, rfl, rfl, rfl, rfl, trivial⟩ ⟨rfl, rfl, trivial⟩ rfl rfl
     ·iterate 6 refine w_ ?_
      refine AL.nil ?_
      refine (?_ : AC _ _ _ _ _)
      iterate 3 refine w_ ?_
      refine AL.nil <| lend ⟨i + 1, true, by omega, rfl, (by rw [any_take hx17, ← hF]; first | exact or_a (by assumption) | exact or_d (by assumption)), rfl⟩ (by omega) ?_
      exact Wk.of [(1, 1), (5, 5)] rfl ⟨rfl, rfl, rfl, rfl, rfl, rfl, rfl, rfl, rfl, rfl, rfl, rfl, rfl, rfl, trivial⟩ ⟨rfl, rfl, trivial⟩ rfl rfl

end Go.Proofs.YtnakmhfjafecpaaGreat
