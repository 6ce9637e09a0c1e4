/- Walks over abstract states: marks put in place, marks found again. -/
import Derived.Test.YtbelopdphlllnaaWc
namespace Go.Proofs.Ytbelopdphlllnaa
open Go.RowKit

section
variable {α : Type _} (f : α → Int → α × Int)
def marks : List α → Int → List α × Int
  | [], k => ([], k)
  | x :: xs, k => ((f x k).1 :: (marks xs (f x k).2).1, (marks xs (f x k).2).2)
theorem marks_len (xs : List α) (k : Int) : (marks f xs k).1.length = xs.length := by
  induction xs generalizing k with
  | nil => rfl
  | cons x xs ih => simp [marks, ih]
theorem marks_app (xs ys : List α) (k : Int) : marks f (xs ++ ys) k = ((marks f xs k).1 ++ (marks f ys (marks f xs k).2).1, (marks f ys (marks f xs k).2).2) := by
  induction xs generalizing k with
  | nil => rfl
  | cons x xs ih => simp [marks, ih]
def mkA (a : List α) (k : Int) (i : Nat) : List α := (marks f (a.take i) k).1 ++ a.drop i
def mkC (a : List α) (k : Int) (i : Nat) : Int := (marks f (a.take i) k).2
theorem mkA_len (a : List α) (k : Int) (i : Nat) : (mkA f a k i).length = a.length := by
  simp [mkA, marks_len]; omega
theorem mkA_0 (a : List α) (k : Int) : mkA f a k 0 = a := by simp [mkA, marks]
theorem mkC_0 (a : List α) (k : Int) : mkC f a k 0 = k := by simp [mkC, marks]
theorem mkA_end {a : List α} {k : Int} {i : Nat} (h : a.length ≤ i) : mkA f a k i = (marks f a k).1 := by simp [mkA, List.take_of_length_le h, List.drop_eq_nil_of_le h]
theorem mkC_end {a : List α} {k : Int} {i : Nat} (h : a.length ≤ i) : mkC f a k i = (marks f a k).2 := by simp [mkC, List.take_of_length_le h]
variable {f}
theorem mkA_get {a : List α} {k : Int} {i : Nat} {x : α} (h : a[i]? = some x) : (mkA f a k i)[i]? = some x := by
  have hi := (List.getElem?_eq_some_iff.1 h).1
  have hl : (marks f (a.take i) k).1.length = i := by simp [marks_len]; omega
  unfold mkA
  rw [List.getElem?_append_right (by omega), hl, Nat.sub_self, List.getElem?_drop]
  exact h
theorem mkA_back {a : List α} {k : Int} {i : Nat} {x : α} (h : (mkA f a k i)[i]? = some x) : a[i]? = some x := by
  have hi := (List.getElem?_eq_some_iff.1 h).1
  rw [mkA_len] at hi
  have h2 := mkA_get (f := f) (k := k) (List.getElem?_eq_getElem hi)
  rw [h] at h2
  rw [List.getElem?_eq_getElem hi, ← h2]
theorem take_snoc2 {a : List α} {i : Nat} {x : α} (h : a[i]? = some x) : a.take (i + 1) = a.take i ++ [x] := by
  obtain ⟨h1, h2⟩ := List.getElem?_eq_some_iff.1 h
  rw [List.take_succ_eq_append_getElem h1, h2]
theorem mkC_succ {a : List α} {k : Int} {i : Nat} {x : α} (h : a[i]? = some x) : mkC f a k (i + 1) = (f x (mkC f a k i)).2 := by
  unfold mkC
  rw [take_snoc2 h, marks_app]
  rfl
theorem mkA_set {a : List α} {k : Int} {i : Nat} {x : α} (h : a[i]? = some x) : (mkA f a k i).set i (f x (mkC f a k i)).1 = mkA f a k (i + 1) := by
  obtain ⟨h1, h2⟩ := List.getElem?_eq_some_iff.1 h
  have hl : (marks f (a.take i) k).1.length = i := by simp [marks_len]; omega
  unfold mkA mkC
  rw [take_snoc2 h, marks_app, List.set_append_right _ _ (by omega), hl, Nat.sub_self, List.drop_eq_getElem_cons h1]
  simp only [List.set_cons_zero, marks, List.append_assoc]
  rfl
/-- How far the count goes. -/
theorem mkC_sum (c : α → Nat) (hc : ∀ x k, (f x k).2 = k + c x) (a : List α) (k : Int) : (marks f a k).2 = k + ((a.map c).sum : Nat) := by
  induction a generalizing k with
  | nil => simp [marks]
  | cons x xs ih => simp only [marks, ih, hc, List.map_cons, List.sum_cons]; omega
theorem mkC_le (c : α → Nat) (hc : ∀ x k, (f x k).2 = k + c x) (a : List α) (k : Int) (i : Nat) : k ≤ mkC f a k i ∧ mkC f a k i ≤ k + ((a.map c).sum : Nat) := by
  unfold mkC
  rw [mkC_sum c hc]
  have : ((a.take i).map c).sum ≤ (a.map c).sum := by
    conv => rhs; rw [← List.take_append_drop i a, List.map_append, List.sum_append]
    omega
  omega
/-- What is marked reads as marked. -/
theorem marks_at {a : List α} {k : Int} {i : Nat} {x : α} (h : a[i]? = some x) : (marks f a k).1[i]? = some (f x (mkC f a k i)).1 := by
  have h1 := mkA_set (f := f) (k := k) h
  have hi := (List.getElem?_eq_some_iff.1 h).1
  have hl : (marks f (a.take i) k).1.length = i := by simp [marks_len]; omega
  conv => lhs; rw [← List.take_append_drop i a, marks_app]
  simp only
  rw [List.getElem?_append_right (by omega), hl, Nat.sub_self, List.drop_eq_getElem_cons hi]
  obtain ⟨_, h2⟩ := List.getElem?_eq_some_iff.1 h
  simp [marks, mkC, h2]
end
@[reducible] def fI : Int → Int → Int × Int := fun _ k => (k, k + 1)
theorem fI_c : ∀ (x k : Int), (fI x k).2 = k + ((fun _ => 1 : Int → Nat) x : Nat) := fun _ _ => rfl
theorem sum_one {α : Type _} (a : List α) : (a.map fun _ => 1).sum = a.length := by
  induction a with
  | nil => rfl
  | cons x xs ih => simp [ih]; omega
theorem mkI_le (a : List Int) (k : Int) (i : Nat) : k ≤ mkC fI a k i ∧ mkC fI a k i ≤ k + a.length := by
  have := mkC_le _ fI_c a k i
  rw [sum_one] at this
  exact this

set_option maxRecDepth 100000 in
set_option maxHeartbeats 4000000 in
theorem fc_laws_markIntS (a : List Int) (k : Int) (hk : 0 ≤ k ∧ k + a.length ≤ 1000000000) : FC Try.prog 35 [(false, [.ref 0]), (false, [dI k])] [(0, some (.arr 3 .int a))] 1 (Is (lf (dI ((marks fI a k).2))) [(0, some (.arr 3 .int ((marks fI a k).1)))]) := by
  obtain ⟨O_, hO⟩ : ∃ x : PV → Tab → Prop, x = Is (lf (dI ((marks fI a k).2))) [(0, some (.arr 3 .int ((marks fI a k).1)))] := ⟨_, rfl⟩
  refine FC.O_of hO (FC.ren (FC.of Try.func35 rfl rfl fun A_ hn_ hk_ => ?_))
  obtain ⟨w0_, N0_, X_, n_, k0_, h0_, f0_⟩ := A_
  obtain rfl : n_ = 19 := hn_.trans Try.ntmps35
  obtain rfl : k0_ = 1 := hk_
  refine AC.fact (fact_int (x := .tmp 1) (Evl.tmp rfl)) fun hi1 => ?_
  refine AC.seq ?_
  refine AC.region ?_
  refine AL.cons rfl (Does.assignC (Evl.int rfl) rfl) ?_
  refine AL.nil ?_
  refine (?_ : AC _ _ _ _ _)
  refine AC.seq ?_
  refine AC.seq ?_
  refine AC.region ?_
  refine AL.cons rfl (Does.assignC (Evl.int rfl) rfl) ?_
  refine AL.nil ?_
  refine (?_ : AC _ _ _ _ _)
  refine AC.block ?_
  refine AC.wk (s' := ⟨[(0, lf (.ref 0)), (1, lf (dI (mkC fI a k 0))), (4, lf (dI 0)), (5, lf (dI (0 : Int)))], [(0, some (.arr 3 .int (mkA fI a k 0)))]⟩) (Wk.of [(0, 0)] rfl ⟨rfl, (show some (lf (dI k)) = some (lf (dI (mkC fI a k 0))) from congrArg (fun z_ => some (lf (dI z_))) (by rw [mkC_0])), rfl, rfl, trivial⟩ ⟨(show some (Ent.arr 3 .int a) = some (Ent.arr 3 .int (mkA fI a k 0)) from congrArg (fun z => some (Ent.arr 3 .int z)) (mkA_0 fI a k)), trivial⟩ rfl rfl) ?_
  refine AC.loop (fun m_ s_ => ∃ (i : Nat), i ≤ a.length ∧ m_ = a.length - i ∧ s_ = ⟨[(0, lf (.ref 0)), (1, lf (dI (mkC fI a k i))), (4, lf (dI 0)), (5, lf (dI (i : Int)))], [(0, some (.arr 3 .int (mkA fI a k i)))]⟩) (m := a.length - 0) ⟨0, Nat.zero_le _, rfl, rfl⟩ ?_
  rintro m_ s_ ⟨i, hk3, hm4, rfl⟩
  have hml := mkA_len fI a k i
  have hmc := mkI_le a k i
  refine AC.seq ?_
  refine AC.seq ?_
  refine AC.region ?_
  refine AL.cons rfl (Does.move rfl rfl) ?_
  refine AL.cons rfl (Does.move rfl rfl) ?_
  refine AL.cons rfl (Does.lenO (Evl.tmp rfl) rfl rfl und_72) ?_
  refine AL.cons rfl (Does.lss (Evl.tmp rfl) (Evl.tmp rfl) rfl) ?_
  refine AL.nil ?_
  refine (?_ : AC _ _ _ _ _)
  cases hb5 : (decide ((i : Int) < ((mkA fI a k i).length : Int)))
  · have _h := hb5
    have hb5' : ¬ ((i : Int) < ((mkA fI a k i).length : Int)) := of_decide_eq_false hb5
    refine AC.condF (Evl.tmp rfl) ?_
    refine AC.exit ?_
    refine (?_ : AC _ _ _ _ _)
    refine AC.seq ?_
    refine AC.region ?_
    refine AL.cons rfl (Does.move rfl rfl) ?_
    refine AL.cons rfl (Does.assign rfl rfl) ?_
    refine AL.nil ?_
    refine (?_ : AC _ _ _ _ _)
    refine AC.ret ?_
    subst hO
    have e6 : (mkC fI a k i : Int) = (marks fI a k).2 := by
      first | (rw [mkA_end _ (by omega)]; done) | (rw [mkC_end _ (by omega)]; done)
    exact fin_is (lf (dI ((marks fI a k).2))) [(0, some (.arr 3 .int ((marks fI a k).1)))] [(0, 0)] (Res.one rfl (Rs.tmp rfl)) (show lf (dI (mkC fI a k i)) = lf (dI ((marks fI a k).2)) by exact (congrArg (fun z_ => lf (dI z_)) e6)) ⟨(show some (Ent.arr 3 .int (mkA fI a k i)) = some (Ent.arr 3 .int ((marks fI a k).1)) from congrArg (fun z => some (Ent.arr 3 .int z)) (by first | (rw [mkA_end _ (by omega)]; done) | (rw [mkC_end _ (by omega)]; done))), trivial⟩ rfl rfl
  · have _h := hb5
    have hb5' : ((i : Int) < ((mkA fI a k i).length : Int)) := of_decide_eq_true hb5
    refine AC.condT (Evl.tmp rfl) ?_
    refine AC.skip ?_
    refine (?_ : AC _ _ _ _ _)
    refine AC.seq ?_
    refine AC.block ?_
    refine AC.seq ?_
    refine AC.region ?_
    refine AL.cons rfl (Does.move rfl rfl) ?_
    refine AL.cons rfl (Does.move rfl rfl) ?_
    refine AL.cons rfl (Does.move rfl rfl) ?_
    refine AL.cons rfl (Does.indexI (e := .int) (Evl.tmp rfl) rfl (Evl.tmp rfl) und_72 tsh_3 rfl (by omega) (by first | omega | (simp only [List.length_set]; omega))) ?_
    obtain ⟨x7, hx8⟩ : ∃ z, (mkA fI a k i)[i]? = some z := ⟨_, List.getElem?_eq_getElem (by omega)⟩
    refine AL.cons rfl (Does.storeI (e := .int) (z' := mkC fI a k i) (Evl.tmp rfl) rfl hx8 rfl (Ev.tmp rfl) rfl tsh_3 rfl rfl) ?_
    refine AL.nil ?_
    refine (?_ : AC _ _ _ _ _)
    refine AC.region ?_
    refine AL.cons rfl (Does.move rfl rfl) ?_
    refine AL.cons rfl (Does.add (Evl.tmp rfl) (Evl.int rfl) rfl (by omega)) ?_
    refine AL.cons rfl (Does.assign rfl rfl) ?_
    refine AL.nil ?_
    refine (?_ : AC _ _ _ _ _)
    refine AC.region ?_
    refine AL.cons rfl (Does.move rfl rfl) ?_
    refine AL.cons rfl (Does.add (Evl.tmp rfl) (Evl.int rfl) rfl (by omega)) ?_
    refine AL.cons rfl (Does.assign rfl rfl) ?_
    refine AL.nil ?_
    exact loop_end (a.length - (i + 1)) ⟨[(0, lf (.ref 0)), (1, lf (dI (mkC fI a k (i + 1)))), (4, lf (dI 0)), (5, lf (dI ((i + 1) : Int)))], [(0, some (.arr 3 .int (mkA fI a k (i + 1))))]⟩ (by omega) (Wk.of [(0, 0)] rfl ⟨rfl, (show some (lf (dI ((mkC fI a k i) + 1))) = some (lf (dI (mkC fI a k (i + 1)))) from congrArg (fun z_ => some (lf (dI z_))) (by rw [mkC_succ (mkA_back hx8)])), rfl, rfl, trivial⟩ ⟨(show some (Ent.arr 3 .int ((mkA fI a k i).set i (mkC fI a k i))) = some (Ent.arr 3 .int (mkA fI a k (i + 1))) from congrArg (fun z => some (Ent.arr 3 .int z)) (mkA_set (mkA_back hx8))), trivial⟩ rfl rfl) ⟨i + 1, by omega, rfl, rfl⟩

theorem held_at {α : Type _} {f : α → Int → α × Int} {a l : List α} {k : Int} {i : Nat} {x : α} (hm : a = (marks f l k).1) (h : a[i]? = some x) : ∃ y, l[i]? = some y ∧ x = (f y (mkC f l k i)).1 := by
  subst hm
  have hi := (List.getElem?_eq_some_iff.1 h).1
  rw [marks_len] at hi
  have h1 := List.getElem?_eq_getElem hi
  rw [marks_at h1] at h
  exact ⟨_, h1, (Option.some.inj h).symm⟩
theorem mkI_succ {l : List Int} {k : Int} {i : Nat} (h : i < l.length) : mkC fI l k i + 1 = mkC fI l k (i + 1) := by rw [mkC_succ (List.getElem?_eq_getElem h)]

set_option maxRecDepth 100000 in
set_option maxHeartbeats 4000000 in
theorem fc_laws_heldIntS (a : List Int) (k : Int) (l : List Int) (hm : a = (marks fI l k).1) (hk : 0 ≤ k ∧ k + a.length ≤ 1000000000) : FC Try.prog 36 [(false, [.dat (.sl 3 .int) a]), (false, [dI k])] [] 0 (Pure (lf (dI ((marks fI l k).2)))) := by
  have hla : a.length = l.length := by rw [hm, marks_len]
  obtain ⟨O_, hO⟩ : ∃ x : PV → Tab → Prop, x = Pure (lf (dI ((marks fI l k).2))) := ⟨_, rfl⟩
  refine FC.O_of hO (FC.ren (FC.of Try.func36 rfl rfl fun A_ hn_ hk_ => ?_))
  obtain ⟨w0_, N0_, X_, n_, k0_, h0_, f0_⟩ := A_
  obtain rfl : n_ = 21 := hn_.trans Try.ntmps36
  obtain rfl : k0_ = 0 := hk_
  refine AC.fact (fact_int (x := .tmp 1) (Evl.tmp rfl)) fun hi1 => ?_
  refine AC.seq ?_
  refine AC.region ?_
  refine AL.cons rfl (Does.assignC (Evl.int rfl) rfl) ?_
  refine AL.nil ?_
  refine (?_ : AC _ _ _ _ _)
  refine AC.seq ?_
  refine AC.seq ?_
  refine AC.region ?_
  refine AL.cons rfl (Does.assignC (Evl.int rfl) rfl) ?_
  refine AL.nil ?_
  refine (?_ : AC _ _ _ _ _)
  refine AC.block ?_
  refine AC.wk (s' := ⟨[(0, lf (.dat (.sl 3 .int) a)), (1, lf (dI (mkC fI l k 0))), (5, lf (dI (0 : Int)))], []⟩) (Wk.of [] rfl ⟨rfl, (show some (lf (dI k)) = some (lf (dI (mkC fI l k 0))) from congrArg (fun z_ => some (lf (dI z_))) (by rw [mkC_0])), rfl, trivial⟩ trivial rfl rfl) ?_
  refine AC.loop (fun m_ s_ => ∃ (i : Nat), i ≤ a.length ∧ m_ = a.length - i ∧ s_ = ⟨[(0, lf (.dat (.sl 3 .int) a)), (1, lf (dI (mkC fI l k i))), (5, lf (dI (i : Int)))], []⟩) (m := a.length - 0) ⟨0, Nat.zero_le _, rfl, rfl⟩ ?_
  rintro m_ s_ ⟨i, hk3, hm4, rfl⟩
  have hmc := mkI_le l k i
  refine AC.seq ?_
  refine AC.seq ?_
  refine AC.region ?_
  refine AL.cons rfl (Does.move rfl rfl) ?_
  refine AL.cons rfl (Does.move rfl rfl) ?_
  refine AL.fact (fact_len (x := .tmp 7) (Evl.tmp rfl)) fun hl5 => ?_
  refine AL.cons rfl (Does.len (Evl.tmp rfl) rfl und_72) ?_
  refine AL.cons rfl (Does.lss (Evl.tmp rfl) (Evl.tmp rfl) rfl) ?_
  refine AL.nil ?_
  refine (?_ : AC _ _ _ _ _)
  cases hb6 : (decide ((i : Int) < (a.length : Int)))
  · have _h := hb6
    have hb6' : ¬ ((i : Int) < (a.length : Int)) := of_decide_eq_false hb6
    refine AC.condF (Evl.tmp rfl) ?_
    refine AC.exit ?_
    refine (?_ : AC _ _ _ _ _)
    refine AC.seq ?_
    refine AC.region ?_
    refine AL.cons rfl (Does.move rfl rfl) ?_
    refine AL.cons rfl (Does.assign rfl rfl) ?_
    refine AL.nil ?_
    refine (?_ : AC _ _ _ _ _)
    refine AC.ret ?_
    subst hO
    have e7 : (mkC fI l k i : Int) = (marks fI l k).2 := by
      first | (exfalso; omega) | (rw [mkC_end _ (by omega)]; done)
    exact fin_pure (Res.one rfl (Rs.tmp rfl)) ((congrArg (fun z_ => lf (dI z_)) e7)) rfl
  · have _h := hb6
    have hb6' : ((i : Int) < (a.length : Int)) := of_decide_eq_true hb6
    refine AC.condT (Evl.tmp rfl) ?_
    refine AC.skip ?_
    refine (?_ : AC _ _ _ _ _)
    refine AC.seq ?_
    refine AC.block ?_
    refine AC.seq ?_
    refine AC.seq ?_
    refine AC.region ?_
    refine AL.cons rfl (Does.move rfl rfl) ?_
    refine AL.cons rfl (Does.move rfl rfl) ?_
    obtain ⟨x8, hx9⟩ : ∃ z, a[i]? = some z := ⟨_, List.getElem?_eq_getElem (by omega)⟩
    have hvx8 : x8 = mkC fI l k i := by obtain ⟨_, _, h⟩ := held_at hm hx9; exact h
    refine AL.cons rfl (Does.indexE (Evl.tmp rfl) (Evl.tmp rfl) und_72 tsh_3 rfl (by omega) hx9) ?_
    refine AL.cons rfl (Does.loadE (Evl.tmp rfl) tsh_3 rfl rfl) ?_
    refine AL.fact (fact_int (x := .tmp 15) (Evl.tmp rfl)) fun hi10 => ?_
    refine AL.cons rfl (Does.move rfl rfl) ?_
    refine AL.cons rfl (Does.neq (Evl.tmp rfl) (Evl.tmp rfl) rfl) ?_
    refine AL.nil ?_
    refine (?_ : AC _ _ _ _ _)
    cases hb11 : (!decide (x8 = (mkC fI l k i)))
    · have _h := hb11
      have hb11' : (x8 = (mkC fI l k i)) := nd_false hb11
      refine AC.condF (Evl.tmp rfl) ?_
      refine AC.skip ?_
      refine (?_ : AC _ _ _ _ _)
      refine AC.region ?_
      refine AL.cons rfl (Does.move rfl rfl) ?_
      refine AL.cons rfl (Does.add (Evl.tmp rfl) (Evl.int rfl) rfl (by omega)) ?_
      refine AL.cons rfl (Does.assign rfl rfl) ?_
      refine AL.nil ?_
      refine (?_ : AC _ _ _ _ _)
      refine AC.region ?_
      refine AL.cons rfl (Does.move rfl rfl) ?_
      refine AL.cons rfl (Does.add (Evl.tmp rfl) (Evl.int rfl) rfl (by omega)) ?_
      refine AL.cons rfl (Does.assign rfl rfl) ?_
      refine AL.nil ?_
      exact loop_end (a.length - (i + 1)) ⟨[(0, lf (.dat (.sl 3 .int) a)), (1, lf (dI (mkC fI l k (i + 1)))), (5, lf (dI ((i + 1) : Int)))], []⟩ (by omega) (Wk.of [] rfl ⟨rfl, (show some (lf (dI ((mkC fI l k i) + 1))) = some (lf (dI (mkC fI l k (i + 1)))) from congrArg (fun z_ => some (lf (dI z_))) (mkI_succ (by omega))), rfl, trivial⟩ trivial rfl rfl) ⟨i + 1, by omega, rfl, rfl⟩
    · have _h := hb11
      have hb11' : ¬ (x8 = (mkC fI l k i)) := nd_true hb11
      refine AC.condT (Evl.tmp rfl) ?_
      refine AC.seq ?_
      refine AC.region ?_
      refine AL.cons rfl (Does.assignC (Evl.int rfl) rfl) ?_
      refine AL.nil ?_
      refine (?_ : AC _ _ _ _ _)
      refine AC.ret ?_
      subst hO
      have e13 : ((-1) : Int) = (marks fI l k).2 := by
        first | (exfalso; omega) | (rw [mkC_end _ (by omega)]; done)
      exact fin_pure (Res.one rfl (Rs.tmp rfl)) ((congrArg (fun z_ => lf (dI z_)) e13)) rfl

@[reducible] def fL : Int × Bool → Int → (Int × Bool) × Int := fun _ k => ((k, decide ((k + 1) % 3 = 0)), k + 2)
theorem fL_c : ∀ (x : Int × Bool) (k : Int), (fL x k).2 = k + ((fun _ => 2 : Int × Bool → Nat) x : Nat) := fun _ _ => rfl
theorem sum_two {α : Type _} (a : List α) : (a.map fun _ => 2).sum = 2 * a.length := by
  induction a with
  | nil => rfl
  | cons x xs ih => simp [ih]; omega
theorem mkL_le (a : List (Int × Bool)) (k : Int) (i : Nat) : k ≤ mkC fL a k i ∧ mkC fL a k i ≤ k + 2 * a.length := by
  have := mkC_le _ fL_c a k i
  rw [sum_two] at this
  omega
theorem mkL_succ {l : List (Int × Bool)} {k : Int} {i : Nat} (h : i < l.length) : mkC fL l k i + 1 + 1 = mkC fL l k (i + 1) := by rw [mkC_succ (List.getElem?_eq_getElem h)]; simp only [fL]; omega

set_option maxRecDepth 100000 in
set_option maxHeartbeats 4000000 in
theorem fc_laws_markLabelS (a : List (Int × Bool)) (k : Int) (hk : 0 ≤ k ∧ k + 2 * a.length ≤ 1000000000) : FC Try.prog 65 [(false, [.ref 0]), (false, [dI k])] [(0, some (.arr 131 (.pr .int .bool) a))] 1 (Is (lf (dI ((marks fL a k).2))) [(0, some (.arr 131 (.pr .int .bool) ((marks fL a k).1)))]) := by
  obtain ⟨O_, hO⟩ : ∃ x : PV → Tab → Prop, x = Is (lf (dI ((marks fL a k).2))) [(0, some (.arr 131 (.pr .int .bool) ((marks fL a k).1)))] := ⟨_, rfl⟩
  refine FC.O_of hO (FC.ren (FC.of Try.func65 rfl rfl fun A_ hn_ hk_ => ?_))
  obtain ⟨w0_, N0_, X_, n_, k0_, h0_, f0_⟩ := A_
  obtain rfl : n_ = 29 := hn_.trans Try.ntmps65
  obtain rfl : k0_ = 1 := hk_
  refine AC.fact (fact_int (x := .tmp 1) (Evl.tmp rfl)) fun hi1 => ?_
  refine AC.seq ?_
  refine AC.region ?_
  refine AL.cons rfl (Does.assignC (Evl.int rfl) rfl) ?_
  refine AL.nil ?_
  refine (?_ : AC _ _ _ _ _)
  refine AC.seq ?_
  refine AC.seq ?_
  refine AC.region ?_
  refine AL.cons rfl (Does.assignC (Evl.int rfl) rfl) ?_
  refine AL.nil ?_
  refine (?_ : AC _ _ _ _ _)
  refine AC.block ?_
  refine AC.wk (s' := ⟨[(0, lf (.ref 0)), (1, lf (dI (mkC fL a k 0))), (4, lf (dI 0)), (5, lf (dI (0 : Int)))], [(0, some (.arr 131 (.pr .int .bool) (mkA fL a k 0)))]⟩) (Wk.of [(0, 0)] rfl ⟨rfl, (show some (lf (dI k)) = some (lf (dI (mkC fL a k 0))) from congrArg (fun z_ => some (lf (dI z_))) (by rw [mkC_0])), rfl, rfl, trivial⟩ ⟨(show some (Ent.arr 131 (.pr .int .bool) a) = some (Ent.arr 131 (.pr .int .bool) (mkA fL a k 0)) from congrArg (fun z => some (Ent.arr 131 (.pr .int .bool) z)) (mkA_0 fL a k)), trivial⟩ rfl rfl) ?_
  refine AC.loop (fun m_ s_ => ∃ (i : Nat), i ≤ a.length ∧ m_ = a.length - i ∧ s_ = ⟨[(0, lf (.ref 0)), (1, lf (dI (mkC fL a k i))), (4, lf (dI 0)), (5, lf (dI (i : Int)))], [(0, some (.arr 131 (.pr .int .bool) (mkA fL a k i)))]⟩) (m := a.length - 0) ⟨0, Nat.zero_le _, rfl, rfl⟩ ?_
  rintro m_ s_ ⟨i, hk3, hm4, rfl⟩
  have hml := mkA_len fL a k i
  have hmc := mkL_le a k i
  refine AC.seq ?_
  refine AC.seq ?_
  refine AC.region ?_
  refine AL.cons rfl (Does.move rfl rfl) ?_
  refine AL.cons rfl (Does.move rfl rfl) ?_
  refine AL.cons rfl (Does.lenO (Evl.tmp rfl) rfl rfl und_48) ?_
  refine AL.cons rfl (Does.lss (Evl.tmp rfl) (Evl.tmp rfl) rfl) ?_
  refine AL.nil ?_
  refine (?_ : AC _ _ _ _ _)
  cases hb5 : (decide ((i : Int) < ((mkA fL a k i).length : Int)))
  · have _h := hb5
    have hb5' : ¬ ((i : Int) < ((mkA fL a k i).length : Int)) := of_decide_eq_false hb5
    refine AC.condF (Evl.tmp rfl) ?_
    refine AC.exit ?_
    refine (?_ : AC _ _ _ _ _)
    refine AC.seq ?_
    refine AC.region ?_
    refine AL.cons rfl (Does.move rfl rfl) ?_
    refine AL.cons rfl (Does.assign rfl rfl) ?_
    refine AL.nil ?_
    refine (?_ : AC _ _ _ _ _)
    refine AC.ret ?_
    subst hO
    have e6 : (mkC fL a k i : Int) = (marks fL a k).2 := by
      first | (rw [mkA_end _ (by omega)]; done) | (rw [mkC_end _ (by omega)]; done)
    exact fin_is (lf (dI ((marks fL a k).2))) [(0, some (.arr 131 (.pr .int .bool) ((marks fL a k).1)))] [(0, 0)] (Res.one rfl (Rs.tmp rfl)) (show lf (dI (mkC fL a k i)) = lf (dI ((marks fL a k).2)) by exact (congrArg (fun z_ => lf (dI z_)) e6)) ⟨(show some (Ent.arr 131 (.pr .int .bool) (mkA fL a k i)) = some (Ent.arr 131 (.pr .int .bool) ((marks fL a k).1)) from congrArg (fun z => some (Ent.arr 131 (.pr .int .bool) z)) (by first | (rw [mkA_end _ (by omega)]; done) | (rw [mkC_end _ (by omega)]; done))), trivial⟩ rfl rfl
  · have _h := hb5
    have hb5' : ((i : Int) < ((mkA fL a k i).length : Int)) := of_decide_eq_true hb5
    refine AC.condT (Evl.tmp rfl) ?_
    refine AC.skip ?_
    refine (?_ : AC _ _ _ _ _)
    refine AC.seq ?_
    refine AC.block ?_
    refine AC.seq ?_
    refine AC.region ?_
    refine AL.cons rfl (Does.move rfl rfl) ?_
    refine AL.cons rfl (Does.move rfl rfl) ?_
    refine AL.cons rfl (Does.move rfl rfl) ?_
    refine AL.cons rfl (Does.indexI (e := (.pr .int .bool)) (Evl.tmp rfl) rfl (Evl.tmp rfl) und_48 tsh_131 rfl (by omega) (by first | omega | (simp only [List.length_set]; omega))) ?_
    refine AL.cons rfl (Does.fieldI (Evl.tmp rfl) fld_131_0 rfl rfl) ?_
    obtain ⟨x7, hx8⟩ : ∃ z, (mkA fL a k i)[i]? = some z := ⟨_, List.getElem?_eq_getElem (by omega)⟩
    refine AL.cons rfl (Does.storeI (e := (.pr .int .bool)) (z' := (mkC fL a k i, x7.2)) (Evl.tmp rfl) rfl hx8 rfl (Ev.tmp rfl) rfl tsh_3 rfl rfl) ?_
    refine AL.nil ?_
    refine (?_ : AC _ _ _ _ _)
    refine AC.seq ?_
    refine AC.region ?_
    refine AL.cons rfl (Does.move rfl rfl) ?_
    refine AL.cons rfl (Does.add (Evl.tmp rfl) (Evl.int rfl) rfl (by omega)) ?_
    refine AL.cons rfl (Does.assign rfl rfl) ?_
    refine AL.nil ?_
    refine (?_ : AC _ _ _ _ _)
    refine AC.seq ?_
    refine AC.region ?_
    refine AL.cons rfl (Does.move rfl rfl) ?_
    refine AL.cons rfl (Does.move rfl rfl) ?_
    refine AL.cons rfl (Does.move rfl rfl) ?_
    refine AL.cons rfl (Does.rem (Evl.tmp rfl) (Evl.int rfl) rfl (by omega) (by omega)) ?_
    refine AL.cons rfl (Does.eql (Evl.tmp rfl) (Evl.int rfl) rfl) ?_
    refine AL.cons rfl (Does.indexI (e := (.pr .int .bool)) (Evl.tmp rfl) rfl (Evl.tmp rfl) und_48 tsh_131 rfl (by omega) (by first | omega | (simp only [List.length_set]; omega))) ?_
    refine AL.cons rfl (Does.fieldI (Evl.tmp rfl) fld_131_1 rfl rfl) ?_
    refine AL.cons rfl (Does.storeI (e := (.pr .int .bool)) (z' := ((mkC fL a k i, x7.2).1, decide ((((mkC fL a k i) + 1) % 3) = 0))) (Evl.tmp rfl) rfl (List.getElem?_set_self (by first | omega | (simp only [List.length_set]; omega))) rfl (Ev.tmp rfl) rfl tsh_4 rfl rfl) ?_
    refine AL.nil ?_
    refine (?_ : AC _ _ _ _ _)
    refine AC.region ?_
    refine AL.cons rfl (Does.move rfl rfl) ?_
    refine AL.cons rfl (Does.add (Evl.tmp rfl) (Evl.int rfl) rfl (by omega)) ?_
    refine AL.cons rfl (Does.assign rfl rfl) ?_
    refine AL.nil ?_
    refine (?_ : AC _ _ _ _ _)
    refine AC.region ?_
    refine AL.cons rfl (Does.move rfl rfl) ?_
    refine AL.cons rfl (Does.add (Evl.tmp rfl) (Evl.int rfl) rfl (by omega)) ?_
    refine AL.cons rfl (Does.assign rfl rfl) ?_
    refine AL.nil ?_
    exact loop_end (a.length - (i + 1)) ⟨[(0, lf (.ref 0)), (1, lf (dI (mkC fL a k (i + 1)))), (4, lf (dI 0)), (5, lf (dI ((i + 1) : Int)))], [(0, some (.arr 131 (.pr .int .bool) (mkA fL a k (i + 1))))]⟩ (by omega) (Wk.of [(0, 0)] rfl ⟨rfl, (show some (lf (dI (((mkC fL a k i) + 1) + 1))) = some (lf (dI (mkC fL a k (i + 1)))) from congrArg (fun z_ => some (lf (dI z_))) (mkL_succ (by omega))), rfl, rfl, trivial⟩ ⟨(show some (Ent.arr 131 (.pr .int .bool) (((mkA fL a k i).set i (mkC fL a k i, x7.2)).set i ((mkC fL a k i, x7.2).1, decide ((((mkC fL a k i) + 1) % 3) = 0)))) = some (Ent.arr 131 (.pr .int .bool) (mkA fL a k (i + 1))) from congrArg (fun z => some (Ent.arr 131 (.pr .int .bool) z)) (by rw [List.set_set]; exact mkA_set (f := fL) (mkA_back hx8))), trivial⟩ rfl rfl) ⟨i + 1, by omega, rfl, rfl⟩

set_option maxRecDepth 100000 in
set_option maxHeartbeats 4000000 in
theorem fc_laws_heldLabelS (a : List (Int × Bool)) (k : Int) (l : List (Int × Bool)) (hm : a = (marks fL l k).1) (hk : 0 ≤ k ∧ k + 2 * a.length ≤ 1000000000) : FC Try.prog 68 [(false, [.dat (.sl 131 (.pr .int .bool)) a]), (false, [dI k])] [] 0 (Pure (lf (dI ((marks fL l k).2)))) := by
  have hla : a.length = l.length := by rw [hm, marks_len]
  obtain ⟨O_, hO⟩ : ∃ x : PV → Tab → Prop, x = Pure (lf (dI ((marks fL l k).2))) := ⟨_, rfl⟩
  refine FC.O_of hO (FC.ren (FC.of Try.func68 rfl rfl fun A_ hn_ hk_ => ?_))
  obtain ⟨w0_, N0_, X_, n_, k0_, h0_, f0_⟩ := A_
  obtain rfl : n_ = 33 := hn_.trans Try.ntmps68
  obtain rfl : k0_ = 0 := hk_
  refine AC.fact (fact_int (x := .tmp 1) (Evl.tmp rfl)) fun hi1 => ?_
  refine AC.seq ?_
  refine AC.region ?_
  refine AL.cons rfl (Does.assignC (Evl.int rfl) rfl) ?_
  refine AL.nil ?_
  refine (?_ : AC _ _ _ _ _)
  refine AC.seq ?_
  refine AC.seq ?_
  refine AC.region ?_
  refine AL.cons rfl (Does.assignC (Evl.int rfl) rfl) ?_
  refine AL.nil ?_
  refine (?_ : AC _ _ _ _ _)
  refine AC.block ?_
  refine AC.wk (s' := ⟨[(0, lf (.dat (.sl 131 (.pr .int .bool)) a)), (1, lf (dI (mkC fL l k 0))), (5, lf (dI (0 : Int)))], []⟩) (Wk.of [] rfl ⟨rfl, (show some (lf (dI k)) = some (lf (dI (mkC fL l k 0))) from congrArg (fun z_ => some (lf (dI z_))) (by rw [mkC_0])), rfl, trivial⟩ trivial rfl rfl) ?_
  refine AC.loop (fun m_ s_ => ∃ (i : Nat), i ≤ a.length ∧ m_ = a.length - i ∧ s_ = ⟨[(0, lf (.dat (.sl 131 (.pr .int .bool)) a)), (1, lf (dI (mkC fL l k i))), (5, lf (dI (i : Int)))], []⟩) (m := a.length - 0) ⟨0, Nat.zero_le _, rfl, rfl⟩ ?_
  rintro m_ s_ ⟨i, hk3, hm4, rfl⟩
  have hmc := mkL_le l k i
  refine AC.seq ?_
  refine AC.seq ?_
  refine AC.region ?_
  refine AL.cons rfl (Does.move rfl rfl) ?_
  refine AL.cons rfl (Does.move rfl rfl) ?_
  refine AL.fact (fact_len (x := .tmp 7) (Evl.tmp rfl)) fun hl5 => ?_
  refine AL.cons rfl (Does.len (Evl.tmp rfl) rfl und_48) ?_
  refine AL.cons rfl (Does.lss (Evl.tmp rfl) (Evl.tmp rfl) rfl) ?_
  refine AL.nil ?_
  refine (?_ : AC _ _ _ _ _)
  cases hb6 : (decide ((i : Int) < (a.length : Int)))
  · have _h := hb6
    have hb6' : ¬ ((i : Int) < (a.length : Int)) := of_decide_eq_false hb6
    refine AC.condF (Evl.tmp rfl) ?_
    refine AC.exit ?_
    refine (?_ : AC _ _ _ _ _)
    refine AC.seq ?_
    refine AC.region ?_
    refine AL.cons rfl (Does.move rfl rfl) ?_
    refine AL.cons rfl (Does.assign rfl rfl) ?_
    refine AL.nil ?_
    refine (?_ : AC _ _ _ _ _)
    refine AC.ret ?_
    subst hO
    have e7 : (mkC fL l k i : Int) = (marks fL l k).2 := by
      first | (exfalso; omega) | (exfalso; simp_all; done) | (rw [mkC_end _ (by omega)]; done)
    exact fin_pure (Res.one rfl (Rs.tmp rfl)) ((congrArg (fun z_ => lf (dI z_)) e7)) rfl
  · have _h := hb6
    have hb6' : ((i : Int) < (a.length : Int)) := of_decide_eq_true hb6
    refine AC.condT (Evl.tmp rfl) ?_
    refine AC.skip ?_
    refine (?_ : AC _ _ _ _ _)
    refine AC.seq ?_
    refine AC.block ?_
    refine AC.seq ?_
    refine AC.seq ?_
    refine AC.region ?_
    refine AL.cons rfl (Does.move rfl rfl) ?_
    refine AL.cons rfl (Does.move rfl rfl) ?_
    obtain ⟨x8, hx9⟩ : ∃ z, a[i]? = some z := ⟨_, List.getElem?_eq_getElem (by omega)⟩
    have hvx8 : x8.1 = mkC fL l k i := by obtain ⟨_, _, h⟩ := held_at hm hx9; rw [h]
    have hwx8 : x8.2 = decide ((mkC fL l k i + 1) % 3 = 0) := by obtain ⟨_, _, h⟩ := held_at hm hx9; rw [h]
    refine AL.cons rfl (Does.indexE (Evl.tmp rfl) (Evl.tmp rfl) und_48 tsh_131 rfl (by omega) hx9) ?_
    refine AL.cons rfl (Does.fieldE (Evl.tmp rfl) fld_131_0 rfl) ?_
    refine AL.cons rfl (Does.loadE (Evl.tmp rfl) tsh_3 rfl rfl) ?_
    refine AL.fact (fact_int (x := .tmp 16) (Evl.tmp rfl)) fun hi10 => ?_
    refine AL.cons rfl (Does.move rfl rfl) ?_
    refine AL.cons rfl (Does.neq (Evl.tmp rfl) (Evl.tmp rfl) rfl) ?_
    refine AL.nil ?_
    refine (?_ : AC _ _ _ _ _)
    cases hb11 : (!decide (x8.1 = (mkC fL l k i)))
    · have _h := hb11
      have hb11' : (x8.1 = (mkC fL l k i)) := nd_false hb11
      refine AC.condF (Evl.tmp rfl) ?_
      refine AC.skip ?_
      refine (?_ : AC _ _ _ _ _)
      refine AC.seq ?_
      refine AC.region ?_
      refine AL.cons rfl (Does.move rfl rfl) ?_
      refine AL.cons rfl (Does.add (Evl.tmp rfl) (Evl.int rfl) rfl (by omega)) ?_
      refine AL.cons rfl (Does.assign rfl rfl) ?_
      refine AL.nil ?_
      refine (?_ : AC _ _ _ _ _)
      refine AC.seq ?_
      refine AC.seq ?_
      refine AC.region ?_
      refine AL.cons rfl (Does.move rfl rfl) ?_
      refine AL.cons rfl (Does.move rfl rfl) ?_
      refine AL.cons rfl (Does.indexE (Evl.tmp rfl) (Evl.tmp rfl) und_48 tsh_131 rfl (by omega) hx9) ?_
      refine AL.cons rfl (Does.fieldE (Evl.tmp rfl) fld_131_1 rfl) ?_
      refine AL.cons rfl (Does.loadE (Evl.tmp rfl) tsh_4 rfl rfl) ?_
      refine AL.cons rfl (Does.move rfl rfl) ?_
      refine AL.cons rfl (Does.rem (Evl.tmp rfl) (Evl.int rfl) rfl (by omega) (by omega)) ?_
      refine AL.cons rfl (Does.eql (Evl.tmp rfl) (Evl.int rfl) rfl) ?_
      refine AL.cons rfl (Does.neqB (Evl.tmp rfl) (Evl.tmp rfl) rfl und_4) ?_
      refine AL.nil ?_
      refine (?_ : AC _ _ _ _ _)
      cases hb12 : (x8.2 == (decide ((((mkC fL l k i) + 1) % 3) = 0)))
      · have _h := hb12
        refine AC.condT (Evl.tmp rfl) ?_
        refine AC.seq ?_
        refine AC.region ?_
        refine AL.cons rfl (Does.assignC (Evl.int rfl) rfl) ?_
        refine AL.nil ?_
        refine (?_ : AC _ _ _ _ _)
        refine AC.ret ?_
        subst hO
        have e13 : ((-1) : Int) = (marks fL l k).2 := by
          first | (exfalso; omega) | (exfalso; simp_all; done) | (rw [mkC_end _ (by omega)]; done)
        exact fin_pure (Res.one rfl (Rs.tmp rfl)) ((congrArg (fun z_ => lf (dI z_)) e13)) rfl
      · have _h := hb12
        refine AC.condF (Evl.tmp rfl) ?_
        refine AC.skip ?_
        refine (?_ : AC _ _ _ _ _)
        refine AC.region ?_
        refine AL.cons rfl (Does.move rfl rfl) ?_
        refine AL.cons rfl (Does.add (Evl.tmp rfl) (Evl.int rfl) rfl (by omega)) ?_
        refine AL.cons rfl (Does.assign rfl rfl) ?_
        refine AL.nil ?_
        refine (?_ : AC _ _ _ _ _)
        refine AC.region ?_
        refine AL.cons rfl (Does.move rfl rfl) ?_
        refine AL.cons rfl (Does.add (Evl.tmp rfl) (Evl.int rfl) rfl (by omega)) ?_
        refine AL.cons rfl (Does.assign rfl rfl) ?_
        refine AL.nil ?_
        exact loop_end (a.length - (i + 1)) ⟨[(0, lf (.dat (.sl 131 (.pr .int .bool)) a)), (1, lf (dI (mkC fL l k (i + 1)))), (5, lf (dI ((i + 1) : Int)))], []⟩ (by omega) (Wk.of [] rfl ⟨rfl, (show some (lf (dI (((mkC fL l k i) + 1) + 1))) = some (lf (dI (mkC fL l k (i + 1)))) from congrArg (fun z_ => some (lf (dI z_))) (mkL_succ (by omega))), rfl, trivial⟩ trivial rfl rfl) ⟨i + 1, by omega, rfl, rfl⟩
    · have _h := hb11
      have hb11' : ¬ (x8.1 = (mkC fL l k i)) := nd_true hb11
      refine AC.condT (Evl.tmp rfl) ?_
      refine AC.seq ?_
      refine AC.region ?_
      refine AL.cons rfl (Does.assignC (Evl.int rfl) rfl) ?_
      refine AL.nil ?_
      refine (?_ : AC _ _ _ _ _)
      refine AC.ret ?_
      subst hO
      have e15 : ((-1) : Int) = (marks fL l k).2 := by
        first | (exfalso; omega) | (exfalso; simp_all; done) | (rw [mkC_end _ (by omega)]; done)
      exact fin_pure (Res.one rfl (Rs.tmp rfl)) ((congrArg (fun z_ => lf (dI z_)) e15)) rfl

end Go.Proofs.Ytbelopdphlllnaa
