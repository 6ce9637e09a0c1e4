/- Abstract states: slices of numbers that the library sorts in place. No program is named here. -/
import Derived.Test.YtnakmhfjafecpaaGreatAk
import Derived.Test.YtnakmhfjafecpaaGreatAh
import Derived.Sort.EveryDepth
import Derived.Sort.OwnSortedInts
import Derived.Shelf.Sort.AssemblyIn
import Derived.Test.YtnakmhfjafecpaaGreatFb
import Derived.Test.YtnakmhfjafecpaaGreatApp
import Derived.Test.YtnakmhfjafecpaaGreatTrd
set_option linter.unusedSimpArgs false
set_option linter.unusedVariables false
set_option linter.unusedSectionVars false
namespace Go.Proofs.YtnakmhfjafecpaaGreat
open Go.RowKit

def isort (xs : List Int) : List Int := xs.mergeSort fun x y => decide (x ≤ y)
/-- What the library's contract says of sorting a row of numbers. -/
def SortsI (P : Program) (f : FuncId) : Prop := ∀ (blk cap : Nat) (zs : List Int) (w : World), Sort.Holds (Value.int .i64) w blk 0 zs.toArray → blk < w.heap.size → zs.length < 4611686018427387904 →
  Calls P f #[.slice (some ⟨blk, 0, none⟩) zs.length cap] w fun e w' => e = .returned (.tuple #[]) ∧ ∃ n os, w' = Sort.grow (Sort.putRow (Value.int .i64) (Sort.ahead w n) blk 0 (isort zs).toArray) os
def SortsNil (P : Program) (f : FuncId) : Prop := ∀ w : World, Calls P f #[.slice none 0 0] w fun e w' => e = .returned (.tuple #[]) ∧ Nw w w'
end Go.Proofs.YtnakmhfjafecpaaGreat

/- Sorted lists without repetition: put in one by one, or sorted and made compact. Plain lists; no program is named here. -/
namespace Go.Proofs.YtnakmhfjafecpaaGreat

/-- A strict order in which any two stand. -/
structure TO {α : Type _} (lt : α → α → Bool) : Prop where
  irr : ∀ x, lt x x = false
  tr : ∀ x y z, lt x y = true → lt y z = true → lt x z = true
  tot : ∀ x y, lt x y = true ∨ x = y ∨ lt y x = true
def putG {α : Type _} [DecidableEq α] (lt : α → α → Bool) (x : α) : List α → List α
  | [] => [x]
  | y :: l => if lt y x = true then y :: putG lt x l else if y = x then y :: l else x :: y :: l
def cmpG {α : Type _} [DecidableEq α] : List α → List α
  | [] => []
  | [x] => [x]
  | x :: y :: l => if x = y then cmpG (y :: l) else x :: cmpG (y :: l)
/-- Put in one by one. -/
def ofG {α : Type _} [DecidableEq α] (lt : α → α → Bool) (l : List α) : List α := l.foldl (fun s x => putG lt x s) []
section
variable {α : Type _} [DecidableEq α] {lt : α → α → Bool} {l a b : List α} {x y z : α} {k : Nat}
omit [DecidableEq α] in
theorem TO.ext (h : TO lt) : ∀ {a b : List α}, a.Pairwise (fun x y => lt x y = true) → b.Pairwise (fun x y => lt x y = true) → (∀ x, x ∈ a ↔ x ∈ b) → a = b
  | [], [], _, _, _ => rfl
  | [], y :: b, _, _, hm => by have := (hm y).2 (List.mem_cons_self ..); cases this
  | x :: a, [], _, _, hm => by have := (hm x).1 (List.mem_cons_self ..); cases this
  | x :: a, y :: b, ha, hb, hm => by
    obtain ⟨a1, a2⟩ := List.pairwise_cons.1 ha
    obtain ⟨b1, b2⟩ := List.pairwise_cons.1 hb
    have hxy : x = y := by
      rcases List.mem_cons.1 ((hm x).1 (List.mem_cons_self ..)) with h1 | h1
      · exact h1
      · rcases List.mem_cons.1 ((hm y).2 (List.mem_cons_self ..)) with h2 | h2
        · exact h2.symm
        · have := h.tr _ _ _ (a1 _ h2) (b1 _ h1)
          rw [h.irr] at this; cases this
    subst hxy
    congr 1
    refine h.ext a2 b2 fun z => ⟨fun hz => ?_, fun hz => ?_⟩
    · rcases List.mem_cons.1 ((hm z).1 (List.mem_cons_of_mem _ hz)) with h1 | h1
      · subst h1; have := a1 _ hz; rw [h.irr] at this; cases this
      · exact h1
    · rcases List.mem_cons.1 ((hm z).2 (List.mem_cons_of_mem _ hz)) with h1 | h1
      · subst h1; have := b1 _ hz; rw [h.irr] at this; cases this
      · exact h1
theorem putG_mem : z ∈ putG lt x l ↔ z = x ∨ z ∈ l := by
  induction l with
  | nil => simp [putG]
  | cons y l ih =>
    unfold putG
    split
    · rw [List.mem_cons, ih, List.mem_cons]
      constructor
      · rintro (h | h | h)
        · exact .inr (.inl h)
        · exact .inl h
        · exact .inr (.inr h)
      · rintro (h | h | h)
        · exact .inr (.inl h)
        · exact .inl h
        · exact .inr (.inr h)
    · split
      · rename_i h; subst h
        rw [List.mem_cons]
        exact ⟨fun h => h.elim .inl fun h => .inr (.inr h), fun h => h.elim .inl id⟩
      · rw [List.mem_cons]
theorem putG_str (h : TO lt) (hl : l.Pairwise (fun x y => lt x y = true)) : (putG lt x l).Pairwise (fun x y => lt x y = true) := by
  induction l with
  | nil => simp [putG]
  | cons y l ih =>
    obtain ⟨h1, h2⟩ := List.pairwise_cons.1 hl
    unfold putG
    split
    · rename_i hy
      refine List.pairwise_cons.2 ⟨fun z hz => ?_, ih h2⟩
      rcases putG_mem.1 hz with rfl | hz
      · exact hy
      · exact h1 z hz
    · split
      · exact hl
      · rename_i hy hne
        have hxy : lt x y = true := by
          rcases h.tot x y with h3 | h3 | h3
          · exact h3
          · exact absurd h3.symm hne
          · exact absurd h3 hy
        refine List.pairwise_cons.2 ⟨fun z hz => ?_, hl⟩
        rcases List.mem_cons.1 hz with rfl | hz
        · exact hxy
        · exact h.tr _ _ _ hxy (h1 z hz)
theorem fold_put (h : TO lt) : ∀ (l s : List α), s.Pairwise (fun x y => lt x y = true) → (l.foldl (fun s x => putG lt x s) s).Pairwise (fun x y => lt x y = true) ∧ ∀ z, z ∈ l.foldl (fun s x => putG lt x s) s ↔ z ∈ s ∨ z ∈ l
  | [], s, hs => ⟨hs, fun z => by simp⟩
  | x :: l, s, hs => by
    obtain ⟨h1, h2⟩ := fold_put h l _ (putG_str (x := x) h hs)
    refine ⟨h1, fun z => ?_⟩
    rw [List.foldl_cons, h2, putG_mem, List.mem_cons]
    constructor
    · rintro ((h | h) | h)
      · exact .inr (.inl h)
      · exact .inl h
      · exact .inr (.inr h)
    · rintro (h | h | h)
      · exact .inl (.inr h)
      · exact .inl (.inl h)
      · exact .inr h
theorem ofG_str (h : TO lt) (l : List α) : (ofG lt l).Pairwise (fun x y => lt x y = true) := (fold_put h l [] List.Pairwise.nil).1
theorem ofG_mem (h : TO lt) (l : List α) : z ∈ ofG lt l ↔ z ∈ l := by
  have := (fold_put h l [] List.Pairwise.nil).2 z
  simpa [ofG] using this
theorem ofG_snoc : putG lt x (ofG lt l) = ofG lt (l ++ [x]) := by unfold ofG; rw [List.foldl_append]; rfl
theorem cmpG_mem : ∀ {l : List α}, z ∈ cmpG l ↔ z ∈ l
  | [] => Iff.rfl
  | [x] => Iff.rfl
  | x :: y :: l => by
    unfold cmpG
    split
    · rename_i h; subst h
      rw [cmpG_mem]
      exact ⟨List.mem_cons_of_mem _, fun h => (List.mem_cons.1 h).elim (fun h => by rw [h]; exact List.mem_cons_self ..) id⟩
    · rw [List.mem_cons, cmpG_mem, List.mem_cons (l := y :: l)]
theorem cmpG_str (h : TO lt) : ∀ {l : List α}, l.Pairwise (fun x y => lt y x = false) → (cmpG l).Pairwise (fun x y => lt x y = true)
  | [], _ => List.Pairwise.nil
  | [x], _ => by simp [cmpG]
  | x :: y :: l, hl => by
    obtain ⟨h1, h2⟩ := List.pairwise_cons.1 hl
    unfold cmpG
    split
    · exact cmpG_str h h2
    · rename_i hne
      refine List.pairwise_cons.2 ⟨fun z hz => ?_, cmpG_str h h2⟩
      rw [cmpG_mem] at hz
      rcases h.tot x z with h3 | h3 | h3
      · exact h3
      · subst h3
        rcases List.mem_cons.1 hz with h4 | h4
        · exact absurd h4 hne
        · have h5 := h1 y (List.mem_cons_self ..)
          have h6 := (List.pairwise_cons.1 h2).1 x h4
          rcases h.tot x y with h7 | h7 | h7
          · rw [h6] at h7; cases h7
          · exact absurd h7 hne
          · rw [h5] at h7; cases h7
      · have := h1 z hz; rw [this] at h3; cases h3
/-- Sorted and made compact is put in one by one. -/
theorem cmpG_of (h : TO lt) {s l : List α} (hs : s.Pairwise (fun x y => lt y x = false)) (hm : ∀ z, z ∈ s ↔ z ∈ l) : cmpG s = ofG lt l :=
  h.ext (cmpG_str h hs) (ofG_str h l) fun z => by rw [cmpG_mem, hm, ofG_mem h]
theorem putG_at : ∀ {k : Nat} {l : List α}, (∀ j, j < k → ∀ y, l[j]? = some y → lt y x = true) → k ≤ l.length → (∀ y, l[k]? = some y → lt y x = false ∧ y ≠ x) → putG lt x l = l.take k ++ x :: l.drop k
  | 0, [], _, _, _ => rfl
  | 0, y :: l, _, _, h2 => by
    obtain ⟨h3, h4⟩ := h2 y rfl
    unfold putG
    rw [if_neg (by rw [h3]; decide), if_neg h4]; rfl
  | k + 1, [], _, hk, _ => by simp at hk
  | k + 1, y :: l, h1, hk, h2 => by
    unfold putG
    rw [if_pos (h1 0 (by omega) y rfl), putG_at (k := k) (fun j hj z hz => h1 (j + 1) (by omega) z (by simpa using hz)) (by simpa using hk) (fun z hz => h2 z (by simpa using hz))]
    rfl
theorem putG_same : ∀ {k : Nat} {l : List α}, (∀ j, j < k → ∀ y, l[j]? = some y → lt y x = true) → l[k]? = some x → lt x x = false → putG lt x l = l
  | 0, [], _, h, _ => by simp at h
  | 0, y :: l, _, h, h3 => by
    simp only [List.getElem?_cons_zero, Option.some.injEq] at h
    subst h
    unfold putG
    rw [if_neg (by rw [h3]; decide), if_pos rfl]
  | k + 1, [], _, h, _ => by simp at h
  | k + 1, y :: l, h1, h, h3 => by
    unfold putG
    rw [if_pos (h1 0 (by omega) y rfl), putG_same (k := k) (fun j hj z hz => h1 (j + 1) (by omega) z (by simpa using hz)) (by simpa using h) h3]
end
def ltI (x y : Int) : Bool := decide (x < y)
end Go.Proofs.YtnakmhfjafecpaaGreat

/- Walks over abstract states: small words, copies. -/
namespace Go.Proofs.YtnakmhfjafecpaaGreat
open Go.RowKit
set_option maxRecDepth 100000
set_option maxHeartbeats 4000000

theorem fc_impl_within (n : Int) (low : Int) (high : Int)  : FC Tryz.prog 154 [(false, [dI n]), (false, [dI low]), (false, [dI high])] [] 0 (Pure (lB (decide (low ≤ n ∧ n ≤ high)))) := by
 refine FC.go Tryz.func154 rfl rfl Tryz.ntmps154 fun O_ hO w0_ N0_ X_ h0_ f0_ => ?_
 refine AC.fact (fact_int (x := .tmp 0) (Evl.tmp rfl)) fun hi1 => AC.fact (fact_int (x := .tmp 1) (Evl.tmp rfl)) fun hi2 => AC.fact (fact_int (x := .tmp 2) (Evl.tmp rfl)) fun hi3 => ?_
 iterate 8 refine w_ ?_
 cases hb4 : (decide (low ≤ n))
 ·have hb4' := of_decide_eq_false hb4
  iterate 6 refine w_ ?_
  refine AC.ret ?_
  subst hO
  have e5 : (false : Bool) = (decide (low ≤ n ∧ n ≤ high)) := by
   (rw [Bool.eq_iff_iff]; simp; omega)
  exact fin_pure (Res.one rfl (Rs.tmp rfl)) ((congrArg (fun z_ => lB z_) e5)) rfl
 ·have hb4' := of_decide_eq_true hb4
  iterate 6 refine w_ ?_
  refine AC.ret ?_
  subst hO
  have e6 : (decide (n ≤ high) : Bool) = (decide (low ≤ n ∧ n ≤ high)) := by
   (simp_all; done)
  exact fin_pure (Res.one rfl (Rs.tmp rfl)) ((congrArg (fun z_ => lB z_) e6)) rfl

def trBy (b : Int) (t : DTransition) : DTransition := (t.1.map fun x => x + b, t.2.map fun x => x + b)

end Go.Proofs.YtnakmhfjafecpaaGreat

/- Walks over abstract states: orderings added to a graph. -/
namespace Go.Proofs.YtnakmhfjafecpaaGreat
open Go.RowKit
set_option maxRecDepth 100000
set_option maxHeartbeats 4000000

theorem len5 {us : List Value} (h : us.length = 5) : ∃ a0 a1 a2 a3 a4, us = [a0, a1, a2, a3, a4] := by
  match us, h with
  | [a0, a1, a2, a3, a4], _ => exact ⟨_, _, _, _, _, rfl⟩
theorem retB_dec {p : Prop} [Decidable p] {w : World} {e : Ending} {w' : World} (h : RetB p w e w') : RetB (decide p = true) w e w' := by
  obtain ⟨b, h1, h2, h3⟩ := h
  exact ⟨b, h1, by rw [h2, decide_eq_true_eq], h3⟩
theorem fc_impl_IsValidSTG (s : DSTG) [Decidable (StgOk s)] : FC Tryz.prog 190 [(true, leaves tSTG s)] [] 0 (Pure (lf (dB (decide (StgOk s))))) := FC.ofB fun gh w vs h => by
  obtain ⟨us, rfl, hr⟩ := h.agg1
  obtain ⟨a0, a1, a2, a3, a4, rfl⟩ := len5 hr.len
  exact (IsValidSTG_any a0 a1 a2 a3 a4 s w hr).mono fun _ _ h => retB_dec h
theorem fc_spec_l2Good (s : DSTG) [Decidable (StgOk s)] : FC Tryz.prog 106 [(true, leaves tSTG s)] [] 0 (Pure (lf (dB (decide (StgOk s))))) := FC.ofB fun gh w vs h => by
  obtain ⟨us, rfl, hr⟩ := h.agg1
  obtain ⟨a0, a1, a2, a3, a4, rfl⟩ := len5 hr.len
  exact (l2Good_any a0 a1 a2 a3 a4 s w hr).mono fun _ _ h => retB_dec h
/-- An ordering put in. -/
def addT (ts : List DTransition) (a b : Nat) (p : Int) : List DTransition := (ts.modify a fun t => (t.1, t.2 ++ [p])).modify b fun t => (t.1 ++ [p], t.2)
def bitS (b : Bool) : ByteArray := ⟨#[if b then 49 else 48]⟩
def addOrd (s : DSTG) (o : DOrdering) : DSTG := ((s.1.1 + 1, addT s.1.2 o.1.toNat o.2.1.toNat s.1.1), s.2.1, s.2.2.1, s.2.2.2 ++ bitS o.2.2)
theorem cells_at {ts : List DTransition} {i : Nat} {x : DTransition} (h : ts[i]? = some x) : (cellsL tTransition ts)[i * 2 + 1]? = some (.dat (.sl 3 .int) x.2) ∧ (cellsL tTransition ts)[i * 2 + 0]? = some (.dat (.sl 3 .int) x.1) :=
  ⟨cellsL_get (e := tTransition) (j := 1) h rfl, cellsL_get (e := tTransition) (j := 0) h rfl⟩
theorem cells_set1 {ts : List DTransition} {i : Nat} {x : DTransition} {ys : List Int} (h : ts[i]? = some x) : (cellsL tTransition ts).set (i * 2 + 1) (.dat (.sl 3 .int) ys) = cellsL tTransition (ts.set i (x.1, ys)) :=
  (cellsL_set (e := tTransition) (j := 1) (x' := (x.1, ys)) h rfl (by decide)).symm
theorem cells_set0 {ts : List DTransition} {i : Nat} {x : DTransition} {ys : List Int} (h : ts[i]? = some x) : (cellsL tTransition ts).set (i * 2 + 0) (.dat (.sl 3 .int) ys) = cellsL tTransition (ts.set i (ys, x.2)) :=
  (cellsL_set (e := tTransition) (j := 0) (x' := (ys, x.2)) h rfl (by decide)).symm
theorem bsize1 (b : UInt8) : (⟨#[b]⟩ : ByteArray).size = 1 := rfl
theorem pos1 {a n : Nat} (h : a < n) : a * 2 + 1 < n * 2 := by omega
theorem pos0 {a n : Nat} (h : a < n) : a * 2 + 0 < n * 2 := by omega

def zeroSTG : DSTG := ((0, []), [], [], ByteArray.empty)

/-- A graph if it is one. -/
def stgIfV (s : DSTG) [Decidable (StgOk s)] : DSTG × Bool := if StgOk s then (s, true) else (zeroSTG, false)
end Go.Proofs.YtnakmhfjafecpaaGreat

/- Walks over abstract states: orderings added, the two functions. -/
namespace Go.Proofs.YtnakmhfjafecpaaGreat
open Go.RowKit
set_option maxRecDepth 100000
set_option maxHeartbeats 4000000

/-- What an ordering must be. -/
def OrdOk (s : DSTG) (o : DOrdering) : Prop := StgOk s ∧ (0 ≤ o.1 ∧ o.1 < s.1.2.length) ∧ (0 ≤ o.2.1 ∧ o.2.1 < s.1.2.length) ∧ o.1 ≠ o.2.1
instance (s : DSTG) (o : DOrdering) [Decidable (StgOk s)] : Decidable (OrdOk s o) := inferInstanceAs (Decidable (_ ∧ _))
def addV (s : DSTG) (o : DOrdering) [Decidable (StgOk s)] [Decidable (StgOk (addOrd s o))] : DSTG × Bool := if OrdOk s o then stgIfV (addOrd s o) else (zeroSTG, false)
def l26V (s : DSTG) (o : DOrdering) [Decidable (StgOk s)] [Decidable (StgOk (addOrd s o))] : DSTG × Bool := if OrdOk s o then (addOrd s o, decide (StgOk (addOrd s o))) else (zeroSTG, false)
section
variable {s : DSTG} {o : DOrdering} [Decidable (StgOk s)] [Decidable (StgOk (addOrd s o))]
end
end Go.Proofs.YtnakmhfjafecpaaGreat

/- Walks over abstract states: marks put in place, marks found again. -/
namespace Go.Proofs.YtnakmhfjafecpaaGreat
open Go.RowKit
set_option maxRecDepth 100000
set_option maxHeartbeats 4000000

section
variable {α : Type _} (f : α → Int → α × Int)
def marks : List α → Int → List α × Int
  | [], k => ([], k)
  | x :: xs, k => ((f x k).1 :: (marks xs (f x k).2).1, (marks xs (f x k).2).2)
theorem marks_len (xs : List α) (k : Int) : (marks f xs k).1.length = xs.length := by
  induction xs generalizing k with
  | nil => rfl
  | cons x xs ih => simp [marks, ih]
theorem marks_app (xs ys : List α) (k : Int) : marks f (xs ++ ys) k = ((marks f xs k).1 ++ (marks f ys (marks f xs k).2).1, (marks f ys (marks f xs k).2).2) := by
  induction xs generalizing k with
  | nil => rfl
  | cons x xs ih => simp [marks, ih]
def mkA (a : List α) (k : Int) (i : Nat) : List α := (marks f (a.take i) k).1 ++ a.drop i
def mkC (a : List α) (k : Int) (i : Nat) : Int := (marks f (a.take i) k).2
theorem mkA_len (a : List α) (k : Int) (i : Nat) : (mkA f a k i).length = a.length := by
  simp [mkA, marks_len]; omega
theorem mkA_0 (a : List α) (k : Int) : mkA f a k 0 = a := by simp [mkA, marks]
theorem mkC_0 (a : List α) (k : Int) : mkC f a k 0 = k := by simp [mkC, marks]
theorem mkA_end {a : List α} {k : Int} {i : Nat} (h : a.length ≤ i) : mkA f a k i = (marks f a k).1 := by simp [mkA, List.take_of_length_le h, List.drop_eq_nil_of_le h]
theorem mkC_end {a : List α} {k : Int} {i : Nat} (h : a.length ≤ i) : mkC f a k i = (marks f a k).2 := by simp [mkC, List.take_of_length_le h]
variable {f}
theorem mkA_get {a : List α} {k : Int} {i : Nat} {x : α} (h : a[i]? = some x) : (mkA f a k i)[i]? = some x := by
  have hi := (List.getElem?_eq_some_iff.1 h).1
  have hl : (marks f (a.take i) k).1.length = i := by simp [marks_len]; omega
  unfold mkA
  rw [List.getElem?_append_right (by omega), hl, Nat.sub_self, List.getElem?_drop]
  exact h
theorem mkA_back {a : List α} {k : Int} {i : Nat} {x : α} (h : (mkA f a k i)[i]? = some x) : a[i]? = some x := by
  have hi := (List.getElem?_eq_some_iff.1 h).1
  rw [mkA_len] at hi
  have h2 := mkA_get (f := f) (k := k) (List.getElem?_eq_getElem hi)
  rw [h] at h2
  rw [List.getElem?_eq_getElem hi, ← h2]
theorem take_snoc2 {a : List α} {i : Nat} {x : α} (h : a[i]? = some x) : a.take (i + 1) = a.take i ++ [x] := by
  obtain ⟨h1, h2⟩ := List.getElem?_eq_some_iff.1 h
  rw [List.take_succ_eq_append_getElem h1, h2]
theorem mkC_succ {a : List α} {k : Int} {i : Nat} {x : α} (h : a[i]? = some x) : mkC f a k (i + 1) = (f x (mkC f a k i)).2 := by
  unfold mkC
  rw [take_snoc2 h, marks_app]
  rfl
theorem mkA_set {a : List α} {k : Int} {i : Nat} {x : α} (h : a[i]? = some x) : (mkA f a k i).set i (f x (mkC f a k i)).1 = mkA f a k (i + 1) := by
  obtain ⟨h1, h2⟩ := List.getElem?_eq_some_iff.1 h
  have hl : (marks f (a.take i) k).1.length = i := by simp [marks_len]; omega
  unfold mkA mkC
  rw [take_snoc2 h, marks_app, List.set_append_right _ _ (by omega), hl, Nat.sub_self, List.drop_eq_getElem_cons h1]
  simp only [List.set_cons_zero, marks, List.append_assoc]
  rfl
/-- How far the count goes. -/
theorem mkC_sum (c : α → Nat) (hc : ∀ x k, (f x k).2 = k + c x) (a : List α) (k : Int) : (marks f a k).2 = k + ((a.map c).sum : Nat) := by
  induction a generalizing k with
  | nil => simp [marks]
  | cons x xs ih => simp only [marks, ih, hc, List.map_cons, List.sum_cons]; omega
theorem mkC_le (c : α → Nat) (hc : ∀ x k, (f x k).2 = k + c x) (a : List α) (k : Int) (i : Nat) : k ≤ mkC f a k i ∧ mkC f a k i ≤ k + ((a.map c).sum : Nat) := by
  unfold mkC
  rw [mkC_sum c hc]
  have : ((a.take i).map c).sum ≤ (a.map c).sum := by
    conv => rhs; rw [← List.take_append_drop i a, List.map_append, List.sum_append]
    omega
  omega
/-- What is marked reads as marked. -/
theorem marks_at {a : List α} {k : Int} {i : Nat} {x : α} (h : a[i]? = some x) : (marks f a k).1[i]? = some (f x (mkC f a k i)).1 := by
  have h1 := mkA_set (f := f) (k := k) h
  have hi := (List.getElem?_eq_some_iff.1 h).1
  have hl : (marks f (a.take i) k).1.length = i := by simp [marks_len]; omega
  conv => lhs; rw [← List.take_append_drop i a, marks_app]
  simp only
  rw [List.getElem?_append_right (by omega), hl, Nat.sub_self, List.drop_eq_getElem_cons hi]
  obtain ⟨_, h2⟩ := List.getElem?_eq_some_iff.1 h
  simp [marks, mkC, h2]
end
@[reducible] def fI : Int → Int → Int × Int := fun _ k => (k, k + 1)
theorem fI_c : ∀ (x k : Int), (fI x k).2 = k + ((fun _ => 1 : Int → Nat) x : Nat) := fun _ _ => rfl
theorem sum_one {α : Type _} (a : List α) : (a.map fun _ => 1).sum = a.length := by
  induction a with
  | nil => rfl
  | cons x xs ih => simp [ih]; omega
theorem mkI_le (a : List Int) (k : Int) (i : Nat) : k ≤ mkC fI a k i ∧ mkC fI a k i ≤ k + a.length := by
  have := mkC_le _ fI_c a k i
  rw [sum_one] at this
  exact this

theorem fc_laws_markIntS (a : List Int) (k : Int) (hk : 0 ≤ k ∧ k + a.length ≤ 1000000000) : FC Tryz.prog 65 [(false, [.ref 0]), (false, [dI k])] [(0, some (.arr 3 .int a))] 1 (Is (lI ((marks fI a k).2)) [(0, some (.arr 3 .int ((marks fI a k).1)))]) := by
 refine FC.go Tryz.func65 rfl rfl Tryz.ntmps65 fun O_ hO w0_ N0_ X_ h0_ f0_ => ?_
 refine AC.fact (fact_int (x := .tmp 1) (Evl.tmp rfl)) fun hi1 => ?_
 iterate 8 refine w_ ?_
 refine AC.loopW (fun m_ s_ => ∃ (i : Nat), i ≤ a.length ∧ m_ = a.length - i ∧ s_ = ⟨[(0, lR 0), (1, lI (mkC fI a k i)), (4, lI 0), (5, lI (i : Int))], [(0, some (.arr 3 .int (mkA fI a k i)))]⟩) ⟨0, Nat.zero_le _, rfl, rfl⟩ ?_ ?_
 · exact Wk.of [(0, 0)] rfl ⟨rfl, (show some (lI k) = some (lI (mkC fI a k 0)) from congrArg (fun z_ => some (lI z_)) (by rw [mkC_0])), rfl, rfl, trivial⟩ ⟨(entE (mkA_0 fI a k)), trivial⟩ rfl rfl
 rintro m_ s_ ⟨i, hk3, hm4, rfl⟩
 have hml := mkA_len fI a k i
 have hmc := mkI_le a k i
 iterate 7 refine w_ ?_
 cases hb5 : (decide ((i : Int) < ((mkA fI a k i).length : Int)))
 ·have hb5' := of_decide_eq_false hb5
  refine w_ ?_
  refine AC.exit ?_
  refine (?_ : AC _ _ _ _ _)
  iterate 4 refine w_ ?_
  refine AC.ret ?_
  subst hO
  have e6 : (mkC fI a k i : Int) = ((marks fI a k).2) := by
   (rw [mkC_end _ (by omega)]; done)
  exact fin_is _ _ [(0, 0)] (Res.one rfl (Rs.tmp rfl)) ((congrArg (fun z_ => lI z_) e6)) ⟨(entE (by (rw [mkA_end _ (by omega)]; done))), trivial⟩ rfl rfl
 ·have hb5' := of_decide_eq_true hb5
  iterate 8 refine w_ ?_
  refine lc (Does.indexI (e := .int) (Evl.tmp rfl) rfl (Evl.tmp rfl) und_106 tsh_3 rfl (by omega) (by first | omega | (simp only [List.length_set]; omega))) ?_
  obtain ⟨x7, hx8⟩ : ∃ z, (mkA fI a k i)[i]? = some z := ⟨_, List.getElem?_eq_getElem (by omega)⟩
  refine lc (Does.storeI (e := .int) (z' := mkC fI a k i) (Evl.tmp rfl) rfl hx8 rfl (Ev.tmp rfl) rfl tsh_3 rfl rfl) ?_
  iterate 5 refine w_ ?_
  refine AL.nil ?_
  refine (?_ : AC _ _ _ _ _)
  iterate 4 refine w_ ?_
  refine AL.nil <| lend ⟨i + 1, by omega, rfl, rfl⟩ (by omega) ?_
  exact Wk.of [(0, 0)] rfl ⟨rfl, (show some (lI ((mkC fI a k i) + 1)) = some (lI (mkC fI a k (i + 1))) from congrArg (fun z_ => some (lI z_)) (by rw [mkC_succ (mkA_back hx8)])), rfl, rfl, trivial⟩ ⟨(entE (mkA_set (mkA_back hx8))), trivial⟩ rfl rfl

theorem held_at {α : Type _} {f : α → Int → α × Int} {a l : List α} {k : Int} {i : Nat} {x : α} (hm : a = (marks f l k).1) (h : a[i]? = some x) : ∃ y, l[i]? = some y ∧ x = (f y (mkC f l k i)).1 := by
  subst hm
  have hi := (List.getElem?_eq_some_iff.1 h).1
  rw [marks_len] at hi
  have h1 := List.getElem?_eq_getElem hi
  rw [marks_at h1] at h
  exact ⟨_, h1, (Option.some.inj h).symm⟩
theorem mkI_succ {l : List Int} {k : Int} {i : Nat} (h : i < l.length) : mkC fI l k i + 1 = mkC fI l k (i + 1) := by rw [mkC_succ (List.getElem?_eq_getElem h)]

theorem fc_laws_heldIntS (a : List Int) (k : Int) (l : List Int) (hm : a = (marks fI l k).1) (hk : 0 ≤ k ∧ k + a.length ≤ 1000000000) : FC Tryz.prog 66 [(false, [.dat (.sl 3 .int) a]), (false, [dI k])] [] 0 (Pure (lI ((marks fI l k).2))) := by
 have hla : a.length = l.length := by rw [hm, marks_len]
 refine FC.go Tryz.func66 rfl rfl Tryz.ntmps66 fun O_ hO w0_ N0_ X_ h0_ f0_ => ?_
 refine AC.fact (fact_int (x := .tmp 1) (Evl.tmp rfl)) fun hi1 => ?_
 iterate 8 refine w_ ?_
 refine AC.loopW (fun m_ s_ => ∃ (i : Nat), i ≤ a.length ∧ m_ = a.length - i ∧ s_ = ⟨[(0, lf (.dat (.sl 3 .int) a)), (1, lI (mkC fI l k i)), (5, lI (i : Int))], []⟩) ⟨0, Nat.zero_le _, rfl, rfl⟩ ?_ ?_
 · exact Wk.of [] rfl ⟨rfl, (show some (lI k) = some (lI (mkC fI l k 0)) from congrArg (fun z_ => some (lI z_)) (by rw [mkC_0])), rfl, trivial⟩ trivial rfl rfl
 rintro m_ s_ ⟨i, hk3, hm4, rfl⟩
 have hmc := mkI_le l k i
 iterate 4 refine w_ ?_
 refine AL.fact (fact_len (x := .tmp 7) (Evl.tmp rfl)) fun hl5 => ?_
 iterate 3 refine w_ ?_
 cases hb6 : (decide ((i : Int) < (a.length : Int)))
 ·have hb6' := of_decide_eq_false hb6
  refine w_ ?_
  refine AC.exit ?_
  refine (?_ : AC _ _ _ _ _)
  iterate 4 refine w_ ?_
  refine AC.ret ?_
  subst hO
  have e7 : (mkC fI l k i : Int) = ((marks fI l k).2) := by
   (rw [mkC_end _ (by omega)]; done)
  exact fin_pure (Res.one rfl (Rs.tmp rfl)) ((congrArg (fun z_ => lI z_) e7)) rfl
 ·have hb6' := of_decide_eq_true hb6
  iterate 8 refine w_ ?_
  obtain ⟨x8, hx9⟩ : ∃ z, a[i]? = some z := ⟨_, List.getElem?_eq_getElem (by omega)⟩
  have hvx8 : x8 = mkC fI l k i := by obtain ⟨_, _, h⟩ := held_at hm hx9; exact h
  refine lc (Does.indexE (Evl.tmp rfl) (Evl.tmp rfl) und_106 tsh_3 rfl (by omega) hx9) ?_
  refine w_ ?_
  refine AL.fact (fact_int (x := .tmp 15) (Evl.tmp rfl)) fun hi10 => ?_
  iterate 3 refine w_ ?_
  cases hb11 : (!decide (x8 = (mkC fI l k i)))
  ·have hb11' : (x8 = (mkC fI l k i)) := nd_false hb11
   iterate 6 refine w_ ?_
   refine AL.nil ?_
   refine (?_ : AC _ _ _ _ _)
   iterate 4 refine w_ ?_
   refine AL.nil <| lend ⟨i + 1, by omega, rfl, rfl⟩ (by omega) ?_
   exact Wk.of [] rfl ⟨rfl, (show some (lI ((mkC fI l k i) + 1)) = some (lI (mkC fI l k (i + 1))) from congrArg (fun z_ => some (lI z_)) (mkI_succ (by omega))), rfl, trivial⟩ trivial rfl rfl
  ·have hb11' : ¬ (x8 = (mkC fI l k i)) := nd_true hb11
   iterate 4 refine w_ ?_
   refine AC.ret ?_
   subst hO
   have e13 : ((-1) : Int) = ((marks fI l k).2) := by
    (exfalso; omega)
   exact fin_pure (Res.one rfl (Rs.tmp rfl)) ((congrArg (fun z_ => lI z_) e13)) rfl

@[reducible] def fL : Int × Bool → Int → (Int × Bool) × Int := fun _ k => ((k, decide ((k + 1) % 3 = 0)), k + 2)
theorem fL_c : ∀ (x : Int × Bool) (k : Int), (fL x k).2 = k + ((fun _ => 2 : Int × Bool → Nat) x : Nat) := fun _ _ => rfl
theorem sum_two {α : Type _} (a : List α) : (a.map fun _ => 2).sum = 2 * a.length := by
  induction a with
  | nil => rfl
  | cons x xs ih => simp [ih]; omega
theorem mkL_le (a : List (Int × Bool)) (k : Int) (i : Nat) : k ≤ mkC fL a k i ∧ mkC fL a k i ≤ k + 2 * a.length := by
  have := mkC_le _ fL_c a k i
  rw [sum_two] at this
  omega
theorem mkL_succ {l : List (Int × Bool)} {k : Int} {i : Nat} (h : i < l.length) : mkC fL l k i + 1 + 1 = mkC fL l k (i + 1) := by rw [mkC_succ (List.getElem?_eq_getElem h)]; simp only [fL]; omega

theorem fc_laws_markLabelS (a : List (Int × Bool)) (k : Int) (hk : 0 ≤ k ∧ k + 2 * a.length ≤ 1000000000) : FC Tryz.prog 64 [(false, [.ref 0]), (false, [dI k])] [(0, some (.arr 61 (.pr .int .bool) a))] 1 (Is (lI ((marks fL a k).2)) [(0, some (.arr 61 (.pr .int .bool) ((marks fL a k).1)))]) := by
 refine FC.go Tryz.func64 rfl rfl Tryz.ntmps64 fun O_ hO w0_ N0_ X_ h0_ f0_ => ?_
 refine AC.fact (fact_int (x := .tmp 1) (Evl.tmp rfl)) fun hi1 => ?_
 iterate 8 refine w_ ?_
 refine AC.loopW (fun m_ s_ => ∃ (i : Nat), i ≤ a.length ∧ m_ = a.length - i ∧ s_ = ⟨[(0, lR 0), (1, lI (mkC fL a k i)), (4, lI 0), (5, lI (i : Int))], [(0, some (.arr 61 (.pr .int .bool) (mkA fL a k i)))]⟩) ⟨0, Nat.zero_le _, rfl, rfl⟩ ?_ ?_
 · exact Wk.of [(0, 0)] rfl ⟨rfl, (show some (lI k) = some (lI (mkC fL a k 0)) from congrArg (fun z_ => some (lI z_)) (by rw [mkC_0])), rfl, rfl, trivial⟩ ⟨(entE (mkA_0 fL a k)), trivial⟩ rfl rfl
 rintro m_ s_ ⟨i, hk3, hm4, rfl⟩
 have hml := mkA_len fL a k i
 have hmc := mkL_le a k i
 iterate 7 refine w_ ?_
 cases hb5 : (decide ((i : Int) < ((mkA fL a k i).length : Int)))
 ·have hb5' := of_decide_eq_false hb5
  refine w_ ?_
  refine AC.exit ?_
  refine (?_ : AC _ _ _ _ _)
  iterate 4 refine w_ ?_
  refine AC.ret ?_
  subst hO
  have e6 : (mkC fL a k i : Int) = ((marks fL a k).2) := by
   (rw [mkC_end _ (by omega)]; done)
  exact fin_is _ _ [(0, 0)] (Res.one rfl (Rs.tmp rfl)) ((congrArg (fun z_ => lI z_) e6)) ⟨(entE (by (rw [mkA_end _ (by omega)]; done))), trivial⟩ rfl rfl
 ·have hb5' := of_decide_eq_true hb5
  iterate 8 refine w_ ?_
  refine lc (Does.indexI (e := (.pr .int .bool)) (Evl.tmp rfl) rfl (Evl.tmp rfl) und_37 tsh_61 rfl (by omega) (by first | omega | (simp only [List.length_set]; omega))) ?_
  refine w_ ?_
  obtain ⟨x7, hx8⟩ : ∃ z, (mkA fL a k i)[i]? = some z := ⟨_, List.getElem?_eq_getElem (by omega)⟩
  refine lc (Does.storeI (e := (.pr .int .bool)) (z' := (mkC fL a k i, x7.2)) (Evl.tmp rfl) rfl hx8 rfl (Ev.tmp rfl) rfl tsh_3 rfl rfl) ?_
  iterate 10 refine w_ ?_
  refine lc (Does.rem (Evl.tmp rfl) (Evl.int rfl) rfl (by omega) (by omega)) ?_
  refine w_ ?_
  refine lc (Does.indexI (e := (.pr .int .bool)) (Evl.tmp rfl) rfl (Evl.tmp rfl) und_37 tsh_61 rfl (by omega) (by first | omega | (simp only [List.length_set]; omega))) ?_
  refine w_ ?_
  refine lc (Does.storeI (e := (.pr .int .bool)) (z' := ((mkC fL a k i, x7.2).1, decide ((((mkC fL a k i) + 1) % 3) = 0))) (Evl.tmp rfl) rfl (List.getElem?_set_self (by first | omega | (simp only [List.length_set]; omega))) rfl (Ev.tmp rfl) rfl tsh_4 rfl rfl) ?_
  iterate 5 refine w_ ?_
  refine AL.nil ?_
  refine (?_ : AC _ _ _ _ _)
  iterate 4 refine w_ ?_
  refine AL.nil <| lend ⟨i + 1, by omega, rfl, rfl⟩ (by omega) ?_
  exact Wk.of [(0, 0)] rfl ⟨rfl, (show some (lI (((mkC fL a k i) + 1) + 1)) = some (lI (mkC fL a k (i + 1))) from congrArg (fun z_ => some (lI z_)) (mkL_succ (by omega))), rfl, rfl, trivial⟩ ⟨(entE (by rw [List.set_set]; exact mkA_set (f := fL) (mkA_back hx8))), trivial⟩ rfl rfl

end Go.Proofs.YtnakmhfjafecpaaGreat

/- Walks over abstract states: marks in transitions. -/
namespace Go.Proofs.YtnakmhfjafecpaaGreat
open Go.RowKit
set_option maxRecDepth 100000
set_option maxHeartbeats 4000000

@[reducible] def fT : List Int × List Int → Int → (List Int × List Int) × Int := fun t k => (((marks fI t.1 k).1, (marks fI t.2 (marks fI t.1 k).2).1), (marks fI t.2 (marks fI t.1 k).2).2)
def cT (t : List Int × List Int) : Nat := t.1.length + t.2.length
theorem mI_sum (l : List Int) (k : Int) : (marks fI l k).2 = k + l.length := by rw [mkC_sum _ fI_c, sum_one]
theorem fT_c : ∀ (x : List Int × List Int) (k : Int), (fT x k).2 = k + (cT x : Nat) := fun x k => by simp only [fT, mI_sum, cT]; omega
def tsum (a : List (List Int × List Int)) : Nat := (a.map cT).sum
theorem mkT_le (a : List (List Int × List Int)) (k : Int) (i : Nat) : k ≤ mkC fT a k i ∧ mkC fT a k i ≤ k + tsum a := mkC_le _ fT_c a k i
theorem mkT_at {a : List (List Int × List Int)} {k : Int} {i : Nat} {x : List Int × List Int} (h : a[i]? = some x) : mkC fT a k i + x.1.length + x.2.length ≤ k + tsum a := by
  have h1 := (mkT_le a k (i + 1)).2
  rw [mkC_succ h, fT_c] at h1
  simp only [cT] at h1
  omega
theorem tr_close {ts : List DTransition} {i : Nat} {x : DTransition} (hx : ts[i]? = some x) (a b : LV) (ys zs : List Int) : ((((cellsL tTransition ts).set (i * 2 + 0) a).set (i * 2 + 0) (.dat (.sl 3 .int) ys)).set (i * 2 + 1) b).set (i * 2 + 1) (.dat (.sl 3 .int) zs) = cellsL tTransition (ts.set i (ys, zs)) := by
  rw [List.set_set, List.set_set, cells_set0 hx, cells_set1 (x := (ys, x.2)) (by rw [List.getElem?_set_self (List.getElem?_eq_some_iff.1 hx).1]), List.set_set]

theorem fc_laws_markTransitionS (a : List (List Int × List Int)) (k : Int) (hk : (0 ≤ k ∧ k + tsum a ≤ 1000000000) ∧ a.length ≤ 1000000000) : FC Tryz.prog 120 [(false, [.ref 0]), (false, [dI k])] [(0, some (.arr 159 (.pr (.sl 3 .int) (.sl 3 .int)) a))] 1 (Is (lI ((marks fT a k).2)) [(0, some (.arr 159 (.pr (.sl 3 .int) (.sl 3 .int)) ((marks fT a k).1)))]) := by
 refine FC.go Tryz.func120 rfl rfl Tryz.ntmps120 fun O_ hO w0_ N0_ X_ h0_ f0_ => ?_
 refine AC.fact (fact_int (x := .tmp 1) (Evl.tmp rfl)) fun hi1 => ?_
 iterate 8 refine w_ ?_
 refine AC.loopW (fun m_ s_ => ∃ (i : Nat), i ≤ a.length ∧ m_ = a.length - i ∧ s_ = ⟨[(0, lR 0), (1, lI (mkC fT a k i)), (4, lI 0), (5, lI (i : Int))], [(0, some (.arr 159 (.pr (.sl 3 .int) (.sl 3 .int)) (mkA fT a k i)))]⟩) ⟨0, Nat.zero_le _, rfl, rfl⟩ ?_ ?_
 · exact Wk.of [(0, 0)] rfl ⟨rfl, (show some (lI k) = some (lI (mkC fT a k 0)) from congrArg (fun z_ => some (lI z_)) (by rw [mkC_0])), rfl, rfl, trivial⟩ ⟨(entE (mkA_0 fT a k)), trivial⟩ rfl rfl
 rintro m_ s_ ⟨i, hk3, hm4, rfl⟩
 have hml := mkA_len fT a k i
 have hmc := mkT_le a k i
 iterate 7 refine w_ ?_
 cases hb5 : (decide ((i : Int) < ((mkA fT a k i).length : Int)))
 ·have hb5' := of_decide_eq_false hb5
  refine w_ ?_
  refine AC.exit ?_
  refine (?_ : AC _ _ _ _ _)
  iterate 4 refine w_ ?_
  refine AC.ret ?_
  subst hO
  have e6 : (mkC fT a k i : Int) = ((marks fT a k).2) := by
   (rw [mkC_end _ (by omega)]; done)
  exact fin_is _ _ [(0, 0)] (Res.one rfl (Rs.tmp rfl)) ((congrArg (fun z_ => lI z_) e6)) ⟨(entE (by (rw [mkA_end _ (by omega)]; done))), trivial⟩ rfl rfl
 ·have hb5' := of_decide_eq_true hb5
  iterate 4 refine w_ ?_
  refine AC.seq ?_
  obtain ⟨x, hx⟩ : ∃ z, a[i]? = some z := ⟨_, List.getElem?_eq_getElem (by omega)⟩
  have hxa : (mkA fT a k i)[i]? = some x := mkA_get hx
  have hc0 := (cells_at hxa).2
  have hc1 := (cells_at hxa).1
  have hxl := mkT_at (k := k) hx
  have hp0 : i * 2 + 0 < (cellsL (.pr (.sl 3 .int) (.sl 3 .int)) (mkA fT a k i)).length := by rw [cellsL_len]; exact pos0 (by omega)
  have hp1 : i * 2 + 1 < (cellsL (.pr (.sl 3 .int) (.sl 3 .int)) (mkA fT a k i)).length := by rw [cellsL_len]; exact pos1 (by omega)
  have hp01 : i * 2 + 0 ≠ i * 2 + 1 := by omega
  have hm1 := mI_sum x.1 (mkC fT a k i)
  have hm2 := mI_sum x.2 (marks fI x.1 (mkC fT a k i)).2
  refine AC.wk (Wk.open (q := 0) rfl (by omega)) <| AC.wk (Wk.splitX 1 (q := 0) (p := i * 2 + 0) (E' := 3) (e' := .int) (ys := x.1) rfl (hc0) (Fresh.of rfl) (Nat.le_of_ble_eq_true rfl)) ?_
  iterate 3 refine w_ ?_
  refine lc (Does.indexX (Evl.tmp rfl) rfl (Evl.tmp rfl) und_33 tsh_159 rfl (by omega) (by omega)) ?_
  refine w_ ?_
  refine lc (Does.loadX (Evl.tmp rfl) rfl (show (ovr _ _)[i * 2 + 0]? = some (.ref 1) from by simp only [ovr, List.getElem?_set, List.length_set, hp0, hp1, hp01, hp01.symm, hc0, hc1, eq_self, if_true, if_false, ↓reduceIte]) rfl tsh_106 rfl) ?_
  refine w_ ?_
  refine lc (Does.callP 2 [(0, 1)] (fc_laws_markIntS x.1 (mkC fT a k i) (by omega)) enters_65 ⟨_, _, rfl, (Ev.tmp rfl), ⟨_, _, rfl, (Ev.tmp rfl), rfl⟩⟩ ⟨rfl, trivial⟩ rfl ⟨trivial, trivial⟩ (nlr rfl)) ?_
  iterate 2 refine w_ ?_
  refine AC.wk (Wk.joinX (q := 0) (t := 1) (p := i * 2 + 0) rfl (by simp only [ovr, List.getElem?_set, List.length_set, hp0, hp1, hp01, hp01.symm, hc0, hc1, eq_self, if_true, if_false, ↓reduceIte]) rfl) ?_
  refine AC.wk (Wk.splitX 3 (q := 0) (p := i * 2 + 1) (E' := 3) (e' := .int) (ys := x.2) rfl (by simp only [ovr, List.getElem?_set, List.length_set, hp0, hp1, hp01, hp01.symm, hc0, hc1, eq_self, if_true, if_false, ↓reduceIte]) (Fresh.of rfl) (Nat.le_of_ble_eq_true rfl)) ?_
  iterate 3 refine w_ ?_
  refine lc (Does.indexX (Evl.tmp rfl) rfl (Evl.tmp rfl) und_33 tsh_159 rfl (by omega) (by omega)) ?_
  refine w_ ?_
  refine lc (Does.loadX (Evl.tmp rfl) rfl (show (ovr _ _)[i * 2 + 1]? = some (.ref 3) from by simp only [ovr, List.getElem?_set, List.length_set, hp0, hp1, hp01, hp01.symm, hc0, hc1, eq_self, if_true, if_false, ↓reduceIte]) rfl tsh_106 rfl) ?_
  refine w_ ?_
  refine lc (Does.callP 4 [(0, 3)] (fc_laws_markIntS x.2 ((marks fI x.1 (mkC fT a k i)).2) (by omega)) enters_65 ⟨_, _, rfl, (Ev.tmp rfl), ⟨_, _, rfl, (Ev.tmp rfl), rfl⟩⟩ ⟨rfl, trivial⟩ rfl ⟨trivial, trivial⟩ (nlr rfl)) ?_
  refine w_ ?_
  refine AL.nil ?_
  refine (?_ : AC _ _ _ _ _)
  refine AC.wk (Wk.joinX (q := 0) (t := 3) (p := i * 2 + 1) rfl (by simp only [ovr, List.getElem?_set, List.length_set, hp0, hp1, hp01, hp01.symm, hc0, hc1, eq_self, if_true, if_false, ↓reduceIte]) rfl) ?_
  refine AC.wk (Wk.close (q := 0) (e := (.pr (.sl 3 .int) (.sl 3 .int))) ((mkA fT a k i).set i ((marks fI x.1 (mkC fT a k i)).1, (marks fI x.2 (marks fI x.1 (mkC fT a k i)).2).1)) rfl (by simp only [List.length_set]) (by simp only [ovr]; exact tr_close hxa _ _ _ _)) ?_
  iterate 4 refine w_ ?_
  refine AL.nil <| lend ⟨i + 1, by omega, rfl, rfl⟩ (by omega) ?_
  exact Wk.of [(0, 0)] rfl ⟨rfl, (show some (lI ((marks fI x.2 ((marks fI x.1 (mkC fT a k i)).2)).2)) = some (lI (mkC fT a k (i + 1))) from congrArg (fun z_ => some (lI z_)) ((mkC_succ (f := fT) hx).symm)), rfl, rfl, trivial⟩ ⟨(entE (mkA_set (f := fT) hx)), trivial⟩ rfl rfl

end Go.Proofs.YtnakmhfjafecpaaGreat

/- Walks over abstract states: the texts of marks. -/
namespace Go.Proofs.YtnakmhfjafecpaaGreat
open Go.RowKit
set_option maxRecDepth 100000
set_option maxHeartbeats 4000000

/-- The digits of k. -/
def dg (k : Int) : Nat → ByteArray
  | 0 => (⟨#[]⟩ : ByteArray)
  | j + 1 => (⟨#[UInt8.ofNat ((48 + (k / 10 ^ j) % 10) : Int).toNat]⟩ : ByteArray) ++ dg k j
theorem dg_size (k : Int) (j : Nat) : (dg k j).size = j := by
  induction j with
  | zero => rfl
  | succ j ih => rw [dg, ByteArray.size_append, ih]; show 1 + j = _; omega
def mt (k : Int) : Nat → Nat → ByteArray
  | 0, j => dg k j
  | n + 1, j => if k / 10 ^ j ≤ 0 then dg k j else mt k n (j + 1)
def markT (k : Int) : ByteArray := if k ≤ 0 then (⟨#[109, 48]⟩ : ByteArray) else (⟨#[109]⟩ : ByteArray) ++ mt k 20 0
theorem pow10 (k : Int) (j : Nat) : k / 10 ^ j / 10 = k / 10 ^ (j + 1) := by
  rw [Int.pow_succ, Int.ediv_ediv_of_nonneg (Int.pow_nonneg (by decide))]
theorem div_big {k : Int} (h : k ≤ 9223372036854775807) (h0 : 0 ≤ k) : k / 10 ^ 20 = 0 := Int.ediv_eq_zero_of_lt h0 (by omega)
theorem mt_stop {k : Int} {n j : Nat} (h : k / 10 ^ j ≤ 0) : mt k n j = dg k j := by
  cases n with
  | zero => rfl
  | succ n => rw [mt, if_pos h]
theorem div_nn {k : Int} (h0 : 0 ≤ k) (j : Nat) : 0 ≤ k / 10 ^ j ∧ k / 10 ^ j ≤ k := ⟨Int.ediv_nonneg h0 (Int.pow_nonneg (by decide)), Int.ediv_le_self _ h0⟩

theorem fc_laws_markText (k : Int)  : FC Tryz.prog 121 [(false, [dI k])] [] 0 (Pure (lf (dS (markT k)))) := by
 refine FC.go Tryz.func121 rfl rfl Tryz.ntmps121 fun O_ hO w0_ N0_ X_ h0_ f0_ => ?_
 refine AC.fact (fact_int (x := .tmp 0) (Evl.tmp rfl)) fun hi1 => ?_
 iterate 8 refine w_ ?_
 cases hb2 : (decide (k ≤ 0))
 ·have hb2' := of_decide_eq_false hb2
  iterate 7 refine w_ ?_
  refine AC.loopW (fun m_ s_ => ∃ (j : Nat), j ≤ 20 ∧ m_ = 20 - j ∧ (mt k (20 - j) j = mt k 20 0) ∧ s_ = ⟨[(0, lI (k / 10 ^ j)), (2, lf (dS (⟨#[]⟩ : ByteArray))), (3, lf (dS (dg k j)))], []⟩) ⟨0, Nat.zero_le _, rfl, rfl, rfl⟩ ?_ ?_
  · exact Wk.of [] rfl ⟨(show some (lI k) = some (lI (k / 10 ^ 0)) from congrArg (fun z_ => some (lI z_)) (by simp)), rfl, (show some (lf (dS (⟨#[]⟩ : ByteArray))) = some (lf (dS (dg k 0))) from congrArg (fun z_ => some (lf (dS z_))) (rfl)), trivial⟩ trivial rfl rfl
  rintro m_ s_ ⟨j, hk5, hm6, hf, rfl⟩
  have hdn := div_nn (k := k) (by omega) j
  have hds := dg_size k j
  have hj20 : j = 20 → k / 10 ^ j = 0 := fun h => by subst h; exact div_big (by omega) (by omega)
  iterate 5 refine w_ ?_
  cases hb7 : (decide (0 < (k / 10 ^ j)))
  ·have hb7' := of_decide_eq_false hb7
   refine w_ ?_
   refine AC.exit ?_
   refine (?_ : AC _ _ _ _ _)
   iterate 2 refine w_ ?_
   refine lc (Does.addS (Evl.str rfl) (Evl.tmp rfl) rfl (by first | (simp only [bsize1]; omega) | (rw [dg_size]; simp only [bsize1]; omega) | (rw [dg_size]; show 1 + _ ≤ _; omega))) ?_
   iterate 2 refine w_ ?_
   refine AC.ret ?_
   subst hO
   have e8 : ((⟨#[109]⟩ : ByteArray) ++ (dg k j) : ByteArray) = (markT k) := by
    (rw [markT, if_neg (by omega), ← hf, mt_stop (by omega)])
   exact fin_pure (Res.one rfl (Rs.tmp rfl)) ((congrArg (fun z_ => lf (dS z_)) e8)) rfl
  ·have hb7' := of_decide_eq_true hb7
   iterate 5 refine w_ ?_
   refine lc (Does.rem (Evl.tmp rfl) (Evl.int rfl) rfl (by omega) (by omega)) ?_
   refine w_ ?_
   refine lc (Does.toU8 (Evl.tmp rfl) und_3 und_5 (by omega) (by omega) rfl) <| lc (Does.buildSlice 0 (e := .u8) und_209 tsh_5 zer_5 rfl ⟨_, _, rfl, (Ev.tmp rfl), rfl⟩ (List.all_eq_true.1 rfl) ⟨_, _, _, _, rfl, ⟨rfl, rfl⟩, ⟨rfl, rfl⟩, rfl⟩ (by decide) rfl rfl (Fresh.of rfl) (nlr rfl)) <| lc (Does.ofBytes (ys := [UInt8.ofNat (48 + ((k / 10 ^ j) % 10)).toNat]) (Evl.repO (Evl.tmp rfl) rfl) und_209 und_5 und_9 rfl) ?_
   refine w_ ?_
   refine lc (Does.addS (Evl.tmp rfl) (Evl.tmp rfl) rfl (by first | (simp only [bsize1]; omega) | (rw [dg_size]; simp only [bsize1]; omega) | (rw [dg_size]; show 1 + _ ≤ _; omega))) ?_
   iterate 4 refine w_ ?_
   refine lc (Does.quo (Evl.tmp rfl) (Evl.int rfl) rfl (by omega) (by omega)) ?_
   refine w_ ?_
   refine AL.nil <| lend ⟨j + 1, by omega, rfl, by rw [← hf, show 20 - j = (20 - (j + 1)) + 1 by omega, mt, if_neg (by omega)], rfl⟩ (by omega) ?_
   exact Wk.of [] rfl ⟨(show some (lI ((k / 10 ^ j) / 10)) = some (lI (k / 10 ^ (j + 1))) from congrArg (fun z_ => some (lI z_)) (pow10 k j)), rfl, (show some (lf (dS ((⟨#[UInt8.ofNat (48 + ((k / 10 ^ j) % 10)).toNat]⟩ : ByteArray) ++ (dg k j)))) = some (lf (dS (dg k (j + 1)))) from congrArg (fun z_ => some (lf (dS z_))) (rfl)), trivial⟩ trivial rfl rfl
 ·have hb2' := of_decide_eq_true hb2
  iterate 4 refine w_ ?_
  refine AC.ret ?_
  subst hO
  have e11 : ((⟨#[109, 48]⟩ : ByteArray) : ByteArray) = (markT k) := by
   (rw [markT, if_pos (by omega)]; done)
  exact fin_pure (Res.one rfl (Rs.tmp rfl)) ((congrArg (fun z_ => lf (dS z_)) e11)) rfl

end Go.Proofs.YtnakmhfjafecpaaGreat

/- Walks over abstract states: marks in signals, nets and graphs. -/
namespace Go.Proofs.YtnakmhfjafecpaaGreat
open Go.RowKit
set_option maxRecDepth 100000
set_option maxHeartbeats 4000000

@[reducible] def fS : ByteArray × Int → Int → (ByteArray × Int) × Int := fun _ k => ((markT k, k + 1), k + 2)
theorem fS_c : ∀ (x : ByteArray × Int) (k : Int), (fS x k).2 = k + ((fun _ => 2 : ByteArray × Int → Nat) x : Nat) := fun _ _ => rfl
theorem mkS_le (a : List (ByteArray × Int)) (k : Int) (i : Nat) : k ≤ mkC fS a k i ∧ mkC fS a k i ≤ k + 2 * a.length := by
  have := mkC_le _ fS_c a k i
  rw [sum_two] at this
  omega
theorem mkS_succ {l : List (ByteArray × Int)} {k : Int} {i : Nat} (h : i < l.length) : mkC fS l k i + 1 + 1 = mkC fS l k (i + 1) := by rw [mkC_succ (List.getElem?_eq_getElem h)]; simp only [fS]; omega

theorem fc_laws_markSignalS (a : List (ByteArray × Int)) (k : Int) (hk : 0 ≤ k ∧ k + 2 * a.length ≤ 1000000000) : FC Tryz.prog 63 [(false, [.ref 0]), (false, [dI k])] [(0, some (.arr 145 (.pr .str .int) a))] 1 (Is (lI ((marks fS a k).2)) [(0, some (.arr 145 (.pr .str .int) ((marks fS a k).1)))]) := by
 refine FC.go Tryz.func63 rfl rfl Tryz.ntmps63 fun O_ hO w0_ N0_ X_ h0_ f0_ => ?_
 refine AC.fact (fact_int (x := .tmp 1) (Evl.tmp rfl)) fun hi1 => ?_
 iterate 8 refine w_ ?_
 refine AC.loopW (fun m_ s_ => ∃ (i : Nat), i ≤ a.length ∧ m_ = a.length - i ∧ s_ = ⟨[(0, lR 0), (1, lI (mkC fS a k i)), (4, lI 0), (5, lI (i : Int))], [(0, some (.arr 145 (.pr .str .int) (mkA fS a k i)))]⟩) ⟨0, Nat.zero_le _, rfl, rfl⟩ ?_ ?_
 · exact Wk.of [(0, 0)] rfl ⟨rfl, (show some (lI k) = some (lI (mkC fS a k 0)) from congrArg (fun z_ => some (lI z_)) (by rw [mkC_0])), rfl, rfl, trivial⟩ ⟨(entE (mkA_0 fS a k)), trivial⟩ rfl rfl
 rintro m_ s_ ⟨i, hk3, hm4, rfl⟩
 have hml := mkA_len fS a k i
 have hmc := mkS_le a k i
 iterate 7 refine w_ ?_
 cases hb5 : (decide ((i : Int) < ((mkA fS a k i).length : Int)))
 ·have hb5' := of_decide_eq_false hb5
  refine w_ ?_
  refine AC.exit ?_
  refine (?_ : AC _ _ _ _ _)
  iterate 4 refine w_ ?_
  refine AC.ret ?_
  subst hO
  have e6 : (mkC fS a k i : Int) = ((marks fS a k).2) := by
   (rw [mkC_end _ (by omega)]; done)
  exact fin_is _ _ [(0, 0)] (Res.one rfl (Rs.tmp rfl)) ((congrArg (fun z_ => lI z_) e6)) ⟨(entE (by (rw [mkA_end _ (by omega)]; done))), trivial⟩ rfl rfl
 ·have hb5' := of_decide_eq_true hb5
  iterate 8 refine w_ ?_
  refine lc (Does.call (fc_laws_markText (mkC fS a k i)) enters_121 ⟨_, _, rfl, (Ev.tmp rfl), rfl⟩ rfl rfl) <| lc (Does.indexI (e := (.pr .str .int)) (Evl.tmp rfl) rfl (Evl.tmp rfl) und_36 tsh_145 rfl (by omega) (by first | omega | (simp only [List.length_set]; omega))) ?_
  refine w_ ?_
  obtain ⟨x7, hx8⟩ : ∃ z, (mkA fS a k i)[i]? = some z := ⟨_, List.getElem?_eq_getElem (by omega)⟩
  refine lc (Does.storeI (e := (.pr .str .int)) (z' := (markT (mkC fS a k i), x7.2)) (Evl.tmp rfl) rfl hx8 rfl (Ev.tmp rfl) rfl tsh_9 rfl rfl) ?_
  iterate 10 refine w_ ?_
  refine lc (Does.indexI (e := (.pr .str .int)) (Evl.tmp rfl) rfl (Evl.tmp rfl) und_36 tsh_145 rfl (by omega) (by first | omega | (simp only [List.length_set]; omega))) ?_
  refine w_ ?_
  refine lc (Does.storeI (e := (.pr .str .int)) (z' := ((markT (mkC fS a k i), x7.2).1, (mkC fS a k i) + 1)) (Evl.tmp rfl) rfl (List.getElem?_set_self (by first | omega | (simp only [List.length_set]; omega))) rfl (Ev.tmp rfl) rfl tsh_3 rfl rfl) ?_
  iterate 5 refine w_ ?_
  refine AL.nil ?_
  refine (?_ : AC _ _ _ _ _)
  iterate 4 refine w_ ?_
  refine AL.nil <| lend ⟨i + 1, by omega, rfl, rfl⟩ (by omega) ?_
  exact Wk.of [(0, 0)] rfl ⟨rfl, (show some (lI (((mkC fS a k i) + 1) + 1)) = some (lI (mkC fS a k (i + 1))) from congrArg (fun z_ => some (lI z_)) (mkS_succ (by omega))), rfl, rfl, trivial⟩ ⟨(entE (by rw [List.set_set]; exact mkA_set (f := fS) (mkA_back hx8))), trivial⟩ rfl rfl

theorem fc_laws_markNet (a : Int × (List (List Int × List Int))) (k : Int) (hk : (0 ≤ k ∧ k + tsum a.2 ≤ 1000000000) ∧ a.2.length ≤ 1000000000) : FC Tryz.prog 62 [(true, [dI a.1, .ref 0]), (false, [dI k])] [(0, some (.arr 159 (.pr (.sl 3 .int) (.sl 3 .int)) a.2))] 1 (Is (lI ((marks fT a.2 k).2)) [(0, some (.arr 159 (.pr (.sl 3 .int) (.sl 3 .int)) ((marks fT a.2 k).1)))]) := by
 refine FC.go Tryz.func62 rfl rfl Tryz.ntmps62 fun O_ hO w0_ N0_ X_ h0_ f0_ => ?_
 refine AC.fact (fact_ag (x := .tmp 0) (i := 0) (Ev.tmp rfl) rfl) fun hi1 => AC.fact (fact_int (x := .tmp 1) (Evl.tmp rfl)) fun hi2 => ?_
 refine w_ ?_
 refine lc (Does.box 1 (Ev.tmp rfl) rfl rfl (Fresh.of rfl) (nlr rfl)) ?_
 iterate 6 refine w_ ?_
 refine lc (Does.callP 2 [(0, 0)] (fc_laws_markTransitionS a.2 k hk) enters_120 ⟨_, _, rfl, (Ev.tmp rfl), ⟨_, _, rfl, (Ev.tmp rfl), rfl⟩⟩ ⟨rfl, trivial⟩ rfl ⟨trivial, trivial⟩ (nlr rfl)) ?_
 iterate 6 refine w_ ?_
 refine AC.ret ?_
 subst hO
 exact fin_is _ _ [(0, 0)] (Res.one rfl (Rs.tmp rfl)) (rfl) ⟨rfl, trivial⟩ rfl rfl

theorem mT_sum (l : List (List Int × List Int)) (k : Int) : (marks fT l k).2 = k + tsum l := mkC_sum _ fT_c l k
theorem mS_sum (l : List (ByteArray × Int)) (k : Int) : (marks fS l k).2 = k + 2 * l.length := by rw [mkC_sum _ fS_c, sum_two]; omega
theorem mL_sum (l : List (Int × Bool)) (k : Int) : (marks fL l k).2 = k + 2 * l.length := by rw [mkC_sum _ fL_c, sum_two]; omega

/-- A graph with marks in all that it holds, and the count behind. -/
def mSTG (s : DSTG) (k : Int) : DSTG × Int := (((s.1.1, (marks fT s.1.2 k).1), (marks fS s.2.1 (marks fT s.1.2 k).2).1, (marks fL s.2.2.1 (marks fS s.2.1 (marks fT s.1.2 k).2).2).1, s.2.2.2), (marks fL s.2.2.1 (marks fS s.2.1 (marks fT s.1.2 k).2).2).2)

theorem fc_laws_markSTG (a : (Int × (List (List Int × List Int))) × (List (ByteArray × Int)) × (List (Int × Bool)) × ByteArray) (k : Int) (hk : (0 ≤ k ∧ k + tsum a.1.2 + 2 * a.2.1.length + 2 * a.2.2.1.length ≤ 1000000000) ∧ a.1.2.length ≤ 1000000000) : FC Tryz.prog 17 [(true, [dI a.1.1, .ref 0, .ref 1, .ref 2, dS a.2.2.2]), (false, [dI k])] [(0, some (.arr 159 (.pr (.sl 3 .int) (.sl 3 .int)) a.1.2)), (1, some (.arr 145 (.pr .str .int) a.2.1)), (2, some (.arr 61 (.pr .int .bool) a.2.2.1))] 3 (Is (lI ((mSTG a k).2)) [(0, some (.arr 159 (.pr (.sl 3 .int) (.sl 3 .int)) ((mSTG a k).1.1.2))), (1, some (.arr 145 (.pr .str .int) ((mSTG a k).1.2.1))), (2, some (.arr 61 (.pr .int .bool) ((mSTG a k).1.2.2.1)))]) := by
 have hs1 := mT_sum a.1.2 k
 have hs2 := mS_sum a.2.1 (marks fT a.1.2 k).2
 refine FC.go Tryz.func17 rfl rfl Tryz.ntmps17 fun O_ hO w0_ N0_ X_ h0_ f0_ => ?_
 refine AC.fact (fact_ag (x := .tmp 0) (i := 0) (Ev.tmp rfl) rfl) fun hi1 => AC.fact (fact_int (x := .tmp 1) (Evl.tmp rfl)) fun hi2 => ?_
 refine w_ ?_
 refine lc (Does.box 3 (Ev.tmp rfl) rfl rfl (Fresh.of rfl) (nlr rfl)) ?_
 iterate 6 refine w_ ?_
 refine lc (Does.callP 4 [(0, 0)] (fc_laws_markNet a.1 k (by omega)) enters_62 ⟨_, _, rfl, (Ev.tmp rfl), ⟨_, _, rfl, (Ev.tmp rfl), rfl⟩⟩ ⟨rfl, trivial⟩ rfl ⟨trivial, trivial⟩ (nlr rfl)) ?_
 iterate 6 refine w_ ?_
 refine lc (Does.callP 5 [(0, 1)] (fc_laws_markSignalS a.2.1 ((marks fT a.1.2 k).2) (by omega)) enters_63 ⟨_, _, rfl, (Ev.tmp rfl), ⟨_, _, rfl, (Ev.tmp rfl), rfl⟩⟩ ⟨rfl, trivial⟩ rfl ⟨trivial, trivial⟩ (nlr rfl)) ?_
 iterate 6 refine w_ ?_
 refine lc (Does.callP 6 [(0, 2)] (fc_laws_markLabelS a.2.2.1 ((marks fS a.2.1 ((marks fT a.1.2 k).2)).2) (by omega)) enters_64 ⟨_, _, rfl, (Ev.tmp rfl), ⟨_, _, rfl, (Ev.tmp rfl), rfl⟩⟩ ⟨rfl, trivial⟩ rfl ⟨trivial, trivial⟩ (nlr rfl)) ?_
 iterate 6 refine w_ ?_
 refine AC.ret ?_
 subst hO
 have e3 : ((marks fL a.2.2.1 ((marks fS a.2.1 ((marks fT a.1.2 k).2)).2)).2 : Int) = ((mSTG a k).2) := by
  rfl
 exact fin_is _ _ [(0, 0), (1, 1), (2, 2)] (Res.one rfl (Rs.tmp rfl)) ((congrArg (fun z_ => lI z_) e3)) ⟨(entE (by rfl)), (entE (by rfl)), (entE (by rfl)), trivial⟩ rfl rfl

end Go.Proofs.YtnakmhfjafecpaaGreat

/- Contracts over states for the measures, the copies and the comparisons of the laws. -/
namespace Go.Proofs.YtnakmhfjafecpaaGreat
open Go.RowKit
set_option maxRecDepth 100000
set_option maxHeartbeats 4000000

theorem fc_szSTG (x : DSTG) (left : Int) (h0 : 0 ≤ left) (h1 : left ≤ 1048576) : FC Tryz.prog 11 [(true, leaves lSTG x), (false, [dI left])] [] 0 (Pure (lf (dI (szv left (Ty.tot lSTG x))))) :=
  FC.ofSzA (fun us w hr => by
    obtain ⟨a0, a1, a2, a3, a4, rfl⟩ := list_len5 hr.len
    exact szSTG_any a0 a1 a2 a3 a4 x left w hr h0 h1) h0 h1

theorem fc_toSTG (x : DSTG) (hz : Ty.tot lSTG x ≤ 1048576) : FC Tryz.prog 13 [(true, leaves lSTG x)] [] 0 (Is (ag (oL tSTG x 0)) (oT tSTG x 0)) :=
  FC.ofOwnA fun gh w vs ha => by
    obtain ⟨us, vs, rfl, hr, ha⟩ := ha.agg_cons
    obtain rfl := ha.nil_
    obtain ⟨a0, a1, a2, a3, a4, rfl⟩ := list_len5 hr.len
    refine Calls.mono (toSTG_any a0 a1 a2 a3 a4 x w hr hz) fun e w' he => ?_
    obtain ⟨u0, u1, u2, u3, u4, rfl, h1, h2⟩ := he
    exact ⟨_, rfl, h1, h2⟩

theorem fc_eqSTG (x y : DSTG) (h : x = y) : FC Tryz.prog 16 [(true, leaves tSTG x), (true, leaves tSTG y)] [] 0 (Pure (lf (dB true))) :=
  FC.ofEqA h fun us vs w h1 h2 => by
    obtain ⟨a0, a1, a2, a3, a4, rfl⟩ := list_len5 h1.len
    obtain ⟨b0, b1, b2, b3, b4, rfl⟩ := list_len5 h2.len
    exact eqSTG_same a0 a1 a2 a3 a4 b0 b1 b2 b3 b4 x w h1 h2

end Go.Proofs.YtnakmhfjafecpaaGreat

/- laws.FnExactAddOrdering walked. -/
namespace Go.Proofs.YtnakmhfjafecpaaGreat
open Go.RowKit
set_option maxRecDepth 100000
set_option maxHeartbeats 4000000

theorem tot_tr (t : DTransition) : Ty.tot tTransition t = cT t := by
  have : Ty.tot tTransition t = (t.1.length + (t.1.map (Ty.tot .int)).sum) + (t.2.length + (t.2.map (Ty.tot .int)).sum) := rfl
  rw [this, map_zero_sum t.1 (Ty.tot .int) (fun _ => rfl), map_zero_sum t.2 (Ty.tot .int) (fun _ => rfl)]
  simp [cT]
theorem tot_net (n : DNet) : Ty.tot tNet n = n.2.length + tsum n.2 := by
  have : Ty.tot tNet n = 0 + (n.2.length + (n.2.map (Ty.tot tTransition)).sum) := rfl
  rw [this, List.map_congr_left (g := cT) fun t _ => tot_tr t, tsum]
  omega
theorem tot_stg (s : DSTG) : Ty.tot tSTG s = Ty.tot tNet s.1 + ((s.2.1.length + (s.2.1.map (Ty.tot tSignal)).sum) + ((s.2.2.1.length + (s.2.2.1.map (Ty.tot tLabel)).sum) + s.2.2.2.size)) := rfl
theorem mark_ok {s : DSTG} (h : Ty.tot tSTG s ≤ 100000000) : (0 ≤ (1 : Int) ∧ (1 : Int) + tsum s.1.2 + 2 * s.2.1.length + 2 * s.2.2.1.length ≤ 1000000000) ∧ s.1.2.length ≤ 1000000000 := by
  rw [tot_stg, tot_net] at h
  omega
theorem mSTG_cnt (s : DSTG) (k : Int) : (mSTG s k).2 = k + tsum s.1.2 + 2 * s.2.1.length + 2 * s.2.2.1.length := by
  simp only [mSTG, mL_sum, mS_sum, mT_sum]
end Go.Proofs.YtnakmhfjafecpaaGreat
