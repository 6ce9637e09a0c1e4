/- Sorted lists without repetition: put in one by one, or sorted and made compact. Plain lists; no program is named here. -/
import Derived.Test.YtjaadeknhofhpaaGreatAv
import Derived.Sort.OwnSorted
import Derived.Shelf.Sort.AssemblysIn
import Derived.Shelf.Lays
import Derived.Shelf.Slices.In.SortNone
import Derived.Test.YtjaadeknhofhpaaGreatAh
import Derived.Test.YtjaadeknhofhpaaGreatApp
import Derived.Test.YtjaadeknhofhpaaGreatAk
import Derived.Test.YtjaadeknhofhpaaGreatTrd
set_option linter.unusedSimpArgs false
set_option linter.unusedVariables false
set_option linter.unusedSectionVars false
namespace Go.Proofs.YtjaadeknhofhpaaGreat

/-- A strict order in which any two stand. -/
structure TO {α : Type _} (lt : α → α → Bool) : Prop where
  irr : ∀ x, lt x x = false
  tr : ∀ x y z, lt x y = true → lt y z = true → lt x z = true
  tot : ∀ x y, lt x y = true ∨ x = y ∨ lt y x = true
def putG {α : Type _} [DecidableEq α] (lt : α → α → Bool) (x : α) : List α → List α
  | [] => [x]
  | y :: l => if lt y x = true then y :: putG lt x l else if y = x then y :: l else x :: y :: l
def cmpG {α : Type _} [DecidableEq α] : List α → List α
  | [] => []
  | [x] => [x]
  | x :: y :: l => if x = y then cmpG (y :: l) else x :: cmpG (y :: l)
/-- Put in one by one. -/
def ofG {α : Type _} [DecidableEq α] (lt : α → α → Bool) (l : List α) : List α := l.foldl (fun s x => putG lt x s) []
section
variable {α : Type _} [DecidableEq α] {lt : α → α → Bool} {l a b : List α} {x y z : α} {k : Nat}
omit [DecidableEq α] in
theorem TO.ext (h : TO lt) : ∀ {a b : List α}, a.Pairwise (fun x y => lt x y = true) → b.Pairwise (fun x y => lt x y = true) → (∀ x, x ∈ a ↔ x ∈ b) → a = b
  | [], [], _, _, _ => rfl
  | [], y :: b, _, _, hm => by have := (hm y).2 (List.mem_cons_self ..); cases this
  | x :: a, [], _, _, hm => by have := (hm x).1 (List.mem_cons_self ..); cases this
  | x :: a, y :: b, ha, hb, hm => by
    obtain ⟨a1, a2⟩ := List.pairwise_cons.1 ha
    obtain ⟨b1, b2⟩ := List.pairwise_cons.1 hb
    have hxy : x = y := by
      rcases List.mem_cons.1 ((hm x).1 (List.mem_cons_self ..)) with h1 | h1
      · exact h1
      · rcases List.mem_cons.1 ((hm y).2 (List.mem_cons_self ..)) with h2 | h2
        · exact h2.symm
        · have := h.tr _ _ _ (a1 _ h2) (b1 _ h1)
          rw [h.irr] at this; cases this
    subst hxy
    congr 1
    refine h.ext a2 b2 fun z => ⟨fun hz => ?_, fun hz => ?_⟩
    · rcases List.mem_cons.1 ((hm z).1 (List.mem_cons_of_mem _ hz)) with h1 | h1
      · subst h1; have := a1 _ hz; rw [h.irr] at this; cases this
      · exact h1
    · rcases List.mem_cons.1 ((hm z).2 (List.mem_cons_of_mem _ hz)) with h1 | h1
      · subst h1; have := b1 _ hz; rw [h.irr] at this; cases this
      · exact h1
theorem putG_mem : z ∈ putG lt x l ↔ z = x ∨ z ∈ l := by
  induction l with
  | nil => simp [putG]
  | cons y l ih =>
    unfold putG
    split
    · rw [List.mem_cons, ih, List.mem_cons]
      constructor
      · rintro (h | h | h)
        · exact .inr (.inl h)
        · exact .inl h
        · exact .inr (.inr h)
      · rintro (h | h | h)
        · exact .inr (.inl h)
        · exact .inl h
        · exact .inr (.inr h)
    · split
      · rename_i h; subst h
        rw [List.mem_cons]
        exact ⟨fun h => h.elim .inl fun h => .inr (.inr h), fun h => h.elim .inl id⟩
      · rw [List.mem_cons]
theorem putG_str (h : TO lt) (hl : l.Pairwise (fun x y => lt x y = true)) : (putG lt x l).Pairwise (fun x y => lt x y = true) := by
  induction l with
  | nil => simp [putG]
  | cons y l ih =>
    obtain ⟨h1, h2⟩ := List.pairwise_cons.1 hl
    unfold putG
    split
    · rename_i hy
      refine List.pairwise_cons.2 ⟨fun z hz => ?_, ih h2⟩
      rcases putG_mem.1 hz with rfl | hz
      · exact hy
      · exact h1 z hz
    · split
      · exact hl
      · rename_i hy hne
        have hxy : lt x y = true := by
          rcases h.tot x y with h3 | h3 | h3
          · exact h3
          · exact absurd h3.symm hne
          · exact absurd h3 hy
        refine List.pairwise_cons.2 ⟨fun z hz => ?_, hl⟩
        rcases List.mem_cons.1 hz with rfl | hz
        · exact hxy
        · exact h.tr _ _ _ hxy (h1 z hz)
theorem fold_put (h : TO lt) : ∀ (l s : List α), s.Pairwise (fun x y => lt x y = true) → (l.foldl (fun s x => putG lt x s) s).Pairwise (fun x y => lt x y = true) ∧ ∀ z, z ∈ l.foldl (fun s x => putG lt x s) s ↔ z ∈ s ∨ z ∈ l
  | [], s, hs => ⟨hs, fun z => by simp⟩
  | x :: l, s, hs => by
    obtain ⟨h1, h2⟩ := fold_put h l _ (putG_str (x := x) h hs)
    refine ⟨h1, fun z => ?_⟩
    rw [List.foldl_cons, h2, putG_mem, List.mem_cons]
    constructor
    · rintro ((h | h) | h)
      · exact .inr (.inl h)
      · exact .inl h
      · exact .inr (.inr h)
    · rintro (h | h | h)
      · exact .inl (.inr h)
      · exact .inl (.inl h)
      · exact .inr h
theorem ofG_str (h : TO lt) (l : List α) : (ofG lt l).Pairwise (fun x y => lt x y = true) := (fold_put h l [] List.Pairwise.nil).1
theorem ofG_mem (h : TO lt) (l : List α) : z ∈ ofG lt l ↔ z ∈ l := by
  have := (fold_put h l [] List.Pairwise.nil).2 z
  simpa [ofG] using this
theorem cmpG_mem : ∀ {l : List α}, z ∈ cmpG l ↔ z ∈ l
  | [] => Iff.rfl
  | [x] => Iff.rfl
  | x :: y :: l => by
    unfold cmpG
    split
    · rename_i h; subst h
      rw [cmpG_mem]
      exact ⟨List.mem_cons_of_mem _, fun h => (List.mem_cons.1 h).elim (fun h => by rw [h]; exact List.mem_cons_self ..) id⟩
    · rw [List.mem_cons, cmpG_mem, List.mem_cons (l := y :: l)]
theorem cmpG_str (h : TO lt) : ∀ {l : List α}, l.Pairwise (fun x y => lt y x = false) → (cmpG l).Pairwise (fun x y => lt x y = true)
  | [], _ => List.Pairwise.nil
  | [x], _ => by simp [cmpG]
  | x :: y :: l, hl => by
    obtain ⟨h1, h2⟩ := List.pairwise_cons.1 hl
    unfold cmpG
    split
    · exact cmpG_str h h2
    · rename_i hne
      refine List.pairwise_cons.2 ⟨fun z hz => ?_, cmpG_str h h2⟩
      rw [cmpG_mem] at hz
      rcases h.tot x z with h3 | h3 | h3
      · exact h3
      · subst h3
        rcases List.mem_cons.1 hz with h4 | h4
        · exact absurd h4 hne
        · have h5 := h1 y (List.mem_cons_self ..)
          have h6 := (List.pairwise_cons.1 h2).1 x h4
          rcases h.tot x y with h7 | h7 | h7
          · rw [h6] at h7; cases h7
          · exact absurd h7 hne
          · rw [h5] at h7; cases h7
      · have := h1 z hz; rw [this] at h3; cases h3
/-- Sorted and made compact is put in one by one. -/
theorem cmpG_of (h : TO lt) {s l : List α} (hs : s.Pairwise (fun x y => lt y x = false)) (hm : ∀ z, z ∈ s ↔ z ∈ l) : cmpG s = ofG lt l :=
  h.ext (cmpG_str h hs) (ofG_str h l) fun z => by rw [cmpG_mem, hm, ofG_mem h]
theorem putG_at : ∀ {k : Nat} {l : List α}, (∀ j, j < k → ∀ y, l[j]? = some y → lt y x = true) → k ≤ l.length → (∀ y, l[k]? = some y → lt y x = false ∧ y ≠ x) → putG lt x l = l.take k ++ x :: l.drop k
  | 0, [], _, _, _ => rfl
  | 0, y :: l, _, _, h2 => by
    obtain ⟨h3, h4⟩ := h2 y rfl
    unfold putG
    rw [if_neg (by rw [h3]; decide), if_neg h4]; rfl
  | k + 1, [], _, hk, _ => by simp at hk
  | k + 1, y :: l, h1, hk, h2 => by
    unfold putG
    rw [if_pos (h1 0 (by omega) y rfl), putG_at (k := k) (fun j hj z hz => h1 (j + 1) (by omega) z (by simpa using hz)) (by simpa using hk) (fun z hz => h2 z (by simpa using hz))]
    rfl
theorem putG_same : ∀ {k : Nat} {l : List α}, (∀ j, j < k → ∀ y, l[j]? = some y → lt y x = true) → l[k]? = some x → lt x x = false → putG lt x l = l
  | 0, [], _, h, _ => by simp at h
  | 0, y :: l, _, h, h3 => by
    simp only [List.getElem?_cons_zero, Option.some.injEq] at h
    subst h
    unfold putG
    rw [if_neg (by rw [h3]; decide), if_pos rfl]
  | k + 1, [], _, h, _ => by simp at h
  | k + 1, y :: l, h1, h, h3 => by
    unfold putG
    rw [if_pos (h1 0 (by omega) y rfl), putG_same (k := k) (fun j hj z hz => h1 (j + 1) (by omega) z (by simpa using hz)) (by simpa using h) h3]
end
def ltI (x y : Int) : Bool := decide (x < y)
theorem ltI_to : TO ltI := ⟨fun x => by simp [ltI], fun x y z h1 h2 => by simp only [ltI, decide_eq_true_eq] at *; omega, fun x y => by simp only [ltI, decide_eq_true_eq]; omega⟩
/-- Sorted by the library, then made compact. -/
theorem tidy_of (l : List Int) : cmpG (isort l) = ofG ltI l := cmpG_of ltI_to ((isort_sorted l).imp fun h => by simp only [ltI, decide_eq_false_iff_not]; omega) fun _ => isort_mem
end Go.Proofs.YtjaadeknhofhpaaGreat

/- Abstract states: slices of texts that the library sorts in place. No program is named here. -/
namespace Go.Proofs.YtjaadeknhofhpaaGreat
open Go.RowKit

def ltB (x y : ByteArray) : Bool := Op.bytesLess x.toList y.toList
def fB (x : ByteArray) : List UInt8 := x.data.toList
theorem fB_inj {x y : ByteArray} (h : fB x = fB y) : x = y := by
  cases x; cases y
  exact congrArg _ (Array.toList_inj.1 h)
theorem bl_lt : ∀ (x y : List UInt8), Op.bytesLess x y = decide (x < y)
  | [], [] => by simp [Op.bytesLess]
  | _ :: _, [] => by simp [Op.bytesLess]
  | [], _ :: _ => by simp [Op.bytesLess]
  | a :: x, b :: y => by
    rw [Op.bytesLess, bl_lt x y]
    simp only [List.cons_lt_cons_iff]
    by_cases h1 : a < b <;> by_cases h2 : a = b <;> by_cases h3 : x < y <;> simp [h1, h2, h3]
theorem ltB_lt (x y : ByteArray) : ltB x y = decide (fB x < fB y) := by unfold ltB; rw [ByteArray.toList_eq, ByteArray.toList_eq, bl_lt]; rfl
theorem ltB_to : TO ltB := ⟨fun x => by rw [ltB_lt]; simp [List.lt_irrefl], fun x y z h1 h2 => by rw [ltB_lt, decide_eq_true_eq] at *; exact List.lt_trans h1 h2, fun x y => by
  rw [ltB_lt, ltB_lt, decide_eq_true_eq, decide_eq_true_eq]
  by_cases h1 : fB x < fB y
  · exact .inl h1
  · by_cases h2 : fB y < fB x
    · exact .inr (.inr h2)
    · exact .inr (.inl (fB_inj (List.le_antisymm (List.not_lt.1 h2) (List.not_lt.1 h1))))⟩
def ssort (xs : List ByteArray) : List ByteArray := xs.mergeSort fun x y => !ltB y x
theorem ssort_perm (xs : List ByteArray) : (ssort xs).Perm xs := List.mergeSort_perm ..
theorem ssort_len (xs : List ByteArray) : (ssort xs).length = xs.length := (ssort_perm xs).length_eq
theorem ssort_sorted (xs : List ByteArray) : (ssort xs).Pairwise fun x y => ltB y x = false := by
  have h := List.pairwise_mergeSort (le := fun x y : ByteArray => !ltB y x) (fun a b c h1 h2 => by
    simp only [Bool.not_eq_true'] at *
    cases e : ltB c a with
    | false => rfl
    | true =>
      rcases ltB_to.tot a b with k | rfl | k
      · rw [ltB_to.tr _ _ _ e k] at h2; cases h2
      · rw [e] at h2; cases h2
      · rw [k] at h1; cases h1) (fun a b => by
    cases e : ltB b a with
    | false => rfl
    | true =>
      cases k : ltB a b with
      | false => rfl
      | true => have := ltB_to.tr _ _ _ e k; rw [ltB_to.irr] at this; cases this) xs
  exact h.imp fun h => by simpa using h
theorem ssort_nd {xs : List ByteArray} (hn : xs.Nodup) : (ssort xs).Pairwise fun x y => ltB x y = true :=
  ((ssort_sorted xs).and ((ssort_perm xs).nodup_iff.2 hn)).imp fun {x y} ⟨h1, h2⟩ => by
    rcases ltB_to.tot x y with k | k | k
    · exact k
    · exact absurd k h2
    · rw [k] at h1; cases h1
theorem ssort_map (xs : List ByteArray) : (ssort xs).map fB = (xs.map fB).mergeSort fun x y => decide (x ≤ y) :=
  List.map_mergeSort fun a _ b _ => by
    rw [ltB_lt]
    by_cases h : fB b < fB a
    · have : ¬ fB a ≤ fB b := fun k => List.not_lt.2 k h
      simp [h, this]
    · have := List.not_lt.1 h
      simp [h, this]
theorem enc_fB (x : ByteArray) : encStr (fB x) = .string x := by cases x; simp [encStr, fB]
theorem ownL_strs {w : World} : ∀ {xs : List ByteArray} {fp : List Nat} {cs : List Value}, OwnL (Own .str w) fp cs xs → fp = [] ∧ cs = (xs.map fB).map encStr ∧ ∀ x ∈ xs, x.size ≤ maxLen
  | [], fp, cs, h => ⟨h.1, h.2, fun x hx => by cases hx⟩
  | x :: xs, fp, cs, h => by
    obtain ⟨f1, f2, l, r, rfl, rfl, ⟨rfl, rfl, h1⟩, h2⟩ := h
    obtain ⟨rfl, rfl, h3⟩ := ownL_strs h2
    exact ⟨rfl, by rw [List.map_cons, List.map_cons, enc_fB]; rfl, fun y hy => by rcases List.mem_cons.1 hy with rfl | hy; exact h1; exact h3 y hy⟩
theorem ownL_mkS {w : World} : ∀ {xs : List ByteArray}, (∀ x ∈ xs, x.size ≤ maxLen) → OwnL (Own .str w) [] ((xs.map fB).map encStr) xs
  | [], _ => ⟨rfl, rfl⟩
  | x :: xs, h => ⟨[], [], [.string x], (xs.map fB).map encStr, rfl, by rw [List.map_cons, List.map_cons, enc_fB]; rfl, ⟨rfl, rfl, h x (List.mem_cons_self ..)⟩, ownL_mkS fun y hy => h y (List.mem_cons_of_mem _ hy)⟩
/-- What the library's contract says of sorting a row of texts. -/
def SortsS (P : Program) (f : FuncId) : Prop := ∀ (blk cap : Nat) (zs : List ByteArray) (w : World), Sort.Holds encStr w blk 0 (zs.map fB).toArray → blk < w.heap.size → zs.length < 4611686018427387904 →
  Calls P f #[.slice (some ⟨blk, 0, none⟩) zs.length cap] w fun e w' => e = .returned (.tuple #[]) ∧ ∃ n os, w' = Sort.grow (Sort.putRow encStr (Sort.ahead w n) blk 0 ((ssort zs).map fB).toArray) os
theorem FC.sortS {P : Program} {f : FuncId} {E : TypeId} (hS : SortsS P f) (hN : SortsNil P f) (xs : List ByteArray) (hl : xs.length ≤ 1000000000) : FC P f [(false, [.ref 0])] [(0, some (.arr E .str xs))] 1 (Is (.tup []) [(0, some (.arr E .str (ssort xs)))]) := fun gh w vs cx ha => by
  obtain ⟨v, vs', rfl, ⟨l, hl_, h1⟩, rfl⟩ := ha
  simp only [List.cons.injEq, and_true] at hl_
  subst hl_
  have hv : v = gh.h 0 := h1 ⟨_, rfl⟩
  subst hv
  have hO : Own (.sl E .str) w (gh.f 0) [gh.h 0] xs := cx.en 0 _ rfl
  have alq : ∀ (y : List ByteArray) q, Tab.al [(0, some (Ent.arr E .str y))] q → q = 0 := fun y q ⟨e, he⟩ => by
    rw [Tab.ent_cons] at he
    split at he
    · assumption
    · cases he
  rcases hO with ⟨hf, hc, hx⟩ | ⟨g, cap, cur, fps, hf, hc, hb, hn, hcap, hsz, hL⟩
  · simp only [List.cons.injEq, and_true] at hc
    subst hx
    rw [hc]
    refine Calls.mono (hN w) fun e w' he => ?_
    obtain ⟨rfl, h2⟩ := he
    refine ⟨_, _, _, gh, rfl, ⟨rfl, rfl⟩, ⟨fun q e he => ?_, fun q q' hq hq' hne => absurd ((alq _ q hq).trans (alq _ q' hq').symm) hne, fun q hq => ?_, fun q hq g hg => ?_, fun g hg => Nat.lt_of_lt_of_le (cx.nl g hg) h2.size⟩, ⟨[], rfl, rfl⟩,
      ⟨h2.grw, fun g hg _ => Below.block h2 g hg, fun g hg => .inl hg, fun q hq g hg => ?_⟩, fun q _ _ => rfl⟩
    · rw [Tab.ent_cons] at he
      split at he
      · rename_i e0; subst e0; cases he
        exact .inl ⟨hf, by rw [hc], by simp [ssort]⟩
      · cases he
    · rw [alq _ q hq, hf]; exact List.nodup_nil
    · rw [alq _ q hq, hf] at hg; cases hg
    · rw [alq _ q hq, hf] at hg; cases hg
  · simp only [List.cons.injEq, and_true] at hc
    rw [Nat.mul_one] at hL
    obtain ⟨rfl, ht, hr⟩ := ownL_strs hL
    have hg : g < w.heap.size := (Array.getElem?_eq_some_iff.1 hb).1
    rw [hc]
    have hm : xs.length ≤ 9223372036854775807 := by unfold maxLen at hcap; omega
    refine Calls.mono (hS g cap xs w (holds_of_block hb (by rw [List.length_map]; exact ht)) hg (by omega)) fun e w' he => ?_
    obtain ⟨rfl, n, os, rfl⟩ := he
    obtain ⟨k1, k2, k3, k4, k5⟩ := grownBy_sorted (w := w) (g := g) (n := n) (os := os) ((ssort xs).map fB).toArray
    have hlen := ssort_len xs
    refine ⟨_, _, _, gh, rfl, ⟨rfl, rfl⟩, ⟨fun q e he => ?_, fun q q' hq hq' hne => absurd ((alq _ q hq).trans (alq _ q' hq').symm) hne, fun q hq => ?_, fun q hq g' hg' => ?_, fun g' hg' => Nat.lt_of_lt_of_le (cx.nl g' hg') k4⟩, ⟨[], rfl, rfl⟩,
      ⟨⟨k1, k2, k3, k4⟩, fun g' h1 h2 => ?_, fun g' h1 => .inl h1, fun q hq g' hg' => ?_⟩, fun q _ _ => rfl⟩
    · rw [Tab.ent_cons] at he
      split at he
      · rename_i e0; subst e0; cases he
        refine .inr ⟨g, cap, _, [], hf, by rw [hc, hlen], heap_sorted _ hb, by omega, hcap, by simpa [Sort.putCells] using hsz, ?_⟩
        show OwnL (Own .str _) [] (List.take ((ssort xs).length * 1) _) (ssort xs)
        have ht2 := take_putCells cur ((ssort xs).map fB) (by rw [List.length_map]; have : cur.size = cap * 1 := hsz; omega)
        rw [List.length_map] at ht2
        rw [Nat.mul_one, ht2]
        exact ownL_mkS fun x hx => hr x ((ssort_perm xs).mem_iff.1 hx)
      · cases he
    · rw [alq _ q hq]; exact cx.nd 0 ⟨_, rfl⟩
    · rw [alq _ q hq] at hg'; exact cx.no 0 ⟨_, rfl⟩ g' hg'
    · exact k5 g' h1 fun e0 => h2 0 ⟨_, rfl⟩ (by rw [hf]; cases e0; exact List.mem_cons_self ..)
    · rw [alq _ q hq] at hg'; exact .inr ⟨0, ⟨_, rfl⟩, hg'⟩
end Go.Proofs.YtjaadeknhofhpaaGreat

/- slices.Sort of texts, by the library's contract. -/
namespace Go.Proofs.YtjaadeknhofhpaaGreat
open Go.RowKit

def sortT_ren : Go.Shelf.Ren := ⟨fun | 190 => 154 | 125 => 228 | 258 => 257 | 128 => 304 | 129 => 305 | 302 => 326 | 303 => 327 | 304 => 328 | 305 => 329 | 306 => 330 | 307 => 331 | 308 => 332 | 309 => 333 | 310 => 334 | 333 => 372 | 329 => 353 | 330 => 354 | 334 => 373 | 335 => 374 | 336 => 375 | 344 => 386 | n => n, fun | 31 => 49 | 9 => 9 | 3 => 3 | 46 => 253 | 0 => 0 | 51 => 321 | 53 => 119 | 4 => 4 | 183 => 315 | 182 => 314 | 131 => 220 | 5 => 5 | 218 => 360 | 222 => 364 | 228 => 383 | 229 => 113 | n => n, fun | n => n⟩
theorem sortT : Go.Proofs.Lays.n190 Tryz.prog sortT_ren := {
  mixed := by kernel_rfl,
  f125 := Tryz.func228.trans (congrArg some (by kernel_rfl)),
  f128 := Tryz.func304.trans (congrArg some (by kernel_rfl)),
  f129 := Tryz.func305.trans (congrArg some (by kernel_rfl)),
  f190 := Tryz.func154.trans (congrArg some (by kernel_rfl)),
  f258 := Tryz.func257.trans (congrArg some (by kernel_rfl)),
  f302 := Tryz.func326.trans (congrArg some (by kernel_rfl)),
  f303 := Tryz.func327.trans (congrArg some (by kernel_rfl)),
  f304 := Tryz.func328.trans (congrArg some (by kernel_rfl)),
  f305 := Tryz.func329.trans (congrArg some (by kernel_rfl)),
  f306 := Tryz.func330.trans (congrArg some (by kernel_rfl)),
  f307 := Tryz.func331.trans (congrArg some (by kernel_rfl)),
  f308 := Tryz.func332.trans (congrArg some (by kernel_rfl)),
  f309 := Tryz.func333.trans (congrArg some (by kernel_rfl)),
  f310 := Tryz.func334.trans (congrArg some (by kernel_rfl)),
  f329 := Tryz.func353.trans (congrArg some (by kernel_rfl)),
  f330 := Tryz.func354.trans (congrArg some (by kernel_rfl)),
  f333 := Tryz.func372.trans (congrArg some (by kernel_rfl)),
  f334 := Tryz.func373.trans (congrArg some (by kernel_rfl)),
  f335 := Tryz.func374.trans (congrArg some (by kernel_rfl)),
  f336 := Tryz.func375.trans (congrArg some (by kernel_rfl)),
  f344 := Tryz.func386.trans (congrArg some (by kernel_rfl)),
  t0 := Tryz.underlying0,
  a0 := Tryz.isAgg0,
  z0 := Tryz.sizeOf0,
  v0 := Tryz.zeroValue0,
  t3 := Tryz.underlying3,
  a3 := Tryz.isAgg3,
  z3 := Tryz.sizeOf3,
  v3 := Tryz.zeroValue3,
  t4 := Tryz.underlying4,
  a4 := Tryz.isAgg4,
  z4 := Tryz.sizeOf4,
  v4 := Tryz.zeroValue4,
  t5 := Tryz.underlying5,
  a5 := Tryz.isAgg5,
  z5 := Tryz.sizeOf5,
  v5 := Tryz.zeroValue5,
  t9 := Tryz.underlying9,
  a9 := Tryz.isAgg9,
  z9 := Tryz.sizeOf9,
  v9 := Tryz.zeroValue9,
  t31 := Tryz.underlying49,
  a31 := Tryz.isAgg49,
  z31 := Tryz.sizeOf49,
  v31 := Tryz.zeroValue49,
  t46 := Tryz.underlying253,
  a46 := Tryz.isAgg253,
  z46 := Tryz.sizeOf253,
  v46 := Tryz.zeroValue253,
  t51 := Tryz.underlying321,
  a51 := Tryz.isAgg321,
  z51 := Tryz.sizeOf321,
  v51 := Tryz.zeroValue321,
  t53 := Tryz.underlying119,
  a53 := Tryz.isAgg119,
  z53 := Tryz.sizeOf119,
  v53 := Tryz.zeroValue119,
  t131 := Tryz.underlying220,
  a131 := Tryz.isAgg220,
  z131 := Tryz.sizeOf220,
  v131 := Tryz.zeroValue220,
  t182 := Tryz.underlying314,
  a182 := Tryz.isAgg314,
  z182 := Tryz.sizeOf314,
  v182 := Tryz.zeroValue314,
  t183 := Tryz.underlying315,
  a183 := Tryz.isAgg315,
  z183 := Tryz.sizeOf315,
  v183 := Tryz.zeroValue315,
  t218 := Tryz.underlying360,
  a218 := Tryz.isAgg360,
  z218 := Tryz.sizeOf360,
  v218 := Tryz.zeroValue360,
  t222 := Tryz.underlying364,
  a222 := Tryz.isAgg364,
  z222 := Tryz.sizeOf364,
  v222 := Tryz.zeroValue364,
  t228 := Tryz.underlying383,
  a228 := Tryz.isAgg383,
  z228 := Tryz.sizeOf383,
  v228 := Tryz.zeroValue383,
  t229 := Tryz.underlying113,
  a229 := Tryz.isAgg113,
  z229 := Tryz.sizeOf113,
  v229 := Tryz.zeroValue113 }
theorem sortsS : SortsS Tryz.prog 154 := fun blk cap zs w hH hb hl => by
  have h := calls_of_every_depth fun D => AnyS.slices_Sort_string_in sortT D blk 0 cap (zs.map fB) w hH hb (by rw [List.length_map]; exact hl)
  rw [List.length_map, ← ssort_map] at h
  exact h
theorem sortsNilS : SortsNil Tryz.prog 154 := fun w => Calls.mono (Any.slices_Sort_string_none sortT none 0 w) fun _ _ ⟨h1, h2⟩ => ⟨h1, h2 ▸ Nw.refl _⟩
theorem fc_sortS (l : List ByteArray) (hl : l.length ≤ 1000000000) : FC Tryz.prog 154 [(false, [.ref 0])] [(0, some (.arr 9 .str l))] 1 (Is (.tup []) [(0, some (.arr 9 .str (ssort l)))]) := FC.sortS sortsS sortsNilS l hl
end Go.Proofs.YtjaadeknhofhpaaGreat

/- Walks over abstract states: small words, copies. -/
namespace Go.Proofs.YtjaadeknhofhpaaGreat
open Go.RowKit
set_option maxRecDepth 100000
set_option maxHeartbeats 4000000

theorem fc_impl_within (n : Int) (low : Int) (high : Int)  : FC Tryz.prog 84 [(false, [dI n]), (false, [dI low]), (false, [dI high])] [] 0 (Pure (lB (decide (low ≤ n ∧ n ≤ high)))) := by
 refine FC.go Tryz.func84 rfl rfl Tryz.ntmps84 fun O_ hO w0_ N0_ X_ h0_ f0_ => ?_
 refine AC.fact (fact_int (x := .tmp 0) (Evl.tmp rfl)) fun hi1 => AC.fact (fact_int (x := .tmp 1) (Evl.tmp rfl)) fun hi2 => AC.fact (fact_int (x := .tmp 2) (Evl.tmp rfl)) fun hi3 => ?_
 iterate 8 refine w_ ?_
 cases hb4 : (decide (low ≤ n))
 ·have hb4' := of_decide_eq_false hb4
  iterate 6 refine w_ ?_
  refine AC.ret ?_
  subst hO
  have e5 : (false : Bool) = (decide (low ≤ n ∧ n ≤ high)) := by
   (rw [Bool.eq_iff_iff]; simp; omega)
  exact fin_pure (Res.one rfl (Rs.tmp rfl)) ((congrArg (fun z_ => lB z_) e5)) rfl
 ·have hb4' := of_decide_eq_true hb4
  iterate 6 refine w_ ?_
  refine AC.ret ?_
  subst hO
  have e6 : (decide (n ≤ high) : Bool) = (decide (low ≤ n ∧ n ≤ high)) := by
   (simp_all; done)
  exact fin_pure (Res.one rfl (Rs.tmp rfl)) ((congrArg (fun z_ => lB z_) e6)) rfl

theorem fc_spec_l1In (n : Int) (lo : Int) (hi : Int)  : FC Tryz.prog 174 [(false, [dI n]), (false, [dI lo]), (false, [dI hi])] [] 0 (Pure (lB (decide (lo ≤ n ∧ n ≤ hi)))) := by
 refine FC.go Tryz.func174 rfl rfl Tryz.ntmps174 fun O_ hO w0_ N0_ X_ h0_ f0_ => ?_
 refine AC.fact (fact_int (x := .tmp 0) (Evl.tmp rfl)) fun hi1 => AC.fact (fact_int (x := .tmp 1) (Evl.tmp rfl)) fun hi2 => AC.fact (fact_int (x := .tmp 2) (Evl.tmp rfl)) fun hi3 => ?_
 iterate 8 refine w_ ?_
 cases hb4 : (decide (lo ≤ n))
 ·have hb4' := of_decide_eq_false hb4
  iterate 6 refine w_ ?_
  refine AC.ret ?_
  subst hO
  have e5 : (false : Bool) = (decide (lo ≤ n ∧ n ≤ hi)) := by
   (rw [Bool.eq_iff_iff]; simp; omega)
  exact fin_pure (Res.one rfl (Rs.tmp rfl)) ((congrArg (fun z_ => lB z_) e5)) rfl
 ·have hb4' := of_decide_eq_true hb4
  iterate 6 refine w_ ?_
  refine AC.ret ?_
  subst hO
  have e6 : (decide (n ≤ hi) : Bool) = (decide (lo ≤ n ∧ n ≤ hi)) := by
   (simp_all; done)
  exact fin_pure (Res.one rfl (Rs.tmp rfl)) ((congrArg (fun z_ => lB z_) e6)) rfl

def trBy (b : Int) (t : DTransition) : DTransition := (t.1.map fun x => x + b, t.2.map fun x => x + b)

end Go.Proofs.YtjaadeknhofhpaaGreat

/- Walks over abstract states: orderings added to a graph. -/
namespace Go.Proofs.YtjaadeknhofhpaaGreat
open Go.RowKit
set_option maxRecDepth 100000
set_option maxHeartbeats 4000000

theorem len5 {us : List Value} (h : us.length = 5) : ∃ a0 a1 a2 a3 a4, us = [a0, a1, a2, a3, a4] := by
  match us, h with
  | [a0, a1, a2, a3, a4], _ => exact ⟨_, _, _, _, _, rfl⟩
theorem retB_dec {p : Prop} [Decidable p] {w : World} {e : Ending} {w' : World} (h : RetB p w e w') : RetB (decide p = true) w e w' := by
  obtain ⟨b, h1, h2, h3⟩ := h
  exact ⟨b, h1, by rw [h2, decide_eq_true_eq], h3⟩
theorem fc_impl_IsValidSTG (s : DSTG) [Decidable (StgOk s)] : FC Tryz.prog 77 [(true, leaves tSTG s)] [] 0 (Pure (lf (dB (decide (StgOk s))))) := FC.ofB fun gh w vs h => by
  obtain ⟨us, rfl, hr⟩ := h.agg1
  obtain ⟨a0, a1, a2, a3, a4, rfl⟩ := len5 hr.len
  exact (IsValidSTG_any a0 a1 a2 a3 a4 s w hr).mono fun _ _ h => retB_dec h
theorem fc_spec_l2Good (s : DSTG) [Decidable (StgOk s)] : FC Tryz.prog 79 [(true, leaves tSTG s)] [] 0 (Pure (lf (dB (decide (StgOk s))))) := FC.ofB fun gh w vs h => by
  obtain ⟨us, rfl, hr⟩ := h.agg1
  obtain ⟨a0, a1, a2, a3, a4, rfl⟩ := len5 hr.len
  exact (l2Good_any a0 a1 a2 a3 a4 s w hr).mono fun _ _ h => retB_dec h
/-- An ordering put in. -/
def addT (ts : List DTransition) (a b : Nat) (p : Int) : List DTransition := (ts.modify a fun t => (t.1, t.2 ++ [p])).modify b fun t => (t.1 ++ [p], t.2)
def bitS (b : Bool) : ByteArray := ⟨#[if b then 49 else 48]⟩
def addOrd (s : DSTG) (o : DOrdering) : DSTG := ((s.1.1 + 1, addT s.1.2 o.1.toNat o.2.1.toNat s.1.1), s.2.1, s.2.2.1, s.2.2.2 ++ bitS o.2.2)
theorem bsize1 (b : UInt8) : (⟨#[b]⟩ : ByteArray).size = 1 := rfl
theorem fc_impl_bit (b : Bool)  : FC Tryz.prog 175 [(false, [dB b])] [] 0 (Pure (lf (.dat .u8 (if b then 49 else 48)))) := by
 refine FC.go Tryz.func175 rfl rfl Tryz.ntmps175 fun O_ hO w0_ N0_ X_ h0_ f0_ => ?_
 refine w_ ?_
 refine lc (Does.assignC (Evl.u8 0 rfl) rfl) ?_
 iterate 5 refine w_ ?_
 cases hb1 : (b)
 ·iterate 3 refine w_ ?_
  refine lc (Does.assignC (Evl.u8 48 rfl) rfl) ?_
  refine w_ ?_
  refine AC.ret ?_
  subst hO
  have e2 : (48 : UInt8) = (if b then 49 else 48) := by
   simp_all
  exact fin_pure (Res.one rfl (Rs.tmp rfl)) ((congrArg (fun z_ => lf (.dat .u8 z_)) e2)) rfl
 ·iterate 2 refine w_ ?_
  refine lc (Does.assignC (Evl.u8 49 rfl) rfl) ?_
  refine w_ ?_
  refine AC.ret ?_
  subst hO
  have e3 : (49 : UInt8) = (if b then 49 else 48) := by
   simp_all
  exact fin_pure (Res.one rfl (Rs.tmp rfl)) ((congrArg (fun z_ => lf (.dat .u8 z_)) e3)) rfl

def zeroSTG : DSTG := ((0, []), [], [], ByteArray.empty)

/-- A graph if it is one. -/
def stgIfV (s : DSTG) [Decidable (StgOk s)] : DSTG × Bool := if StgOk s then (s, true) else (zeroSTG, false)
end Go.Proofs.YtjaadeknhofhpaaGreat

/- Contracts over states for the measures, the copies and the comparisons of the laws. -/
namespace Go.Proofs.YtjaadeknhofhpaaGreat
open Go.RowKit
set_option maxRecDepth 100000
set_option maxHeartbeats 4000000

theorem fc_szSTG (x : DSTG) (left : Int) (h0 : 0 ≤ left) (h1 : left ≤ 1048576) : FC Tryz.prog 30 [(true, leaves lSTG x), (false, [dI left])] [] 0 (Pure (lf (dI (szv left (Ty.tot lSTG x))))) :=
  FC.ofSzA (fun us w hr => by
    obtain ⟨a0, a1, a2, a3, a4, rfl⟩ := list_len5 hr.len
    exact szSTG_any a0 a1 a2 a3 a4 x left w hr h0 h1) h0 h1

theorem fc_toSTG (x : DSTG) (hz : Ty.tot lSTG x ≤ 1048576) : FC Tryz.prog 32 [(true, leaves lSTG x)] [] 0 (Is (ag (oL tSTG x 0)) (oT tSTG x 0)) :=
  FC.ofOwnA fun gh w vs ha => by
    obtain ⟨us, vs, rfl, hr, ha⟩ := ha.agg_cons
    obtain rfl := ha.nil_
    obtain ⟨a0, a1, a2, a3, a4, rfl⟩ := list_len5 hr.len
    refine Calls.mono (toSTG_any a0 a1 a2 a3 a4 x w hr hz) fun e w' he => ?_
    obtain ⟨u0, u1, u2, u3, u4, rfl, h1, h2⟩ := he
    exact ⟨_, rfl, h1, h2⟩

theorem fc_eqSTG (x y : DSTG) (h : x = y) : FC Tryz.prog 34 [(true, leaves tSTG x), (true, leaves tSTG y)] [] 0 (Pure (lf (dB true))) :=
  FC.ofEqA h fun us vs w h1 h2 => by
    obtain ⟨a0, a1, a2, a3, a4, rfl⟩ := list_len5 h1.len
    obtain ⟨b0, b1, b2, b3, b4, rfl⟩ := list_len5 h2.len
    exact eqSTG_same a0 a1 a2 a3 a4 b0 b1 b2 b3 b4 x w h1 h2

end Go.Proofs.YtjaadeknhofhpaaGreat
