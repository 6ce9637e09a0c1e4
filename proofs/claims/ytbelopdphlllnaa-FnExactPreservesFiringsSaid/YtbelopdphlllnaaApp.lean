/- append, over owned memory. No program is named here. -/
import Derived.Test.YtbelopdphlllnaaTail
import Derived.Maps.AppendAt
import Derived.Laws.OwnMore
namespace Go.Proofs.Ytbelopdphlllnaa
open Go.RowKit

/-- Blocks outside [B, M) are as they were; nothing has gone. -/
structure Mw (B M : Nat) (w w' : World) : Prop where
  os : w'.os = w.os
  tape : w'.tape = w.tape
  output : w'.output = w.output
  size : w.heap.size ≤ w'.heap.size
  block : ∀ k, k < w.heap.size → (k < B ∨ M ≤ k) → w'.heap[k]? = w.heap[k]?
theorem Mw.nw {a w w' : World} {B M : Nat} (h : Mw B M w w') (ha : Nw a w) (hB : a.heap.size ≤ B) : Nw a w' :=
  ⟨h.os.trans ha.os, h.tape.trans ha.tape, h.output.trans ha.output, Nat.le_trans ha.size h.size, fun k hk => (h.block k (Nat.lt_of_lt_of_le hk ha.size) (.inl (Nat.lt_of_lt_of_le hk hB))).trans (Below.block ha k hk)⟩
theorem Mw.trans {a b c : World} {B M : Nat} (h : Mw B M a b) (k : Mw B M b c) : Mw B M a c :=
  ⟨k.os.trans h.os, k.tape.trans h.tape, k.output.trans h.output, Nat.le_trans h.size k.size, fun g hg hx => (k.block g (Nat.lt_of_lt_of_le hg h.size) hx).trans (h.block g hg hx)⟩
theorem Mw.mono {B M B' M' : Nat} {w w' : World} (h : Mw B M w w') (hB : B' ≤ B) (hM : M ≤ M') : Mw B' M' w w' :=
  ⟨h.os, h.tape, h.output, h.size, fun k hk hx => h.block k hk (by omega)⟩
theorem Mw.cells {B M : Nat} {w w' : World} (h : Mw B M w w') : (∀ b o, b < w.heap.size → (b < B ∨ M ≤ b) → w'.cell? ⟨b, o, none⟩ = w.cell? ⟨b, o, none⟩) ∧
    (∀ b o, b < w.heap.size → (b < B ∨ M ≤ b) → w'.frozen? ⟨b, o, none⟩ = w.frozen? ⟨b, o, none⟩) :=
  ⟨fun b o h1 h2 => World.cell?_of_block (h.block b h1 h2), fun b o h1 h2 => World.frozen?_of_block (h.block b h1 h2)⟩
structure ElemInfo (P : Program) (E : TypeId) (e : Ty) : Prop where
  ex : ∃ i z, P.info? E = some i ∧ i.zero = some z ∧ i.size = e.wd ∧ i.bytes ≤ 65536 ∧ z.cells.size = e.wd
def elemB (P : Program) (E : TypeId) (n : Nat) : Bool := match P.info? E with
  | some i => match i.zero with
    | some z => i.size == n && decide (i.bytes ≤ 65536) && z.cells.size == n
    | none => false
  | none => false
theorem elem_of {P : Program} {E : TypeId} {e : Ty} (h : elemB P E e.wd = true) : ElemInfo P E e := by
  unfold elemB at h
  cases hi : P.info? E with
  | none => rw [hi] at h; cases h
  | some i =>
    rw [hi] at h
    simp only at h
    cases hz : i.zero with
    | none => rw [hz] at h; cases h
    | some z =>
      rw [hz] at h
      simp only [Bool.and_eq_true, beq_iff_eq, decide_eq_true_eq] at h
      exact ⟨i, z, hi, hz, h.1.1, h.1.2, h.2⟩

section
variable {E : TypeId} {e : Ty} {w : World}
theorem Own.row {fp : List Nat} {v : Value} {xs : List e.Den} (h : Own (.sl E e) w fp [v] xs) : ∃ cs fps, w.ownsRow 0 E e.wd v xs.length cs ∧ OwnL (Own e w) fps cs xs ∧ ((v.ownBlock = none ∧ fp = [] ∧ fps = []) ∨ ∃ g, v.ownBlock = some g ∧ fp = g :: fps) := by
  rcases h with ⟨rfl, h, h'⟩ | ⟨g, cap, cur, fps, rfl, h1, h2, h3, h4, h5, h6⟩
  · subst h'
    simp only [List.cons.injEq, and_true] at h
    subst h
    exact ⟨[], [], World.ownsRow_nil _ _ _ _, ⟨rfl, rfl⟩, .inl ⟨rfl, rfl, rfl⟩⟩
  · simp only [List.cons.injEq, and_true] at h1
    subst h1
    refine ⟨_, fps, ⟨?_, .inr ⟨g, cap, cur, rfl, Nat.zero_le _, h2, h3, h4, h5, rfl⟩⟩, h6, .inr ⟨g, rfl, rfl⟩⟩
    exact h6.len
theorem Own.of_row {fps : List Nat} {v : Value} {cs : List Value} {xs : List e.Den} {n : Nat} (hn : n = xs.length) (h : w.ownsRow 0 E e.wd v n cs) (ho : OwnL (Own e w) fps cs xs) :
    ∃ fp, Own (.sl E e) w fp [v] xs ∧ ((v.ownBlock = none ∧ fp = fps) ∨ ∃ g, v.ownBlock = some g ∧ fp = g :: fps) := by
  subst hn
  rcases h.2 with ⟨rfl, h0⟩ | ⟨g, cap, cur, rfl, _, h2, h3, h4, h5, h6⟩
  · obtain rfl := List.eq_nil_of_length_eq_zero h0
    obtain ⟨rfl, _⟩ := ho
    exact ⟨[], .inl ⟨rfl, rfl, rfl⟩, .inl ⟨rfl, rfl⟩⟩
  · exact ⟨g :: fps, .inr ⟨g, cap, cur, fps, rfl, rfl, h2, h3, h4, h5, by rw [h6]; exact ho⟩, .inr ⟨g, rfl, rfl⟩⟩

theorem OwnL.one {fp : List Nat} : ∀ {xs : List e.Den} {fp : List Nat} {cs : List Value}, OwnL (Own e w) fp cs xs → ∀ u ∈ cs, u.oneCell' = true
  | [], _, _, h => by rw [h.2]; simp
  | _ :: _, _, _, ⟨_, _, _, _, _, h2, h3, h4⟩ => by
    intro u hu
    rw [h2] at hu
    rcases List.mem_append.1 hu with hu | hu
    · exact Rep.one h3.rep u hu
    · exact OwnL.one (fp := []) h4 u hu
theorem OwnL.lt {xs : List e.Den} {fp : List Nat} {cs : List Value} (h : OwnL (Own e w) fp cs xs) : ∀ g ∈ fp, g < w.heap.size := by
  induction xs generalizing fp cs with
  | nil => rw [h.1]; simp
  | cons x xs ih =>
    obtain ⟨f1, f2, c1, c2, rfl, rfl, h3, h4⟩ := h
    intro g hg
    rcases List.mem_append.1 hg with hg | hg
    · exact Own.lt h3 g hg
    · exact ih h4 g hg

variable {P : Program}
/-! ### What is appended: one element that lies in a block of its own; all elements of a flat slice -/
def Ty.flat : Ty → Bool
  | .pr a b => a.flat && b.flat
  | .sl _ _ => false
  | _ => true
theorem Rep.own : ∀ {t : Ty} {w : World} {cs : List Value} {x : t.Den}, Rep t w cs x → t.flat = true → Own t w [] cs x
  | .int, _, _, _, h, _ => ⟨rfl, h⟩
  | .bool, _, _, _, h, _ => ⟨rfl, h⟩
  | .str, _, _, _, h, _ => ⟨rfl, h⟩
  | .u8, _, _, _, h, _ => ⟨rfl, h⟩
  | .sl _ _, _, _, _, _, h => by cases h
  | .pr a b, _, _, _, ⟨l, r, h, h1, h2⟩, hf => by
    simp only [Ty.flat, Bool.and_eq_true] at hf
    exact ⟨[], [], l, r, rfl, h, Rep.own h1 hf.1, Rep.own h2 hf.2⟩
theorem flat_cells (hf : e.flat = true) (b : Nat) : ∀ (ys : List e.Den) (o : Nat), (∀ i x, ys[i]? = some x → ∃ ds, Rep e w ds x ∧ ∀ j u, ds[j]? = some u → w.cell? ⟨b, o + i * e.wd + j, none⟩ = some u) →
    ∃ news, OwnL (Own e w) [] news ys ∧ ∀ j u, news[j]? = some u → w.cell? ⟨b, o + j, none⟩ = some u
  | [], _, _ => ⟨[], ⟨rfl, rfl⟩, by simp⟩
  | y :: ys, o, h => by
    obtain ⟨ds, h1, h2⟩ := h 0 y rfl
    obtain ⟨news, h3, h4⟩ := flat_cells hf b ys (o + e.wd) (fun i x hx => by
      obtain ⟨ds', h5, h6⟩ := h (i + 1) x hx
      refine ⟨ds', h5, fun j u hu => ?_⟩
      rw [← h6 j u hu]
      congr 2
      rw [Nat.add_mul]
      omega)
    refine ⟨ds ++ news, ⟨[], [], ds, news, rfl, rfl, h1.own hf, h3⟩, fun j u hu => ?_⟩
    by_cases hj : j < ds.length
    · rw [List.getElem?_append_left hj] at hu
      have := h2 j u hu
      simpa using this
    · rw [List.getElem?_append_right (by omega)] at hu
      rw [← h4 _ _ hu]
      congr 2
      have := h1.len
      omega
theorem Rep.src {A : Option Addr} {n c M : Nat} {ys : List e.Den} (hr : Rep (.sl E e) w [.slice A n c] ys) (hf : e.flat = true) : n = ys.length ∧ ((A = none ∧ n = 0) ∨ ∃ ad news, A = some ad ∧ FrsL e M M w news ys ∧ ∀ j u, news[j]? = some u → w.cell? (ad.add j) = some u) := by
  obtain ⟨A', c', h1, h2, h3, h4⟩ := hr
  simp only [List.cons.injEq, Value.slice.injEq, and_true] at h1
  obtain ⟨rfl, rfl, rfl⟩ := h1
  refine ⟨rfl, ?_⟩
  rcases Nat.eq_zero_or_pos ys.length with h0 | hp
  · cases A with
    | none => exact .inl ⟨rfl, h0⟩
    | some ad =>
      obtain rfl := List.eq_nil_of_length_eq_zero h0
      exact .inr ⟨ad, [], rfl, ⟨[], ⟨rfl, rfl⟩, List.nodup_nil, by simp⟩, by simp⟩
  · obtain ⟨b, o, rfl, h5⟩ := h4 hp
    obtain ⟨news, h6, h7⟩ := flat_cells hf b ys o h5
    exact .inr ⟨⟨b, o, none⟩, news, rfl, ⟨[], h6, List.nodup_nil, by simp⟩, fun j u hu => by rw [Addr.add_lit]; exact h7 j u hu⟩

/-- '[]T{}'. -/
theorem Frs.empty (w : World) (E : TypeId) (e : Ty) : Frs (.sl E e) w.heap.size (w.heap.size + 1) (w.alloc (.cells #[] E)) [.slice (some ⟨w.heap.size, 0, none⟩) 0 0] [] :=
  ⟨[w.heap.size], .inr ⟨w.heap.size, 0, #[], [], rfl, rfl, heap_alloc_new w _, Nat.le_refl _, Nat.zero_le _, by simp, by simpa using ⟨rfl, rfl⟩⟩, by simp, by simp⟩
end
end Go.Proofs.Ytbelopdphlllnaa
