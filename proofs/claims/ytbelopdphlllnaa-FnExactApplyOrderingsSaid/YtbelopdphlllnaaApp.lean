/- append, over owned memory. No program is named here. -/
import Derived.Test.YtbelopdphlllnaaTail
import Derived.Maps.AppendAt
import Derived.Laws.OwnMore
namespace Go.Proofs.Ytbelopdphlllnaa
open Go.RowKit

/-- Blocks outside [B, M) are as they were; nothing has gone. -/
structure Mw (B M : Nat) (w w' : World) : Prop where
  os : w'.os = w.os
  tape : w'.tape = w.tape
  output : w'.output = w.output
  size : w.heap.size ≤ w'.heap.size
  block : ∀ k, k < w.heap.size → (k < B ∨ M ≤ k) → w'.heap[k]? = w.heap[k]?
theorem Nw.mw {w w' : World} (h : Nw w w') (B M : Nat) : Mw B M w w' := ⟨h.os, h.tape, h.output, h.size, fun k hk _ => Below.block h k hk⟩
theorem Mw.nw {a w w' : World} {B M : Nat} (h : Mw B M w w') (ha : Nw a w) (hB : a.heap.size ≤ B) : Nw a w' :=
  ⟨h.os.trans ha.os, h.tape.trans ha.tape, h.output.trans ha.output, Nat.le_trans ha.size h.size, fun k hk => (h.block k (Nat.lt_of_lt_of_le hk ha.size) (.inl (Nat.lt_of_lt_of_le hk hB))).trans (Below.block ha k hk)⟩
theorem Mw.trans {a b c : World} {B M : Nat} (h : Mw B M a b) (k : Mw B M b c) : Mw B M a c :=
  ⟨k.os.trans h.os, k.tape.trans h.tape, k.output.trans h.output, Nat.le_trans h.size k.size, fun g hg hx => (k.block g (Nat.lt_of_lt_of_le hg h.size) hx).trans (h.block g hg hx)⟩
theorem Mw.mono {B M B' M' : Nat} {w w' : World} (h : Mw B M w w') (hB : B' ≤ B) (hM : M ≤ M') : Mw B' M' w w' :=
  ⟨h.os, h.tape, h.output, h.size, fun k hk hx => h.block k hk (by omega)⟩
theorem Mw.cells {B M : Nat} {w w' : World} (h : Mw B M w w') : (∀ b o, b < w.heap.size → (b < B ∨ M ≤ b) → w'.cell? ⟨b, o, none⟩ = w.cell? ⟨b, o, none⟩) ∧
    (∀ b o, b < w.heap.size → (b < B ∨ M ≤ b) → w'.frozen? ⟨b, o, none⟩ = w.frozen? ⟨b, o, none⟩) :=
  ⟨fun b o h1 h2 => World.cell?_of_block (h.block b h1 h2), fun b o h1 h2 => World.frozen?_of_block (h.block b h1 h2)⟩
theorem Frs.mw {t : Ty} {B U B' M' : Nat} {w w' : World} {cs : List Value} {x : t.Den} (h : Frs t B U w cs x) (hk : Mw B' M' w w') (hU : U ≤ w.heap.size) (hd : U ≤ B' ∨ M' ≤ B) : Frs t B U w' cs x :=
  h.keep fun g h1 h2 => hk.block g (by omega) (by omega)

structure ElemInfo (P : Program) (E : TypeId) (e : Ty) : Prop where
  ex : ∃ i z, P.info? E = some i ∧ i.zero = some z ∧ i.size = e.wd ∧ i.bytes ≤ 65536 ∧ z.cells.size = e.wd
def elemB (P : Program) (E : TypeId) (n : Nat) : Bool := match P.info? E with
  | some i => match i.zero with
    | some z => i.size == n && decide (i.bytes ≤ 65536) && z.cells.size == n
    | none => false
  | none => false
theorem elem_of {P : Program} {E : TypeId} {e : Ty} (h : elemB P E e.wd = true) : ElemInfo P E e := by
  unfold elemB at h
  cases hi : P.info? E with
  | none => rw [hi] at h; cases h
  | some i =>
    rw [hi] at h
    simp only at h
    cases hz : i.zero with
    | none => rw [hz] at h; cases h
    | some z =>
      rw [hz] at h
      simp only [Bool.and_eq_true, beq_iff_eq, decide_eq_true_eq] at h
      exact ⟨i, z, hi, hz, h.1.1, h.1.2, h.2⟩

section
variable {E : TypeId} {e : Ty} {w : World}
theorem Own.row {fp : List Nat} {v : Value} {xs : List e.Den} (h : Own (.sl E e) w fp [v] xs) : ∃ cs fps, w.ownsRow 0 E e.wd v xs.length cs ∧ OwnL (Own e w) fps cs xs ∧ ((v.ownBlock = none ∧ fp = [] ∧ fps = []) ∨ ∃ g, v.ownBlock = some g ∧ fp = g :: fps) := by
  rcases h with ⟨rfl, h, h'⟩ | ⟨g, cap, cur, fps, rfl, h1, h2, h3, h4, h5, h6⟩
  · subst h'
    simp only [List.cons.injEq, and_true] at h
    subst h
    exact ⟨[], [], World.ownsRow_nil _ _ _ _, ⟨rfl, rfl⟩, .inl ⟨rfl, rfl, rfl⟩⟩
  · simp only [List.cons.injEq, and_true] at h1
    subst h1
    refine ⟨_, fps, ⟨?_, .inr ⟨g, cap, cur, rfl, Nat.zero_le _, h2, h3, h4, h5, rfl⟩⟩, h6, .inr ⟨g, rfl, rfl⟩⟩
    exact h6.len
theorem Own.of_row {fps : List Nat} {v : Value} {cs : List Value} {xs : List e.Den} {n : Nat} (hn : n = xs.length) (h : w.ownsRow 0 E e.wd v n cs) (ho : OwnL (Own e w) fps cs xs) :
    ∃ fp, Own (.sl E e) w fp [v] xs ∧ ((v.ownBlock = none ∧ fp = fps) ∨ ∃ g, v.ownBlock = some g ∧ fp = g :: fps) := by
  subst hn
  rcases h.2 with ⟨rfl, h0⟩ | ⟨g, cap, cur, rfl, _, h2, h3, h4, h5, h6⟩
  · obtain rfl := List.eq_nil_of_length_eq_zero h0
    obtain ⟨rfl, _⟩ := ho
    exact ⟨[], .inl ⟨rfl, rfl, rfl⟩, .inl ⟨rfl, rfl⟩⟩
  · exact ⟨g :: fps, .inr ⟨g, cap, cur, fps, rfl, rfl, h2, h3, h4, h5, by rw [h6]; exact ho⟩, .inr ⟨g, rfl, rfl⟩⟩

theorem OwnL.one {fp : List Nat} : ∀ {xs : List e.Den} {fp : List Nat} {cs : List Value}, OwnL (Own e w) fp cs xs → ∀ u ∈ cs, u.oneCell' = true
  | [], _, _, h => by rw [h.2]; simp
  | _ :: _, _, _, ⟨_, _, _, _, _, h2, h3, h4⟩ => by
    intro u hu
    rw [h2] at hu
    rcases List.mem_append.1 hu with hu | hu
    · exact Rep.one h3.rep u hu
    · exact OwnL.one (fp := []) h4 u hu
theorem OwnL.lt {xs : List e.Den} {fp : List Nat} {cs : List Value} (h : OwnL (Own e w) fp cs xs) : ∀ g ∈ fp, g < w.heap.size := by
  induction xs generalizing fp cs with
  | nil => rw [h.1]; simp
  | cons x xs ih =>
    obtain ⟨f1, f2, c1, c2, rfl, rfl, h3, h4⟩ := h
    intro g hg
    rcases List.mem_append.1 hg with hg | hg
    · exact Own.lt h3 g hg
    · exact ih h4 g hg

variable {P : Program}
/-- The law: onto an owned slice; what is appended lies at 'ad', and owns what it leads to. -/
theorem run_app (t ty : TypeId) (ht : P.underlying t = some (.slice E)) (he : ElemInfo P E e) {B M U : Nat} {v : Value} {xs ys : List e.Den} (h : Frs (.sl E e) B M w [v] xs)
    (ad : Addr) (m c : Nat) (news : List Value) (hm : m = ys.length) (hn : FrsL e M U w news ys) (src : ∀ j u, news[j]? = some u → w.cell? (ad.add j) = some u)
    (hb : xs.length + ys.length ≤ 1073741824) (hM : M ≤ w.heap.size) (hBM : B ≤ M) (hU : U ≤ w.heap.size) :
    ∃ v' w', (Builtin.append_ #[t, t] ty #[v, .slice (some ad) m c]).run P w = .ok v' w' ∧ Frs (.sl E e) B w'.heap.size w' [v'] (xs ++ ys) ∧ Mw B M w w' := by
  obtain ⟨fp, h1, h2, h3⟩ := h
  obtain ⟨fn, n1, n2, n3⟩ := hn
  obtain ⟨cs, fps, r1, r2, r3⟩ := h1.row
  obtain ⟨i, z, i1, i2, i3, i4, i5⟩ := he
  have hbm : (xs.length + m) * i.bytes ≤ 140737488355328 := by
    calc (xs.length + m) * i.bytes ≤ 1073741824 * 65536 := Nat.mul_le_mul (by omega) i4
      _ ≤ 140737488355328 := by decide
  obtain ⟨v', w', a1, a2, a3, a4, a5⟩ := run_append_own_at (P := P) (w := w) 0 t ty E i z e.wd i.bytes ht i1 i2 i3 rfl i5 (Ty.wd_pos e) v xs.length cs r1 ad m c news (by rw [hm]; exact n1.len) src (OwnL.one (fp := []) n1) (by unfold maxLen; omega) hbm (Nat.zero_le _)
  have hvb : ∀ g, v.ownBlock = some g → g ∈ fp := fun g hg => by
    rcases r3 with ⟨h0, _⟩ | ⟨g', h0, h'⟩
    · rw [h0] at hg; cases hg
    · rw [h0] at hg; cases hg; rw [h']; exact List.mem_cons_self ..
  have hfps : ∀ g ∈ fps, g ∈ fp ∧ v.ownBlock ≠ some g := fun g hg => by
    rcases r3 with ⟨_, _, h0⟩ | ⟨g', h0, h'⟩
    · rw [h0] at hg; cases hg
    · rw [h'] at h2 ⊢
      refine ⟨List.mem_cons_of_mem _ hg, ?_⟩
      rw [h0]
      rintro h9
      cases h9
      exact (List.nodup_cons.1 h2).1 hg
  have hfn : ∀ g ∈ fn, v.ownBlock ≠ some g := fun g hg h9 => by
    have := h3 g (hvb g h9)
    have := n3 g hg
    omega
  have hnd : (fps ++ fn).Nodup := by
    have hf : fps.Nodup := by
      rcases r3 with ⟨_, _, h0⟩ | ⟨g', h0, h'⟩
      · rw [h0]; exact List.nodup_nil
      · rw [h'] at h2; exact (List.nodup_cons.1 h2).2
    exact nodup_append_of hf n2 (fun g hg => (h3 g (hfps g hg).1).2) (fun g hg => (n3 g hg).1)
  have k1 : OwnL (Own e w') fps cs xs := r2.mono fun f c x hf ho => ho.keep fun g hg => a3.block g (by have := h3 g (hfps g (hf g hg)).1; omega) fun h9 => (hfps g (hf g hg)).2 h9.symm
  have k2 : OwnL (Own e w') fn news ys := n1.mono fun f c x hf ho => ho.keep fun g hg => a3.block g (by have := n3 g (hf g hg); omega) fun h9 => hfn g (hf g hg) h9.symm
  obtain ⟨fp', o1, o2⟩ := Own.of_row (by rw [List.length_append, hm]) a2 (k1.append k2)
  refine ⟨v', w', a1, ⟨fp', o1, ?_, ?_⟩, ⟨a3.os, a3.tape, a3.output, a3.size, fun k hk hx => a3.block k hk fun h9 => ?_⟩⟩
  · rcases o2 with ⟨_, rfl⟩ | ⟨g, hg, rfl⟩
    · exact hnd
    · refine List.nodup_cons.2 ⟨fun hin => ?_, hnd⟩
      rcases List.mem_append.1 hin with hin | hin
      · rcases a5 with a5 | a5
        · exact (hfps g hin).2 (by rw [← a5]; exact hg)
        · rw [hg] at a5; cases a5
          have := h3 _ (hfps _ hin).1; omega
      · rcases a5 with a5 | a5
        · exact hfn g hin (by rw [← a5]; exact hg)
        · rw [hg] at a5; cases a5
          have := n3 _ hin; omega
  · intro g hg
    refine ⟨?_, Own.lt o1 g hg⟩
    have hrest : ∀ g ∈ fps ++ fn, B ≤ g := fun g hin => by
      rcases List.mem_append.1 hin with hin | hin
      · exact (h3 g (hfps g hin).1).1
      · have := n3 g hin; omega
    rcases o2 with ⟨_, rfl⟩ | ⟨g', hg', rfl⟩
    · exact hrest g hg
    · rcases List.mem_cons.1 hg with rfl | hg
      · rcases a5 with a5 | a5
        · exact (h3 g (hvb g (by rw [← a5]; exact hg'))).1
        · rw [hg'] at a5; cases a5; omega
      · exact hrest g hg
  · have := h3 k (hvb k h9.symm)
    omega

theorem wp_app {o : Oper} {a : Act} {K : Act → World → Prop} {Q : Exit → Act → World → Prop} (s x : Operand) (t : TypeId) (ho : o.op = .call { callee := .builtin .append, args := #[s, x], argTypes := #[t, t] })
    (ht : P.underlying t = some (.slice E)) (he : ElemInfo P E e) {B M U : Nat} {v : Value} {xs ys : List e.Den} (hs : a.eval s = v) (h : Frs (.sl E e) B M w [v] xs)
    (ad : Addr) (m c : Nat) (news : List Value) (hx : a.eval x = .slice (some ad) m c) (hm : m = ys.length) (hn : FrsL e M U w news ys) (src : ∀ j u, news[j]? = some u → w.cell? (ad.add j) = some u)
    (hb : xs.length + ys.length ≤ 1073741824) (hM : M ≤ w.heap.size) (hBM : B ≤ M) (hU : U ≤ w.heap.size)
    (next : ∀ v' w', Frs (.sl E e) B w'.heap.size w' [v'] (xs ++ ys) → Mw B M w w' → K (a.put o.dst v') w') : o.wp P a w K Q := by
  obtain ⟨v', w', hr, h2, h3⟩ := run_app (P := P) t o.type ht he h ad m c news hm hn src hb hM hBM hU
  unfold Oper.wp execOp
  simp only [ho, resolve, invoke, builtin, Sem.run_bind, Sem.run_pure, Result.andThen_ok, List.map_toArray, List.map_cons, List.map_nil, hs, hx, hr]
  exact next v' w' h2 h3
theorem wpList_app {ops : Array Oper} {rest : List Oper} {o : Oper} {a : Act} {Q : Exit → Act → World → Prop} (hgd : o.guard = none) (s x : Operand) (t : TypeId) (ho : o.op = .call { callee := .builtin .append, args := #[s, x], argTypes := #[t, t] })
    (ht : P.underlying t = some (.slice E)) (he : ElemInfo P E e) {B M U : Nat} {v : Value} {xs ys : List e.Den} (hs : a.eval s = v) (h : Frs (.sl E e) B M w [v] xs)
    (ad : Addr) (m c : Nat) (news : List Value) (hx : a.eval x = .slice (some ad) m c) (hm : m = ys.length) (hn : FrsL e M U w news ys) (src : ∀ j u, news[j]? = some u → w.cell? (ad.add j) = some u)
    (hb : xs.length + ys.length ≤ 1073741824) (hM : M ≤ w.heap.size) (hBM : B ≤ M) (hU : U ≤ w.heap.size)
    (next : ∀ v' w', Frs (.sl E e) B w'.heap.size w' [v'] (xs ++ ys) → Mw B M w w' → wpList P ops Q rest (a.put o.dst v') w') : wpList P ops Q (o :: rest) a w :=
  wpList_plain hgd fun _ hK => wp_app s x t ho ht he hs h ad m c news hx hm hn src hb hM hBM hU fun v' w' h2 h3 => hK _ _ (next v' w' h2 h3)
theorem step_app {ops : Array Oper} {o : Oper} {a : Act} {K : Act → World → Prop} {Q : Exit → Act → World → Prop} {G : Prop} (hgd : o.guard = none) (s x : Operand) (t : TypeId) (ho : o.op = .call { callee := .builtin .append, args := #[s, x], argTypes := #[t, t] })
    (ht : P.underlying t = some (.slice E)) (he : ElemInfo P E e) {B M U : Nat} {v : Value} {xs ys : List e.Den} (hs : a.eval s = v) (h : Frs (.sl E e) B M w [v] xs)
    (ad : Addr) (m c : Nat) (news : List Value) (hx : a.eval x = .slice (some ad) m c) (hm : m = ys.length) (hn : FrsL e M U w news ys) (src : ∀ j u, news[j]? = some u → w.cell? (ad.add j) = some u)
    (hb : xs.length + ys.length ≤ 1073741824) (hM : M ≤ w.heap.size) (hBM : B ≤ M) (hU : U ≤ w.heap.size)
    (next : ∀ v' w', Frs (.sl E e) B w'.heap.size w' [v'] (xs ++ ys) → Mw B M w w' → K (a.put o.dst v') w') : if Region.wanted o (yielded ops a.tmps) = true then Oper.wp P o a w K Q else G := by
  rw [if_pos (by simp [Region.wanted, hgd])]
  exact wp_app s x t ho ht he hs h ad m c news hx hm hn src hb hM hBM hU next

/-! ### What is appended: one element that lies in a block of its own; all elements of a flat slice -/
theorem Frs.toL {B U : Nat} {cs : List Value} {x : e.Den} (h : Frs e B U w cs x) : FrsL e B U w cs [x] := by
  obtain ⟨fp, h1, h2, h3⟩ := h
  exact ⟨fp, OwnL.single h1, h2, h3⟩
def Ty.flat : Ty → Bool
  | .pr a b => a.flat && b.flat
  | .sl _ _ => false
  | _ => true
theorem Rep.own : ∀ {t : Ty} {w : World} {cs : List Value} {x : t.Den}, Rep t w cs x → t.flat = true → Own t w [] cs x
  | .int, _, _, _, h, _ => ⟨rfl, h⟩
  | .bool, _, _, _, h, _ => ⟨rfl, h⟩
  | .str, _, _, _, h, _ => ⟨rfl, h⟩
  | .u8, _, _, _, h, _ => ⟨rfl, h⟩
  | .sl _ _, _, _, _, _, h => by cases h
  | .pr a b, _, _, _, ⟨l, r, h, h1, h2⟩, hf => by
    simp only [Ty.flat, Bool.and_eq_true] at hf
    exact ⟨[], [], l, r, rfl, h, Rep.own h1 hf.1, Rep.own h2 hf.2⟩
theorem flat_cells (hf : e.flat = true) (b : Nat) : ∀ (ys : List e.Den) (o : Nat), (∀ i x, ys[i]? = some x → ∃ ds, Rep e w ds x ∧ ∀ j u, ds[j]? = some u → w.cell? ⟨b, o + i * e.wd + j, none⟩ = some u) →
    ∃ news, OwnL (Own e w) [] news ys ∧ ∀ j u, news[j]? = some u → w.cell? ⟨b, o + j, none⟩ = some u
  | [], _, _ => ⟨[], ⟨rfl, rfl⟩, by simp⟩
  | y :: ys, o, h => by
    obtain ⟨ds, h1, h2⟩ := h 0 y rfl
    obtain ⟨news, h3, h4⟩ := flat_cells hf b ys (o + e.wd) (fun i x hx => by
      obtain ⟨ds', h5, h6⟩ := h (i + 1) x hx
      refine ⟨ds', h5, fun j u hu => ?_⟩
      rw [← h6 j u hu]
      congr 2
      rw [Nat.add_mul]
      omega)
    refine ⟨ds ++ news, ⟨[], [], ds, news, rfl, rfl, h1.own hf, h3⟩, fun j u hu => ?_⟩
    by_cases hj : j < ds.length
    · rw [List.getElem?_append_left hj] at hu
      have := h2 j u hu
      simpa using this
    · rw [List.getElem?_append_right (by omega)] at hu
      rw [← h4 _ _ hu]
      congr 2
      have := h1.len
      omega
theorem Rep.src {A : Option Addr} {n c M : Nat} {ys : List e.Den} (hr : Rep (.sl E e) w [.slice A n c] ys) (hf : e.flat = true) : n = ys.length ∧ ((A = none ∧ n = 0) ∨ ∃ ad news, A = some ad ∧ FrsL e M M w news ys ∧ ∀ j u, news[j]? = some u → w.cell? (ad.add j) = some u) := by
  obtain ⟨A', c', h1, h2, h3, h4⟩ := hr
  simp only [List.cons.injEq, Value.slice.injEq, and_true] at h1
  obtain ⟨rfl, rfl, rfl⟩ := h1
  refine ⟨rfl, ?_⟩
  rcases Nat.eq_zero_or_pos ys.length with h0 | hp
  · cases A with
    | none => exact .inl ⟨rfl, h0⟩
    | some ad =>
      obtain rfl := List.eq_nil_of_length_eq_zero h0
      exact .inr ⟨ad, [], rfl, ⟨[], ⟨rfl, rfl⟩, List.nodup_nil, by simp⟩, by simp⟩
  · obtain ⟨b, o, rfl, h5⟩ := h4 hp
    obtain ⟨news, h6, h7⟩ := flat_cells hf b ys o h5
    exact .inr ⟨⟨b, o, none⟩, news, rfl, ⟨[], h6, List.nodup_nil, by simp⟩, fun j u hu => by rw [Addr.add_lit]; exact h7 j u hu⟩

/-- From a flat slice, whatever it is: nil, empty, of any length. -/
theorem run_app_flat (t ty : TypeId) (ht : P.underlying t = some (.slice E)) (he : ElemInfo P E e) (hf : e.flat = true) {B M : Nat} {v u : Value} {xs ys : List e.Den} (h : Frs (.sl E e) B M w [v] xs)
    (hr : Rep (.sl E e) w [u] ys) (hb : xs.length + ys.length ≤ 1073741824) (hM : M ≤ w.heap.size) (hBM : B ≤ M) :
    ∃ v' w', (Builtin.append_ #[t, t] ty #[v, u]).run P w = .ok v' w' ∧ Frs (.sl E e) B w'.heap.size w' [v'] (xs ++ ys) ∧ Mw B M w w' := by
  obtain ⟨A, c, rfl, hl, hcm⟩ := hr.slv
  obtain ⟨_, h1⟩ := hr.src (M := M) hf
  rcases h1 with ⟨rfl, h0⟩ | ⟨ad, news, rfl, hn, src⟩
  · obtain rfl := List.eq_nil_of_length_eq_zero h0
    obtain ⟨fp, f1, f2, f3⟩ := h
    obtain ⟨cs, fps, r1, r2, r3⟩ := f1.row
    obtain ⟨i, z, i1, i2, i3, i4, i5⟩ := he
    have hrun : (Builtin.append_ #[t, t] ty #[v, .slice none 0 c]).run P w = .ok v w := by
      rcases r1.2 with ⟨rfl, h0⟩ | ⟨g, cap, cur, rfl, _, hgg, hnc, _⟩
      · simp [Builtin.append_, run_underlying ht, sizeOf, typeInfo, i1, Builtin.lenOf, Builtin.firstCells]
      · simp [Builtin.append_, run_underlying ht, sizeOf, typeInfo, i1, Builtin.lenOf, Builtin.firstCells, hnc, storeCells]
    refine ⟨v, w, hrun, ?_, (Nw.refl w).mw _ _⟩
    rw [List.append_nil]
    exact ⟨fp, f1, f2, fun g hg => ⟨(f3 g hg).1, Own.lt f1 g hg⟩⟩
  · exact run_app t ty ht he h ad _ c news rfl hn src hb hM hBM hM
theorem wp_app_flat {o : Oper} {a : Act} {K : Act → World → Prop} {Q : Exit → Act → World → Prop} (s x : Operand) (t : TypeId) (ho : o.op = .call { callee := .builtin .append, args := #[s, x], argTypes := #[t, t] })
    (ht : P.underlying t = some (.slice E)) (he : ElemInfo P E e) (hf : e.flat = true) {B M : Nat} {v u : Value} {xs ys : List e.Den} (hs : a.eval s = v) (h : Frs (.sl E e) B M w [v] xs)
    (hx : a.eval x = u) (hr : Rep (.sl E e) w [u] ys) (hb : xs.length + ys.length ≤ 1073741824) (hM : M ≤ w.heap.size) (hBM : B ≤ M)
    (next : ∀ v' w', Frs (.sl E e) B w'.heap.size w' [v'] (xs ++ ys) → Mw B M w w' → K (a.put o.dst v') w') : o.wp P a w K Q := by
  obtain ⟨v', w', hrn, h2, h3⟩ := run_app_flat (P := P) t o.type ht he hf h hr hb hM hBM
  unfold Oper.wp execOp
  simp only [ho, resolve, invoke, builtin, Sem.run_bind, Sem.run_pure, Result.andThen_ok, List.map_toArray, List.map_cons, List.map_nil, hs, hx, hrn]
  exact next v' w' h2 h3
theorem wpList_app_flat {ops : Array Oper} {rest : List Oper} {o : Oper} {a : Act} {Q : Exit → Act → World → Prop} (hgd : o.guard = none) (s x : Operand) (t : TypeId) (ho : o.op = .call { callee := .builtin .append, args := #[s, x], argTypes := #[t, t] })
    (ht : P.underlying t = some (.slice E)) (he : ElemInfo P E e) (hf : e.flat = true) {B M : Nat} {v u : Value} {xs ys : List e.Den} (hs : a.eval s = v) (h : Frs (.sl E e) B M w [v] xs)
    (hx : a.eval x = u) (hr : Rep (.sl E e) w [u] ys) (hb : xs.length + ys.length ≤ 1073741824) (hM : M ≤ w.heap.size) (hBM : B ≤ M)
    (next : ∀ v' w', Frs (.sl E e) B w'.heap.size w' [v'] (xs ++ ys) → Mw B M w w' → wpList P ops Q rest (a.put o.dst v') w') : wpList P ops Q (o :: rest) a w :=
  wpList_plain hgd fun _ hK => wp_app_flat s x t ho ht he hf hs h hx hr hb hM hBM fun v' w' h2 h3 => hK _ _ (next v' w' h2 h3)
theorem step_app_flat {ops : Array Oper} {o : Oper} {a : Act} {K : Act → World → Prop} {Q : Exit → Act → World → Prop} {G : Prop} (hgd : o.guard = none) (s x : Operand) (t : TypeId) (ho : o.op = .call { callee := .builtin .append, args := #[s, x], argTypes := #[t, t] })
    (ht : P.underlying t = some (.slice E)) (he : ElemInfo P E e) (hf : e.flat = true) {B M : Nat} {v u : Value} {xs ys : List e.Den} (hs : a.eval s = v) (h : Frs (.sl E e) B M w [v] xs)
    (hx : a.eval x = u) (hr : Rep (.sl E e) w [u] ys) (hb : xs.length + ys.length ≤ 1073741824) (hM : M ≤ w.heap.size) (hBM : B ≤ M)
    (next : ∀ v' w', Frs (.sl E e) B w'.heap.size w' [v'] (xs ++ ys) → Mw B M w w' → K (a.put o.dst v') w') : if Region.wanted o (yielded ops a.tmps) = true then Oper.wp P o a w K Q else G := by
  rw [if_pos (by simp [Region.wanted, hgd])]
  exact wp_app_flat s x t ho ht he hf hs h hx hr hb hM hBM next
/-- '[]T{}'. -/
theorem Frs.empty (w : World) (E : TypeId) (e : Ty) : Frs (.sl E e) w.heap.size (w.heap.size + 1) (w.alloc (.cells #[] E)) [.slice (some ⟨w.heap.size, 0, none⟩) 0 0] [] :=
  ⟨[w.heap.size], .inr ⟨w.heap.size, 0, #[], [], rfl, rfl, heap_alloc_new w _, Nat.le_refl _, Nat.zero_le _, by simp, by simpa using ⟨rfl, rfl⟩⟩, by simp, by simp⟩
end
end Go.Proofs.Ytbelopdphlllnaa
