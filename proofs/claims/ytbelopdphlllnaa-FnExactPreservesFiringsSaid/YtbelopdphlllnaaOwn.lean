/- Memory that a call has made: which blocks a datum lies in; slices that are filled element by element. No program is named here. -/
import Derived.Test.YtbelopdphlllnaaBase
namespace Go.Proofs.Ytbelopdphlllnaa
open Go.RowKit

/-- The elements xs lie one behind the other in 'cs'; what they lead to lies in the blocks fp, element by element. -/
def OwnL {α : Type} (O : List Nat → List Value → α → Prop) : List Nat → List Value → List α → Prop
  | fp, cs, [] => fp = [] ∧ cs = []
  | fp, cs, x :: xs => ∃ f1 f2 c1 c2, fp = f1 ++ f2 ∧ cs = c1 ++ c2 ∧ O f1 c1 x ∧ OwnL O f2 c2 xs

/-- 'cs' reads as x, and all that it leads to lies in the blocks fp, each block one slice's own, from its head on, not frozen. -/
def Own : (t : Ty) → World → List Nat → List Value → t.Den → Prop
  | .int, _, fp, cs, x => fp = [] ∧ cs = [.int .i64 x] ∧ -9223372036854775808 ≤ x ∧ x ≤ 9223372036854775807
  | .bool, _, fp, cs, x => fp = [] ∧ cs = [.bool x]
  | .str, _, fp, cs, x => fp = [] ∧ cs = [.string x] ∧ x.size ≤ maxLen
  | .u8, _, fp, cs, x => fp = [] ∧ cs = [.int .u8 x.toNat]
  | .sl E e, w, fp, cs, xs => (fp = [] ∧ cs = [.slice none 0 0] ∧ xs = []) ∨
      ∃ g cap cur fps, fp = g :: fps ∧ cs = [.slice (some ⟨g, 0, none⟩) xs.length cap] ∧ w.heap[g]? = some (.cells cur E (0, 0)) ∧ xs.length ≤ cap ∧ cap ≤ maxLen ∧ cur.size = cap * e.wd ∧
        OwnL (Own e w) fps (cur.toList.take (xs.length * e.wd)) xs
  | .pr a b, w, fp, cs, x => ∃ f1 f2 l r, fp = f1 ++ f2 ∧ cs = l ++ r ∧ Own a w f1 l x.1 ∧ Own b w f2 r x.2

theorem OwnL.mono {α : Type} {O O' : List Nat → List Value → α → Prop} : ∀ {xs : List α} {fp : List Nat} {cs : List Value}, OwnL O fp cs xs →
    (∀ f c x, (∀ g ∈ f, g ∈ fp) → O f c x → O' f c x) → OwnL O' fp cs xs
  | [], _, _, h, _ => h
  | _ :: _, _, _, ⟨f1, f2, c1, c2, h1, h2, h3, h4⟩, k => ⟨f1, f2, c1, c2, h1, h2, k _ _ _ (fun g hg => by rw [h1]; exact List.mem_append_left _ hg) h3,
      OwnL.mono h4 fun f c x hf ho => k f c x (fun g hg => by rw [h1]; exact List.mem_append_right _ (hf g hg)) ho⟩

theorem OwnL.append {α : Type} {O : List Nat → List Value → α → Prop} : ∀ {xs ys : List α} {f1 f2 : List Nat} {c1 c2 : List Value}, OwnL O f1 c1 xs → OwnL O f2 c2 ys → OwnL O (f1 ++ f2) (c1 ++ c2) (xs ++ ys)
  | [], _, _, _, _, _, ⟨h1, h2⟩, k => by rw [h1, h2]; exact k
  | _ :: _, _, _, _, _, _, ⟨a, b, c, d, h1, h2, h3, h4⟩, k => ⟨a, b ++ _, c, d ++ _, by rw [h1, List.append_assoc], by rw [h2, List.append_assoc], h3, OwnL.append h4 k⟩

theorem OwnL.single {α : Type} {O : List Nat → List Value → α → Prop} {f : List Nat} {c : List Value} {x : α} (h : O f c x) : OwnL O f c [x] :=
  ⟨f, [], c, [], by simp, by simp, h, rfl, rfl⟩

theorem Own.len : ∀ {t : Ty} {w : World} {fp : List Nat} {cs : List Value} {x : t.Den}, Own t w fp cs x → cs.length = t.wd
  | .int, _, _, _, _, h => by rw [h.2.1]; rfl
  | .bool, _, _, _, _, h => by rw [h.2]; rfl
  | .str, _, _, _, _, h => by rw [h.2.1]; rfl
  | .u8, _, _, _, _, h => by rw [h.2]; rfl
  | .sl _ _, _, _, _, _, h => by rcases h with ⟨_, h, _⟩ | ⟨_, _, _, _, _, h, _⟩ <;> rw [h] <;> rfl
  | .pr _ _, _, _, _, _, ⟨_, _, _, _, _, h, h1, h2⟩ => by rw [h, List.length_append, Own.len h1, Own.len h2]

theorem OwnL.len {e : Ty} {w : World} : ∀ {xs : List e.Den} {fp : List Nat} {cs : List Value}, OwnL (Own e w) fp cs xs → cs.length = xs.length * e.wd
  | [], _, _, h => by rw [h.2]; simp
  | _ :: xs, _, _, ⟨_, _, _, _, _, h2, h3, h4⟩ => by rw [h2, List.length_append, h3.len, h4.len, List.length_cons, Nat.add_mul, Nat.one_mul, Nat.add_comm]

/-- It stays where its blocks are not written. -/
theorem Own.keep : ∀ {t : Ty} {w w' : World} {fp : List Nat} {cs : List Value} {x : t.Den}, Own t w fp cs x → (∀ g ∈ fp, w'.heap[g]? = w.heap[g]?) → Own t w' fp cs x
  | .int, _, _, _, _, _, h, _ => h
  | .bool, _, _, _, _, _, h, _ => h
  | .str, _, _, _, _, _, h, _ => h
  | .u8, _, _, _, _, _, h, _ => h
  | .sl _ _, _, _, _, _, _, h, k => by
      rcases h with h | ⟨g, cap, cur, fps, rfl, h1, h2, h3, h4, h5, h6⟩
      · exact .inl h
      · exact .inr ⟨g, cap, cur, fps, rfl, h1, (k g (List.mem_cons_self ..)).trans h2, h3, h4, h5, OwnL.mono h6 fun f c x hf ho => Own.keep ho fun g hg => k g (List.mem_cons_of_mem _ (hf g hg))⟩
  | .pr _ _, _, _, _, _, _, ⟨f1, f2, l, r, h, h1, h2, h3⟩, k => ⟨f1, f2, l, r, h, h1, Own.keep h2 fun g hg => k g (by rw [h]; exact List.mem_append_left _ hg), Own.keep h3 fun g hg => k g (by rw [h]; exact List.mem_append_right _ hg)⟩

theorem Own.lt : ∀ {t : Ty} {w : World} {fp : List Nat} {cs : List Value} {x : t.Den}, Own t w fp cs x → ∀ g ∈ fp, g < w.heap.size
  | .int, _, _, _, _, h => by rw [h.1]; simp
  | .bool, _, _, _, _, h => by rw [h.1]; simp
  | .str, _, _, _, _, h => by rw [h.1]; simp
  | .u8, _, _, _, _, h => by rw [h.1]; simp
  | .sl e E, w, _, _, _, h => by
      rcases h with h | ⟨g, cap, cur, fps, rfl, h1, h2, h3, h4, h5, h6⟩
      · rw [h.1]; simp
      · intro g' hg'
        rcases List.mem_cons.1 hg' with rfl | hg'
        · rcases Nat.lt_or_ge g' w.heap.size with hlt | hge
          · exact hlt
          · rw [Array.getElem?_eq_none hge] at h2; cases h2
        · clear h1 h3 h5
          generalize List.take _ _ = cs at h6
          revert h6 hg'
          clear h2 h4
          rename_i xs
          induction xs generalizing fps cs with
          | nil => intro hg' h6; rw [h6.1] at hg'; cases hg'
          | cons x xs ih =>
            rintro hg' ⟨a, b, c, d, rfl, rfl, h7, h8⟩
            rcases List.mem_append.1 hg' with hg' | hg'
            · exact Own.lt h7 _ hg'
            · exact ih b (List.mem_cons_of_mem _ hg') d hg' h8
  | .pr _ _, _, _, _, _, ⟨f1, f2, l, r, h, h1, h2, h3⟩ => by
      intro g hg
      rw [h] at hg
      rcases List.mem_append.1 hg with hg | hg
      · exact Own.lt h2 _ hg
      · exact Own.lt h3 _ hg

theorem OwnL.get {e : Ty} {w : World} : ∀ {xs : List e.Den} {fp : List Nat} {cs : List Value}, OwnL (Own e w) fp cs xs → ∀ i x, xs[i]? = some x → ∃ f ds, Own e w f ds x ∧ (∀ g ∈ f, g ∈ fp) ∧ ∀ j u, ds[j]? = some u → cs[i * e.wd + j]? = some u
  | [], _, _, _, i, x, hx => by simp at hx
  | y :: xs, _, _, ⟨a, b, c, d, h1, h2, h3, h4⟩, i, x, hx => by
      cases i with
      | zero =>
        simp at hx
        subst hx
        refine ⟨a, c, h3, fun g hg => by rw [h1]; exact List.mem_append_left _ hg, fun j u hu => ?_⟩
        rw [h2, Nat.zero_mul, Nat.zero_add, List.getElem?_append_left (List.getElem?_eq_some_iff.1 hu).1]
        exact hu
      | succ i =>
        obtain ⟨f, ds, h5, h6, h7⟩ := OwnL.get h4 i x (by simpa using hx)
        refine ⟨f, ds, h5, fun g hg => by rw [h1]; exact List.mem_append_right _ (h6 g hg), fun j u hu => ?_⟩
        rw [h2, List.getElem?_append_right (by rw [h3.len, Nat.add_mul]; omega), ← h7 j u hu, h3.len, Nat.add_mul]
        congr 1
        omega

/-- What is owned reads. -/
theorem Own.rep : ∀ {t : Ty} {w : World} {fp : List Nat} {cs : List Value} {x : t.Den}, Own t w fp cs x → Rep t w cs x
  | .int, _, _, _, _, h => h.2
  | .bool, _, _, _, _, h => h.2
  | .str, _, _, _, _, h => h.2
  | .u8, _, _, _, _, h => h.2
  | .sl _ e, w, _, _, xs, h => by
      rcases h with ⟨_, h, h'⟩ | ⟨g, cap, cur, fps, rfl, h1, h2, h3, h4, h5, h6⟩
      · subst h'
        exact ⟨none, 0, h, Nat.le_refl _, Nat.zero_le _, fun h => absurd h (by simp)⟩
      · refine ⟨_, cap, h1, h3, h4, fun _ => ⟨g, 0, rfl, fun i x hx => ?_⟩⟩
        obtain ⟨f, ds, h7, _, h8⟩ := h6.get i x hx
        refine ⟨ds, Own.rep h7, fun j u hu => ?_⟩
        have h9 := h8 j u hu
        rw [List.getElem?_take] at h9
        split at h9
        · simp only [World.cell?, h2]
          simpa using h9
        · cases h9
  | .pr _ _, _, _, _, _, ⟨f1, f2, l, r, h, h1, h2, h3⟩ => ⟨l, r, h1, Own.rep h2, Own.rep h3⟩

theorem Rep.one : ∀ {t : Ty} {w : World} {cs : List Value} {x : t.Den}, Rep t w cs x → ∀ v ∈ cs, v.oneCell' = true
  | .int, _, _, _, h => by rw [h.1]; simp [Value.oneCell']
  | .bool, _, _, _, h => by have h : _ = _ := h; rw [h]; simp [Value.oneCell']
  | .str, _, _, _, h => by rw [h.1]; simp [Value.oneCell']
  | .u8, _, _, _, h => by have h : _ = _ := h; rw [h]; simp [Value.oneCell']
  | .sl _ _, _, _, _, ⟨_, _, h, _⟩ => by rw [h]; simp [Value.oneCell']
  | .pr _ _, _, _, _, ⟨_, _, h, h1, h2⟩ => by
      intro v hv
      rw [h] at hv
      rcases List.mem_append.1 hv with hv | hv
      · exact Rep.one h1 v hv
      · exact Rep.one h2 v hv
theorem run_store_one {P : Program} (w : World) (a : Addr) (v : Value) (m : Mode) (h : v.oneCell' = true) : (store a v m).run P w = stored P w a v m := run_store P w a v m h
attribute [go_sem] run_store_one

/-! ### Own, between two block numbers -/
/-- Its blocks are all different and lie from B on, below U. -/
def Frs (t : Ty) (B U : Nat) (w : World) (cs : List Value) (x : t.Den) : Prop := ∃ fp, Own t w fp cs x ∧ fp.Nodup ∧ ∀ g ∈ fp, B ≤ g ∧ g < U
def FrsL (e : Ty) (B U : Nat) (w : World) (cs : List Value) (xs : List e.Den) : Prop := ∃ fp, OwnL (Own e w) fp cs xs ∧ fp.Nodup ∧ ∀ g ∈ fp, B ≤ g ∧ g < U

theorem Frs.rep {t : Ty} {B U : Nat} {w : World} {cs : List Value} {x : t.Den} (h : Frs t B U w cs x) : Rep t w cs x := h.choose_spec.1.rep
theorem Frs.mono {t : Ty} {B U B' U' : Nat} {w : World} {cs : List Value} {x : t.Den} (h : Frs t B U w cs x) (hB : B' ≤ B) (hU : U ≤ U') : Frs t B' U' w cs x := by
  obtain ⟨fp, h1, h2, h3⟩ := h
  exact ⟨fp, h1, h2, fun g hg => by have := h3 g hg; omega⟩
theorem Frs.keep {t : Ty} {B U : Nat} {w w' : World} {cs : List Value} {x : t.Den} (h : Frs t B U w cs x) (hk : ∀ g, B ≤ g → g < U → w'.heap[g]? = w.heap[g]?) : Frs t B U w' cs x := by
  obtain ⟨fp, h1, h2, h3⟩ := h
  exact ⟨fp, h1.keep fun g hg => hk g (h3 g hg).1 (h3 g hg).2, h2, h3⟩
theorem FrsL.keep {e : Ty} {B U : Nat} {w w' : World} {cs : List Value} {xs : List e.Den} (h : FrsL e B U w cs xs) (hk : ∀ g, B ≤ g → g < U → w'.heap[g]? = w.heap[g]?) : FrsL e B U w' cs xs := by
  obtain ⟨fp, h1, h2, h3⟩ := h
  exact ⟨fp, h1.mono fun f c x hf ho => ho.keep fun g hg => hk g (h3 g (hf g hg)).1 (h3 g (hf g hg)).2, h2, h3⟩
theorem nodup_append_of {l r : List Nat} {M : Nat} (h1 : l.Nodup) (h2 : r.Nodup) (hl : ∀ g ∈ l, g < M) (hr : ∀ g ∈ r, M ≤ g) : (l ++ r).Nodup :=
  List.nodup_append.2 ⟨h1, h2, fun a ha b hb e => by have := hl a ha; have := hr b hb; omega⟩
theorem Frs.join {a b : Ty} {B M U : Nat} {w : World} {l r : List Value} {x : a.Den} {y : b.Den} (h : Frs a B M w l x) (k : Frs b M U w r y) (hB : B ≤ M) (hU : M ≤ U) : Frs (.pr a b) B U w (l ++ r) (x, y) := by
  obtain ⟨f1, h1, h2, h3⟩ := h
  obtain ⟨f2, k1, k2, k3⟩ := k
  refine ⟨f1 ++ f2, ⟨f1, f2, l, r, rfl, rfl, h1, k1⟩, nodup_append_of h2 k2 (fun g hg => (h3 g hg).2) (fun g hg => (k3 g hg).1), fun g hg => ?_⟩
  rcases List.mem_append.1 hg with hg | hg
  · have := h3 g hg; omega
  · have := k3 g hg; omega
theorem Frs.int {B U : Nat} {w : World} {x : Int} (h : -9223372036854775808 ≤ x ∧ x ≤ 9223372036854775807) : Frs .int B U w [.int .i64 x] x := ⟨[], ⟨rfl, rfl, h⟩, List.nodup_nil, by simp⟩
theorem Frs.bool {B U : Nat} {w : World} {x : Bool} : Frs .bool B U w [.bool x] x := ⟨[], ⟨rfl, rfl⟩, List.nodup_nil, by simp⟩
theorem Frs.str {B U : Nat} {w : World} {x : ByteArray} (h : x.size ≤ maxLen) : Frs .str B U w [.string x] x := ⟨[], ⟨rfl, rfl, h⟩, List.nodup_nil, by simp⟩
theorem Frs.nil {E : TypeId} {e : Ty} {B U : Nat} {w : World} : Frs (.sl E e) B U w [.slice none 0 0] [] := ⟨[], .inl ⟨rfl, rfl, rfl⟩, List.nodup_nil, by simp⟩

/-! ### A slice that is filled element by element -/
structure Fill (e : Ty) (E : TypeId) (w0 : World) (g n k : Nat) (w : World) (xs : List e.Den) : Prop where
  nw : Nw w0 w
  base : w0.heap.size ≤ g
  lt : g < w.heap.size
  row : ∃ cur, w.heap[g]? = some (.cells cur E (0, 0)) ∧ cur.size = n * e.wd ∧ FrsL e (g + 1) w.heap.size w (cur.toList.take (k * e.wd)) (xs.take k)

def puts (w : World) (g off : Nat) : List Value → World
  | [] => w
  | v :: vs => puts (w.setCell ⟨g, off, none⟩ v) g (off + 1) vs
theorem puts_size (w : World) (g off : Nat) (vs : List Value) : (puts w g off vs).heap.size = w.heap.size := by
  induction vs generalizing w off with
  | nil => rfl
  | cons v vs ih => simp [puts, ih]
theorem puts_other (w : World) (g off : Nat) (vs : List Value) (k : Nat) (h : k ≠ g) : (puts w g off vs).heap[k]? = w.heap[k]? := by
  induction vs generalizing w off with
  | nil => rfl
  | cons v vs ih =>
    rw [puts, ih]
    exact Below.heap_setCell w ⟨g, off, none⟩ v k h
theorem puts_row (g : Nat) (E : TypeId) (fr : Nat × Nat) (vs : List Value) : ∀ (w : World) (off : Nat) (cur : Array Value), w.heap[g]? = some (.cells cur E fr) → off + vs.length ≤ cur.size →
    ∃ cur', (puts w g off vs).heap[g]? = some (.cells cur' E fr) ∧ cur'.size = cur.size ∧ cur'.toList = cur.toList.take off ++ vs ++ cur.toList.drop (off + vs.length) := by
  induction vs with
  | nil => intro w off cur h _; exact ⟨cur, h, rfl, by simp⟩
  | cons v vs ih =>
    intro w off cur h hl
    simp only [List.length_cons] at hl
    have h1 : (w.setCell ⟨g, off, none⟩ v).heap[g]? = some (.cells (cur.setIfInBounds off v) E fr) := by simp [World.setCell, Array.getElem?_modify, h]
    obtain ⟨cur', h2, h3, h4⟩ := ih (w.setCell ⟨g, off, none⟩ v) (off + 1) (cur.setIfInBounds off v) h1 (by simp; omega)
    refine ⟨cur', h2, by simpa using h3, ?_⟩
    rw [h4]
    have hlt : off < cur.toList.length := by simp; omega
    simp only [Array.toList_setIfInBounds, List.length_cons]
    rw [List.drop_set_of_lt (by omega)]
    have : (cur.toList.set off v).take (off + 1) = cur.toList.take off ++ [v] := by
      rw [List.take_succ_eq_append_getElem (by simpa using hlt), List.take_set_of_le (Nat.le_refl _)]
      simp
    rw [this]
    simp [Nat.add_assoc, Nat.add_comm 1 vs.length]
theorem puts_nw {w0 w : World} (h : Nw w0 w) {g : Nat} (hg : w0.heap.size ≤ g) (off : Nat) (vs : List Value) : Nw w0 (puts w g off vs) := by
  induction vs generalizing w off with
  | nil => exact h
  | cons v vs ih => exact ih (h.setCell (p := ⟨g, off, none⟩) hg v) _

section
variable {e : Ty} {E : TypeId} {w0 w w1 : World} {g n k : Nat} {xs : List e.Den}
theorem Fill.start (w0 : World) (E : TypeId) (cur : Array Value) (n : Nat) (hc : cur.size = n * e.wd) (xs : List e.Den) : Fill e E w0 w0.heap.size n 0 (w0.alloc (.cells cur E)) xs :=
  ⟨(Nw.refl _).alloc _, Nat.le_refl _, by simp, cur, heap_alloc_new w0 _, hc, [], by simpa using ⟨rfl, rfl⟩, List.nodup_nil, by simp⟩
theorem Fill.cell (h : Fill e E w0 g n k w xs) (hq : Nw w w1) (hk : k < n) {j : Nat} (hj : j < e.wd) : ∃ u, w1.cell? ⟨g, k * e.wd + j, none⟩ = some u ∧ w1.frozen? ⟨g, k * e.wd + j, none⟩ = false := by
  obtain ⟨cur, h1, h2, _⟩ := h.row
  have h3 : w1.heap[g]? = some (.cells cur E (0, 0)) := (Below.block hq g h.lt).trans h1
  have h4 : k * e.wd + j < cur.size := by
    rw [h2]
    calc k * e.wd + j < k * e.wd + e.wd := by omega
      _ = (k + 1) * e.wd := by rw [Nat.add_mul, Nat.one_mul]
      _ ≤ n * e.wd := Nat.mul_le_mul_right _ hk
  exact ⟨cur[k * e.wd + j], by simp [World.cell?, h3, h4], by simp [World.frozen?, h3]⟩
theorem Fill.step (h : Fill e E w0 g n k w xs) (hq : Nw w w1) (hk : k < n) {x : e.Den} (hx : xs[k]? = some x) {cs : List Value} (hf : Frs e w.heap.size w1.heap.size w1 cs x) : Fill e E w0 g n (k + 1) (puts w1 g (k * e.wd) cs) xs := by
  obtain ⟨cur, h1, h2, h3⟩ := h.row
  have h4 : w1.heap[g]? = some (.cells cur E (0, 0)) := (Below.block hq g h.lt).trans h1
  have hcl : cs.length = e.wd := by obtain ⟨_, h5, _⟩ := hf; exact h5.len
  have hfit : k * e.wd + cs.length ≤ cur.size := by
    rw [h2, hcl]
    calc k * e.wd + e.wd = (k + 1) * e.wd := by rw [Nat.add_mul, Nat.one_mul]
      _ ≤ n * e.wd := Nat.mul_le_mul_right _ hk
  obtain ⟨cur', h5, h6, h7⟩ := puts_row g E (0, 0) cs w1 (k * e.wd) cur h4 hfit
  have hsz := hq.size
  have hlt := h.lt
  refine ⟨puts_nw (h.nw.trans hq) h.base _ _, h.base, by rw [puts_size]; omega, cur', h5, h6.trans h2, ?_⟩
  have h3' : FrsL e (g + 1) w.heap.size (puts w1 g (k * e.wd) cs) (cur.toList.take (k * e.wd)) (xs.take k) := h3.keep fun g' hg' hg'' => by
    rw [puts_other _ _ _ _ _ (by omega)]
    exact Below.block hq g' hg''
  have hf' : Frs e w.heap.size w1.heap.size (puts w1 g (k * e.wd) cs) cs x := hf.keep fun g' hg' hg'' => puts_other _ _ _ _ _ (by omega)
  obtain ⟨f1, a1, a2, a3⟩ := h3'
  obtain ⟨f2, b1, b2, b3⟩ := hf'
  rw [puts_size]
  refine ⟨f1 ++ f2, ?_, nodup_append_of a2 b2 (fun g hg => (a3 g hg).2) (fun g hg => (b3 g hg).1), fun g' hg' => ?_⟩
  · have e1 : xs.take (k + 1) = xs.take k ++ [x] := by
      have hl := (List.getElem?_eq_some_iff.1 hx)
      rw [List.take_succ_eq_append_getElem hl.1, hl.2]
    have e2 : cur'.toList.take ((k + 1) * e.wd) = cur.toList.take (k * e.wd) ++ cs := by
      have hl : (cur.toList.take (k * e.wd) ++ cs).length = (k + 1) * e.wd := by
        rw [List.length_append, List.length_take, hcl, Nat.add_mul, Nat.one_mul, Nat.min_eq_left (by simp; omega)]
      rw [h7, ← hl, List.take_left]
    rw [e1, e2]
    exact a1.append (OwnL.single b1)
  · rcases List.mem_append.1 hg' with hg' | hg'
    · have := a3 g' hg'; omega
    · have := b3 g' hg'; omega
theorem Fill.done (h : Fill e E w0 g n n w xs) (hn : xs.length = n) (hm : n ≤ maxLen) : Frs (.sl E e) g w.heap.size w [.slice (some ⟨g, 0, none⟩) n n] xs := by
  obtain ⟨cur, h1, h2, fp, h3, h4, h5⟩ := h.row
  subst hn
  rw [List.take_length] at h3
  refine ⟨g :: fp, .inr ⟨g, xs.length, cur, fp, rfl, rfl, h1, Nat.le_refl _, hm, h2, h3⟩, List.nodup_cons.2 ⟨fun hg => by have := h5 g hg; omega, h4⟩, fun g' hg' => ?_⟩
  rcases List.mem_cons.1 hg' with rfl | hg'
  · exact ⟨Nat.le_refl _, h.lt⟩
  · have := h5 g' hg'; omega
end

section
variable {e : Ty} {E : TypeId} {w0 w w1 : World} {g n k : Nat} {xs : List e.Den}
theorem Fill.cells1 (h : Fill e E w0 g n k w xs) (hq : Nw w w1) (hk : k < n) (hw : e.wd = 1) : ∃ u0, w1.cell? ⟨g, k, none⟩ = some u0 ∧ w1.frozen? ⟨g, k, none⟩ = false := by
  obtain ⟨u0, a0, b0⟩ := h.cell hq hk (j := 0) (by omega)
  rw [hw] at a0 b0
  simp only [Nat.mul_one, Nat.add_zero] at a0 b0
  exact ⟨u0, a0, b0⟩
theorem Fill.cells2 (h : Fill e E w0 g n k w xs) (hq : Nw w w1) (hk : k < n) (hw : e.wd = 2) : ∃ u0 u1, w1.cell? ⟨g, k * 2, none⟩ = some u0 ∧ w1.frozen? ⟨g, k * 2, none⟩ = false ∧
    w1.cell? ⟨g, k * 2 + 1, none⟩ = some u1 ∧ w1.frozen? ⟨g, k * 2 + 1, none⟩ = false := by
  obtain ⟨u0, a0, b0⟩ := h.cell hq hk (j := 0) (by omega)
  obtain ⟨u1, a1, b1⟩ := h.cell hq hk (j := 1) (by omega)
  rw [hw] at a0 b0 a1 b1
  exact ⟨u0, u1, a0, b0, a1, b1⟩
end

/-- The blocks from B to U are as they were. -/
def Kb (B U : Nat) (w w' : World) : Prop := ∀ g, B ≤ g → g < U → w'.heap[g]? = w.heap[g]?
section
variable {B U : Nat} {w w' w'' : World}
theorem Kb.refl : Kb B U w w := fun _ _ _ => rfl
theorem Kb.trans (h : Kb B U w w') (k : Kb B U w' w'') : Kb B U w w'' := fun g a b => (k g a b).trans (h g a b)
theorem Kb.setCell (h : Kb B U w w') {p : Addr} (hp : p.block < B ∨ U ≤ p.block) (u : Value) : Kb B U w (w'.setCell p u) := fun g a b => (Below.heap_setCell w' p u g (by omega)).trans (h g a b)
theorem Kb.alloc (h : Kb B U w w') (hU : U ≤ w'.heap.size) (o : Obj) : Kb B U w (w'.alloc o) := fun g a b => (Below.heap_alloc w' o g (by omega)).trans (h g a b)
theorem Kb.drew (h : Kb B U w w') : Kb B U w w'.drew := h
theorem Kb.drewN (h : Kb B U w w') (n : Nat) : Kb B U w (w'.drewN n) := h
theorem Kb.nw (h : Kb B U w w') (hq : Nw w' w'') (hU : U ≤ w'.heap.size) : Kb B U w w'' := fun g a b => (Below.block hq g (by omega)).trans (h g a b)
theorem Kb.setCell2 {p : Addr} {u : Value} (hp : p.block < B ∨ U ≤ p.block) (h : Kb B U w w') : Kb B U w (w'.setCell p u) := h.setCell hp u
theorem Kb.alloc2 {o : Obj} (hU : U ≤ w'.heap.size) (h : Kb B U w w') : Kb B U w (w'.alloc o) := h.alloc hU o
theorem Kb.nw2 (hq : Nw w' w'') (hU : U ≤ w'.heap.size) (h : Kb B U w w') : Kb B U w w'' := h.nw hq hU
end
theorem Frs.kb {t : Ty} {B U : Nat} {w w' : World} {cs : List Value} {x : t.Den} (h : Frs t B U w cs x) (hk : Kb B U w w') : Frs t B U w' cs x := h.keep hk

/-- What a call hands back: new memory of its own. -/
def RetS (E : TypeId) (e : Ty) (w : World) (xs : List e.Den) (n : Ending) (w' : World) : Prop := ∃ A c, n = .returned (.slice A xs.length c) ∧ Frs (.sl E e) w.heap.size w'.heap.size w' [.slice A xs.length c] xs ∧ Nw w w'
def Ret1 (t : Ty) (w : World) (x : t.Den) (e : Ending) (w' : World) : Prop := ∃ u0, e = .returned u0 ∧ Frs t w.heap.size w'.heap.size w' [u0] x ∧ Nw w w'
def Ret2 (t : Ty) (w : World) (x : t.Den) (e : Ending) (w' : World) : Prop := ∃ u0 u1, e = .returned (.agg #[u0, u1]) ∧ Frs t w.heap.size w'.heap.size w' [u0, u1] x ∧ Nw w w'
def Ret3 (t : Ty) (w : World) (x : t.Den) (e : Ending) (w' : World) : Prop := ∃ u0 u1 u2, e = .returned (.agg #[u0, u1, u2]) ∧ Frs t w.heap.size w'.heap.size w' [u0, u1, u2] x ∧ Nw w w'
def Ret4 (t : Ty) (w : World) (x : t.Den) (e : Ending) (w' : World) : Prop := ∃ u0 u1 u2 u3, e = .returned (.agg #[u0, u1, u2, u3]) ∧ Frs t w.heap.size w'.heap.size w' [u0, u1, u2, u3] x ∧ Nw w w'
def Ret5 (t : Ty) (w : World) (x : t.Den) (e : Ending) (w' : World) : Prop := ∃ u0 u1 u2 u3 u4, e = .returned (.agg #[u0, u1, u2, u3, u4]) ∧ Frs t w.heap.size w'.heap.size w' [u0, u1, u2, u3, u4] x ∧ Nw w w'

/-- 'make([]T, n)'. -/
theorem run_make_n {P : Program} (t E : TypeId) (z : Value) (size bytes : Nat) (ht : P.underlying t = some (.slice E)) (hinfo : (P.info? E).map (fun i => (i.zero, i.size, i.bytes)) = some (some z, size, bytes))
    (n : Nat) (hbytes : bytes * n ≤ 281474976710656) (h63 : n ≤ 9223372036854775807) (w : World) :
    (Instr.makeSlice t (.int .i64 (n : Int)) (.int .i64 (n : Int))).run P w = .ok (.slice (some ⟨w.heap.size, 0, none⟩) n n) (w.alloc (.cells (madeCells z.cells (n * size)) E)) := by
  obtain ⟨i, hi, hzz⟩ := Option.map_eq_some_iff.1 hinfo
  simp only [Prod.mk.injEq] at hzz
  obtain ⟨hz, hs, hb⟩ := hzz
  have := run_make (P := P) w t E i z ht hi hz .i64 .i64 n n (by omega) (Int.le_refl _) (by rw [hb]; have hb2 := Int.ofNat_le.2 hbytes; rw [Int.natCast_mul] at hb2; exact hb2) (by omega)
  simpa [hs] using this
end Go.Proofs.Ytbelopdphlllnaa
