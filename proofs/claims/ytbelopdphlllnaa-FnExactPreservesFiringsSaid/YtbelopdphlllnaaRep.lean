/- How Go's data of this program lie in memory: a small universe of types, and what it means that cells read as a datum. No program is named here. -/
import Derived.WalkKit
import Derived.ChangeArms
import Derived.DataReads
import Derived.Deep.Draws
namespace Go.Proofs.Ytbelopdphlllnaa
open Go.RowKit

/-- The types that occur: 'sl E e': a slice of elements e, whose type has the number E; 'pr': the fields of a struct, one behind the other. -/
inductive Ty where
  | int | bool | str | u8
  | sl (E : TypeId) (e : Ty)
  | pr (a b : Ty)

@[reducible] def Ty.Den : Ty → Type
  | .int => Int
  | .bool => Bool
  | .str => ByteArray
  | .u8 => UInt8
  | .sl _ e => List e.Den
  | .pr a b => a.Den × b.Den

@[reducible] def Ty.wd : Ty → Nat
  | .pr a b => a.wd + b.wd
  | .int => 1
  | .bool => 1
  | .str => 1
  | .u8 => 1
  | .sl _ _ => 1

theorem Ty.wd_pos : ∀ t : Ty, 0 < t.wd
  | .int => Nat.one_pos
  | .bool => Nat.one_pos
  | .str => Nat.one_pos
  | .u8 => Nat.one_pos
  | .sl _ _ => Nat.one_pos
  | .pr a _ => Nat.add_pos_left (Ty.wd_pos a) _

def Rep : (t : Ty) → World → List Value → t.Den → Prop
  | .int, _, cs, x => cs = [.int .i64 x] ∧ -9223372036854775808 ≤ x ∧ x ≤ 9223372036854775807
  | .bool, _, cs, x => cs = [.bool x]
  | .str, _, cs, x => cs = [.string x] ∧ x.size ≤ maxLen
  | .u8, _, cs, x => cs = [.int .u8 x.toNat]
  | .sl _ e, w, cs, xs => ∃ A c, cs = [.slice A xs.length c] ∧ xs.length ≤ c ∧ c ≤ maxLen ∧
      (0 < xs.length → ∃ b o, A = some ⟨b, o, none⟩ ∧ ∀ i x, xs[i]? = some x → ∃ ds, Rep e w ds x ∧ ∀ j u, ds[j]? = some u → w.cell? ⟨b, o + i * e.wd + j, none⟩ = some u)
  | .pr a b, w, cs, x => ∃ l r, cs = l ++ r ∧ Rep a w l x.1 ∧ Rep b w r x.2

/-- Every cell of w is in w' as it was. -/
def Kp (w w' : World) : Prop := ∀ a v, w.cell? a = some v → w'.cell? a = some v

theorem Kp.refl (w : World) : Kp w w := fun _ _ h => h
theorem Kp.trans {a b c : World} (h : Kp a b) (k : Kp b c) : Kp a c := fun p v q => k p v (h p v q)
theorem Kp.below {w w' : World} (h : Below w.heap.size w w') : Kp w w' := fun a v e => by
  rw [h.cell (World.block_lt_of_cell? w a e)]; exact e
theorem Kp.alloc (w : World) (o : Obj) : Kp w (w.alloc o) := Kp.below ((Below.refl _ _).alloc (Nat.le_refl _) o)

theorem Rep.len : ∀ {t : Ty} {w : World} {cs : List Value} {x : t.Den}, Rep t w cs x → cs.length = t.wd
  | .int, _, _, _, h => by rw [h.1]; rfl
  | .bool, _, _, _, h => by have h : _ = _ := h; rw [h]; rfl
  | .str, _, _, _, h => by rw [h.1]; rfl
  | .u8, _, _, _, h => by have h : _ = _ := h; rw [h]; rfl
  | .sl _ _, _, _, _, ⟨_, _, h, _⟩ => by rw [h]; rfl
  | .pr _ _, _, _, _, ⟨_, _, h, h1, h2⟩ => by rw [h, List.length_append, Rep.len h1, Rep.len h2]

theorem Rep.kp : ∀ {t : Ty} {w w' : World} {cs : List Value} {x : t.Den}, Rep t w cs x → Kp w w' → Rep t w' cs x
  | .int, _, _, _, _, h, _ => h
  | .bool, _, _, _, _, h, _ => h
  | .str, _, _, _, _, h, _ => h
  | .u8, _, _, _, _, h, _ => h
  | .sl _ _, _, _, _, _, ⟨A, c, h, h1, h2, h3⟩, k => ⟨A, c, h, h1, h2, fun hp => by
      obtain ⟨b, o, e, h4⟩ := h3 hp
      refine ⟨b, o, e, fun i x hx => ?_⟩
      obtain ⟨ds, h5, h6⟩ := h4 i x hx
      exact ⟨ds, Rep.kp h5 k, fun j u hu => k _ _ (h6 j u hu)⟩⟩
  | .pr _ _, _, _, _, _, ⟨l, r, h, h1, h2⟩, k => ⟨l, r, h, Rep.kp h1 k, Rep.kp h2 k⟩

theorem Rep.below {t : Ty} {w w' : World} {cs : List Value} {x : t.Den} (h : Rep t w cs x) (hb : Below w.heap.size w w') : Rep t w' cs x := h.kp (Kp.below hb)
theorem Rep.alloc {t : Ty} {w : World} {cs : List Value} {x : t.Den} (h : Rep t w cs x) (o : Obj) : Rep t (w.alloc o) cs x := h.kp (Kp.alloc w o)
theorem Rep.drew {t : Ty} {w : World} {cs : List Value} {x : t.Den} (h : Rep t w cs x) : Rep t w.drew cs x := h.kp fun _ _ e => e
theorem Rep.drewN {t : Ty} {w : World} {cs : List Value} {x : t.Den} (h : Rep t w cs x) (n : Nat) : Rep t (w.drewN n) cs x := h.kp fun _ _ e => e

/-- A slice opened: its element at i. -/
theorem Rep.slv {E : TypeId} {e : Ty} {w : World} {v : Value} {xs : List e.Den} (h : Rep (.sl E e) w [v] xs) : ∃ A c, v = .slice A xs.length c ∧ xs.length ≤ c ∧ c ≤ maxLen := by
  obtain ⟨A, c, h, h1, h2, _⟩ := h
  exact ⟨A, c, by simpa using h, h1, h2⟩
theorem Rep.at_ {E : TypeId} {e : Ty} {w : World} {A : Option Addr} {n c : Nat} {xs : List e.Den} (h : Rep (.sl E e) w [.slice A n c] xs) {i : Nat} {x : e.Den} (hx : xs[i]? = some x) :
    ∃ b o ds, A = some ⟨b, o, none⟩ ∧ Rep e w ds x ∧ ∀ j u, ds[j]? = some u → w.cell? ⟨b, o + i * e.wd + j, none⟩ = some u := by
  obtain ⟨A', c', h, h1, h2, h3⟩ := h
  simp only [List.cons.injEq, Value.slice.injEq, and_true] at h
  obtain ⟨rfl, rfl, rfl⟩ := h
  have hl : i < xs.length := (List.getElem?_eq_some_iff.1 hx).1
  obtain ⟨b, o, e1, h4⟩ := h3 (by omega)
  obtain ⟨ds, h5, h6⟩ := h4 i x hx
  exact ⟨b, o, ds, e1, h5, h6⟩
/-- 's[k:m]' of a slice. -/
theorem Rep.cut {E : TypeId} {e : Ty} {w : World} {A : Option Addr} {n c : Nat} {xs : List e.Den} (h : Rep (.sl E e) w [.slice A n c] xs) {m : Nat} (hm : m ≤ n) (c' : Nat) (hc : m ≤ c') (hc' : c' ≤ maxLen) :
    Rep (.sl E e) w [.slice A m c'] (xs.take m) := by
  obtain ⟨A', c'', h, h1, h2, h3⟩ := h
  simp only [List.cons.injEq, Value.slice.injEq, and_true] at h
  obtain ⟨rfl, rfl, rfl⟩ := h
  have hl : (xs.take m).length = m := by simp; omega
  refine ⟨A, c', by rw [hl], by omega, hc', fun hp => ?_⟩
  obtain ⟨b, o, e1, h4⟩ := h3 (by omega)
  refine ⟨b, o, e1, fun i x hx => h4 i x ?_⟩
  rw [List.getElem?_take] at hx
  split at hx
  · exact hx
  · cases hx

theorem Rep.int_ {w : World} {v : Value} {x : Int} (h : Rep .int w [v] x) : v = .int .i64 x ∧ -9223372036854775808 ≤ x ∧ x ≤ 9223372036854775807 := ⟨by simpa using h.1, h.2⟩
theorem Rep.bool_ {w : World} {v : Value} {x : Bool} (h : Rep .bool w [v] x) : v = .bool x := by have h : _ = _ := h; simpa using h
theorem Rep.str_ {w : World} {v : Value} {x : ByteArray} (h : Rep .str w [v] x) : v = .string x ∧ x.size ≤ maxLen := ⟨by simpa using h.1, h.2⟩
theorem Rep.pr1 {a b : Ty} {w : World} {v : Value} {cs : List Value} {x : a.Den × b.Den} (h : Rep (.pr a b) w (v :: cs) x) (ha : a.wd = 1) : Rep a w [v] x.1 ∧ Rep b w cs x.2 := by
  obtain ⟨l, r, h, h1, h2⟩ := h
  match l, h1.len.trans ha with
  | [u], _ =>
    simp only [List.cons_append, List.nil_append, List.cons.injEq] at h
    obtain ⟨rfl, rfl⟩ := h
    exact ⟨h1, h2⟩

/-! ### From the form's own reading -/
theorem list_of_lt {α : Type} {n : Nat} {p : Nat → α → Prop} (h : ∀ i, i < n → ∃ d, p i d) : ∃ xs : List α, xs.length = n ∧ ∀ i x, xs[i]? = some x → p i x := by
  induction n with
  | zero => exact ⟨[], rfl, by simp⟩
  | succ n ih =>
    obtain ⟨xs, hxl, hxs⟩ := ih (fun i hil => h i (by omega))
    obtain ⟨d, hd⟩ := h n (by omega)
    refine ⟨xs ++ [d], by simp [hxl], fun i x hx => ?_⟩
    rw [List.getElem?_append] at hx
    split at hx
    · exact hxs i x hx
    · have : i = n := by
        have := (List.getElem?_eq_some_iff.1 hx).1
        simp at this
        omega
      subst this
      simp [hxl] at hx
      subst hx
      exact hd
/-- What the form reads at type T is a datum of t. -/
def Trd (P : Program) (T : TypeId) (t : Ty) : Prop :=
  P.cellsOf T = t.wd ∧ ∀ {H : Type} (enc : TypeId × Value → H) (w : World) (base : Nat) (spare : Nat → Bool) (held : Bool) (fuel : Nat) (cs : List Value) (x : DataW H × List MemPlace),
    DataW.trod enc P w base spare held fuel T cs = some x → ∃ d, Rep t w cs d

section
variable {P : Program} {T : TypeId}
theorem Trd.int (h : P.underlying T = some (.int .i64)) (hc : P.cellsOf T = 1) : Trd P T .int := ⟨hc, fun enc w base spare held fuel cs x hx => by
  obtain ⟨n, rfl, _, hw⟩ := DataW.trod_int h hx
  refine ⟨n, rfl, ?_⟩
  simp [Lit.wf] at hw
  exact ⟨hw.1, hw.2⟩⟩
theorem Trd.bool (h : P.underlying T = some .bool) (hc : P.cellsOf T = 1) : Trd P T .bool := ⟨hc, fun enc w base spare held fuel cs x hx => by
  obtain ⟨b, rfl, _⟩ := DataW.trod_bool h hx
  exact ⟨b, rfl⟩⟩
theorem Trd.str (h : P.underlying T = some .string) (hc : P.cellsOf T = 1) : Trd P T .str := ⟨hc, fun enc w base spare held fuel cs x hx => by
  obtain ⟨s, rfl, _, hs⟩ := DataW.trod_string h hx
  exact ⟨s, rfl, hs⟩⟩
theorem Trd.sl {E : TypeId} {e : Ty} (h : P.underlying T = some (.slice E)) (hc : P.cellsOf T = 1) (he : Trd P E e) : Trd P T (.sl E e) := ⟨hc, fun enc w base spare held fuel cs x hx => by
  rcases DataW.trod_slice h hx with ⟨rfl, _⟩ | ⟨a, len, cap, elems, rest, n, _, rfl, _, _, hl, hm, hel, hi, _, _⟩
  · exact ⟨[], none, 0, rfl, Nat.le_refl _, Nat.zero_le _, fun h => absurd h (by simp)⟩
  · have hget : ∀ i, i < len → ∃ d : e.Den, ∃ ds, Rep e w ds d ∧ ∀ j u, ds[j]? = some u → w.cell? (a.add (i * e.wd + j)) = some u := by
      intro i hil
      have h1 := hi i hil
      have h2 : i < elems.length := by omega
      rw [List.getElem?_eq_getElem h2] at h1
      obtain ⟨ds, h3, h4⟩ := Option.bind_eq_some_iff.1 h1
      obtain ⟨d, hd⟩ := he.2 _ _ _ _ _ _ _ _ h4
      refine ⟨d, ds, hd, fun j u hu => ?_⟩
      obtain ⟨_, h5, h6⟩ := World.cells?_some h3
      have hj : j < ds.length := (List.getElem?_eq_some_iff.1 hu).1
      have := h6 j (by omega)
      rw [hu, he.1] at this
      rw [← this]
      congr 1
      unfold Addr.add
      by_cases e1 : i * e.wd = 0 <;> by_cases e2 : j = 0 <;> simp [e1, e2, Nat.add_assoc]
    obtain ⟨xs, hxl, hxs⟩ := list_of_lt (p := fun i x => ∃ ds, Rep e w ds x ∧ ∀ j u, ds[j]? = some u → w.cell? (a.add (i * e.wd + j)) = some u) hget
    subst hxl
    refine ⟨xs, some a, cap, rfl, hl, hm, fun hp => ?_⟩
    have hz : xs[0]? = some xs[0] := List.getElem?_eq_getElem hp
    have hspot : a.spot = none ∨ ∀ ds : List Value, Rep e w ds xs[0] → ds.length = 0 := by
      obtain ⟨ds, h1, h2⟩ := hxs 0 _ hz
      cases ds with
      | nil => right; intro ds hds; rw [hds.len, ← h1.len]; rfl
      | cons u us =>
        left
        have := h2 0 u rfl
        simpa [Addr.add] using World.cell?_spot this
    rcases hspot with hs | hs
    · obtain ⟨b, o, sp⟩ := a
      have hs : sp = none := hs
      subst hs
      refine ⟨b, o, rfl, fun i x hx => ?_⟩
      obtain ⟨ds, h1, h2⟩ := hxs i x hx
      refine ⟨ds, h1, fun j u hu => ?_⟩
      rw [← h2 j u hu]
      congr 1
      unfold Addr.add
      split
      · rename_i e0
        have e1 : i * e.wd = 0 := by omega
        have e2 : j = 0 := by omega
        rw [show o + i * e.wd + j = o by omega]
      · simp [Nat.add_assoc]
    · exact absurd (hs _ (hxs 0 _ hz).choose_spec.1) (by rw [(hxs 0 _ hz).choose_spec.1.len]; exact Nat.ne_of_gt (Ty.wd_pos e))⟩

/-- .. of the fields from the i-th on, which begin at cell k. -/
def TF (P : Program) (fs : Array Field) (i k : Nat) (t : Ty) : Prop :=
  ∀ {H : Type} (enc : TypeId × Value → H) (w : World) (base : Nat) (spare : Nat → Bool) (held : Bool) (n : Nat) (cs : List Value), cs.length = k + t.wd →
    (∀ j f, i ≤ j → fs[j]? = some f → ∃ y, DataW.trod enc P w base spare held n f.type ((cs.drop f.offset).take (P.cellsOf f.type)) = some y) → ∃ d, Rep t w (cs.drop k) d
theorem TF.last {fs : Array Field} {i k : Nat} {t : Ty} (f : Field) (hf : fs[i]? = some f) (ho : f.offset = k) (ht : Trd P f.type t) : TF P fs i k t :=
  fun enc w base spare held n cs hl h => by
    obtain ⟨y, hy⟩ := h i f (Nat.le_refl _) hf
    rw [ho, ht.1, List.take_of_length_le (by simp; omega)] at hy
    exact ht.2 _ _ _ _ _ _ _ _ hy
theorem TF.cons {fs : Array Field} {i k : Nat} {a b : Ty} (f : Field) (hf : fs[i]? = some f) (ho : f.offset = k) (ht : Trd P f.type a) (hb : TF P fs (i + 1) (k + a.wd) b) : TF P fs i k (.pr a b) :=
  fun enc w base spare held n cs hl h => by
    obtain ⟨y, hy⟩ := h i f (Nat.le_refl _) hf
    rw [ho, ht.1] at hy
    obtain ⟨d, hd⟩ := ht.2 _ _ _ _ _ _ _ _ hy
    obtain ⟨d', hd'⟩ := hb enc w base spare held n cs (by rw [hl]; simp [Ty.wd, Nat.add_assoc]) (fun j f' hj hf' => h j f' (by omega) hf')
    refine ⟨(d, d'), _, _, ?_, hd, hd'⟩
    rw [← List.drop_drop, List.take_append_drop]
theorem Trd.st {t : Ty} {fs : Array Field} (h : P.underlying T = some (.struct fs)) (hc : P.cellsOf T = t.wd) (hf : TF P fs 0 0 t) : Trd P T t := ⟨hc, fun enc w base spare held fuel cs x hx => by
  obtain ⟨xs, n, _, _, hl, hxl, hg⟩ := DataW.trod_struct h hx
  have := hf enc w base spare held n cs (by rw [hl, hc, Nat.zero_add]) (fun j f _ hj => by
    have h1 := hg j f hj
    have : j < fs.size := (Array.getElem?_eq_some_iff.1 hj).1
    rw [h1, List.getElem?_eq_getElem (by omega)]
    exact ⟨_, rfl⟩)
  simpa using this⟩
end
end Go.Proofs.Ytbelopdphlllnaa
