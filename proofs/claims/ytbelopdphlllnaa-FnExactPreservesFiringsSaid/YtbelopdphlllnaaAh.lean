/- Abstract states: own slices whose elements own slices, opened cell by cell. No program is named here. -/
import Derived.Test.YtbelopdphlllnaaAf
namespace Go.Proofs.Ytbelopdphlllnaa
open Go.RowKit

section
variable {al : Nat → Prop} {gh : Gh} {w : World}
theorem LOs.app {l1 l2 : List LV} {f1 f2 : List Nat} {c1 c2 : List Value} (h : LOs al gh w l1 f1 c1) (k : LOs al gh w l2 f2 c2) : LOs al gh w (l1 ++ l2) (f1 ++ f2) (c1 ++ c2) := by
  induction l1 generalizing f1 c1 with
  | nil => obtain ⟨rfl, rfl⟩ := h; exact k
  | cons l ls ih => obtain ⟨fa, fb, v, cs', rfl, rfl, h1, h2⟩ := h; exact ⟨fa, fb ++ f2, v, cs' ++ c2, by rw [List.append_assoc], rfl, h1, ih h2⟩
theorem LOs.split {l1 l2 : List LV} {f : List Nat} {c : List Value} (h : LOs al gh w (l1 ++ l2) f c) : ∃ f1 f2 c1 c2, f = f1 ++ f2 ∧ c = c1 ++ c2 ∧ LOs al gh w l1 f1 c1 ∧ LOs al gh w l2 f2 c2 := by
  induction l1 generalizing f c with
  | nil => exact ⟨[], f, [], c, rfl, rfl, ⟨rfl, rfl⟩, h⟩
  | cons l ls ih =>
    obtain ⟨fa, fb, v, cs', rfl, rfl, h1, h2⟩ := h
    obtain ⟨g1, g2, d1, d2, rfl, rfl, h3, h4⟩ := ih h2
    exact ⟨fa ++ g1, g2, v :: d1, d2, by rw [List.append_assoc], rfl, ⟨fa, g1, v, d1, rfl, rfl, h1, h3⟩, h4⟩
theorem LOs.len {ls : List LV} {f : List Nat} {cs : List Value} (h : LOs al gh w ls f cs) : cs.length = ls.length := by
  induction ls generalizing f cs with
  | nil => rw [h.2]; rfl
  | cons l ls ih => obtain ⟨f1, f2, v, cs', rfl, rfl, h1, h2⟩ := h; simp [ih h2]
/-- The cell at p. -/
theorem LOs.parts {ls : List LV} {f : List Nat} {cs : List Value} (h : LOs al gh w ls f cs) {p : Nat} {l : LV} (hl : ls[p]? = some l) :
    ∃ fa f1 fb ca v cb, f = fa ++ (f1 ++ fb) ∧ cs = ca ++ v :: cb ∧ ca.length = p ∧ LOs al gh w (ls.take p) fa ca ∧ LO al gh w l f1 v ∧ LOs al gh w (ls.drop (p + 1)) fb cb := by
  obtain ⟨hlt, hl2⟩ := List.getElem?_eq_some_iff.1 hl
  have e : ls = ls.take p ++ l :: ls.drop (p + 1) := by
    conv => lhs; rw [← List.take_append_drop p ls, List.drop_eq_getElem_cons hlt, hl2]
  rw [e] at h
  obtain ⟨fa, f2, ca, c2, rfl, rfl, h1, h2⟩ := LOs.split h
  obtain ⟨f1, fb, v, cb, rfl, rfl, h3, h4⟩ := h2
  refine ⟨fa, f1, fb, ca, v, cb, rfl, rfl, ?_, h1, h3, h4⟩
  rw [h1.len, List.length_take]; omega
theorem LOs.put {ls : List LV} {p : Nat} {l : LV} {fa f1 fb : List Nat} {ca cb : List Value} {v : Value} (hp : p < ls.length) (h1 : LOs al gh w (ls.take p) fa ca) (h2 : LO al gh w l f1 v) (h3 : LOs al gh w (ls.drop (p + 1)) fb cb) :
    LOs al gh w (ls.set p l) (fa ++ (f1 ++ fb)) (ca ++ v :: cb) := by
  rw [List.set_eq_take_append_cons_drop, if_pos hp]
  exact h1.app ⟨f1, fb, v, cb, rfl, rfl, h2, h3⟩
theorem Own.los : ∀ {t : Ty} {f : List Nat} {cs : List Value} {x : t.Den}, Own t w f cs x → LOs al gh w (leaves t x) f cs
  | .int, f, cs, x, h => by have h1 := h.1; have h2 := h.2.1; subst h1; subst h2; exact ⟨[], [], _, [], rfl, rfl, h, rfl, rfl⟩
  | .bool, f, cs, x, h => by have h1 := h.1; have h2 := h.2; subst h1; subst h2; exact ⟨[], [], _, [], rfl, rfl, h, rfl, rfl⟩
  | .str, f, cs, x, h => by have h1 := h.1; have h2 := h.2.1; subst h1; subst h2; exact ⟨[], [], _, [], rfl, rfl, h, rfl, rfl⟩
  | .u8, f, cs, x, h => by have h1 := h.1; have h2 := h.2; subst h1; subst h2; exact ⟨[], [], _, [], rfl, rfl, h, rfl, rfl⟩
  | .sl E e, f, cs, x, h => by
    have hl := h.len
    match cs, hl with
    | [v], _ => exact ⟨f, [], v, [], by simp, rfl, h, rfl, rfl⟩
  | .pr a b, _, _, _, ⟨f1, f2, l, r, rfl, rfl, h2, h3⟩ => LOs.app (Own.los h2) (Own.los h3)
theorem LOs.own : ∀ {t : Ty} {f : List Nat} {cs : List Value} {x : t.Den}, LOs al gh w (leaves t x) f cs → Own t w f cs x
  | .int, f, cs, x, ⟨f1, f2, v, cs', h1, h2, h3, h4, h5⟩ => by subst h1; subst h2; subst h4; subst h5; rw [List.append_nil]; exact h3
  | .bool, f, cs, x, ⟨f1, f2, v, cs', h1, h2, h3, h4, h5⟩ => by subst h1; subst h2; subst h4; subst h5; rw [List.append_nil]; exact h3
  | .str, f, cs, x, ⟨f1, f2, v, cs', h1, h2, h3, h4, h5⟩ => by subst h1; subst h2; subst h4; subst h5; rw [List.append_nil]; exact h3
  | .u8, f, cs, x, ⟨f1, f2, v, cs', h1, h2, h3, h4, h5⟩ => by subst h1; subst h2; subst h4; subst h5; rw [List.append_nil]; exact h3
  | .sl E e, f, cs, x, ⟨f1, f2, v, cs', h1, h2, h3, h4, h5⟩ => by subst h1; subst h2; subst h4; subst h5; rw [List.append_nil]; exact h3
  | .pr a b, f, cs, x, h => by
    obtain ⟨f1, f2, c1, c2, rfl, rfl, h1, h2⟩ := LOs.split h
    exact ⟨f1, f2, c1, c2, rfl, rfl, LOs.own h1, LOs.own h2⟩
/-- The cells of all elements. -/
def cellsL (e : Ty) (xs : List e.Den) : List LV := xs.flatMap (leaves e)
theorem OwnL.los {e : Ty} : ∀ {xs : List e.Den} {f : List Nat} {cs : List Value}, OwnL (Own e w) f cs xs → LOs al gh w (cellsL e xs) f cs
  | [], _, _, h => h
  | x :: xs, _, _, ⟨f1, f2, c1, c2, rfl, rfl, h3, h4⟩ => by
    show LOs al gh w (leaves e x ++ cellsL e xs) _ _
    exact (Own.los h3).app (OwnL.los h4)
theorem cellsL_len (e : Ty) (xs : List e.Den) : (cellsL e xs).length = xs.length * e.wd := by
  induction xs with
  | nil => simp [cellsL]
  | cons x xs ih =>
    show (leaves e x ++ cellsL e xs).length = _
    rw [List.length_append, leaves_len, ih, List.length_cons, Nat.add_mul, Nat.one_mul, Nat.add_comm]
end

theorem cellsL_tags (e : Ty) : ∀ (xs : List e.Den), lvsTags (cellsL e xs) = []
  | [] => rfl
  | x :: xs => by rw [show cellsL e (x :: xs) = leaves e x ++ cellsL e xs from rfl, lvsTags_app, leaves_tags, cellsL_tags e xs]; rfl
section
variable {A : Amb} {P : Program} {s : St} {x y : Operand} {d : Nat} {T T' ty : TypeId} {pos : String} {af : Array Edge} {g : Option (Nat × Bool)}
theorem Wk.open {q : Nat} {E : TypeId} {e : Ty} {xs : List e.Den} (he : s.tab.ent q = some (.arr E e xs)) (hl : 0 < xs.length) : Wk A s ⟨s.tm, (q, some (.obx E e.wd xs.length (cellsL e xs) [])) :: s.tab⟩ := fun a w r => by
  obtain ⟨gh, r⟩ := r
  have hO : Own (.sl E e) w (gh.f q) [gh.h q] xs := r.cx.en q _ he
  rcases hO with ⟨_, _, h⟩ | ⟨b, cap, cur, fps, h2, h3, h4, h5, h6, h7, h8⟩
  · subst h; simp at hl
  · simp only [List.cons.injEq, and_true] at h3
    exact ⟨gh, r.mod he (Grw.refl w) (fun _ _ _ => rfl) ⟨cellsL_tags e xs, b, cap, cur, fps, h3, h2, h4, h5, h6, h7, cellsL_len e xs, h8.los⟩⟩
end

/-! nil slices as data; the numbers in a struct -/
def NilLe : List LV → List LV → Prop
  | [], ls' => ls' = []
  | l :: ls, ls' => ∃ l' r, ls' = l' :: r ∧ (l = l' ∨ ∃ E e, l = .val (.slice none 0 0) ∧ l' = .dat (.sl E e) []) ∧ NilLe ls r
section
variable {A : Amb} {s : St}
theorem fact_ag {x : Operand} {ls : List LV} {i : Nat} {n : Int} (h : Ev A s x (true, ls)) (hi : ls[i]? = some (dI n)) : ∀ gh a w, Rg A s gh a w → -9223372036854775808 ≤ n ∧ n ≤ 9223372036854775807 := fun gh a w r => by
  obtain ⟨vs, h1, h2⟩ := h gh a w r
  obtain ⟨v, _, h3⟩ := h2.get hi
  exact (LVR.int h3).2
end
theorem FC.O_of {P : Program} {f : FuncId} {args : List (Bool × List LV)} {T : Tab} {k : Nat} {O O' : PV → Tab → Prop} (e : O' = O) (h : FC P f args T k O') : FC P f args T k O := e ▸ h
end Go.Proofs.Ytbelopdphlllnaa
