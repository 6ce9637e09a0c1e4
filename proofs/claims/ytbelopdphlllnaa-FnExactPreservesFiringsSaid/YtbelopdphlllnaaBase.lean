/- Small words for the walks: a later world that has only grown; slices opened at an index. No program is named here. -/
import Derived.Test.YtbelopdphlllnaaRep
import Derived.WalkSpells
import Derived.WalkLawsBesides
import Derived.Deep.LoopGhost
import Derived.Deep.QuietTactic
import Derived.BigQuiet
namespace Go.Proofs.Ytbelopdphlllnaa
open Go.RowKit

/-- w' is w, grown: nothing that was there has turned. -/
def Nw (w w' : World) : Prop := Below w.heap.size w w'
theorem Nw.refl (w : World) : Nw w w := Below.refl _ _
theorem Nw.trans {a b c : World} (h : Nw a b) (k : Nw b c) : Nw a c := Below.trans h (Below.mono k (Below.size h))
theorem Nw.alloc {a w : World} (h : Nw a w) (o : Obj) : Nw a (w.alloc o) := Below.alloc h (Below.size h) o
theorem Nw.drew {a w : World} (h : Nw a w) : Nw a w.drew := Below.drew h
theorem Nw.drewN {a w : World} (h : Nw a w) (n : Nat) : Nw a (w.drewN n) := h.trans ⟨rfl, rfl, rfl, Nat.le_refl _, fun _ _ => rfl⟩
theorem Nw.setCell {a w : World} (h : Nw a w) {p : Addr} (hp : a.heap.size ≤ p.block) (u : Value) : Nw a (w.setCell p u) := Below.setCell h hp u
theorem Nw.trans2 {a b c : World} (k : Nw b c) (h : Nw a b) : Nw a c := h.trans k
theorem Nw.setCell2 {a w : World} {p : Addr} {u : Value} (hp : a.heap.size ≤ p.block) (h : Nw a w) : Nw a (w.setCell p u) := h.setCell hp u
theorem Nw.size {a w : World} (h : Nw a w) : a.heap.size ≤ w.heap.size := Below.size h
theorem Nw.kp {a w : World} (h : Nw a w) : Kp a w := Kp.below h
theorem Nw.below {a w : World} (h : Nw a w) : Below a.heap.size a w := h
theorem Rep.nw {t : Ty} {w w' : World} {cs : List Value} {x : t.Den} (h : Rep t w cs x) (hb : Nw w w') : Rep t w' cs x := h.kp hb.kp
/-- For the walk: what was there reads as it did. -/
theorem Nw.cells {W w1 : World} (hb : Nw W w1) : (∀ b o, b < W.heap.size → w1.cell? ⟨b, o, none⟩ = W.cell? ⟨b, o, none⟩) ∧ (∀ b o, b < W.heap.size → w1.frozen? ⟨b, o, none⟩ = W.frozen? ⟨b, o, none⟩) :=
  ⟨fun b o h => Below.cell hb (p := ⟨b, o, none⟩) h, fun b o h => Below.frozen hb (p := ⟨b, o, none⟩) h⟩

theorem run_enter {P : Program} {f : FuncId} {fn : Func} {c : Code} (hf : P.funcs[f]? = some fn) (hname : (fn.name == "runtime.NumGoroutine") = false) (hb : fn.body = some c) (args : Array Value) (w : World) :
    (callFunc f args).run P w = .ok (.enter f args) w := by
  have h1 : fn.name ≠ "runtime.NumGoroutine" := by simpa using hname
  simp [callFunc, hf, h1, hb]
/-- F is a function with a body: calling it enters it. -/
def Enters (P : Program) (F : FuncId) : Prop := ∀ (as : Array Value) (W : World), (callFunc F as).run P W = .ok (.enter F as) W
theorem hid {p : Prop} (h : p) : Hid p := h
/-- A call that answers whether p. -/
def RetB (p : Prop) (w : World) (e : Ending) (w' : World) : Prop := ∃ b : Bool, e = .returned (.bool b) ∧ (b = true ↔ p) ∧ Nw w w'
theorem RetB.yes {p : Prop} {w w' : World} (h : p) (hq : Nw w w') : RetB p w (.returned (.bool true)) w' := ⟨true, rfl, by simp [h], hq⟩
theorem RetB.no {p : Prop} {w w' : World} (h : ¬ p) (hq : Nw w w') : RetB p w (.returned (.bool false)) w' := ⟨false, rfl, by simp [h], hq⟩
theorem RetB.not {p : Prop} (h : false = true ↔ p) : ¬ p := fun hp => absurd (h.2 hp) (by simp)
theorem RetB.of {p : Prop} {w w' : World} {b : Bool} (h : b = true ↔ p) (hq : Nw w w') : RetB p w (.returned (.bool b)) w' := ⟨b, rfl, h, hq⟩
/-- A call that answers the first place at which p holds, -1 for none. -/
def IsIdx {α : Type} (p : α → Prop) (xs : List α) (r : Int) : Prop := (r = -1 ∧ ∀ x ∈ xs, ¬ p x) ∨ (∃ k : Nat, r = k ∧ k < xs.length ∧ (∀ x, xs[k]? = some x → p x) ∧ ∀ j x, j < k → xs[j]? = some x → ¬ p x)
def RetIdx {α : Type} (p : α → Prop) (xs : List α) (w : World) (e : Ending) (w' : World) : Prop := ∃ r : Int, e = .returned (.int .i64 r) ∧ IsIdx p xs r ∧ Nw w w'
theorem IsIdx.range {α : Type} {p : α → Prop} {xs : List α} {r : Int} (h : IsIdx p xs r) (hl : xs.length ≤ 9223372036854775807) : -1 ≤ r ∧ r ≤ 9223372036854775807 := by
  rcases h with ⟨rfl, _⟩ | ⟨k, rfl, h, _⟩ <;> omega
theorem IsIdx.any {α : Type} {p : α → Prop} {xs : List α} {r : Int} (h : IsIdx p xs r) : 0 ≤ r ↔ ∃ x ∈ xs, p x := by
  rcases h with ⟨rfl, h⟩ | ⟨k, rfl, hk, h, _⟩
  · constructor
    · intro h0; omega
    · rintro ⟨x, hx, hp⟩; exact absurd hp (h x hx)
  · exact ⟨fun _ => ⟨xs[k], List.getElem_mem hk, h _ (List.getElem?_eq_getElem hk)⟩, fun _ => by omega⟩
section
variable {E : TypeId} {e : Ty} {w : World} {A : Option Addr} {n c : Nat} {xs : List e.Den}
theorem Rep.at1 (h : Rep (.sl E e) w [.slice A n c] xs) (hw : e.wd = 1) {i : Nat} {x : e.Den} (hx : xs[i]? = some x) :
    ∃ b o v, A = some ⟨b, o, none⟩ ∧ Rep e w [v] x ∧ w.cell? ⟨b, o + i, none⟩ = some v := by
  obtain ⟨b, o, ds, rfl, h1, h2⟩ := h.at_ hx
  match ds, h1.len.trans hw with
  | [v], _ => exact ⟨b, o, v, rfl, h1, by have := h2 0 v rfl; rwa [hw, Nat.mul_one] at this⟩
theorem Rep.at2 (h : Rep (.sl E e) w [.slice A n c] xs) (hw : e.wd = 2) {i : Nat} {x : e.Den} (hx : xs[i]? = some x) :
    ∃ b o v0 v1, A = some ⟨b, o, none⟩ ∧ Rep e w [v0, v1] x ∧ w.cell? ⟨b, o + i * 2, none⟩ = some v0 ∧ w.cell? ⟨b, o + i * 2 + 1, none⟩ = some v1 := by
  obtain ⟨b, o, ds, rfl, h1, h2⟩ := h.at_ hx
  match ds, h1.len.trans hw with
  | [v0, v1], _ => exact ⟨b, o, v0, v1, rfl, h1, by have := h2 0 v0 rfl; rwa [hw] at this, by have := h2 1 v1 rfl; rwa [hw] at this⟩
end

/-! ### Structs opened -/
theorem Rep.pr2 {a b : Ty} {w : World} {v u : Value} {cs : List Value} {x : a.Den × b.Den} (h : Rep (.pr a b) w (v :: u :: cs) x) (ha : a.wd = 2) : Rep a w [v, u] x.1 ∧ Rep b w cs x.2 := by
  obtain ⟨l, r, h, h1, h2⟩ := h
  match l, h1.len.trans ha with
  | [y, z], _ =>
    simp only [List.cons_append, List.nil_append, List.cons.injEq] at h
    obtain ⟨rfl, rfl, rfl⟩ := h
    exact ⟨h1, h2⟩
section
variable {a b c d : Ty} {w : World} {u0 u1 u2 u3 : Value}
theorem Rep.open2 {x : (Ty.pr a b).Den} (h : Rep (.pr a b) w [u0, u1] x) (ha : a.wd = 1) : Rep a w [u0] x.1 ∧ Rep b w [u1] x.2 := h.pr1 ha
theorem Rep.open3 {x : (Ty.pr a (.pr b c)).Den} (h : Rep (.pr a (.pr b c)) w [u0, u1, u2] x) (ha : a.wd = 1) (hb : b.wd = 1) : Rep a w [u0] x.1 ∧ Rep b w [u1] x.2.1 ∧ Rep c w [u2] x.2.2 := by
  obtain ⟨h1, h2⟩ := h.pr1 ha
  exact ⟨h1, h2.pr1 hb⟩
end

/-! ### Sizes -/
def Ty.tot : (t : Ty) → t.Den → Nat
  | .int, _ => 0
  | .bool, _ => 0
  | .str, s => s.size
  | .u8, _ => 0
  | .sl _ e, xs => xs.length + (xs.map e.tot).sum
  | .pr a b, x => a.tot x.1 + b.tot x.2
def cut (left : Int) (t : Nat) : Int := if left < t then -1 else left - t
theorem sum_take_succ {α : Type} (f : α → Nat) (xs : List α) (k : Nat) (h : k < xs.length) : ((xs.take (k + 1)).map f).sum = ((xs.take k).map f).sum + f xs[k] := by
  rw [List.take_succ_eq_append_getElem h, List.map_append, List.sum_append]; rfl
theorem sum_take_le {α : Type} (f : α → Nat) (xs : List α) (k : Nat) : ((xs.take k).map f).sum ≤ (xs.map f).sum := by
  conv => rhs; rw [← List.take_append_drop k xs]
  rw [List.map_append, List.sum_append]; omega
theorem map_zero_sum {α : Type} (xs : List α) (f : α → Nat) (h : ∀ x, f x = 0) : (xs.map f).sum = 0 := by
  induction xs with
  | nil => rfl
  | cons x xs ih => simp [ih, h]
end Go.Proofs.Ytbelopdphlllnaa
