/- Nets: rising lists, valid nets, markings. -/
import Derived.Test.YtbelopdphlllnaaStr
import Derived.Test.YtbelopdphlllnaaIdx
namespace Go.Proofs.Ytbelopdphlllnaa
open Go.RowKit

/-! ### plain words -/
def RisAt (l : List Int) (hi : Int) (k : Nat) : Prop := ∀ x, l[k]? = some x → (0 ≤ x ∧ x ≤ hi) ∧ ∀ j y, j + 1 = k → l[j]? = some y → y < x
def Rising (l : List Int) (hi : Int) : Prop := ∀ k, k < l.length → RisAt l hi k
theorem RisAt.step {l : List Int} {hi : Int} {k : Nat} (h : ∀ j, j < k → RisAt l hi j) (hk : RisAt l hi k) : ∀ j, j < k + 1 → RisAt l hi j := by
  intro j hj
  by_cases e : j = k
  · subst e; exact hk
  · exact h j (by omega)
def TrOk (hi : Int) (t : DTransition) : Prop := t.1 ≠ [] ∧ Rising t.1 hi ∧ Rising t.2 hi
def NetV (n : DNet) : Prop := (1 ≤ n.1 ∧ n.1 ≤ 30) ∧ n.2.length ≤ 24 ∧ ∀ t ∈ n.2, TrOk (n.1 - 1) t
def IsBit (c : UInt8) : Prop := c.toNat = 48 ∨ c.toNat = 49
def BitsAt (s : ByteArray) (k : Nat) : Prop := ∀ h : k < s.size, IsBit s[k]
def Bits (s : ByteArray) (n : Int) : Prop := (∀ k, k < s.size → BitsAt s k) ∧ (s.size : Int) = n

set_option maxRecDepth 100000 in
set_option maxHeartbeats 2000000 in
theorem l1Rising_any (v : Value) (l : List Int) (hi : Int) (w : World) (hr : Rep (.sl 3 .int) w [v] l) :
    Calls Try.prog 209 #[v, .int .i64 0, .int .i64 hi] w (RetB (Rising l hi) w) := by
  obtain ⟨A, c, rfl, hl, hc⟩ := hr.slv
  have hm : l.length ≤ 9223372036854775807 := by unfold maxLen at hc; omega
  go_enter Try.func209, Try.ntmps209
  go_wp2
  go_loopw [11] (fun i wr => ∃ k : Nat, k ≤ l.length ∧ i = .int .i64 k ∧ (∀ j, j < k → RisAt l hi j) ∧ Nw w wr) (fun i _ => l.length - (intOf i).toNat)
  case atStart => exact ⟨0, Nat.zero_le _, rfl, fun j h => absurd h (by omega), Nw.refl _⟩
  case round =>
    obtain ⟨k, hk, rfl, hyes, hq⟩ := hrel
    have HY := hid hyes
    clear hyes
    by_cases hlt : k < l.length
    · obtain ⟨b, o, v0, rfl, hx, c0⟩ := (hr.nw hq).at1 rfl (List.getElem?_eq_getElem hlt)
      have HX := hid (List.getElem?_eq_getElem hlt)
      generalize hxk : l[k] = x at *
      clear hxk
      obtain ⟨rfl, -⟩ := hx.int_
      clear hx
      go_wp2_with fail
      refine (l1In_any _ _ _ _).mono ?_
      rintro e w1 ⟨b1, rfl, hb1, hq1⟩
      obtain ⟨hc1, hf1⟩ := hq1.cells
      cases b1 with
      | false =>
        have HB := hid (RetB.not hb1)
        clear hb1
        go_wp2
        go_ret
        exact RetB.no (fun h => HB.out ((h k hlt _ HX.out).1)) (hq.trans hq1)
      | true =>
        have HB := hid (hb1.1 rfl)
        clear hb1
        by_cases hk0 : k = 0
        · subst hk0
          go_wp2
          go_roundw
          case rel => exact ⟨1, by omega, by go_num, RisAt.step HY.out (fun y hy => by
            rw [HX.out] at hy
            cases hy
            exact ⟨HB.out, fun j y hj => absurd hj (by omega)⟩), hq.trans hq1⟩
          case measure => simp [intOf]; omega
        · obtain ⟨m, hm1⟩ : ∃ m, k = m + 1 := ⟨k - 1, by omega⟩
          have hkm : (k : Int) - 1 = m := by omega
          have hkp : (0 : Int) < k := by omega
          have hml : m < l.length := by omega
          obtain ⟨b', o', y0, e', hy, d0⟩ := ((hr.nw hq).nw hq1).at1 rfl (List.getElem?_eq_getElem hml)
          simp only [Option.some.injEq, Addr.mk.injEq, and_true] at e'
          obtain ⟨rfl, rfl⟩ := e'
          have HYm := hid (List.getElem?_eq_getElem hml)
          generalize hym : l[m] = y at *
          clear hym
          obtain ⟨rfl, -⟩ := hy.int_
          clear hy
          by_cases hyx : x ≤ y
          · have hd := decide_eq_true hyx
            have HM := hid (And.intro hm1 hyx)
            clear hm1 hyx
            go_wp2
            go_ret
            exact RetB.no (fun h => by have := (h k hlt _ HX.out).2 m _ (HM.out.1).symm HYm.out; have := HM.out.2; omega) (hq.trans hq1)
          · have hd := decide_eq_false hyx
            have HM := hid (And.intro hm1 hyx)
            clear hm1 hyx
            go_wp2
            go_roundw
            case rel => exact ⟨k + 1, by omega, by go_num, RisAt.step HY.out (fun z hz => by
              rw [HX.out] at hz
              cases hz
              exact ⟨HB.out, fun j y hj hy => by
                obtain ⟨h1, h2⟩ := HM.out
                have : j = m := by omega
                subst this
                rw [HYm.out] at hy
                cases hy
                omega⟩), hq.trans hq1⟩
            case measure => simp [intOf]; omega
    · have : k = l.length := by omega
      subst this
      go_wp2
      go_ret
      exact RetB.yes (HY.out) hq

set_option maxRecDepth 100000 in
set_option maxHeartbeats 2000000 in
theorem isIncreasing_any (v : Value) (l : List Int) (n hi : Int) (w : World) (hr : Rep (.sl 3 .int) w [v] l) (hn : IntKind.i64.wrap (n - 1) = hi) :
    Calls Try.prog 208 #[v, .int .i64 n] w (RetB (Rising l hi) w) := by
  obtain ⟨A, c, rfl, hl, hc⟩ := hr.slv
  have hm : l.length ≤ 9223372036854775807 := by unfold maxLen at hc; omega
  go_enter Try.func208, Try.ntmps208
  go_wp2
  go_loopw [9] (fun i wr => ∃ k : Nat, k ≤ l.length ∧ i = .int .i64 k ∧ (∀ j, j < k → RisAt l hi j) ∧ Nw w wr) (fun i _ => l.length - (intOf i).toNat)
  case atStart => exact ⟨0, Nat.zero_le _, rfl, fun j h => absurd h (by omega), Nw.refl _⟩
  case round =>
    obtain ⟨k, hk, rfl, hyes, hq⟩ := hrel
    have HY := hid hyes
    clear hyes
    by_cases hlt : k < l.length
    · obtain ⟨b, o, v0, rfl, hx, c0⟩ := (hr.nw hq).at1 rfl (List.getElem?_eq_getElem hlt)
      have HX := hid (List.getElem?_eq_getElem hlt)
      generalize hxk : l[k] = x at *
      clear hxk
      obtain ⟨rfl, -⟩ := hx.int_
      clear hx
      go_wp2_with fail
      refine (within_any _ _ _ _).mono ?_
      rintro e w1 ⟨b1, rfl, hb1, hq1⟩
      obtain ⟨hc1, hf1⟩ := hq1.cells
      cases b1 with
      | false =>
        have HB := hid (RetB.not hb1)
        clear hb1
        go_wp2
        go_ret
        exact RetB.no (fun h => HB.out ((h k hlt _ HX.out).1)) (hq.trans hq1)
      | true =>
        have HB := hid (hb1.1 rfl)
        clear hb1
        by_cases hk0 : k = 0
        · subst hk0
          go_wp2
          go_roundw
          case rel => exact ⟨1, by omega, by go_num, RisAt.step HY.out (fun y hy => by
            rw [HX.out] at hy
            cases hy
            exact ⟨HB.out, fun j y hj => absurd hj (by omega)⟩), hq.trans hq1⟩
          case measure => simp [intOf]; omega
        · obtain ⟨m, hm1⟩ : ∃ m, k = m + 1 := ⟨k - 1, by omega⟩
          have hkm : (k : Int) - 1 = m := by omega
          have hkp : (0 : Int) < k := by omega
          have hml : m < l.length := by omega
          obtain ⟨b', o', y0, e', hy, d0⟩ := ((hr.nw hq).nw hq1).at1 rfl (List.getElem?_eq_getElem hml)
          simp only [Option.some.injEq, Addr.mk.injEq, and_true] at e'
          obtain ⟨rfl, rfl⟩ := e'
          have HYm := hid (List.getElem?_eq_getElem hml)
          generalize hym : l[m] = y at *
          clear hym
          obtain ⟨rfl, -⟩ := hy.int_
          clear hy
          by_cases hyx : x ≤ y
          · have hd := decide_eq_true hyx
            have HM := hid (And.intro hm1 hyx)
            clear hm1 hyx
            go_wp2
            go_ret
            exact RetB.no (fun h => by have := (h k hlt _ HX.out).2 m _ (HM.out.1).symm HYm.out; have := HM.out.2; omega) (hq.trans hq1)
          · have hd := decide_eq_false hyx
            have HM := hid (And.intro hm1 hyx)
            clear hm1 hyx
            go_wp2
            go_roundw
            case rel => exact ⟨k + 1, by omega, by go_num, RisAt.step HY.out (fun z hz => by
              rw [HX.out] at hz
              cases hz
              exact ⟨HB.out, fun j y hj hy => by
                obtain ⟨h1, h2⟩ := HM.out
                have : j = m := by omega
                subst this
                rw [HYm.out] at hy
                cases hy
                omega⟩), hq.trans hq1⟩
            case measure => simp [intOf]; omega
    · have : k = l.length := by omega
      subst this
      go_wp2
      go_ret
      exact RetB.yes (HY.out) hq
end Go.Proofs.Ytbelopdphlllnaa
