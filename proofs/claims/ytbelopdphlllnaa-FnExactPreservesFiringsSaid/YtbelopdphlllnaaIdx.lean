/- slices.IndexFunc and slices.ContainsFunc, over whatever function value. -/
import Derived.Test.YtbelopdphlllnaaSz
namespace Go.Proofs.Ytbelopdphlllnaa
open Go.RowKit

set_option maxRecDepth 100000 in
theorem indexFuncSignal_any (p : DSignal → Prop) (xs : List (DSignal)) (v : Value) (F : Nat) (caps : Array Value) (w : World) (hr : Rep (.sl 129 tSignal) w [v] xs) (hcf : Enters Try.prog F)
    (hF : ∀ (i : Nat) (x : DSignal) (W : World) (v0 v1 : Value), xs[i]? = some x → Nw w W → Rep tSignal W [v0, v1] x → Calls Try.prog F (#[.agg #[v0, v1]] ++ caps) W (RetB (p x) W)) :
    Calls Try.prog 174 #[v, .func (.func F) #[] caps] w (RetIdx p xs w) := by
  obtain ⟨A, c, rfl, hl, hc⟩ := hr.slv
  have hm : xs.length ≤ 9223372036854775807 := by unfold maxLen at hc; omega
  have HF := hid hF
  clear hF
  go_enter Try.func174, Try.ntmps174
  go_wp2
  go_loopw [8] (fun i wr => ∃ k : Nat, k ≤ xs.length ∧ i = .int .i64 k ∧ (∀ j x, j < k → xs[j]? = some x → ¬ p x) ∧ Nw w wr) (fun i _ => xs.length - (intOf i).toNat)
  case atStart => exact ⟨0, Nat.zero_le _, rfl, fun j x h => absurd h (by omega), Nw.refl _⟩
  case round =>
    obtain ⟨k, hk, rfl, hno, hq⟩ := hrel
    have HN := hid hno
    clear hno
    by_cases hlt : k < xs.length
    · obtain ⟨b, o, v0, v1, rfl, hx, c0, c1⟩ := (hr.nw hq).at2 rfl (List.getElem?_eq_getElem hlt)
      have hcf := hcf
      unfold Enters at hcf
      have hcall := HF.out k _ wr v0 v1 (List.getElem?_eq_getElem hlt) hq hx
      have HC := hid hcall
      clear hcall
      go_wp2_with fail
      refine Calls.mono HC.out ?_
      rintro e w1 ⟨bb, rfl, hb, hq1⟩
      cases bb with
      | true =>
        have HP := hid (hb.1 rfl)
        clear hb
        go_wp2
        go_ret
        exact ⟨_, rfl, .inr ⟨k, rfl, hlt, fun y hy => by rw [List.getElem?_eq_getElem hlt] at hy; cases hy; exact HP.out, HN.out⟩, hq.trans hq1⟩
      | false =>
        have HP := hid (fun hp => absurd (hb.2 hp) (by simp) : ¬ p xs[k])
        clear hb
        go_wp2
        go_roundw
        case rel => exact ⟨k + 1, by omega, by go_num, fun j y hj hy => by
          by_cases e1 : j = k
          · subst e1
            rw [List.getElem?_eq_getElem hlt] at hy
            cases hy
            exact HP.out
          · exact HN.out j y (by omega) hy, hq.trans hq1⟩
        case measure => simp [intOf]; omega
    · go_wp2
      go_ret
      refine ⟨_, rfl, .inl ⟨rfl, fun x hx => ?_⟩, hq⟩
      obtain ⟨j, hj, hjx⟩ := List.mem_iff_getElem.1 hx
      exact HN.out j x (by omega) (by rw [List.getElem?_eq_getElem hj, hjx])

theorem containsFuncSignal_any (p : DSignal → Prop) (xs : List (DSignal)) (v : Value) (F : Nat) (caps : Array Value) (w : World) (hr : Rep (.sl 129 tSignal) w [v] xs) (hcf : Enters Try.prog F)
    (hF : ∀ (i : Nat) (x : DSignal) (W : World) (v0 v1 : Value), xs[i]? = some x → Nw w W → Rep tSignal W [v0, v1] x → Calls Try.prog F (#[.agg #[v0, v1]] ++ caps) W (RetB (p x) W)) :
    Calls Try.prog 158 #[v, .func (.func F) #[] caps] w (RetB (∃ x ∈ xs, p x) w) := by
  have hcall := indexFuncSignal_any p xs v F caps w hr hcf hF
  obtain ⟨A, c, rfl, hl, hc⟩ := hr.slv
  have hm : xs.length ≤ 9223372036854775807 := by unfold maxLen at hc; omega
  have HC := hid hcall
  clear hcall hF
  go_enter Try.func158, Try.ntmps158
  go_wp2_with fail
  refine Calls.mono HC.out ?_
  rintro e w1 ⟨r, rfl, hi, hq1⟩
  have hrr := hi.range hm
  have HI := hid hi
  clear hi
  go_wp2
  go_ret
  exact RetB.of (by rw [← HI.out.any]; simp) hq1

set_option maxRecDepth 100000 in
theorem indexFuncTransition_any (p : DTransition → Prop) (xs : List (DTransition)) (v : Value) (F : Nat) (caps : Array Value) (w : World) (hr : Rep (.sl 146 tTransition) w [v] xs) (hcf : Enters Try.prog F)
    (hF : ∀ (i : Nat) (x : DTransition) (W : World) (v0 v1 : Value), xs[i]? = some x → Nw w W → Rep tTransition W [v0, v1] x → Calls Try.prog F (#[.agg #[v0, v1]] ++ caps) W (RetB (p x) W)) :
    Calls Try.prog 237 #[v, .func (.func F) #[] caps] w (RetIdx p xs w) := by
  obtain ⟨A, c, rfl, hl, hc⟩ := hr.slv
  have hm : xs.length ≤ 9223372036854775807 := by unfold maxLen at hc; omega
  have HF := hid hF
  clear hF
  go_enter Try.func237, Try.ntmps237
  go_wp2
  go_loopw [8] (fun i wr => ∃ k : Nat, k ≤ xs.length ∧ i = .int .i64 k ∧ (∀ j x, j < k → xs[j]? = some x → ¬ p x) ∧ Nw w wr) (fun i _ => xs.length - (intOf i).toNat)
  case atStart => exact ⟨0, Nat.zero_le _, rfl, fun j x h => absurd h (by omega), Nw.refl _⟩
  case round =>
    obtain ⟨k, hk, rfl, hno, hq⟩ := hrel
    have HN := hid hno
    clear hno
    by_cases hlt : k < xs.length
    · obtain ⟨b, o, v0, v1, rfl, hx, c0, c1⟩ := (hr.nw hq).at2 rfl (List.getElem?_eq_getElem hlt)
      have hcf := hcf
      unfold Enters at hcf
      have hcall := HF.out k _ wr v0 v1 (List.getElem?_eq_getElem hlt) hq hx
      have HC := hid hcall
      clear hcall
      go_wp2_with fail
      refine Calls.mono HC.out ?_
      rintro e w1 ⟨bb, rfl, hb, hq1⟩
      cases bb with
      | true =>
        have HP := hid (hb.1 rfl)
        clear hb
        go_wp2
        go_ret
        exact ⟨_, rfl, .inr ⟨k, rfl, hlt, fun y hy => by rw [List.getElem?_eq_getElem hlt] at hy; cases hy; exact HP.out, HN.out⟩, hq.trans hq1⟩
      | false =>
        have HP := hid (fun hp => absurd (hb.2 hp) (by simp) : ¬ p xs[k])
        clear hb
        go_wp2
        go_roundw
        case rel => exact ⟨k + 1, by omega, by go_num, fun j y hj hy => by
          by_cases e1 : j = k
          · subst e1
            rw [List.getElem?_eq_getElem hlt] at hy
            cases hy
            exact HP.out
          · exact HN.out j y (by omega) hy, hq.trans hq1⟩
        case measure => simp [intOf]; omega
    · go_wp2
      go_ret
      refine ⟨_, rfl, .inl ⟨rfl, fun x hx => ?_⟩, hq⟩
      obtain ⟨j, hj, hjx⟩ := List.mem_iff_getElem.1 hx
      exact HN.out j x (by omega) (by rw [List.getElem?_eq_getElem hj, hjx])

theorem containsFuncTransition_any (p : DTransition → Prop) (xs : List (DTransition)) (v : Value) (F : Nat) (caps : Array Value) (w : World) (hr : Rep (.sl 146 tTransition) w [v] xs) (hcf : Enters Try.prog F)
    (hF : ∀ (i : Nat) (x : DTransition) (W : World) (v0 v1 : Value), xs[i]? = some x → Nw w W → Rep tTransition W [v0, v1] x → Calls Try.prog F (#[.agg #[v0, v1]] ++ caps) W (RetB (p x) W)) :
    Calls Try.prog 206 #[v, .func (.func F) #[] caps] w (RetB (∃ x ∈ xs, p x) w) := by
  have hcall := indexFuncTransition_any p xs v F caps w hr hcf hF
  obtain ⟨A, c, rfl, hl, hc⟩ := hr.slv
  have hm : xs.length ≤ 9223372036854775807 := by unfold maxLen at hc; omega
  have HC := hid hcall
  clear hcall hF
  go_enter Try.func206, Try.ntmps206
  go_wp2_with fail
  refine Calls.mono HC.out ?_
  rintro e w1 ⟨r, rfl, hi, hq1⟩
  have hrr := hi.range hm
  have HI := hid hi
  clear hi
  go_wp2
  go_ret
  exact RetB.of (by rw [← HI.out.any]; simp) hq1

set_option maxRecDepth 100000 in
theorem indexFuncLabel_any (p : DLabel → Prop) (xs : List (DLabel)) (v : Value) (F : Nat) (caps : Array Value) (w : World) (hr : Rep (.sl 131 tLabel) w [v] xs) (hcf : Enters Try.prog F)
    (hF : ∀ (i : Nat) (x : DLabel) (W : World) (v0 v1 : Value), xs[i]? = some x → Nw w W → Rep tLabel W [v0, v1] x → Calls Try.prog F (#[.agg #[v0, v1]] ++ caps) W (RetB (p x) W)) :
    Calls Try.prog 160 #[v, .func (.func F) #[] caps] w (RetIdx p xs w) := by
  obtain ⟨A, c, rfl, hl, hc⟩ := hr.slv
  have hm : xs.length ≤ 9223372036854775807 := by unfold maxLen at hc; omega
  have HF := hid hF
  clear hF
  go_enter Try.func160, Try.ntmps160
  go_wp2
  go_loopw [8] (fun i wr => ∃ k : Nat, k ≤ xs.length ∧ i = .int .i64 k ∧ (∀ j x, j < k → xs[j]? = some x → ¬ p x) ∧ Nw w wr) (fun i _ => xs.length - (intOf i).toNat)
  case atStart => exact ⟨0, Nat.zero_le _, rfl, fun j x h => absurd h (by omega), Nw.refl _⟩
  case round =>
    obtain ⟨k, hk, rfl, hno, hq⟩ := hrel
    have HN := hid hno
    clear hno
    by_cases hlt : k < xs.length
    · obtain ⟨b, o, v0, v1, rfl, hx, c0, c1⟩ := (hr.nw hq).at2 rfl (List.getElem?_eq_getElem hlt)
      have hcf := hcf
      unfold Enters at hcf
      have hcall := HF.out k _ wr v0 v1 (List.getElem?_eq_getElem hlt) hq hx
      have HC := hid hcall
      clear hcall
      go_wp2_with fail
      refine Calls.mono HC.out ?_
      rintro e w1 ⟨bb, rfl, hb, hq1⟩
      cases bb with
      | true =>
        have HP := hid (hb.1 rfl)
        clear hb
        go_wp2
        go_ret
        exact ⟨_, rfl, .inr ⟨k, rfl, hlt, fun y hy => by rw [List.getElem?_eq_getElem hlt] at hy; cases hy; exact HP.out, HN.out⟩, hq.trans hq1⟩
      | false =>
        have HP := hid (fun hp => absurd (hb.2 hp) (by simp) : ¬ p xs[k])
        clear hb
        go_wp2
        go_roundw
        case rel => exact ⟨k + 1, by omega, by go_num, fun j y hj hy => by
          by_cases e1 : j = k
          · subst e1
            rw [List.getElem?_eq_getElem hlt] at hy
            cases hy
            exact HP.out
          · exact HN.out j y (by omega) hy, hq.trans hq1⟩
        case measure => simp [intOf]; omega
    · go_wp2
      go_ret
      refine ⟨_, rfl, .inl ⟨rfl, fun x hx => ?_⟩, hq⟩
      obtain ⟨j, hj, hjx⟩ := List.mem_iff_getElem.1 hx
      exact HN.out j x (by omega) (by rw [List.getElem?_eq_getElem hj, hjx])

theorem containsFuncLabel_any (p : DLabel → Prop) (xs : List (DLabel)) (v : Value) (F : Nat) (caps : Array Value) (w : World) (hr : Rep (.sl 131 tLabel) w [v] xs) (hcf : Enters Try.prog F)
    (hF : ∀ (i : Nat) (x : DLabel) (W : World) (v0 v1 : Value), xs[i]? = some x → Nw w W → Rep tLabel W [v0, v1] x → Calls Try.prog F (#[.agg #[v0, v1]] ++ caps) W (RetB (p x) W)) :
    Calls Try.prog 110 #[v, .func (.func F) #[] caps] w (RetB (∃ x ∈ xs, p x) w) := by
  have hcall := indexFuncLabel_any p xs v F caps w hr hcf hF
  obtain ⟨A, c, rfl, hl, hc⟩ := hr.slv
  have hm : xs.length ≤ 9223372036854775807 := by unfold maxLen at hc; omega
  have HC := hid hcall
  clear hcall hF
  go_enter Try.func110, Try.ntmps110
  go_wp2_with fail
  refine Calls.mono HC.out ?_
  rintro e w1 ⟨r, rfl, hi, hq1⟩
  have hrr := hi.range hm
  have HI := hid hi
  clear hi
  go_wp2
  go_ret
  exact RetB.of (by rw [← HI.out.any]; simp) hq1

end Go.Proofs.Ytbelopdphlllnaa
