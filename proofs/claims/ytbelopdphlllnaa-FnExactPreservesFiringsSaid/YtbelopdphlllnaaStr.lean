/- The small tests: ranges, names, cubes. -/
import Derived.Test.YtbelopdphlllnaaSz
namespace Go.Proofs.Ytbelopdphlllnaa
open Go.RowKit

theorem str_eq {s t : ByteArray} (h : (s.toList == t.toList) = true) : s = t := by
  have h : s.toList = t.toList := by simpa using h
  rw [ByteArray.toList_eq, ByteArray.toList_eq] at h
  cases s; cases t
  exact congrArg _ (Array.toList_inj.1 h)
theorem str_ne {s t : ByteArray} (h : (s.toList == t.toList) = false) : s ≠ t := by
  rintro rfl
  simp at h
theorem str_eq_t {s t : ByteArray} (h : s = t) : (s.toList == t.toList) = true := by subst h; simp
theorem str_eq_f {s t : ByteArray} (h : s ≠ t) : (s.toList == t.toList) = false := by
  cases e : (s.toList == t.toList) with
  | false => rfl
  | true => exact absurd (str_eq e) h
/-! ### plain words -/
def NameChar (k c : Nat) : Prop := (97 ≤ c ∧ c ≤ 122) ∨ (k ≠ 0 ∧ 48 ≤ c ∧ c ≤ 57)
def NameOk (s : ByteArray) : Prop := (∀ k (h : k < s.size), NameChar k s[k].toNat) ∧ 1 ≤ s.size ∧ s.size ≤ 6
def CubeChar (c : Nat) : Prop := c = 48 ∨ c = 49 ∨ c = 45
def CubeChars (s : ByteArray) : Prop := ∀ k (h : k < s.size), CubeChar s[k].toNat

theorem within_any (n lo hi : Int) (w : World) : Calls Try.prog 58 #[.int .i64 n, .int .i64 lo, .int .i64 hi] w (RetB (lo ≤ n ∧ n ≤ hi) w) := by
  by_cases h1 : lo ≤ n
  · by_cases h2 : n ≤ hi
    all_goals
      go_enter Try.func58, Try.ntmps58
      go_wp2
      go_ret
      exact RetB.of (by simp; omega) (Nw.refl _)
  · go_enter Try.func58, Try.ntmps58
    go_wp2
    go_ret
    exact RetB.of (by simp; omega) (Nw.refl _)

theorem l1In_any (n lo hi : Int) (w : World) : Calls Try.prog 105 #[.int .i64 n, .int .i64 lo, .int .i64 hi] w (RetB (lo ≤ n ∧ n ≤ hi) w) := by
  by_cases h1 : lo ≤ n
  · by_cases h2 : n ≤ hi
    all_goals
      go_enter Try.func105, Try.ntmps105
      go_wp2
      go_ret
      exact RetB.of (by simp; omega) (Nw.refl _)
  · go_enter Try.func105, Try.ntmps105
    go_wp2
    go_ret
    exact RetB.of (by simp; omega) (Nw.refl _)

theorem nameOk_no {s : ByteArray} {k : Nat} (h : k < s.size) (hc : ¬ NameChar k s[k].toNat) : ¬ NameOk s := fun hn => hc (hn.1 k h)
theorem nameChar_step {s : ByteArray} {k : Nat} (h : k < s.size) (hy : ∀ j (h : j < s.size), j < k → NameChar j s[j].toNat) (hc : NameChar k s[k].toNat) : ∀ j (h : j < s.size), j < k + 1 → NameChar j s[j].toNat := by
  intro j hj hjk
  by_cases e : j = k
  · subst e; exact hc
  · exact hy j hj (by omega)

set_option maxRecDepth 100000 in
set_option maxHeartbeats 2000000 in
theorem l2Name_any (s : ByteArray) (w : World) (hs : s.size ≤ maxLen) : Calls Try.prog 125 #[.string s] w (RetB (NameOk s) w) := by
  have hm : s.size ≤ 9223372036854775807 := hs
  go_enter Try.func125, Try.ntmps125
  go_wp2
  go_loop [3] (fun i => ∃ k : Nat, k ≤ s.size ∧ i = .int .i64 k ∧ ∀ j (h : j < s.size), j < k → NameChar j s[j].toNat) (fun i => s.size - (intOf i).toNat)
  case atStart => exact ⟨0, Nat.zero_le _, rfl, fun j h h' => absurd h' (by omega)⟩
  case round =>
    obtain ⟨k, hk, rfl, hyes⟩ := hrel
    have HY := hid hyes
    clear hyes
    by_cases hlt : k < s.size
    · rcases (by omega : s[k].toNat < 48 ∨ (48 ≤ s[k].toNat ∧ s[k].toNat ≤ 57) ∨ (58 ≤ s[k].toNat ∧ s[k].toNat ≤ 96) ∨ (97 ≤ s[k].toNat ∧ s[k].toNat ≤ 122) ∨ 123 ≤ s[k].toNat) with h1 | ⟨h1, h2⟩ | ⟨h1, h2⟩ | ⟨h1, h2⟩ | h1
      all_goals first | have d0 : decide ((97 : Int) ≤ (s[k].toNat : Int)) = true := decide_eq_true (by omega) | have d0 : decide ((97 : Int) ≤ (s[k].toNat : Int)) = false := decide_eq_false (by omega)
      all_goals first | have d1 : decide ((s[k].toNat : Int) ≤ 122) = true := decide_eq_true (by omega) | have d1 : decide ((s[k].toNat : Int) ≤ 122) = false := decide_eq_false (by omega)
      all_goals first | have d2 : decide ((48 : Int) ≤ (s[k].toNat : Int)) = true := decide_eq_true (by omega) | have d2 : decide ((48 : Int) ≤ (s[k].toNat : Int)) = false := decide_eq_false (by omega)
      all_goals first | have d3 : decide ((s[k].toNat : Int) ≤ 57) = true := decide_eq_true (by omega) | have d3 : decide ((s[k].toNat : Int) ≤ 57) = false := decide_eq_false (by omega)
      all_goals first | have d4 : decide ((s[k].toNat : Int) < 48) = true := decide_eq_true (by omega) | have d4 : decide ((s[k].toNat : Int) < 48) = false := decide_eq_false (by omega)
      all_goals first | have d5 : decide ((57 : Int) < (s[k].toNat : Int)) = true := decide_eq_true (by omega) | have d5 : decide ((57 : Int) < (s[k].toNat : Int)) = false := decide_eq_false (by omega)
      all_goals rcases Nat.eq_zero_or_pos k with rfl | hk0
      all_goals try have hk1 : ((k : Int) == 0) = false := by simp; omega
      all_goals go_wp2
      all_goals first
        | (go_ret
           exact RetB.no (nameOk_no hlt (by unfold NameChar; omega)) (Nw.refl _))
        | (go_round
           case rel => exact ⟨_ + 1, by omega, by go_num, nameChar_step hlt HY.out (by unfold NameChar; omega)⟩
           case measure => simp [intOf]; omega)
    · have : k = s.size := by omega
      subst this
      go_wp2_with (go_at_call 105; refine (l1In_any _ _ _ _).mono ?_; rintro e w1 ⟨b, rfl, hb, hq1⟩)
      go_ret
      refine RetB.of (hb.trans ⟨fun h => ⟨fun j hj => HY.out j hj hj, by omega, by omega⟩, fun h => by have := h.2; omega⟩) hq1

set_option maxRecDepth 100000 in
set_option maxHeartbeats 2000000 in
theorem isName_any (s : ByteArray) (w : World) (hs : s.size ≤ maxLen) : Calls Try.prog 131 #[.string s] w (RetB (NameOk s) w) := by
  have hm : s.size ≤ 9223372036854775807 := hs
  go_enter Try.func131, Try.ntmps131
  go_wp2
  go_loopw [3] (fun i wr => ∃ k : Nat, k ≤ s.size ∧ i = .int .i64 k ∧ (∀ j (h : j < s.size), j < k → NameChar j s[j].toNat) ∧ Nw w wr) (fun i _ => s.size - (intOf i).toNat)
  case atStart => exact ⟨0, Nat.zero_le _, rfl, fun j h h' => absurd h' (by omega), Nw.refl _⟩
  case round =>
    obtain ⟨k, hk, rfl, hyes, hq⟩ := hrel
    have HY := hid hyes
    clear hyes
    by_cases hlt : k < s.size
    · have hi0 : (0 : Int) ≤ k := by omega
      have hi1 : (k : Int) < s.size := by omega
      rcases (by omega : s[k].toNat < 48 ∨ (48 ≤ s[k].toNat ∧ s[k].toNat ≤ 57) ∨ (58 ≤ s[k].toNat ∧ s[k].toNat ≤ 96) ∨ (97 ≤ s[k].toNat ∧ s[k].toNat ≤ 122) ∨ 123 ≤ s[k].toNat) with h1 | ⟨h1, h2⟩ | ⟨h1, h2⟩ | ⟨h1, h2⟩ | h1
      all_goals first | have d0 : decide ((97 : Int) ≤ (s[k].toNat : Int)) = true := decide_eq_true (by omega) | have d0 : decide ((97 : Int) ≤ (s[k].toNat : Int)) = false := decide_eq_false (by omega)
      all_goals first | have d1 : decide ((s[k].toNat : Int) ≤ 122) = true := decide_eq_true (by omega) | have d1 : decide ((s[k].toNat : Int) ≤ 122) = false := decide_eq_false (by omega)
      all_goals first | have d2 : decide ((48 : Int) ≤ (s[k].toNat : Int)) = true := decide_eq_true (by omega) | have d2 : decide ((48 : Int) ≤ (s[k].toNat : Int)) = false := decide_eq_false (by omega)
      all_goals first | have d3 : decide ((s[k].toNat : Int) ≤ 57) = true := decide_eq_true (by omega) | have d3 : decide ((s[k].toNat : Int) ≤ 57) = false := decide_eq_false (by omega)
      all_goals first | have d4 : decide ((s[k].toNat : Int) < 48) = true := decide_eq_true (by omega) | have d4 : decide ((s[k].toNat : Int) < 48) = false := decide_eq_false (by omega)
      all_goals first | have d5 : decide ((57 : Int) < (s[k].toNat : Int)) = true := decide_eq_true (by omega) | have d5 : decide ((57 : Int) < (s[k].toNat : Int)) = false := decide_eq_false (by omega)
      all_goals rcases Nat.eq_zero_or_pos k with rfl | hk0
      all_goals try have hk1 : ((k : Int) == 0) = false := by simp; omega
      all_goals go_wp2_with fail
      all_goals go_quiet (fail)
      all_goals go_wp2
      all_goals first
        | (go_ret
           exact RetB.no (nameOk_no hlt (by unfold NameChar; omega)) (hq.drewN _))
        | (go_roundw
           case rel => exact ⟨_ + 1, by omega, by go_num, nameChar_step hlt HY.out (by unfold NameChar; omega), hq.drewN _⟩
           case measure => simp [intOf]; omega)
    · have : k = s.size := by omega
      subst this
      go_wp2_with (go_at_call 58; refine (within_any _ _ _ _).mono ?_; rintro e w1 ⟨b, rfl, hb, hq1⟩)
      go_ret
      refine RetB.of (hb.trans ⟨fun h => ⟨fun j hj => HY.out j hj hj, by omega, by omega⟩, fun h => by have := h.2; omega⟩) (hq.trans hq1)

theorem bne_true {a b : Int} (h : a ≠ b) : (a != b) = true := by simpa using h
theorem bne_false {a b : Int} (h : a = b) : (a != b) = false := by simpa using h
theorem beq_true {a b : Int} (h : a = b) : (a == b) = true := by simpa using h
theorem beq_false {a b : Int} (h : a ≠ b) : (a == b) = false := by simpa using h
end Go.Proofs.Ytbelopdphlllnaa
