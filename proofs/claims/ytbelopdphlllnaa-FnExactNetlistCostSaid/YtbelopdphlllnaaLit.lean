/- The literals of a cover. -/
import Derived.Test.YtbelopdphlllnaaStr
namespace Go.Proofs.Ytbelopdphlllnaa
open Go.RowKit

/-- How many of the first k bytes are no dash. -/
def litsTo (s : ByteArray) (k : Nat) : Nat := (s.data.toList.take k).countP (fun c => c.toNat != 45)
def lits (s : ByteArray) : Nat := litsTo s s.size
def litSum (l : List ByteArray) : Nat := (l.map lits).sum
theorem litsTo_le (s : ByteArray) (k : Nat) : litsTo s k ≤ k := by
  unfold litsTo
  exact Nat.le_trans List.countP_le_length (List.length_take_le _ _)
theorem lits_le (s : ByteArray) : lits s ≤ s.size := litsTo_le s s.size
theorem litsTo_succ {s : ByteArray} {k : Nat} (h : k < s.size) : litsTo s (k + 1) = litsTo s k + if s[k].toNat = 45 then 0 else 1 := by
  unfold litsTo
  have hl : k < s.data.toList.length := by simpa using h
  rw [List.take_succ_eq_append_getElem hl, List.countP_append]
  congr 1
  have : s.data.toList[k] = s[k] := by simp; rfl
  rw [List.countP_singleton, this]
  by_cases e : s[k].toNat = 45 <;> simp [e]
theorem litSum_le (l : List ByteArray) : litSum l ≤ (l.map (fun s => s.size)).sum := by
  induction l with
  | nil => simp [litSum]
  | cons s l ih =>
    have := lits_le s
    simp only [litSum, List.map_cons, List.sum_cons] at ih ⊢
    omega
theorem litSum_take_succ {l : List ByteArray} {k : Nat} (h : k < l.length) : litSum (l.take (k + 1)) = litSum (l.take k) + lits l[k] := sum_take_succ lits l k h
theorem litSum_take_le (l : List ByteArray) (k : Nat) : litSum (l.take k) ≤ litSum l := sum_take_le lits l k

set_option maxRecDepth 100000 in
set_option maxHeartbeats 2000000 in
theorem l14Literals_any (v : Value) (l : List ByteArray) (w : World) (hr : Rep (.sl 9 .str) w [v] l) (hz : Ty.tot (.sl 9 .str) l ≤ 1048576) :
    Calls Try.prog 98 #[v] w fun e w' => e = .returned (.int .i64 (litSum l)) ∧ w' = w := by
  obtain ⟨A, c, rfl, hl, hc⟩ := hr.slv
  have hls : l.length + (l.map (fun s => s.size)).sum ≤ 1048576 := hz
  have hm : l.length ≤ 1048576 := by omega
  have hlb := litSum_le l
  have hlt9 : litSum l ≤ 1048576 := by omega
  clear hls hlb hz
  go_enter Try.func98, Try.ntmps98
  go_wp2
  go_loop [3, 9] (fun n i => ∃ k : Nat, k ≤ l.length ∧ i = .int .i64 k ∧ n = .int .i64 (litSum (l.take k))) (fun _ i => l.length - (intOf i).toNat)
  case atStart => exact ⟨0, Nat.zero_le _, rfl, rfl⟩
  case round =>
    obtain ⟨k, hk, rfl, rfl⟩ := hrel
    by_cases hlt : k < l.length
    · obtain ⟨b, o, v0, rfl, hx, c0⟩ := hr.at1 rfl (List.getElem?_eq_getElem hlt)
      have h1 := litSum_take_succ hlt
      have h2 := litSum_take_le l (k + 1)
      generalize hxk : l[k] = s at *
      clear hxk
      obtain ⟨rfl, hs⟩ := hx.str_
      have hsm : s.size ≤ 9223372036854775807 := hs
      clear hx hs
      have h3 : litSum (l.take k) + lits s ≤ 1048576 := by omega
      generalize hS : litSum (l.take k) = S at *
      clear hS h2
      generalize hS' : litSum (l.take (k + 1)) = S' at *
      have H1 := hid h1
      have HS' := hid hS'
      clear h1 hS'
      go_wp2
      go_loop [3, 6] (fun n i => ∃ m : Nat, m ≤ s.size ∧ i = .int .i64 m ∧ n = .int .i64 (S + litsTo s m : Nat)) (fun _ i => s.size - (intOf i).toNat)
      case atStart => exact ⟨0, Nat.zero_le _, rfl, rfl⟩
      case round =>
        obtain ⟨m, hm2, rfl, rfl⟩ := hrel
        by_cases hlm : m < s.size
        · have h4 := litsTo_succ hlm
          have h5 := litsTo_le s m
          have h6 : S + litsTo s m ≤ 9223372036854775800 := by
            have : litsTo s m ≤ lits s := by
              unfold lits litsTo
              exact (List.take_sublist_take_left (by omega)).countP_le
            omega
          have H4 := hid h4
          clear h4
          by_cases h45 : s[m].toNat = 45
          · have h46 := bne_false (a := (s[m].toNat : Int)) (b := 45) (by omega)
            have H45 := hid h45
            clear h45
            go_wp2
            go_round
            case rel => exact ⟨m + 1, by omega, by go_num, by rw [H4.out, if_pos H45.out]; rfl⟩
            case measure => simp [intOf]; omega
          · have h46 := bne_true (a := (s[m].toNat : Int)) (b := 45) (by omega)
            have H45 := hid h45
            clear h45
            go_wp2
            go_round
            case rel => exact ⟨m + 1, by omega, by go_num, by rw [H4.out, if_neg H45.out]; go_num⟩
            case measure => simp [intOf]; omega
        · have : m = s.size := by omega
          subst this
          go_wp2
          go_round
          case rel => exact ⟨k + 1, by omega, by go_num, by rw [HS'.out, H1.out]; rfl⟩
          case measure => simp [intOf]; omega
    · have : k = l.length := by omega
      subst this
      go_wp2
      go_ret
      exact ⟨rfl, rfl⟩
set_option maxRecDepth 100000 in
set_option maxHeartbeats 2000000 in
theorem literals_any (v : Value) (l : List ByteArray) (w : World) (hr : Rep (.sl 9 .str) w [v] l) (hz : Ty.tot (.sl 9 .str) l ≤ 1048576) :
    Calls Try.prog 49 #[v] w fun e w' => e = .returned (.int .i64 (litSum l)) ∧ w' = w := by
  obtain ⟨A, c, rfl, hl, hc⟩ := hr.slv
  have hls : l.length + (l.map (fun s => s.size)).sum ≤ 1048576 := hz
  have hm : l.length ≤ 1048576 := by omega
  have hlb := litSum_le l
  have hlt9 : litSum l ≤ 1048576 := by omega
  clear hls hlb hz
  go_enter Try.func49, Try.ntmps49
  go_wp2
  go_loop [3, 9] (fun n i => ∃ k : Nat, k ≤ l.length ∧ i = .int .i64 k ∧ n = .int .i64 (litSum (l.take k))) (fun _ i => l.length - (intOf i).toNat)
  case atStart => exact ⟨0, Nat.zero_le _, rfl, rfl⟩
  case round =>
    obtain ⟨k, hk, rfl, rfl⟩ := hrel
    by_cases hlt : k < l.length
    · obtain ⟨b, o, v0, rfl, hx, c0⟩ := hr.at1 rfl (List.getElem?_eq_getElem hlt)
      have h1 := litSum_take_succ hlt
      have h2 := litSum_take_le l (k + 1)
      generalize hxk : l[k] = s at *
      clear hxk
      obtain ⟨rfl, hs⟩ := hx.str_
      have hsm : s.size ≤ 9223372036854775807 := hs
      clear hx hs
      have h3 : litSum (l.take k) + lits s ≤ 1048576 := by omega
      generalize hS : litSum (l.take k) = S at *
      clear hS h2
      generalize hS' : litSum (l.take (k + 1)) = S' at *
      have H1 := hid h1
      have HS' := hid hS'
      clear h1 hS'
      go_wp2
      go_loop [3, 15] (fun n i => ∃ m : Nat, m ≤ s.size ∧ i = .int .i64 m ∧ n = .int .i64 (S + litsTo s m : Nat)) (fun _ i => s.size - (intOf i).toNat)
      case atStart => exact ⟨0, Nat.zero_le _, rfl, rfl⟩
      case round =>
        obtain ⟨m, hm2, rfl, rfl⟩ := hrel
        by_cases hlm : m < s.size
        · have h4 := litsTo_succ hlm
          have h5 := litsTo_le s m
          have h6 : S + litsTo s m ≤ 9223372036854775800 := by
            have : litsTo s m ≤ lits s := by
              unfold lits litsTo
              exact (List.take_sublist_take_left (by omega)).countP_le
            omega
          have H4 := hid h4
          clear h4
          by_cases h45 : s[m].toNat = 45
          · have h46 := bne_false (a := (s[m].toNat : Int)) (b := 45) (by omega)
            have H45 := hid h45
            clear h45
            go_wp2
            go_round
            case rel => exact ⟨m + 1, by omega, by go_num, by rw [H4.out, if_pos H45.out]; rfl⟩
            case measure => simp [intOf]; omega
          · have h46 := bne_true (a := (s[m].toNat : Int)) (b := 45) (by omega)
            have H45 := hid h45
            clear h45
            go_wp2
            go_round
            case rel => exact ⟨m + 1, by omega, by go_num, by rw [H4.out, if_neg H45.out]; go_num⟩
            case measure => simp [intOf]; omega
        · have : m = s.size := by omega
          subst this
          go_wp2
          go_round
          case rel => exact ⟨k + 1, by omega, by go_num, by rw [HS'.out, H1.out]; rfl⟩
          case measure => simp [intOf]; omega
    · have : k = l.length := by omega
      subst this
      go_wp2
      go_ret
      exact ⟨rfl, rfl⟩
end Go.Proofs.Ytbelopdphlllnaa
