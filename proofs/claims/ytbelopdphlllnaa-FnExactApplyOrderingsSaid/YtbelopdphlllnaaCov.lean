/- Covers: valid ones; their literals. -/
import Derived.Test.YtbelopdphlllnaaStr
import Derived.Test.YtbelopdphlllnaaIdx
namespace Go.Proofs.Ytbelopdphlllnaa
open Go.RowKit

def CoverOk (n : Int) (l : List ByteArray) : Prop := (∀ c ∈ l, CubeChars c ∧ (c.size : Int) = n) ∧ (1 ≤ n ∧ n ≤ 8) ∧ l.length ≤ 60

set_option maxRecDepth 100000 in
set_option maxHeartbeats 2000000 in
theorem l13Good_any (n : Int) (v : Value) (l : List ByteArray) (w : World) (hr : Rep (.sl 9 .str) w [v] l) : Calls Try.prog 147 #[.int .i64 n, v] w (RetB (CoverOk n l) w) := by
  obtain ⟨A, c, rfl, hl, hc⟩ := hr.slv
  have hm : l.length ≤ 9223372036854775807 := by unfold maxLen at hc; omega
  go_enter Try.func147, Try.ntmps147
  go_wp2
  go_loopw [9] (fun i wr => ∃ k : Nat, k ≤ l.length ∧ i = .int .i64 k ∧ (∀ j c, j < k → l[j]? = some c → (CubeChars c ∧ 1 ≤ c.size ∧ c.size ≤ 8) ∧ (c.size : Int) = n) ∧ Nw w wr) (fun i _ => l.length - (intOf i).toNat)
  case atStart => exact ⟨0, Nat.zero_le _, rfl, fun j c h => absurd h (by omega), Nw.refl _⟩
  case round =>
    obtain ⟨wo, rfl⟩ : ∃ wo : World, wo = wr := ⟨_, rfl⟩
    obtain ⟨k, hk, rfl, hyes, hq⟩ := hrel
    have HY := hid hyes
    clear hyes
    by_cases hlt : k < l.length
    · obtain ⟨b, o, v0, rfl, hx, c0⟩ := (hr.nw hq).at1 rfl (List.getElem?_eq_getElem hlt)
      have HX := hid (List.getElem?_eq_getElem hlt)
      generalize hxk : l[k] = s at *
      clear hxk
      obtain ⟨rfl, hs⟩ := hx.str_
      have hsm : s.size ≤ 9223372036854775807 := hs
      have Hs := hid hs
      clear hx hs
      go_wp2_with fail
      refine (l13Cube_any s _ Hs.out).mono ?_
      rintro e w1 ⟨b1, rfl, hb1, hq1⟩
      cases b1 with
      | false =>
        have HB1 := hid (RetB.not hb1)
        clear hb1
        go_wp2
        go_ret
        refine RetB.no (fun h => HB1.out ?_) (by (repeat (first | with_reducible exact Nw.refl _ | with_reducible assumption | with_reducible apply Nw.alloc | with_reducible apply Nw.drew | with_reducible apply Nw.drewN | (with_reducible refine Nw.setCell2 ?_ ?_; focus (first | (simp; done) | (simp; omega))) | with_reducible refine Nw.trans2 (by assumption) ?_)))
        obtain ⟨h1, h2⟩ := h.1 s (List.mem_of_getElem? HX.out)
        have h3 := h.2.1
        exact ⟨h1, by omega, by omega⟩
      | true =>
        have HB1 := hid (hb1.1 rfl)
        clear hb1
        by_cases hn : (s.size : Int) = n
        · have hn2 := bne_false hn
          have HN := hid hn
          clear hn
          go_wp2
          go_roundw
          case rel => exact ⟨k + 1, by omega, by go_num, fun j c hj hc => by
            by_cases e : j = k
            · subst e
              rw [HX.out] at hc
              cases hc
              exact ⟨HB1.out, HN.out⟩
            · exact HY.out j c (by omega) hc, by (repeat (first | with_reducible exact Nw.refl _ | with_reducible assumption | with_reducible apply Nw.alloc | with_reducible apply Nw.drew | with_reducible apply Nw.drewN | (with_reducible refine Nw.setCell2 ?_ ?_; focus (first | (simp; done) | (simp; omega))) | with_reducible refine Nw.trans2 (by assumption) ?_))⟩
          case measure => simp [intOf]; omega
        · have hn2 := bne_true hn
          have HN := hid hn
          clear hn
          go_wp2
          go_ret
          exact RetB.no (fun h => HN.out (h.1 s (List.mem_of_getElem? HX.out)).2) (by (repeat (first | with_reducible exact Nw.refl _ | with_reducible assumption | with_reducible apply Nw.alloc | with_reducible apply Nw.drew | with_reducible apply Nw.drewN | (with_reducible refine Nw.setCell2 ?_ ?_; focus (first | (simp; done) | (simp; omega))) | with_reducible refine Nw.trans2 (by assumption) ?_)))
    · have : k = l.length := by omega
      subst this
      have hall : ∀ c ∈ l, CubeChars c ∧ (c.size : Int) = n := fun c hc => by
        obtain ⟨j, hj⟩ := List.mem_iff_getElem?.1 hc
        have := HY.out j c (List.getElem?_eq_some_iff.1 hj).1 hj
        exact ⟨this.1.1, this.2⟩
      have HA := hid hall
      clear hall
      go_wp2_with fail
      refine (l1In_any _ _ _ _).mono ?_
      rintro e w1 ⟨b, rfl, hb, hq1⟩
      cases b with
      | false =>
        have HB1 := hid (RetB.not hb)
        clear hb
        go_wp2
        go_ret
        exact RetB.no (fun h => HB1.out h.2.1) (hq.trans hq1)
      | true =>
        have HB1 := hid (hb.1 rfl)
        clear hb
        go_wp2
        go_ret
        exact RetB.of (by simp only [decide_eq_true_eq]; exact ⟨fun h => ⟨HA.out, HB1.out, by omega⟩, fun h => by have := h.2.2; omega⟩) (hq.trans hq1)

theorem enters_IsValidCover1 : Enters Try.prog 234 := fun args W => run_enter Try.func234 (by kernel_rfl) rfl args W
theorem IsValidCover1_any (v0 : Value) (s : ByteArray) (g : Nat) (n : Int) (W : World) (hx : Rep .str W [v0] s) (hb : W.cell? ⟨g, 0, none⟩ = some (.int .i64 n)) :
    Calls Try.prog 234 #[v0, .pointer (some ⟨g, 0, none⟩)] W (RetB (¬ (CubeChars s ∧ (s.size : Int) = n ∧ 1 ≤ n ∧ n ≤ 8)) W) := by
  obtain ⟨rfl, hs⟩ := hx.str_
  have Hs := hid hs
  clear hx hs
  go_enter Try.func234, Try.ntmps234
  go_wp2_with fail
  refine (isCube_any s n _ Hs.out).mono ?_
  rintro e w1 ⟨b, rfl, hb1, hq1⟩
  have HB := hid hb1
  clear hb1
  go_wp2
  go_ret
  exact RetB.of (by have := HB.out; cases b <;> simp_all) hq1

set_option maxRecDepth 100000 in
set_option maxHeartbeats 2000000 in
theorem IsValidCover_any (n : Int) (v : Value) (l : List ByteArray) (w : World) (hr : Rep (.sl 9 .str) w [v] l) : Calls Try.prog 198 #[.int .i64 n, v] w (RetB (CoverOk n l) w) := by
  obtain ⟨A, c, rfl, hl, hc⟩ := hr.slv
  have hm : l.length ≤ 9223372036854775807 := by unfold maxLen at hc; omega
  go_enter Try.func198, Try.ntmps198
  go_wp2_with fail
  refine (within_any _ _ _ _).mono ?_
  rintro e w1 ⟨b, rfl, hb, hq1⟩
  obtain ⟨hc1, hf1⟩ := hq1.cells
  have hz1 : w.heap.size < w1.heap.size := by (have hz2 := hq1.size; simp at hz2; omega)
  cases b with
  | false =>
    have HB1 := hid (RetB.not hb)
    clear hb
    go_wp2
    go_ret
    exact RetB.no (fun h => HB1.out h.2.1) (by (repeat (first | with_reducible exact Nw.refl _ | with_reducible assumption | with_reducible apply Nw.alloc | with_reducible apply Nw.drew | with_reducible apply Nw.drewN | (with_reducible refine Nw.setCell2 ?_ ?_; focus (first | (simp; done) | (simp; omega))) | with_reducible refine Nw.trans2 (by assumption) ?_)))
  | true =>
    have HB1 := hid (hb.1 rfl)
    clear hb
    by_cases h60 : l.length ≤ 60
    · have h61 : decide ((l.length : Int) ≤ 60) = true := decide_eq_true (by omega)
      have hbx : w1.cell? ⟨w.heap.size, 0, none⟩ = some (.int .i64 n) := by go_simp
      have HBX := hid hbx
      go_wp2_with fail
      refine (containsFuncstr_any (fun s => ¬ (CubeChars s ∧ (s.size : Int) = n ∧ 1 ≤ n ∧ n ≤ 8)) l _ _ _ _ (hr.nw (by (repeat (first | with_reducible exact Nw.refl _ | with_reducible assumption | with_reducible apply Nw.alloc | with_reducible apply Nw.drew | with_reducible apply Nw.drewN | (with_reducible refine Nw.setCell2 ?_ ?_; focus (first | (simp; done) | (simp; omega))) | with_reducible refine Nw.trans2 (by assumption) ?_)))) enters_IsValidCover1 ?_).mono ?_
      · intro i y W u0 hi hqW hy
        exact IsValidCover1_any u0 y _ n W hy (by rw [(hqW.cells).1 _ _ hz1]; exact HBX.out)
      · rintro e w3 ⟨b3, rfl, hb3, hq3⟩
        have HB3 := hid hb3
        clear hb3
        go_wp2
        go_ret
        refine RetB.of ?_ (by (repeat (first | with_reducible exact Nw.refl _ | with_reducible assumption | with_reducible apply Nw.alloc | with_reducible apply Nw.drew | with_reducible apply Nw.drewN | (with_reducible refine Nw.setCell2 ?_ ?_; focus (first | (simp; done) | (simp; omega))) | with_reducible refine Nw.trans2 (by assumption) ?_)))
        have h3 := HB3.out
        have h4 := HB1.out
        cases b3 with
        | true =>
          simp only [Bool.not_true, Bool.false_eq_true, false_iff]
          obtain ⟨s, hs, hn⟩ := h3.1 rfl
          exact fun h => hn ⟨(h.1 s hs).1, (h.1 s hs).2, h4⟩
        | false =>
          simp only [Bool.not_false, true_iff]
          have h5 := RetB.not h3
          refine ⟨fun s hs => ?_, h4, h60⟩
          have h6 := Classical.not_not.1 (fun hn => h5 ⟨s, hs, hn⟩)
          exact ⟨h6.1, h6.2.1⟩
    · have h61 : decide ((l.length : Int) ≤ 60) = false := decide_eq_false (by omega)
      go_wp2
      go_ret
      exact RetB.no (fun h => h60 h.2.2) (by (repeat (first | with_reducible exact Nw.refl _ | with_reducible assumption | with_reducible apply Nw.alloc | with_reducible apply Nw.drew | with_reducible apply Nw.drewN | (with_reducible refine Nw.setCell2 ?_ ?_; focus (first | (simp; done) | (simp; omega))) | with_reducible refine Nw.trans2 (by assumption) ?_)))
end Go.Proofs.Ytbelopdphlllnaa
