/- IsValidNetlist. -/
import Derived.Test.YtbelopdphlllnaaNi
import Derived.Lib.QuietBelow
import Derived.BigQuiet
namespace Go.Proofs.Ytbelopdphlllnaa
open Go.RowKit

theorem RetB.yes' {p : Prop} {w : World} {e : Ending} {w' : World} (hp : p) (h : RetB p w e w') : e = .returned (.bool true) ∧ Nw w w' := by
  obtain ⟨b, rfl, hb, hq⟩ := h
  rw [hb.2 hp]
  exact ⟨rfl, hq⟩
theorem RetB.no' {p : Prop} {w : World} {e : Ending} {w' : World} (hp : ¬ p) (h : RetB p w e w') : e = .returned (.bool false) ∧ Nw w w' := by
  obtain ⟨b, rfl, hb, hq⟩ := h
  cases b with
  | false => exact ⟨rfl, hq⟩
  | true => exact absurd (hb.1 rfl) hp

theorem IsIdx.uniq {α : Type} {p : α → Prop} {xs : List α} {r s : Int} (h : IsIdx p xs r) (k : IsIdx p xs s) : r = s := by
  rcases h with ⟨rfl, h⟩ | ⟨i, rfl, hi, h1, h2⟩
  · rcases k with ⟨rfl, _⟩ | ⟨j, rfl, hj, k1, k2⟩
    · rfl
    · exact absurd (k1 _ (List.getElem?_eq_getElem hj)) (h _ (List.getElem_mem hj))
  · rcases k with ⟨rfl, k⟩ | ⟨j, rfl, hj, k1, k2⟩
    · exact absurd (h1 _ (List.getElem?_eq_getElem hi)) (k _ (List.getElem_mem hi))
    · rcases Nat.lt_trichotomy i j with h | h | h
      · exact absurd (h1 _ (List.getElem?_eq_getElem hi)) (k2 i _ h (List.getElem?_eq_getElem hi))
      · rw [h]
      · exact absurd (k1 _ (List.getElem?_eq_getElem hj)) (h2 j _ h (List.getElem?_eq_getElem hj))
theorem isIdx_ex {α : Type} (p : α → Prop) (xs : List α) : ∃ r, IsIdx p xs r := by
  by_cases h : ∃ x ∈ xs, p x
  · have h2 : ∃ k, ∃ (hk : k < xs.length), p xs[k] := by
      obtain ⟨x, hx, hp⟩ := h
      obtain ⟨k, hk, e⟩ := List.mem_iff_getElem.1 hx
      exact ⟨k, hk, by rw [e]; exact hp⟩
    have h3 : ∃ n, (∃ (hk : n < xs.length), p xs[n]) ∧ ∀ m, (∃ (hk : m < xs.length), p xs[m]) → n ≤ m := Go.exists_least h2
    obtain ⟨n, ⟨hn, hp⟩, hl⟩ := h3
    refine ⟨n, .inr ⟨n, rfl, hn, fun x hx => ?_, fun j x hj hx hpx => ?_⟩⟩
    · rw [List.getElem?_eq_getElem hn] at hx
      cases hx
      exact hp
    · obtain ⟨h5, h6⟩ := List.getElem?_eq_some_iff.1 hx
      have := hl j ⟨h5, by rw [h6]; exact hpx⟩
      omega
  · exact ⟨-1, .inl ⟨rfl, fun x hx hp => h ⟨x, hx, hp⟩⟩⟩
/-- A callee's answer, met in a region that draws its order. -/
theorem Calls.rg {P : Program} {f : FuncId} {args : Array Value} {w : World} {v : Value} (h : ∀ W, Nw w W → Calls P f args W fun e w' => e = .returned v ∧ Nw W w') :
    ∀ d os, Calls P f args (Go.Sort.grow (redrawn w d) os) fun e w'' => e = .returned v ∧ ∃ p : Regrown, w'' = Go.Sort.grow (redrawn w p.d) p.os :=
  fun d os => Calls.regrown_of (h _ (below_regrown w d os))

/-- What the loop asks of the k-th wire. -/
structure NetI (ss : List DSignal) (ws : List DWire) (k : Nat) (x : DWire) : Prop where
  wire : WireI ss.length ws.length k x
  name : NameOk x.1
  fresh : ¬ ∃ y ∈ ws.take k, y.1 = x.1
  seen : ∀ y, ss[k]? = some y → x.1 = y.1 ∧ (x.2.1 = 1 ↔ y.2 = 1)
  hidden : ss.length ≤ k → (x.2.1 = 2 ∨ x.2.1 = 3) ∧ PinsIn k x.2.2.1
def NetIAt (ss : List DSignal) (ws : List DWire) (k : Nat) : Prop := ∀ x, ws[k]? = some x → NetI ss ws k x
theorem NetIAt.step {ss : List DSignal} {ws : List DWire} {k : Nat} (h : ∀ j, j < k → NetIAt ss ws j) (hk : NetIAt ss ws k) : ∀ j, j < k + 1 → NetIAt ss ws j := by
  intro j hj
  by_cases e : j = k
  · subst e; exact hk
  · exact h j (by omega)
/-- Both say one thing. -/
theorem netI_iff {ss : List DSignal} {ws : List DWire} (k : Nat) (hk : k < ws.length) : NetIAt ss ws k ↔ NetAt ss ws k := by
  constructor
  · intro h x hx
    have hi := h x hx
    have hki := hi.wire.kind
    refine ⟨⟨hki.1, fun h => (hi.hidden h).1, hi.seen, ⟨fun h5 => (hki.2.2.2.2 h5).1, hi.wire.cover⟩, hi.name, ?_, ?_⟩, ?_⟩
    · intro p hp
      refine ⟨hi.wire.pins p hp, fun h9 => ?_⟩
      have := (hi.hidden (by omega)).2 p hp
      omega
    · exact ⟨hki.2.1, hki.2.2.2.1, fun h5 => (hki.2.2.2.2 h5).2, fun h1 h4 h5 => hki.2.2.1 (by have := hki.1; omega)⟩
    · intro j y hj hy e
      exact hi.fresh ⟨y, List.mem_of_getElem? (i := j) (by rw [List.getElem?_take, if_pos hj]; exact hy), e⟩
  · intro h x hx
    obtain ⟨ha, hd⟩ := h x hx
    have hk2 := ha.kind2
    refine ⟨⟨ha.cover.2, fun p hp => (ha.pins p hp).1, ha.kd, hk2.1, fun h23 => hk2.2.2.2 (by omega) (by omega) (by omega), hk2.2.1, fun h5 => ⟨ha.cover.1 h5, hk2.2.2.1 h5⟩⟩, ha.name, ?_, ha.seen, fun hs => ⟨ha.hidden hs, fun p hp => ?_⟩⟩
    · rintro ⟨y, hy, e⟩
      obtain ⟨j, hj⟩ := List.mem_iff_getElem?.1 hy
      rw [List.getElem?_take] at hj
      split at hj
      · exact hd j y (by assumption) hj e
      · cases hj
    · have := ha.pins p hp
      omega

set_option maxRecDepth 100000 in
set_option maxHeartbeats 4000000 in
theorem IsValidNetlist_any (a0 a1 : Value) (n : DNetlist) (w : World) (hn : Rep tNetlist w [a0, a1] n) :
    Calls Try.prog 101 #[.agg #[a0, a1]] w (RetB (NetOk n.1 n.2) w) := by
  obtain ⟨ss, ws⟩ := n
  obtain ⟨rS, rW⟩ := hn.open2 rfl
  dsimp only at rS rW
  obtain ⟨AS, cS, rfl, hlS, hcS⟩ := rS.slv
  obtain ⟨AW, cW, rfl, hlW, hcW⟩ := rW.slv
  have hmS : ss.length ≤ 9223372036854775807 := by unfold maxLen at hcS; omega
  have hmW : ws.length ≤ 9223372036854775807 := by unfold maxLen at hcW; omega
  obtain ⟨W0, hW0, hN0, hcA, hsz⟩ := one_new w #[.slice AS ss.length cS, .slice AW ws.length cW] 32
  have a0 := hcA 0
  have a1 := hcA 1
  simp only [List.getElem?_toArray, List.getElem?_cons_zero, List.getElem?_cons_succ] at a0 a1
  have hs0 : w.heap.size < W0.heap.size := by omega
  clear hcA hsz
  have HPost : ∀ p, p = NetOk ss ws → Calls Try.prog 101 #[.agg #[.slice AS ss.length cS, .slice AW ws.length cW]] w (RetB p w) := by
    intro p hp
    have HP := hid hp
    clear hp
    go_enter Try.func101, Try.ntmps101
    go_wp2_with fail
    rw [← hW0]
    have HW := hid hW0
    clear hW0
    refine (areSignals_any _ ss _ (rS.nw (by (repeat (first | with_reducible exact Nw.refl _ | with_reducible assumption | with_reducible apply Nw.alloc | with_reducible apply Nw.drew | with_reducible apply Nw.drewN | (with_reducible refine Nw.setCell2 ?_ ?_; focus (first | (simp; done) | (simp; omega))) | with_reducible refine Nw.trans2 (by assumption) ?_))))).mono ?_
    rintro e w1 ⟨b1', rfl, hb1, hq1⟩
    obtain ⟨hc1, hf1⟩ := hq1.cells
    cases b1' with
    | false =>
      have HB1 := hid (RetB.not hb1)
      clear hb1
      go_wp2
      go_ret
      exact RetB.no (fun h => by rw [HP.out] at h; exact HB1.out h.1) (by (repeat (first | with_reducible exact Nw.refl _ | with_reducible assumption | with_reducible apply Nw.alloc | with_reducible apply Nw.drew | with_reducible apply Nw.drewN | (with_reducible refine Nw.setCell2 ?_ ?_; focus (first | (simp; done) | (simp; omega))) | with_reducible refine Nw.trans2 (by assumption) ?_)))
    | true =>
      have HSG := hid (hb1.1 rfl)
      clear hb1
      go_wp2_with fail
      refine (within_any _ _ _ _).mono ?_
      rintro e w2 ⟨b2', rfl, hb2, hq2⟩
      have hN2 : Nw W0 w2 := by (repeat (first | with_reducible exact Nw.refl _ | with_reducible assumption | with_reducible apply Nw.alloc | with_reducible apply Nw.drew | with_reducible apply Nw.drewN | (with_reducible refine Nw.setCell2 ?_ ?_; focus (first | (simp; done) | (simp; omega))) | with_reducible refine Nw.trans2 (by assumption) ?_))
      clear hc1 hf1 hq1 hq2
      obtain ⟨hc1, hf1⟩ := hN2.cells
      cases b2' with
      | false =>
        have HB2 := hid (RetB.not hb2)
        clear hb2
        go_wp2
        go_ret
        exact RetB.no (fun h => by rw [HP.out] at h; have := h.2.1; exact HB2.out (by omega)) (by (repeat (first | with_reducible exact Nw.refl _ | with_reducible assumption | with_reducible apply Nw.alloc | with_reducible apply Nw.drew | with_reducible apply Nw.drewN | (with_reducible refine Nw.setCell2 ?_ ?_; focus (first | (simp; done) | (simp; omega))) | with_reducible refine Nw.trans2 (by assumption) ?_)))
      | true =>
        have HLN := hid (hb2.1 rfl)
        clear hb2
        go_wp2
        clear hc1 hf1
        go_loopw [22] (fun i wr => ∃ k : Nat, k ≤ ws.length ∧ i = .int .i64 k ∧ (∀ j, j < k → NetIAt ss ws j) ∧ Nw W0 wr) (fun i _ => ws.length - (intOf i).toNat)
        case atStart => exact ⟨0, Nat.zero_le _, rfl, fun j h => absurd h (by omega), hN2⟩
        case round =>
          obtain ⟨wo, rfl⟩ : ∃ wo : World, wo = wr := ⟨_, rfl⟩
          obtain ⟨k, hk, rfl, hyes, hq⟩ := hrel
          have HY := hid hyes
          clear hyes hN2
          obtain ⟨hc0, hf0⟩ := hq.cells
          have hs2 : w.heap.size < wo.heap.size := by have := hq.size; omega
          by_cases hlt : k < ws.length
          · obtain ⟨b, o, v0, v1, v2, v3, rfl, hx, c0, c1, c2, c3⟩ := ((rW.nw hN0).nw hq).at4 rfl (List.getElem?_eq_getElem hlt)
            have HX := hid (List.getElem?_eq_getElem hlt)
            generalize hxk : ws[k] = x at *
            clear hxk
            obtain ⟨nm, kd, l, cv⟩ := x
            obtain ⟨r0, r1, rI, rC⟩ := hx.open4 rfl rfl rfl
            dsimp only at r0 r1 rI rC
            obtain ⟨rfl, hnm⟩ := r0.str_
            obtain ⟨rfl, -⟩ := r1.int_
            obtain ⟨AI, cI, rfl, -, -⟩ := rI.slv
            obtain ⟨AC, cC, rfl, -, -⟩ := rC.slv
            clear r0 r1 rC
            go_wp2_with fail
            obtain ⟨W1, hW1⟩ : ∃ W1, W1 = wo.alloc (.cells #[.string nm, .int .i64 kd, .slice AI l.length cI, .slice AC cv.length cC] 97) := ⟨_, rfl⟩
            have d0 : W1.cell? ⟨w.heap.size, 0, none⟩ = some (.slice AS ss.length cS) := by rw [hW1]; go_simp
            have d1 : W1.cell? ⟨w.heap.size, 1, none⟩ = some (.slice (some ⟨b, o, none⟩) ws.length cW) := by rw [hW1]; go_simp
            have d2 : W1.cell? ⟨wo.heap.size, 0, none⟩ = some (.string nm) := by rw [hW1]; go_simp
            have d3 : W1.cell? ⟨wo.heap.size, 1, none⟩ = some (.int .i64 kd) := by rw [hW1]; go_simp
            have d4 : W1.cell? ⟨wo.heap.size, 2, none⟩ = some (.slice AI l.length cI) := by rw [hW1]; go_simp
            have hNW1 : Nw W0 W1 := by rw [hW1]; exact hq.alloc _
            have hsW1 : wo.heap.size < W1.heap.size := by rw [hW1]; simp
            have hsW2 : w.heap.size < W1.heap.size := by omega
            rw [← hW1]
            have HWO := hid hW1
            clear hW1 hc0 hf0 c0 c1 c2 c3
            have g0 := cell_regrown d0
            have g1 := cell_regrown d1
            have g2 := cell_regrown d2
            have hi0 : (0 : Int) ≤ k := by omega
            have hi1 : (k : Int) < ws.length := by omega
            have hi2 : (k : Int) ≤ ws.length := by omega
            have hi3 : (k : Int) ≤ cW := by omega
            by_cases hW1 : WireI ss.length ws.length k (nm, kd, l, cv)
            · have hisw : ∀ W, Nw W1 W → Calls Try.prog 150 #[.agg #[.slice AS ss.length cS, .slice (some ⟨b, o, none⟩) ws.length cW], .int .i64 k] W fun e w' => e = .returned (.bool true) ∧ Nw W w' := fun W hqW =>
                (isWire_any _ _ (ss, ws) (nm, kd, l, cv) k _ HX.out (by exact hn.nw (hN0.trans (hNW1.trans hqW)))).mono fun _ _ h => RetB.yes' hW1 h
              have cWr := Calls.rg hisw
              have HKW := hid hW1
              clear hW1 hisw
              by_cases hNm : NameOk nm
              · have hisn : ∀ W, Nw W1 W → Calls Try.prog 131 #[.string nm] W fun e w' => e = .returned (.bool true) ∧ Nw W w' := fun W hqW =>
                  (isName_any nm _ hnm).mono fun _ _ h => RetB.yes' hNm h
                have cN := Calls.rg hisn
                have HKN := hid hNm
                clear hNm hisn
                obtain ⟨r, hr⟩ := isIdx_ex (fun x : DWire => x.1 = nm) (ws.take k)
                have hiso : ∀ W, Nw W1 W → Calls Try.prog 151 #[.slice (some ⟨b, o, none⟩) k cW, .string nm] W fun e w' => e = .returned (.int .i64 r) ∧ Nw W w' := fun W hqW =>
                  (wireOf_any _ (ws.take k) nm _ ((rW.nw (hN0.trans (hNW1.trans hqW))).cut hk cW (by omega) hcW)).mono fun _ _ h => by
                    obtain ⟨r', rfl, hr', hq'⟩ := h
                    exact ⟨by rw [hr.uniq hr'], hq'⟩
                have cO := Calls.rg hiso
                clear hiso
                by_cases hfr : ∃ x ∈ ws.take k, x.1 = nm
                · have hr0 : 0 ≤ r := hr.any.2 hfr
                  have HFR := hid hfr
                  clear hfr hr
                  refine wp_region_quiet_below (by kernel_rfl) (by kernel_rfl) ?_
                  repeat (go_big_quiet_step (first | exact cWr _ _ | exact cN _ _ | exact cO _ _))
                  refine wpQuiet_nil ?_
                  intro _ hw'
                  obtain ⟨⟨dq, osq⟩, hw''⟩ := hw'
                  subst hw''
                  have hNf : Nw W1 (Go.Sort.grow (redrawn W1 dq) osq) := below_regrown W1 dq osq
                  go_wp2
                  go_ret
                  exact RetB.no (fun h => by rw [HP.out] at h; exact ((netI_iff k hlt).2 (h.2.2 k hlt) _ HX.out).fresh HFR.out) (hN0.trans (hNW1.trans hNf))
                · have hr0 : r = -1 := by
                    rcases hr with ⟨h, _⟩ | ⟨j, rfl, hj, h1, _⟩
                    · exact h
                    · exact absurd ⟨_, List.getElem_mem hj, h1 _ (List.getElem?_eq_getElem hj)⟩ hfr
                  subst hr0
                  have HFR := hid hfr
                  clear hfr hr
                  refine wp_region_quiet_below (by kernel_rfl) (by kernel_rfl) ?_
                  repeat (go_big_quiet_step (first | exact cWr _ _ | exact cN _ _ | exact cO _ _))
                  refine wpQuiet_nil ?_
                  intro _ hw'
                  obtain ⟨⟨dq, osq⟩, hw''⟩ := hw'
                  subst hw''
                  have hNf : Nw W1 (Go.Sort.grow (redrawn W1 dq) osq) := below_regrown W1 dq osq
                  obtain ⟨W2, hW2⟩ : ∃ W2, W2 = Go.Sort.grow (redrawn W1 dq) osq := ⟨_, rfl⟩
                  rw [← hW2] at hNf ⊢
                  clear hW2 g0 g1 g2 cWr cN cO
                  obtain ⟨hc2, hf2⟩ := hNf.cells
                  have hN3 : Nw W0 W2 := hNW1.trans hNf
                  by_cases hks : k < ss.length
                  · obtain ⟨bs, os, s0, s1, rfl, hsx, e0, e1⟩ := ((rS.nw hN0).nw hN3).at2 rfl (List.getElem?_eq_getElem hks)
                    have HSX := hid (List.getElem?_eq_getElem hks)
                    generalize hsy : ss[k] = y at *
                    clear hsy
                    obtain ⟨sn, sk⟩ := y
                    obtain ⟨r5, r6⟩ := hsx.open2 rfl
                    dsimp only at r5 r6
                    obtain ⟨rfl, -⟩ := r5.str_
                    obtain ⟨rfl, -⟩ := r6.int_
                    clear r5 r6 hsx
                    have hj1 : (k : Int) < ss.length := by omega
                    have t0 := decide_eq_true hj1
                    have bad : ¬ (nm = sn ∧ (kd = 1 ↔ sk = 1)) → ∀ w', Nw w w' → RetB p w (.returned (.bool false)) w' := fun hb w' hq' =>
                      RetB.no (fun h => by rw [HP.out] at h; exact hb (((netI_iff k hlt).2 (h.2.2 k hlt) _ HX.out).seen _ HSX.out)) hq'
                    by_cases hnn : nm = sn
                    · have t1 := str_eq_t hnn
                      by_cases hk1 : kd = 1
                      · have t2 := beq_true hk1
                        by_cases hk2 : sk = 1
                        · have t3 := beq_true hk2
                          have HSN : Hid (nm = sn ∧ (kd = 1 ↔ sk = 1)) := hid ⟨hnn, by simp [hk1, hk2]⟩
                          clear hnn hk1 hk2 bad
                          go_wp2_with fail
                          go_quiet (fail)
                          go_wp2
                          go_roundw
                          case rel => exact ⟨k + 1, by omega, by go_num, NetIAt.step HY.out (fun x hx => by
                            rw [HX.out] at hx
                            cases hx
                            exact ⟨HKW.out, HKN.out, HFR.out, fun y hy => by rw [HSX.out] at hy; cases hy; exact HSN.out, fun h => absurd h (by omega)⟩), hN3.drewN _⟩
                          case measure => simp [intOf]; omega
                        · have t3 := beq_false hk2
                          have BAD := hid (bad (by rintro ⟨_, h⟩; exact hk2 (h.1 hk1)))
                          clear hnn hk1 hk2 bad
                          go_wp2_with fail
                          go_quiet (fail)
                          go_wp2
                          go_ret
                          exact BAD.out _ ((hN0.trans hN3).drewN _)
                      · have t2 := beq_false hk1
                        by_cases hk2 : sk = 1
                        · have t3 := beq_true hk2
                          have BAD := hid (bad (by rintro ⟨_, h⟩; exact hk1 (h.2 hk2)))
                          clear hnn hk1 hk2 bad
                          go_wp2_with fail
                          go_quiet (fail)
                          go_wp2
                          go_ret
                          exact BAD.out _ ((hN0.trans hN3).drewN _)
                        · have t3 := beq_false hk2
                          have HSN : Hid (nm = sn ∧ (kd = 1 ↔ sk = 1)) := hid ⟨hnn, by simp [hk1, hk2]⟩
                          clear hnn hk1 hk2 bad
                          go_wp2_with fail
                          go_quiet (fail)
                          go_wp2
                          go_roundw
                          case rel => exact ⟨k + 1, by omega, by go_num, NetIAt.step HY.out (fun x hx => by
                            rw [HX.out] at hx
                            cases hx
                            exact ⟨HKW.out, HKN.out, HFR.out, fun y hy => by rw [HSX.out] at hy; cases hy; exact HSN.out, fun h => absurd h (by omega)⟩), hN3.drewN _⟩
                          case measure => simp [intOf]; omega
                    · have t1 := str_eq_f hnn
                      have BAD := hid (bad (by rintro ⟨h, _⟩; exact hnn h))
                      clear hnn bad
                      go_wp2_with fail
                      go_quiet (fail)
                      go_wp2
                      go_ret
                      exact BAD.out _ ((hN0.trans hN3).drewN _)
                  · have hj1 : ¬ (k : Int) < ss.length := by omega
                    have t0 := decide_eq_false hj1
                    have hrI : Rep (.sl 244 tPin) W2 [.slice AI l.length cI] l := rI.nw ((show Nw wo W1 from by rw [HWO.out]; exact (Nw.refl _).alloc _).trans hNf)
                    have bad : ¬ ((kd = 2 ∨ kd = 3) ∧ PinsIn k l) → ∀ w', Nw w w' → RetB p w (.returned (.bool false)) w' := fun hb w' hq' =>
                      RetB.no (fun h => by rw [HP.out] at h; exact hb (((netI_iff k hlt).2 (h.2.2 k hlt) _ HX.out).hidden (by omega))) hq'
                    by_cases hkd : kd = 2 ∨ kd = 3
                    · have HKD := hid hkd
                      rcases hkd with hkd | hkd
                      · have t1 := bne_false hkd
                        clear hkd
                        go_wp2_with fail
                        refine (arePins_any _ l _ _ (by omega) (by omega) hrI).mono ?_
                        rintro e w3 ⟨b3, rfl, hb3, hq3⟩
                        cases b3 with
                        | false =>
                          have BAD := hid (bad (by rintro ⟨_, h⟩; exact RetB.not hb3 h))
                          clear hb3 bad
                          go_wp2
                          go_ret
                          exact BAD.out _ ((hN0.trans hN3).trans hq3)
                        | true =>
                          have HPI := hid (hb3.1 rfl)
                          clear hb3 bad
                          go_wp2
                          go_roundw
                          case rel => exact ⟨k + 1, by omega, by go_num, NetIAt.step HY.out (fun x hx => by
                            rw [HX.out] at hx
                            cases hx
                            exact ⟨HKW.out, HKN.out, HFR.out, fun y hy => absurd (List.getElem?_eq_some_iff.1 hy).1 (by omega), fun h => ⟨HKD.out, HPI.out⟩⟩), hN3.trans hq3⟩
                          case measure => simp [intOf]; omega
                      · have t1 := bne_true (a := kd) (b := 2) (by omega)
                        have t2 := bne_false hkd
                        clear hkd
                        go_wp2_with fail
                        refine (arePins_any _ l _ _ (by omega) (by omega) hrI).mono ?_
                        rintro e w3 ⟨b3, rfl, hb3, hq3⟩
                        cases b3 with
                        | false =>
                          have BAD := hid (bad (by rintro ⟨_, h⟩; exact RetB.not hb3 h))
                          clear hb3 bad
                          go_wp2
                          go_ret
                          exact BAD.out _ ((hN0.trans hN3).trans hq3)
                        | true =>
                          have HPI := hid (hb3.1 rfl)
                          clear hb3 bad
                          go_wp2
                          go_roundw
                          case rel => exact ⟨k + 1, by omega, by go_num, NetIAt.step HY.out (fun x hx => by
                            rw [HX.out] at hx
                            cases hx
                            exact ⟨HKW.out, HKN.out, HFR.out, fun y hy => absurd (List.getElem?_eq_some_iff.1 hy).1 (by omega), fun h => ⟨HKD.out, HPI.out⟩⟩), hN3.trans hq3⟩
                          case measure => simp [intOf]; omega
                    · have t1 := bne_true (a := kd) (b := 2) (by omega)
                      have t2 := bne_true (a := kd) (b := 3) (by omega)
                      have BAD := hid (bad (by rintro ⟨h, _⟩; exact hkd h))
                      clear hkd bad
                      go_wp2
                      go_ret
                      exact BAD.out _ (hN0.trans hN3)
              · have hisn : ∀ W, Nw W1 W → Calls Try.prog 131 #[.string nm] W fun e w' => e = .returned (.bool false) ∧ Nw W w' := fun W hqW =>
                  (isName_any nm _ hnm).mono fun _ _ h => RetB.no' hNm h
                have cN := Calls.rg hisn
                have HKN := hid hNm
                clear hNm hisn
                refine wp_region_quiet_below (by kernel_rfl) (by kernel_rfl) ?_
                repeat (go_big_quiet_step (first | exact cWr _ _ | exact cN _ _))
                refine wpQuiet_nil ?_
                intro _ hw'
                obtain ⟨⟨dq, osq⟩, hw''⟩ := hw'
                subst hw''
                have hNf : Nw W1 (Go.Sort.grow (redrawn W1 dq) osq) := below_regrown W1 dq osq
                go_wp2
                go_ret
                exact RetB.no (fun h => by rw [HP.out] at h; exact HKN.out ((netI_iff k hlt).2 (h.2.2 k hlt) _ HX.out).name) (hN0.trans (hNW1.trans hNf))
            · have hisw : ∀ W, Nw W1 W → Calls Try.prog 150 #[.agg #[.slice AS ss.length cS, .slice (some ⟨b, o, none⟩) ws.length cW], .int .i64 k] W fun e w' => e = .returned (.bool false) ∧ Nw W w' := fun W hqW =>
                (isWire_any _ _ (ss, ws) (nm, kd, l, cv) k _ HX.out (by exact hn.nw (hN0.trans (hNW1.trans hqW)))).mono fun _ _ h => RetB.no' hW1 h
              have cWr := Calls.rg hisw
              have HKW := hid hW1
              clear hW1 hisw
              refine wp_region_quiet_below (by kernel_rfl) (by kernel_rfl) ?_
              repeat (go_big_quiet_step (first | exact cWr _ _))
              refine wpQuiet_nil ?_
              intro _ hw'
              obtain ⟨⟨dq, osq⟩, hw''⟩ := hw'
              subst hw''
              have hNf : Nw W1 (Go.Sort.grow (redrawn W1 dq) osq) := below_regrown W1 dq osq
              go_wp2
              go_ret
              exact RetB.no (fun h => by rw [HP.out] at h; exact HKW.out ((netI_iff k hlt).2 (h.2.2 k hlt) _ HX.out).wire) (hN0.trans (hNW1.trans hNf))
          · have : k = ws.length := by omega
            subst this
            go_wp2
            go_ret
            refine RetB.yes ?_ (hN0.trans hq)
            rw [HP.out]
            exact ⟨HSG.out, by have := HLN.out; omega, fun j hj => (netI_iff j hj).1 (HY.out j hj)⟩
  exact HPost _ rfl
end Go.Proofs.Ytbelopdphlllnaa
