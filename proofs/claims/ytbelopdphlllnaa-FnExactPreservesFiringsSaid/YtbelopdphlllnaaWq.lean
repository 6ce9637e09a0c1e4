/- Walks over abstract states: the state graph, both sides. -/
import Derived.Test.YtbelopdphlllnaaWp
namespace Go.Proofs.Ytbelopdphlllnaa
open Go.RowKit

/-- A column of bits put behind the codes, from place i on. -/
def addF : Nat → List ByteArray → List UInt8 → List ByteArray
  | _, c, [] => c
  | i, c, v :: vs => addF (i + 1) (c.set i ((c[i]?).getD ByteArray.empty ++ ⟨#[v]⟩)) vs
def goS (n : Nat) (arcs : List DAr) : Nat → Nat → List ByteArray → Option (List ByteArray)
  | 0, _, c => some c
  | f + 1, k, c => if (valsV n arcs (k : Int)).2 = true then goS n arcs f (k + 1) (addF 0 c (valsV n arcs (k : Int)).1) else none
section
variable {n f k i m : Nat} {arcs : List DAr} {c codes : List ByteArray} {vs us : List UInt8} {v : UInt8} {x : ByteArray}
theorem addF_step (hv : vs[i]? = some v) (hx : c[i]? = some x) : addF i c (vs.drop i) = addF (i + 1) (c.set i (x ++ ⟨#[v]⟩)) (vs.drop (i + 1)) := by
  rw [drop_cons hv, addF, hx]
  rfl
theorem addF_end (h : vs.length ≤ i) : addF i c (vs.drop i) = c := by rw [List.drop_eq_nil_of_le h, addF]
theorem goS_ok (hk : k < m) (h : (valsV n arcs (k : Int)).2 = true) : goS n arcs (m - k) k c = goS n arcs (m - (k + 1)) (k + 1) (addF 0 c (valsV n arcs (k : Int)).1) := by
  rw [show m - k = (m - (k + 1)) + 1 by omega, goS, if_pos h]
theorem goS_bad (hk : k < m) (h : (valsV n arcs (k : Int)).2 = false) : goS n arcs (m - k) k c = none := by
  rw [show m - k = (m - (k + 1)) + 1 by omega, goS, if_neg (by rw [h]; decide)]
theorem goS_end (hk : m ≤ k) : goS n arcs (m - k) k c = some c := by rw [show m - k = 0 by omega, goS]
theorem goS_none {j : Nat} (h : (valsV n arcs (j : Int)).2 = false) (hk : k ≤ j) (hj : j < k + f) : goS n arcs f k c = none := by
  induction f generalizing k c with
  | zero => omega
  | succ f ih =>
    rw [goS]
    by_cases e : j = k
    · subst e; rw [if_neg (by rw [h]; decide)]
    · split
      · exact ih (by omega) (by omega)
      · rfl
theorem vals_of_l5 (hr : ∀ a ∈ arcs, InR n a) (sig : Int) : (valsV n arcs sig).2 = (l5V n arcs sig).2 := by
  rcases l5V_vals (sig := sig) hr with ⟨h1, h2, _⟩ | ⟨us, h1, _, h2⟩
  · rw [h1, h2]
  · rw [h1, h2]
theorem clash_none (h : ¬ 0 < ((clash n arcs m).length : Int)) (hk : k < m) : (l5V n arcs (k : Int)).2 = true := by
  induction m with
  | zero => omega
  | succ m ih =>
    simp only [clash, List.length_append] at h
    by_cases e : k = m
    · subst e
      cases h2 : (l5V n arcs (k : Int)).2 with
      | true => rfl
      | false => rw [h2] at h; simp at h
    · exact ih (by omega) (by omega)
theorem clash_some (hr : ∀ a ∈ arcs, InR n a) (h : 0 < ((clash n arcs m).length : Int)) : goS n arcs m 0 c = none := by
  have : ∃ j, j < m ∧ (l5V n arcs (j : Int)).2 = false := by
    induction m with
    | zero => simp [clash] at h
    | succ m ih =>
      simp only [clash, List.length_append] at h
      cases h2 : (l5V n arcs (m : Int)).2 with
      | false => exact ⟨m, by omega, h2⟩
      | true =>
        rw [h2] at h
        obtain ⟨j, h3, h4⟩ := ih (by simpa using h)
        exact ⟨j, by omega, h4⟩
  obtain ⟨j, h1, h2⟩ := this
  exact goS_none ((vals_of_l5 hr _).trans h2) (Nat.zero_le _) (by omega)
theorem vals_len (hr : ∀ a ∈ arcs, InR n a) (sig : Int) : (valsV n arcs sig).1.length ≤ n := by
  rcases l5V_vals (sig := sig) hr with ⟨_, _, _, h2⟩ | ⟨us, _, h1, h2⟩
  · rw [h2]; exact Nat.zero_le _
  · rw [h2, List.length_map, h1]; exact Nat.le_refl _
theorem size_set {b : Nat} {y : ByteArray} (h : ∀ z ∈ c, z.size ≤ b) (hx : c[i]? = some x) (hy : y.size ≤ x.size + 1) : ∀ z ∈ c.set i y, z.size ≤ b + 1 := fun z hz => by
  rcases List.mem_or_eq_of_mem_set hz with h1 | h1
  · exact Nat.le_succ_of_le (h z h1)
  · rw [h1]; have := h x (List.mem_of_getElem? hx); omega
theorem arcs_inr {ls : List DLabel} {ms : List DMv} {q : Nat} (h : ∀ v ∈ ms, MvOk n q v) : ∀ a ∈ arcsOf ls ms, InR n a := fun a ha => by
  obtain ⟨v, hv, rfl⟩ := List.mem_map.1 ha
  obtain ⟨h1, _, h2⟩ := h v hv
  exact ⟨h1, h2⟩
theorem l5V_us {sig : Int} (hr : ∀ a ∈ arcs, InR n a) (h : (l5V n arcs sig).2 = true) : ∃ us : List UInt8, (l5V n arcs sig).1 = ⟨us.toArray⟩ ∧ us.length = n ∧ (l5V n arcs sig).1.size = n ∧ valsV n arcs sig = (us.map q0, true) := by
  rcases l5V_vals (sig := sig) hr with ⟨h1, _⟩ | ⟨us, h1, h2, h3⟩
  · rw [h1] at h; cases h
  · exact ⟨us, by rw [h1], h2, by rw [h1, ← h2]; rfl, h3⟩
theorem ext_le1 (b : ByteArray) (i : Nat) : (b.extract i (i + 1)).size ≤ 1 := by simp only [ByteArray.size_extract]; omega
theorem ext1 (hu : us[i]? = some v) : (⟨us.toArray⟩ : ByteArray).extract i (i + 1) = ⟨#[v]⟩ := by
  apply ByteArray.ext
  simp only [ByteArray.data_extract]
  obtain ⟨h1, h2⟩ := List.getElem?_eq_some_iff.1 hu
  apply Array.ext
  · simp; omega
  · intro j h3 h4
    have : j = 0 := by simp at h4; omega
    subst this
    simp [h2]
theorem q0_at (hu : us[i]? = some v) : (us.map q0)[i]? = some (q0 v) := by rw [List.getElem?_map, hu]; rfl
theorem addQ_q {b : ByteArray} (hb : b = ⟨us.toArray⟩) (hi : i < us.length) (hd : decide (b.extract i (i + 1) = ⟨#[63]⟩) = true) (hx : c[i]? = some x) : addF i c ((us.map q0).drop i) = addF (i + 1) (c.set i (x ++ ⟨#[48]⟩)) ((us.map q0).drop (i + 1)) := by
  have hu := List.getElem?_eq_getElem hi
  have h1 := of_decide_eq_true hd
  rw [hb, ext1 hu] at h1
  have h2 : us[i] = 63 := by
    have := congrArg (fun b : ByteArray => b.data[0]?) h1
    simpa using this
  have := addF_step (q0_at hu) hx
  rwa [show q0 us[i] = 48 by rw [h2]; rfl] at this
theorem addQ_n {b : ByteArray} (hb : b = ⟨us.toArray⟩) (hi : i < us.length) (hd : decide (b.extract i (i + 1) = ⟨#[63]⟩) = false) (hx : c[i]? = some x) : addF i c ((us.map q0).drop i) = addF (i + 1) (c.set i (x ++ b.extract i (i + 1))) ((us.map q0).drop (i + 1)) := by
  have hu := List.getElem?_eq_getElem hi
  have h1 := of_decide_eq_false hd
  rw [hb, ext1 hu] at h1 ⊢
  have := addF_step (q0_at hu) hx
  rwa [show q0 us[i] = us[i] by unfold q0; rw [if_neg]; intro e; exact h1 (by rw [e])] at this
theorem addQ_end (h : us.length ≤ i) : addF i c ((us.map q0).drop i) = c := addF_end (by simpa using h)
end
section
variable [∀ s, Decidable (StgOk s)] {s : DSTG} {c : List ByteArray}
def zeroSG : List (ByteArray × Int) × List ByteArray × List DAr := ([], [], [])
def sgV (s : DSTG) : (List (ByteArray × Int) × List ByteArray × List DAr) × Bool :=
  if (exploreV s).2 = true ∧ ¬ 4000 < (exploreV s).1.2.length then
    (match goS (exploreV s).1.1.length (arcsOf s.2.2.1 (exploreV s).1.2) s.2.1.length 0 (List.replicate (exploreV s).1.1.length ByteArray.empty) with
    | some c => ((s.2.1, c, arcsOf s.2.2.1 (exploreV s).1.2), true)
    | none => (zeroSG, false))
  else (zeroSG, false)
theorem sgV_no1 (h : (exploreV s).2 = false) : sgV s = (zeroSG, false) := if_neg fun h2 => by rw [h] at h2; cases h2.1
theorem sgV_no2 (h : (4000 : Int) < ((exploreV s).1.2.length : Int)) : sgV s = (zeroSG, false) := if_neg fun h2 => h2.2 (by omega)
theorem sgV_no3 (h : goS (exploreV s).1.1.length (arcsOf s.2.2.1 (exploreV s).1.2) s.2.1.length 0 (List.replicate (exploreV s).1.1.length ByteArray.empty) = none) : sgV s = (zeroSG, false) := by
  unfold sgV
  rw [h]
  split <;> rfl
theorem sgV_yes (h1 : (exploreV s).2 = true) (h2 : ¬ (4000 : Int) < ((exploreV s).1.2.length : Int)) (h : goS (exploreV s).1.1.length (arcsOf s.2.2.1 (exploreV s).1.2) s.2.1.length 0 (List.replicate (exploreV s).1.1.length ByteArray.empty) = some c) :
    sgV s = ((s.2.1, c, arcsOf s.2.2.1 (exploreV s).1.2), true) := by
  unfold sgV
  rw [if_pos ⟨h1, by omega⟩, h]
end

set_option maxRecDepth 100000 in
set_option maxHeartbeats 4000000 in
theorem fc_impl_BuildStateGraph (s : (Int × (List (List Int × List Int))) × (List (ByteArray × Int)) × (List (Int × Bool)) × ByteArray) [∀ s, Decidable (StgOk s)]  : FC Try.prog 142 [(true, [dI s.1.1, .dat (.sl 146 (.pr (.sl 3 .int) (.sl 3 .int))) s.1.2, .dat (.sl 129 (.pr .str .int)) s.2.1, .dat (.sl 131 (.pr .int .bool)) s.2.2.1, dS s.2.2.2])] [] 0 (Is (PV.tup [(true, [.ref 0, .ref 1, .ref 2]), (false, [dB ((sgV s).2)])]) [(0, some (.arr 129 (.pr .str .int) (((sgV s).1).1))), (1, some (.arr 9 .str (((sgV s).1).2.1))), (2, some (.arr 170 (.pr .int (.pr .int (.pr .bool .int))) (((sgV s).1).2.2)))]) := by
  obtain ⟨O_, hO⟩ : ∃ x : PV → Tab → Prop, x = Is (PV.tup [(true, [.ref 0, .ref 1, .ref 2]), (false, [dB ((sgV s).2)])]) [(0, some (.arr 129 (.pr .str .int) (((sgV s).1).1))), (1, some (.arr 9 .str (((sgV s).1).2.1))), (2, some (.arr 170 (.pr .int (.pr .int (.pr .bool .int))) (((sgV s).1).2.2)))] := ⟨_, rfl⟩
  refine FC.O_of hO (FC.ren (FC.of Try.func142 rfl rfl fun A_ hn_ hk_ => ?_))
  obtain ⟨w0_, N0_, X_, n_, k0_, h0_, f0_⟩ := A_
  obtain rfl : n_ = 76 := hn_.trans Try.ntmps142
  obtain rfl : k0_ = 0 := hk_
  refine AC.fact (fact_ag (x := .tmp 0) (i := 0) (Ev.tmp rfl) rfl) fun hi1 => ?_
  refine AC.seq ?_
  refine AC.region ?_
  refine AL.cons rfl (Does.box 0 (Ev.tmp rfl) rfl rfl (Fresh.of rfl) (Nat.le_of_ble_eq_true rfl)) ?_
  refine AL.cons rfl (Does.alloc 1 (.pr (.sl 129 (.pr .str .int)) (.pr (.sl 9 .str) (.sl 170 (.pr .int (.pr .int (.pr .bool .int)))))) zer_77 rfl rfl (Fresh.of rfl) (Nat.le_of_ble_eq_true rfl)) ?_
  refine AL.cons rfl (Does.assignC Evl.bool rfl) ?_
  refine AL.nil ?_
  refine (?_ : AC _ _ _ _ _)
  refine AC.seq ?_
  refine AC.region ?_
  refine AL.cons rfl (Does.loadPA (Evl.tmp rfl) rfl tsh_50 rfl rfl) ?_
  refine AL.cons rfl (Does.callG 2 (fc_impl_Explore s) enters_143 ⟨_, _, rfl, (Ev.tmp rfl), rfl⟩ rfl rfl ⟨Fresh.of rfl, Fresh.of rfl, trivial⟩ (Nat.le_of_ble_eq_true rfl)) ?_
  refine AL.cons rfl (Does.move rfl rfl) ?_
  refine AL.cons rfl (Does.extract rfl rfl rfl) ?_
  refine AL.cons rfl (Does.extract rfl rfl rfl) ?_
  refine AL.cons rfl (Does.alloc 4 (.pr (.sl 9 .str) (.sl 229 (.pr .int (.pr .int .int)))) zer_188 rfl rfl (Fresh.of rfl) (Nat.le_of_ble_eq_true rfl)) ?_
  refine AL.cons rfl (Does.storeP (Evl.tmp rfl) rfl (Ev.tmp rfl) rfl tsh_188 rfl) ?_
  refine AL.cons rfl (Does.assign rfl rfl) ?_
  refine AL.nil ?_
  refine (?_ : AC _ _ _ _ _)
  refine AC.seq ?_
  refine AC.seq ?_
  refine AC.region ?_
  refine AL.cons rfl (Does.move rfl rfl) ?_
  refine AL.cons rfl (Does.not (Evl.tmp rfl) rfl) ?_
  refine AL.cons rfl (Does.move rfl rfl) ?_
  cases hb2 : ((exploreV s).2)
  · have _h := hb2
    refine AL.guard_no (b := false) rfl rfl rfl ?_ rfl
    refine AL.guard_no (b := false) rfl rfl rfl ?_ rfl
    refine AL.guard_no (b := false) rfl rfl rfl ?_ rfl
    refine AL.guard_no (b := false) rfl rfl rfl ?_ rfl
    refine AL.cons rfl (Does.pickT (Evl.tmp rfl) (Evl.ev Evl.bool) rfl) ?_
    refine AL.nil ?_
    refine (?_ : AC _ _ _ _ _)
    refine AC.condT (Evl.tmp rfl) ?_
    refine AC.seq ?_
    refine AC.region ?_
    refine AL.cons rfl (Does.build bld_77 rfl (List.all_eq_true.1 rfl) rfl rfl) ?_
    refine AL.cons rfl (Does.storeP (Evl.tmp rfl) rfl (Ev.tmp rfl) rfl tsh_77 rfl) ?_
    refine AL.cons rfl (Does.assignC Evl.bool rfl) ?_
    refine AL.nil ?_
    refine (?_ : AC _ _ _ _ _)
    refine AC.wk (Wk.nilC 5 (p := 1) (off := 0) 129 (.pr .str .int) rfl rfl (Fresh.of rfl) (Nat.le_of_ble_eq_true rfl)) ?_
    refine AC.wk (Wk.nilC 6 (p := 1) (off := 1) 9 .str rfl rfl (Fresh.of rfl) (Nat.le_of_ble_eq_true rfl)) ?_
    refine AC.wk (Wk.nilC 7 (p := 1) (off := 2) 170 (.pr .int (.pr .int (.pr .bool .int))) rfl rfl (Fresh.of rfl) (Nat.le_of_ble_eq_true rfl)) ?_
    refine AC.ret ?_
    subst hO
    have e3 : (false : Bool) = (sgV s).2 := by
      first | (rw [sgV_no1 (by assumption)]; done) | (rw [sgV_no1 (by assumption)]; rfl) | (rw [sgV_no2 (by assumption)]; done) | (rw [sgV_no2 (by assumption)]; rfl) | (rw [sgV_no3 (hA.trans (goS_bad (by omega) (by assumption)))]; done) | (rw [sgV_no3 (hA.trans (goS_bad (by omega) (by assumption)))]; rfl) | (rw [sgV_yes (by assumption) (by assumption) (hA.trans (goS_end (by omega)))]; done) | (rw [sgV_yes (by assumption) (by assumption) (hA.trans (goS_end (by omega)))]; rfl)
    exact fin_is (PV.tup [(true, [.ref 0, .ref 1, .ref 2]), (false, [dB ((sgV s).2)])]) [(0, some (.arr 129 (.pr .str .int) (((sgV s).1).1))), (1, some (.arr 9 .str (((sgV s).1).2.1))), (2, some (.arr 170 (.pr .int (.pr .int (.pr .bool .int))) (((sgV s).1).2.2)))] [(0, 5), (1, 6), (2, 7)] (Res.two rfl (Rs.cell rfl rfl tsh_77 rfl) (Rs.tmp rfl)) (show PV.tup [(true, [.ref 5, .ref 6, .ref 7]), (false, [dB false])] = PV.tup [(true, [.ref 5, .ref 6, .ref 7]), (false, [dB ((sgV s).2)])] by exact (congrArg (fun z_ => PV.tup [(true, [.ref 5, .ref 6, .ref 7]), (false, [dB z_])]) e3)) ⟨(show some (Ent.arr 129 (.pr .str .int) ([])) = some (Ent.arr 129 (.pr .str .int) (((sgV s).1).1)) from congrArg (fun z => some (Ent.arr 129 (.pr .str .int) z)) (by first | (rw [sgV_no1 (by assumption)]; done) | (rw [sgV_no1 (by assumption)]; rfl) | (rw [sgV_no2 (by assumption)]; done) | (rw [sgV_no2 (by assumption)]; rfl) | (rw [sgV_no3 (hA.trans (goS_bad (by omega) (by assumption)))]; done) | (rw [sgV_no3 (hA.trans (goS_bad (by omega) (by assumption)))]; rfl) | (rw [sgV_yes (by assumption) (by assumption) (hA.trans (goS_end (by omega)))]; done) | (rw [sgV_yes (by assumption) (by assumption) (hA.trans (goS_end (by omega)))]; rfl))), (show some (Ent.arr 9 .str ([])) = some (Ent.arr 9 .str (((sgV s).1).2.1)) from congrArg (fun z => some (Ent.arr 9 .str z)) (by first | (rw [sgV_no1 (by assumption)]; done) | (rw [sgV_no1 (by assumption)]; rfl) | (rw [sgV_no2 (by assumption)]; done) | (rw [sgV_no2 (by assumption)]; rfl) | (rw [sgV_no3 (hA.trans (goS_bad (by omega) (by assumption)))]; done) | (rw [sgV_no3 (hA.trans (goS_bad (by omega) (by assumption)))]; rfl) | (rw [sgV_yes (by assumption) (by assumption) (hA.trans (goS_end (by omega)))]; done) | (rw [sgV_yes (by assumption) (by assumption) (hA.trans (goS_end (by omega)))]; rfl))), (show some (Ent.arr 170 (.pr .int (.pr .int (.pr .bool .int))) ([])) = some (Ent.arr 170 (.pr .int (.pr .int (.pr .bool .int))) (((sgV s).1).2.2)) from congrArg (fun z => some (Ent.arr 170 (.pr .int (.pr .int (.pr .bool .int))) z)) (by first | (rw [sgV_no1 (by assumption)]; done) | (rw [sgV_no1 (by assumption)]; rfl) | (rw [sgV_no2 (by assumption)]; done) | (rw [sgV_no2 (by assumption)]; rfl) | (rw [sgV_no3 (hA.trans (goS_bad (by omega) (by assumption)))]; done) | (rw [sgV_no3 (hA.trans (goS_bad (by omega) (by assumption)))]; rfl) | (rw [sgV_yes (by assumption) (by assumption) (hA.trans (goS_end (by omega)))]; done) | (rw [sgV_yes (by assumption) (by assumption) (hA.trans (goS_end (by omega)))]; rfl))), trivial⟩ rfl rfl
  · have _h := hb2
    refine AL.guard_yes rfl rfl rfl (Does.fieldP (Evl.tmp rfl) fld_188_1 rfl rfl) ?_
    refine AL.guard_yes rfl rfl rfl (Does.loadP (Evl.tmp rfl) rfl tsh_186 rfl rfl) ?_
    refine AL.guard_yes rfl rfl rfl (Does.lenO (Evl.tmp rfl) rfl rfl und_186) ?_
    refine AL.guard_yes rfl rfl rfl (Does.gtr (Evl.tmp rfl) (Evl.int rfl) rfl) ?_
    refine AL.cons rfl (Does.pickF (Evl.tmp rfl) (Ev.tmp rfl) rfl) ?_
    refine AL.nil ?_
    refine (?_ : AC _ _ _ _ _)
    cases hb4 : (decide (4000 < ((((exploreV s).1).2).length : Int)))
    · have _h := hb4
      have hb4' : ¬ (4000 < ((((exploreV s).1).2).length : Int)) := of_decide_eq_false hb4
      refine AC.condF (Evl.tmp rfl) ?_
      refine AC.skip ?_
      refine (?_ : AC _ _ _ _ _)
      refine AC.seq ?_
      obtain ⟨hsg, hN1, hN2, hNd, hMv, hMl⟩ := exploreV_ok (s := s) (by assumption)
      have hir := arcs_inr (ls := s.2.2.1) hMv
      have hsl := sigs_len hsg.sigs
      refine AC.drawL [⟨some 26, lf (.ptr 0 2), []⟩, ⟨some 27, lf (.dat (.sl 129 (.pr .str .int)) s.2.1), []⟩, ⟨some 28, lf (.ref 8), [(8, some (.arr 129 (.pr .str .int) s.2.1))]⟩, ⟨some 29, lf (.ptr 4 0), []⟩, ⟨some 30, lf (.ref 2), []⟩, ⟨some 31, lf (dI ((((exploreV s).1).1).length : Int)), []⟩, ⟨some 32, lf (.ref 9), [(9, some (.arr 9 .str (List.replicate ((((exploreV s).1).1).length) (Ty.zero .str))))]⟩, ⟨some 33, ag [dI s.1.1, .dat (.sl 146 (.pr (.sl 3 .int) (.sl 3 .int))) s.1.2, .dat (.sl 129 (.pr .str .int)) s.2.1, .dat (.sl 131 (.pr .int .bool)) s.2.2.1, dS s.2.2.2], []⟩, ⟨some 34, ag [.ref 2, .ref 3], []⟩, ⟨some 35, lf (.ref 10), [(10, some (.arr 170 (.pr .int (.pr .int (.pr .bool .int))) (arcsOf s.2.2.1 ((exploreV s).1).2)))]⟩, ⟨some 36, ag [.ref 8, .ref 9, .ref 10], []⟩, ⟨some 6, lf (.ptr 11 0), [(11, some (.box 77 [.val (.slice none 0 0), .val (.slice none 0 0), .val (.slice none 0 0)]))]⟩, ⟨none, lf (.val undef), [(11, some (.box 77 [.ref 8, .ref 9, .ref 10]))]⟩] [[], [0], [0, 1], [], [3], [3, 4], [3, 4, 5], [], [], [0, 1, 2, 7, 8], [0, 1, 2, 3, 4, 5, 6, 7, 8, 9], [], [0, 1, 2, 3, 4, 5, 6, 7, 8, 9, 10, 11]] mixed rfl (by kernel_rfl) ?_ ?_
      · refine ⟨fun s_ hs => Acts.of1 rfl (Does.fieldP (Evl.tmp (hs.tm 1 rfl)) fld_50_1 (by rw [hs.en 0 rfl]; rfl) rfl) rfl, fun s_ hs => Acts.of1 rfl (Does.loadP (Evl.tmp (hs.tm 26 rfl)) (hs.en 0 rfl) tsh_29 rfl rfl) rfl, fun s_ hs => Acts.of1 rfl (Does.callO 8 (fc_slices_Clone_impl_Signal_impl_Signal s.2.1 (by omega)) enters_133 ⟨_, _, rfl, (Ev.tmp (hs.tm 27 rfl)), rfl⟩ rfl (hs.fr 8 rfl) (Nat.le_of_ble_eq_true rfl)) rfl, fun s_ hs => Acts.of1 rfl (Does.fieldP (Evl.tmp (hs.tm 4 rfl)) fld_188_0 (by rw [hs.en 4 rfl]; rfl) rfl) rfl, fun s_ hs => Acts.of1 rfl (Does.loadP (Evl.tmp (hs.tm 29 rfl)) (hs.en 4 rfl) tsh_67 rfl rfl) rfl, fun s_ hs => Acts.of1 rfl (Does.lenO (Evl.tmp (hs.tm 30 rfl)) (hs.en 2 rfl) rfl und_67) rfl, fun s_ hs => Acts.of1 rfl (Does.make 9 (e := .str) (n := (((exploreV s).1).1).length) (Evl.tmp (hs.tm 31 rfl)) (Evl.tmp (hs.tm 31 rfl)) und_67 mki_9 rfl (by omega) (by omega) rfl (hs.fr 9 rfl) (Nat.le_of_ble_eq_true rfl)) rfl, fun s_ hs => Acts.of1 rfl (Does.loadPA (Evl.tmp (hs.tm 1 rfl)) (hs.en 0 rfl) tsh_50 rfl rfl) rfl, fun s_ hs => Acts.of1 rfl (Does.loadPA (Evl.tmp (hs.tm 4 rfl)) (hs.en 4 rfl) tsh_188 rfl rfl) rfl, fun s_ hs => Acts.of1 rfl (Does.callOB 10 (fc_impl_labelledArcs s ((exploreV s).1) (fun m hm => (hMv m hm).2.1) (by omega)) enters_189 ⟨_, _, rfl, (Ev.b (Ev.tmp (hs.tm 33 rfl))), ⟨_, _, rfl, (Ev.ob (Ev.tmp (hs.tm 34 rfl)) ⟨_, _, rfl, .inr ⟨_, _, _, _, rfl, (hs.en 2 rfl), rfl⟩, ⟨_, _, rfl, .inr ⟨_, _, _, _, rfl, (hs.en 3 rfl), rfl⟩, rfl⟩⟩), rfl⟩⟩ rfl (hs.fr 10 rfl) (Nat.le_of_ble_eq_true rfl)) rfl, fun s_ hs => Acts.of1 rfl (Does.build bld_77 ⟨_, _, rfl, (Ev.tmp (hs.tm 28 rfl)), ⟨_, _, rfl, (Ev.tmp (hs.tm 32 rfl)), ⟨_, _, rfl, (Ev.tmp (hs.tm 35 rfl)), rfl⟩⟩⟩ (List.all_eq_true.1 (by simp only [okLVs, okLV, List.all_cons, List.all_nil]; rw [hs.en 8 rfl, hs.en 9 rfl, hs.en 10 rfl]; rfl)) rfl rfl) rfl, fun s_ hs => Acts.of1 rfl (Does.alloc 11 (.pr (.sl 129 (.pr .str .int)) (.pr (.sl 9 .str) (.sl 170 (.pr .int (.pr .int (.pr .bool .int)))))) zer_77 rfl rfl (hs.fr 11 rfl) (Nat.le_of_ble_eq_true rfl)) rfl, fun s_ hs => Acts.of1 rfl (Does.storeP (Evl.tmp (hs.tm 6 rfl)) (hs.en 11 rfl) (Ev.tmp (hs.tm 36 rfl)) (by simp only [okLVs, okLV, List.all_cons, List.all_nil]; rw [hs.en 8 rfl, hs.en 9 rfl, hs.en 10 rfl]; rfl) tsh_77 rfl) rfl, trivial⟩
      refine (?_ : AC _ _ _ _ _)
      refine AC.wk (s' := _) (Wk.refl _ _) ?_
      refine AC.seq ?_
      refine AC.seq ?_
      refine AC.region ?_
      refine AL.cons rfl (Does.fieldP (Evl.tmp rfl) fld_50_1 rfl rfl) ?_
      refine AL.cons rfl (Does.loadP (Evl.tmp rfl) rfl tsh_29 rfl rfl) ?_
      refine AL.fact (fact_len (x := .tmp 38) (Evl.tmp rfl)) fun hl5 => ?_
      refine AL.cons rfl (Does.len (Evl.tmp rfl) rfl und_29) ?_
      refine AL.cons rfl (Does.moveC (Evl.int rfl) rfl) ?_
      refine AL.nil ?_
      refine (?_ : AC _ _ _ _ _)
      refine AC.block ?_
      refine AC.wk (s' := ⟨[(2, lf (.ptr 1 0)), (4, lf (.ptr 4 0)), (6, lf (.ptr 11 0)), (39, lf (dI (s.2.1.length : Int))), (40, lf (dI (0 : Int)))], [(1, some (.box 77 [.val (.slice none 0 0), .val (.slice none 0 0), .val (.slice none 0 0)])), (2, some (.arr 9 .str (((exploreV s).1).1))), (3, some (.arr 229 (.pr .int (.pr .int .int)) (((exploreV s).1).2))), (4, some (.box 188 [.ref 2, .ref 3])), (8, some (.arr 129 (.pr .str .int) s.2.1)), (10, some (.arr 170 (.pr .int (.pr .int (.pr .bool .int))) (arcsOf s.2.2.1 ((exploreV s).1).2))), (11, some (.box 77 [.ref 8, .ref 12, .ref 10])), (12, some (.arr 9 .str (List.replicate ((((exploreV s).1).1).length) (Ty.zero .str))))]⟩) (Wk.of [(1, 1), (2, 2), (3, 3), (4, 4), (8, 8), (10, 10), (11, 11), (12, 9)] rfl ⟨rfl, rfl, rfl, rfl, rfl, trivial⟩ ⟨rfl, rfl, rfl, rfl, rfl, rfl, rfl, (show some (Ent.arr 9 .str (List.replicate ((((exploreV s).1).1).length) (Ty.zero .str))) = some (Ent.arr 9 .str (List.replicate ((((exploreV s).1).1).length) (Ty.zero .str))) from congrArg (fun z => some (Ent.arr 9 .str z)) (by first | rfl | simp)), trivial⟩ rfl rfl) ?_
      refine AC.loop (fun m_ s_ => ∃ (k : Nat) (codes : List ByteArray), k ≤ s.2.1.length ∧ m_ = s.2.1.length - k ∧ (goS (exploreV s).1.1.length (arcsOf s.2.2.1 (exploreV s).1.2) s.2.1.length 0 (List.replicate (exploreV s).1.1.length ByteArray.empty) = goS (exploreV s).1.1.length (arcsOf s.2.2.1 (exploreV s).1.2) (s.2.1.length - k) k codes) ∧ (codes.length = (exploreV s).1.1.length) ∧ (∀ c ∈ codes, c.size ≤ 300 * k) ∧ s_ = ⟨[(2, lf (.ptr 1 0)), (4, lf (.ptr 4 0)), (6, lf (.ptr 11 0)), (39, lf (dI (s.2.1.length : Int))), (40, lf (dI (k : Int)))], [(1, some (.box 77 [.val (.slice none 0 0), .val (.slice none 0 0), .val (.slice none 0 0)])), (2, some (.arr 9 .str (((exploreV s).1).1))), (3, some (.arr 229 (.pr .int (.pr .int .int)) (((exploreV s).1).2))), (4, some (.box 188 [.ref 2, .ref 3])), (8, some (.arr 129 (.pr .str .int) s.2.1)), (10, some (.arr 170 (.pr .int (.pr .int (.pr .bool .int))) (arcsOf s.2.2.1 ((exploreV s).1).2))), (11, some (.box 77 [.ref 8, .ref 12, .ref 10])), (12, some (.arr 9 .str codes))]⟩) (m := s.2.1.length - 0) ⟨0, List.replicate ((((exploreV s).1).1).length) (Ty.zero .str), Nat.zero_le _, rfl, rfl, (by simp), (fun c hc => by rw [List.eq_of_mem_replicate hc]; exact Nat.zero_le _), rfl⟩ ?_
      rintro m_ s_ ⟨k, codes, hk6, hm7, hA, hL, hZ, rfl⟩
      refine AC.seq ?_
      refine AC.region ?_
      refine AL.cons rfl (Does.lss (Evl.tmp rfl) (Evl.tmp rfl) rfl) ?_
      refine AL.nil ?_
      refine (?_ : AC _ _ _ _ _)
      refine AC.seq ?_
      cases hb8 : (decide ((k : Int) < (s.2.1.length : Int)))
      · have _h := hb8
        have hb8' : ¬ ((k : Int) < (s.2.1.length : Int)) := of_decide_eq_false hb8
        refine AC.condF (Evl.tmp rfl) ?_
        refine AC.exit ?_
        refine (?_ : AC _ _ _ _ _)
        refine AC.seq ?_
        refine AC.region ?_
        refine AL.cons rfl (Does.loadPA (Evl.tmp rfl) rfl tsh_77 rfl rfl) ?_
        refine AL.cons rfl (Does.storeP (Evl.tmp rfl) rfl (Ev.tmp rfl) rfl tsh_77 rfl) ?_
        refine AL.cons rfl (Does.assignC Evl.bool rfl) ?_
        refine AL.nil ?_
        refine (?_ : AC _ _ _ _ _)
        refine AC.ret ?_
        subst hO
        have e9 : (true : Bool) = (sgV s).2 := by
          first | (rw [sgV_no1 (by assumption)]; done) | (rw [sgV_no1 (by assumption)]; rfl) | (rw [sgV_no2 (by assumption)]; done) | (rw [sgV_no2 (by assumption)]; rfl) | (rw [sgV_no3 (hA.trans (goS_bad (by omega) (by assumption)))]; done) | (rw [sgV_no3 (hA.trans (goS_bad (by omega) (by assumption)))]; rfl) | (rw [sgV_yes (by assumption) (by assumption) (hA.trans (goS_end (by omega)))]; done) | (rw [sgV_yes (by assumption) (by assumption) (hA.trans (goS_end (by omega)))]; rfl)
        exact fin_is (PV.tup [(true, [.ref 0, .ref 1, .ref 2]), (false, [dB ((sgV s).2)])]) [(0, some (.arr 129 (.pr .str .int) (((sgV s).1).1))), (1, some (.arr 9 .str (((sgV s).1).2.1))), (2, some (.arr 170 (.pr .int (.pr .int (.pr .bool .int))) (((sgV s).1).2.2)))] [(0, 8), (1, 12), (2, 10)] (Res.two rfl (Rs.cell rfl rfl tsh_77 rfl) (Rs.tmp rfl)) (show PV.tup [(true, [.ref 8, .ref 12, .ref 10]), (false, [dB true])] = PV.tup [(true, [.ref 8, .ref 12, .ref 10]), (false, [dB ((sgV s).2)])] by exact (congrArg (fun z_ => PV.tup [(true, [.ref 8, .ref 12, .ref 10]), (false, [dB z_])]) e9)) ⟨(show some (Ent.arr 129 (.pr .str .int) s.2.1) = some (Ent.arr 129 (.pr .str .int) (((sgV s).1).1)) from congrArg (fun z => some (Ent.arr 129 (.pr .str .int) z)) (by first | (rw [sgV_no1 (by assumption)]; done) | (rw [sgV_no1 (by assumption)]; rfl) | (rw [sgV_no2 (by assumption)]; done) | (rw [sgV_no2 (by assumption)]; rfl) | (rw [sgV_no3 (hA.trans (goS_bad (by omega) (by assumption)))]; done) | (rw [sgV_no3 (hA.trans (goS_bad (by omega) (by assumption)))]; rfl) | (rw [sgV_yes (by assumption) (by assumption) (hA.trans (goS_end (by omega)))]; done) | (rw [sgV_yes (by assumption) (by assumption) (hA.trans (goS_end (by omega)))]; rfl))), (show some (Ent.arr 9 .str codes) = some (Ent.arr 9 .str (((sgV s).1).2.1)) from congrArg (fun z => some (Ent.arr 9 .str z)) (by first | (rw [sgV_no1 (by assumption)]; done) | (rw [sgV_no1 (by assumption)]; rfl) | (rw [sgV_no2 (by assumption)]; done) | (rw [sgV_no2 (by assumption)]; rfl) | (rw [sgV_no3 (hA.trans (goS_bad (by omega) (by assumption)))]; done) | (rw [sgV_no3 (hA.trans (goS_bad (by omega) (by assumption)))]; rfl) | (rw [sgV_yes (by assumption) (by assumption) (hA.trans (goS_end (by omega)))]; done) | (rw [sgV_yes (by assumption) (by assumption) (hA.trans (goS_end (by omega)))]; rfl))), (show some (Ent.arr 170 (.pr .int (.pr .int (.pr .bool .int))) (arcsOf s.2.2.1 ((exploreV s).1).2)) = some (Ent.arr 170 (.pr .int (.pr .int (.pr .bool .int))) (((sgV s).1).2.2)) from congrArg (fun z => some (Ent.arr 170 (.pr .int (.pr .int (.pr .bool .int))) z)) (by first | (rw [sgV_no1 (by assumption)]; done) | (rw [sgV_no1 (by assumption)]; rfl) | (rw [sgV_no2 (by assumption)]; done) | (rw [sgV_no2 (by assumption)]; rfl) | (rw [sgV_no3 (hA.trans (goS_bad (by omega) (by assumption)))]; done) | (rw [sgV_no3 (hA.trans (goS_bad (by omega) (by assumption)))]; rfl) | (rw [sgV_yes (by assumption) (by assumption) (hA.trans (goS_end (by omega)))]; done) | (rw [sgV_yes (by assumption) (by assumption) (hA.trans (goS_end (by omega)))]; rfl))), trivial⟩ rfl rfl
      · have _h := hb8
        have hb8' : ((k : Int) < (s.2.1.length : Int)) := of_decide_eq_true hb8
        refine AC.condT (Evl.tmp rfl) ?_
        refine AC.skip ?_
        refine (?_ : AC _ _ _ _ _)
        refine AC.seq ?_
        refine AC.block ?_
        refine AC.seq ?_
        refine AC.region ?_
        refine AL.cons rfl (Does.move rfl rfl) ?_
        refine AL.cons rfl (Does.assign rfl rfl) ?_
        refine AL.nil ?_
        refine (?_ : AC _ _ _ _ _)
        refine AC.seq ?_
        refine AC.region ?_
        refine AL.cons rfl (Does.fieldP (Evl.tmp rfl) fld_188_0 rfl rfl) ?_
        refine AL.cons rfl (Does.loadP (Evl.tmp rfl) rfl tsh_67 rfl rfl) ?_
        refine AL.cons rfl (Does.lenO (Evl.tmp rfl) rfl rfl und_67) ?_
        refine AL.cons rfl (Does.fieldP (Evl.tmp rfl) fld_77_2 rfl rfl) ?_
        refine AL.cons rfl (Does.loadP (Evl.tmp rfl) rfl tsh_75 rfl rfl) ?_
        refine AL.cons rfl (Does.move rfl rfl) ?_
        refine AL.cons rfl (Does.callGB 13 (fc_impl_valuesOf ((((exploreV s).1).1).length : Int) (arcsOf s.2.2.1 ((exploreV s).1).2) (k : Int) (by omega) hir) enters_190 ⟨_, _, rfl, (Ev.b (Ev.tmp rfl)), ⟨_, _, rfl, (Evl.ob (Evl.tmp rfl) rfl), ⟨_, _, rfl, (Ev.b (Ev.tmp rfl)), rfl⟩⟩⟩ rfl rfl rfl ⟨Fresh.of rfl, trivial⟩ (Nat.le_of_ble_eq_true rfl)) ?_
        refine AL.cons rfl (Does.move rfl rfl) ?_
        refine AL.cons rfl (Does.extract rfl rfl rfl) ?_
        refine AL.cons rfl (Does.extract rfl rfl rfl) ?_
        refine AL.cons rfl (Does.assign rfl rfl) ?_
        refine AL.cons rfl (Does.assign rfl rfl) ?_
        refine AL.nil ?_
        refine (?_ : AC _ _ _ _ _)
        refine AC.seq ?_
        refine AC.seq ?_
        refine AC.region ?_
        refine AL.cons rfl (Does.move rfl rfl) ?_
        refine AL.cons rfl (Does.not (Evl.tmp rfl) rfl) ?_
        refine AL.nil ?_
        refine (?_ : AC _ _ _ _ _)
        cases hb10 : ((valsV ((((exploreV s).1).1).length : Int).toNat (arcsOf s.2.2.1 ((exploreV s).1).2) (k : Int)).2)
        · have _h := hb10
          refine AC.condT (Evl.tmp rfl) ?_
          refine AC.seq ?_
          refine AC.region ?_
          refine AL.cons rfl (Does.build bld_77 rfl (List.all_eq_true.1 rfl) rfl rfl) ?_
          refine AL.cons rfl (Does.storeP (Evl.tmp rfl) rfl (Ev.tmp rfl) rfl tsh_77 rfl) ?_
          refine AL.cons rfl (Does.assignC Evl.bool rfl) ?_
          refine AL.nil ?_
          refine (?_ : AC _ _ _ _ _)
          refine AC.wk (Wk.nilC 14 (p := 1) (off := 0) 129 (.pr .str .int) rfl rfl (Fresh.of rfl) (Nat.le_of_ble_eq_true rfl)) ?_
          refine AC.wk (Wk.nilC 15 (p := 1) (off := 1) 9 .str rfl rfl (Fresh.of rfl) (Nat.le_of_ble_eq_true rfl)) ?_
          refine AC.wk (Wk.nilC 16 (p := 1) (off := 2) 170 (.pr .int (.pr .int (.pr .bool .int))) rfl rfl (Fresh.of rfl) (Nat.le_of_ble_eq_true rfl)) ?_
          refine AC.ret ?_
          subst hO
          have e11 : (false : Bool) = (sgV s).2 := by
            first | (rw [sgV_no1 (by assumption)]; done) | (rw [sgV_no1 (by assumption)]; rfl) | (rw [sgV_no2 (by assumption)]; done) | (rw [sgV_no2 (by assumption)]; rfl) | (rw [sgV_no3 (hA.trans (goS_bad (by omega) (by assumption)))]; done) | (rw [sgV_no3 (hA.trans (goS_bad (by omega) (by assumption)))]; rfl) | (rw [sgV_yes (by assumption) (by assumption) (hA.trans (goS_end (by omega)))]; done) | (rw [sgV_yes (by assumption) (by assumption) (hA.trans (goS_end (by omega)))]; rfl)
          exact fin_is (PV.tup [(true, [.ref 0, .ref 1, .ref 2]), (false, [dB ((sgV s).2)])]) [(0, some (.arr 129 (.pr .str .int) (((sgV s).1).1))), (1, some (.arr 9 .str (((sgV s).1).2.1))), (2, some (.arr 170 (.pr .int (.pr .int (.pr .bool .int))) (((sgV s).1).2.2)))] [(0, 14), (1, 15), (2, 16)] (Res.two rfl (Rs.cell rfl rfl tsh_77 rfl) (Rs.tmp rfl)) (show PV.tup [(true, [.ref 14, .ref 15, .ref 16]), (false, [dB false])] = PV.tup [(true, [.ref 14, .ref 15, .ref 16]), (false, [dB ((sgV s).2)])] by exact (congrArg (fun z_ => PV.tup [(true, [.ref 14, .ref 15, .ref 16]), (false, [dB z_])]) e11)) ⟨(show some (Ent.arr 129 (.pr .str .int) ([])) = some (Ent.arr 129 (.pr .str .int) (((sgV s).1).1)) from congrArg (fun z => some (Ent.arr 129 (.pr .str .int) z)) (by first | (rw [sgV_no1 (by assumption)]; done) | (rw [sgV_no1 (by assumption)]; rfl) | (rw [sgV_no2 (by assumption)]; done) | (rw [sgV_no2 (by assumption)]; rfl) | (rw [sgV_no3 (hA.trans (goS_bad (by omega) (by assumption)))]; done) | (rw [sgV_no3 (hA.trans (goS_bad (by omega) (by assumption)))]; rfl) | (rw [sgV_yes (by assumption) (by assumption) (hA.trans (goS_end (by omega)))]; done) | (rw [sgV_yes (by assumption) (by assumption) (hA.trans (goS_end (by omega)))]; rfl))), (show some (Ent.arr 9 .str ([])) = some (Ent.arr 9 .str (((sgV s).1).2.1)) from congrArg (fun z => some (Ent.arr 9 .str z)) (by first | (rw [sgV_no1 (by assumption)]; done) | (rw [sgV_no1 (by assumption)]; rfl) | (rw [sgV_no2 (by assumption)]; done) | (rw [sgV_no2 (by assumption)]; rfl) | (rw [sgV_no3 (hA.trans (goS_bad (by omega) (by assumption)))]; done) | (rw [sgV_no3 (hA.trans (goS_bad (by omega) (by assumption)))]; rfl) | (rw [sgV_yes (by assumption) (by assumption) (hA.trans (goS_end (by omega)))]; done) | (rw [sgV_yes (by assumption) (by assumption) (hA.trans (goS_end (by omega)))]; rfl))), (show some (Ent.arr 170 (.pr .int (.pr .int (.pr .bool .int))) ([])) = some (Ent.arr 170 (.pr .int (.pr .int (.pr .bool .int))) (((sgV s).1).2.2)) from congrArg (fun z => some (Ent.arr 170 (.pr .int (.pr .int (.pr .bool .int))) z)) (by first | (rw [sgV_no1 (by assumption)]; done) | (rw [sgV_no1 (by assumption)]; rfl) | (rw [sgV_no2 (by assumption)]; done) | (rw [sgV_no2 (by assumption)]; rfl) | (rw [sgV_no3 (hA.trans (goS_bad (by omega) (by assumption)))]; done) | (rw [sgV_no3 (hA.trans (goS_bad (by omega) (by assumption)))]; rfl) | (rw [sgV_yes (by assumption) (by assumption) (hA.trans (goS_end (by omega)))]; done) | (rw [sgV_yes (by assumption) (by assumption) (hA.trans (goS_end (by omega)))]; rfl))), trivial⟩ rfl rfl
        · have _h := hb10
          refine AC.condF (Evl.tmp rfl) ?_
          refine AC.skip ?_
          refine (?_ : AC _ _ _ _ _)
          refine AC.seq ?_
          refine AC.region ?_
          refine AL.cons rfl (Does.move rfl rfl) ?_
          refine AL.cons rfl (Does.lenO (Evl.tmp rfl) rfl rfl und_156) ?_
          refine AL.cons rfl (Does.moveC (Evl.int rfl) rfl) ?_
          refine AL.nil ?_
          refine (?_ : AC _ _ _ _ _)
          refine AC.block ?_
          refine AC.wk (s' := ⟨[(2, lf (.ptr 1 0)), (4, lf (.ptr 4 0)), (6, lf (.ptr 11 0)), (7, lf (dI (k : Int))), (8, lf (.ref 13)), (9, lf (dB true)), (39, lf (dI (s.2.1.length : Int))), (40, lf (dI (k : Int))), (41, lf (dB true)), (42, lf (dI (k : Int))), (43, PV.tup [(false, [.ref 13]), (false, [dB true])]), (44, lf (.ptr 4 0)), (45, lf (.ref 2)), (46, lf (dI ((((exploreV s).1).1).length : Int))), (47, lf (.ptr 11 2)), (48, lf (.ref 10)), (49, lf (dI (k : Int))), (50, PV.tup [(false, [.ref 13]), (false, [dB true])]), (51, lf (.ref 13)), (52, lf (dB true)), (53, lf (dB true)), (54, lf (dB (!true))), (56, lf (.ref 13)), (57, lf (dI (((valsV ((((exploreV s).1).1).length : Int).toNat (arcsOf s.2.2.1 ((exploreV s).1).2) (k : Int)).1).length : Int))), (58, lf (dI (0 : Int)))], [(1, some (.box 77 [.val (.slice none 0 0), .val (.slice none 0 0), .val (.slice none 0 0)])), (2, some (.arr 9 .str (((exploreV s).1).1))), (3, some (.arr 229 (.pr .int (.pr .int .int)) (((exploreV s).1).2))), (4, some (.box 188 [.ref 2, .ref 3])), (8, some (.arr 129 (.pr .str .int) s.2.1)), (10, some (.arr 170 (.pr .int (.pr .int (.pr .bool .int))) (arcsOf s.2.2.1 ((exploreV s).1).2))), (11, some (.box 77 [.ref 8, .ref 17, .ref 10])), (13, some (.arr 5 .u8 ((valsV ((((exploreV s).1).1).length : Int).toNat (arcsOf s.2.2.1 ((exploreV s).1).2) (k : Int)).1))), (17, some (.arr 9 .str codes))]⟩) (Wk.of [(1, 1), (2, 2), (3, 3), (4, 4), (8, 8), (10, 10), (11, 11), (13, 13), (17, 12)] rfl ⟨rfl, rfl, rfl, rfl, rfl, rfl, rfl, rfl, rfl, rfl, rfl, rfl, rfl, rfl, rfl, rfl, rfl, rfl, rfl, rfl, rfl, rfl, rfl, rfl, rfl, trivial⟩ ⟨rfl, rfl, rfl, rfl, rfl, rfl, rfl, rfl, rfl, trivial⟩ rfl rfl) ?_
          refine AC.loop (fun m_ s_ => ∃ (i : Nat) (codes2 : List ByteArray), i ≤ (valsV (((exploreV s).1.1.length : Int)).toNat (arcsOf s.2.2.1 (exploreV s).1.2) (k : Int)).1.length ∧ m_ = (valsV (((exploreV s).1.1.length : Int)).toNat (arcsOf s.2.2.1 (exploreV s).1.2) (k : Int)).1.length - i ∧ (addF 0 codes (valsV (((exploreV s).1.1.length : Int)).toNat (arcsOf s.2.2.1 (exploreV s).1.2) (k : Int)).1 = addF i codes2 ((valsV (((exploreV s).1.1.length : Int)).toNat (arcsOf s.2.2.1 (exploreV s).1.2) (k : Int)).1.drop i)) ∧ (codes2.length = (exploreV s).1.1.length) ∧ (∀ c ∈ codes2, c.size ≤ 300 * k + i) ∧ s_ = ⟨[(2, lf (.ptr 1 0)), (4, lf (.ptr 4 0)), (6, lf (.ptr 11 0)), (7, lf (dI (k : Int))), (8, lf (.ref 13)), (9, lf (dB true)), (39, lf (dI (s.2.1.length : Int))), (40, lf (dI (k : Int))), (41, lf (dB true)), (42, lf (dI (k : Int))), (43, PV.tup [(false, [.ref 13]), (false, [dB true])]), (44, lf (.ptr 4 0)), (45, lf (.ref 2)), (46, lf (dI ((((exploreV s).1).1).length : Int))), (47, lf (.ptr 11 2)), (48, lf (.ref 10)), (49, lf (dI (k : Int))), (50, PV.tup [(false, [.ref 13]), (false, [dB true])]), (51, lf (.ref 13)), (52, lf (dB true)), (53, lf (dB true)), (54, lf (dB (!true))), (56, lf (.ref 13)), (57, lf (dI (((valsV ((((exploreV s).1).1).length : Int).toNat (arcsOf s.2.2.1 ((exploreV s).1).2) (k : Int)).1).length : Int))), (58, lf (dI (i : Int)))], [(1, some (.box 77 [.val (.slice none 0 0), .val (.slice none 0 0), .val (.slice none 0 0)])), (2, some (.arr 9 .str (((exploreV s).1).1))), (3, some (.arr 229 (.pr .int (.pr .int .int)) (((exploreV s).1).2))), (4, some (.box 188 [.ref 2, .ref 3])), (8, some (.arr 129 (.pr .str .int) s.2.1)), (10, some (.arr 170 (.pr .int (.pr .int (.pr .bool .int))) (arcsOf s.2.2.1 ((exploreV s).1).2))), (11, some (.box 77 [.ref 8, .ref 17, .ref 10])), (13, some (.arr 5 .u8 ((valsV ((((exploreV s).1).1).length : Int).toNat (arcsOf s.2.2.1 ((exploreV s).1).2) (k : Int)).1))), (17, some (.arr 9 .str codes2))]⟩) (m := (valsV (((exploreV s).1.1.length : Int)).toNat (arcsOf s.2.2.1 (exploreV s).1.2) (k : Int)).1.length - 0) ⟨0, codes, Nat.zero_le _, rfl, rfl, hL, hZ, rfl⟩ ?_
          rintro m_ s_ ⟨i, codes2, hk12, hm13, hA2, hL2, hZ2, rfl⟩
          have hvl : (valsV (((exploreV s).1.1.length : Int)).toNat (arcsOf s.2.2.1 (exploreV s).1.2) (k : Int)).1.length ≤ (exploreV s).1.1.length := vals_len hir (k : Int)
          refine AC.seq ?_
          refine AC.region ?_
          refine AL.cons rfl (Does.lss (Evl.tmp rfl) (Evl.tmp rfl) rfl) ?_
          refine AL.nil ?_
          refine (?_ : AC _ _ _ _ _)
          refine AC.seq ?_
          cases hb14 : (decide ((i : Int) < (((valsV ((((exploreV s).1).1).length : Int).toNat (arcsOf s.2.2.1 ((exploreV s).1).2) (k : Int)).1).length : Int)))
          · have _h := hb14
            have hb14' : ¬ ((i : Int) < (((valsV ((((exploreV s).1).1).length : Int).toNat (arcsOf s.2.2.1 ((exploreV s).1).2) (k : Int)).1).length : Int)) := of_decide_eq_false hb14
            refine AC.condF (Evl.tmp rfl) ?_
            refine AC.exit ?_
            refine (?_ : AC _ _ _ _ _)
            refine AC.region ?_
            refine AL.cons rfl (Does.add (Evl.tmp rfl) (Evl.int rfl) rfl (by omega)) ?_
            refine AL.cons rfl (Does.move rfl rfl) ?_
            refine AL.nil ?_
            exact loop_end (s.2.1.length - (k + 1)) ⟨[(2, lf (.ptr 1 0)), (4, lf (.ptr 4 0)), (6, lf (.ptr 11 0)), (39, lf (dI (s.2.1.length : Int))), (40, lf (dI ((k + 1) : Int)))], [(1, some (.box 77 [.val (.slice none 0 0), .val (.slice none 0 0), .val (.slice none 0 0)])), (2, some (.arr 9 .str (((exploreV s).1).1))), (3, some (.arr 229 (.pr .int (.pr .int .int)) (((exploreV s).1).2))), (4, some (.box 188 [.ref 2, .ref 3])), (8, some (.arr 129 (.pr .str .int) s.2.1)), (10, some (.arr 170 (.pr .int (.pr .int (.pr .bool .int))) (arcsOf s.2.2.1 ((exploreV s).1).2))), (11, some (.box 77 [.ref 8, .ref 12, .ref 10])), (12, some (.arr 9 .str codes2))]⟩ (by omega) (Wk.of [(1, 1), (2, 2), (3, 3), (4, 4), (8, 8), (10, 10), (11, 11), (12, 17)] rfl ⟨rfl, rfl, rfl, rfl, rfl, trivial⟩ ⟨rfl, rfl, rfl, rfl, rfl, rfl, rfl, rfl, trivial⟩ rfl rfl) ⟨k + 1, codes2, by omega, rfl, (by rw [hA, goS_ok (by omega) (by assumption)]; exact congrArg _ (hA2.trans (addF_end (by omega)))), hL2, (fun c hc => Nat.le_trans (hZ2 c hc) (by have hvl : (valsV (((exploreV s).1.1.length : Int)).toNat (arcsOf s.2.2.1 (exploreV s).1.2) (k : Int)).1.length ≤ (exploreV s).1.1.length := vals_len hir (k : Int); omega)), rfl⟩
          · have _h := hb14
            have hb14' : ((i : Int) < (((valsV ((((exploreV s).1).1).length : Int).toNat (arcsOf s.2.2.1 ((exploreV s).1).2) (k : Int)).1).length : Int)) := of_decide_eq_true hb14
            refine AC.condT (Evl.tmp rfl) ?_
            refine AC.skip ?_
            refine (?_ : AC _ _ _ _ _)
            refine AC.seq ?_
            refine AC.block ?_
            refine AC.seq ?_
            refine AC.region ?_
            refine AL.cons rfl (Does.move rfl rfl) ?_
            refine AL.cons rfl (Does.indexI (e := .u8) (Evl.tmp rfl) rfl (Evl.tmp rfl) und_156 tsh_5 rfl (by omega) (by first | omega | (simp only [List.length_set]; omega))) ?_
            obtain ⟨x15, hx16⟩ : ∃ z, ((valsV ((((exploreV s).1).1).length : Int).toNat (arcsOf s.2.2.1 ((exploreV s).1).2) (k : Int)).1)[i]? = some z := ⟨_, List.getElem?_eq_getElem (by omega)⟩
            refine AL.cons rfl (Does.loadI (e := .u8) (Evl.tmp rfl) rfl hx16 rfl tsh_5 rfl rfl) ?_
            refine AL.cons rfl (Does.assign rfl rfl) ?_
            refine AL.cons rfl (Does.assign rfl rfl) ?_
            refine AL.nil ?_
            refine (?_ : AC _ _ _ _ _)
            obtain ⟨x17, hx18⟩ : ∃ z, codes2[i]? = some z := ⟨_, List.getElem?_eq_getElem (by omega)⟩
            have hczx17 := hZ2 _ (List.mem_of_getElem? hx18)
            refine AC.drawL [⟨some 63, lf (.ptr 11 1), []⟩, ⟨some 64, lf (.ref 17), []⟩, ⟨some 65, lf (dI (i : Int)), []⟩, ⟨some 66, lf (.ept 17 1 i 0), []⟩, ⟨some 67, lf (dS x17), []⟩, ⟨some 68, lf (.dat .u8 x15), []⟩, ⟨some 69, lf (.ref 18), [(18, some (.arr 5 .u8 ([x15])))]⟩, ⟨some 70, lf (dS (⟨#[x15]⟩ : ByteArray)), []⟩, ⟨some 71, lf (dS (x17 ++ (⟨#[x15]⟩ : ByteArray))), []⟩, ⟨some 72, lf (.ept 17 1 i 0), []⟩, ⟨none, lf (.val undef), [(17, some (.arr 9 .str (codes2.set i (x17 ++ (⟨#[x15]⟩ : ByteArray)))))]⟩] [[], [0], [], [0, 1, 2], [0, 1, 2, 3], [], [5], [5, 6], [0, 1, 2, 3, 4, 5, 6, 7], [0, 1, 2, 3, 4, 5, 6, 7, 8], [0, 1, 2, 3, 4, 5, 6, 7, 8, 9]] mixed rfl (by kernel_rfl) ?_ ?_
            · refine ⟨fun s_ hs => Acts.of1 rfl (Does.fieldP (Evl.tmp (hs.tm 6 rfl)) fld_77_1 (by rw [hs.en 11 rfl]; rfl) rfl) rfl, fun s_ hs => Acts.of1 rfl (Does.loadP (Evl.tmp (hs.tm 63 rfl)) (hs.en 11 rfl) tsh_67 rfl rfl) rfl, fun s_ hs => Acts.of1 rfl (Does.move (hs.tm 10 rfl) rfl) rfl, fun s_ hs => Acts.of1 rfl (Does.indexI (e := .str) (Evl.tmp (hs.tm 64 rfl)) (hs.en 17 rfl) (Evl.tmp (hs.tm 65 rfl)) und_67 tsh_9 rfl (by omega) (by first | omega | (simp only [List.length_set]; omega))) rfl, fun s_ hs => Acts.of1 rfl (Does.loadI (e := .str) (Evl.tmp (hs.tm 66 rfl)) (hs.en 17 rfl) hx18 rfl tsh_9 rfl rfl) rfl, fun s_ hs => Acts.of1 rfl (Does.move (hs.tm 11 rfl) rfl) rfl, fun s_ hs => Acts.of1 rfl (Does.buildSlice 18 (e := .u8) und_156 tsh_5 zer_5 rfl ⟨_, _, rfl, (Ev.tmp (hs.tm 68 rfl)), rfl⟩ (List.all_eq_true.1 rfl) ⟨_, _, _, _, rfl, ⟨rfl, rfl⟩, ⟨rfl, rfl⟩, rfl⟩ (by decide) rfl rfl (hs.fr 18 rfl) (Nat.le_of_ble_eq_true rfl)) rfl, fun s_ hs => Acts.of1 rfl (Does.ofBytes (ys := [x15]) (Evl.repO (Evl.tmp (hs.tm 69 rfl)) (hs.en 18 rfl)) und_156 und_5 und_9 rfl) rfl, fun s_ hs => Acts.of1 rfl (Does.addS (Evl.tmp (hs.tm 67 rfl)) (Evl.tmp (hs.tm 70 rfl)) rfl (by simp only [bsize1]; omega)) rfl, fun s_ hs => Acts.of1 rfl (Does.indexI (e := .str) (Evl.tmp (hs.tm 64 rfl)) (hs.en 17 rfl) (Evl.tmp (hs.tm 65 rfl)) und_67 tsh_9 rfl (by omega) (by first | omega | (simp only [List.length_set]; omega))) rfl, fun s_ hs => Acts.of1 rfl (Does.storeI (e := .str) (z' := x17 ++ (⟨#[x15]⟩ : ByteArray)) (Evl.tmp (hs.tm 72 rfl)) (hs.en 17 rfl) hx18 rfl (Ev.tmp (hs.tm 71 rfl)) rfl tsh_9 rfl rfl) rfl, trivial⟩
            skip
            refine (?_ : AC _ _ _ _ _)
            refine AC.region ?_
            refine AL.cons rfl (Does.add (Evl.tmp rfl) (Evl.int rfl) rfl (by omega)) ?_
            refine AL.cons rfl (Does.move rfl rfl) ?_
            refine AL.nil ?_
            exact loop_end ((valsV (((exploreV s).1.1.length : Int)).toNat (arcsOf s.2.2.1 (exploreV s).1.2) (k : Int)).1.length - (i + 1)) ⟨[(2, lf (.ptr 1 0)), (4, lf (.ptr 4 0)), (6, lf (.ptr 11 0)), (7, lf (dI (k : Int))), (8, lf (.ref 13)), (9, lf (dB true)), (39, lf (dI (s.2.1.length : Int))), (40, lf (dI (k : Int))), (41, lf (dB true)), (42, lf (dI (k : Int))), (43, PV.tup [(false, [.ref 13]), (false, [dB true])]), (44, lf (.ptr 4 0)), (45, lf (.ref 2)), (46, lf (dI ((((exploreV s).1).1).length : Int))), (47, lf (.ptr 11 2)), (48, lf (.ref 10)), (49, lf (dI (k : Int))), (50, PV.tup [(false, [.ref 13]), (false, [dB true])]), (51, lf (.ref 13)), (52, lf (dB true)), (53, lf (dB true)), (54, lf (dB (!true))), (56, lf (.ref 13)), (57, lf (dI (((valsV ((((exploreV s).1).1).length : Int).toNat (arcsOf s.2.2.1 ((exploreV s).1).2) (k : Int)).1).length : Int))), (58, lf (dI ((i + 1) : Int)))], [(1, some (.box 77 [.val (.slice none 0 0), .val (.slice none 0 0), .val (.slice none 0 0)])), (2, some (.arr 9 .str (((exploreV s).1).1))), (3, some (.arr 229 (.pr .int (.pr .int .int)) (((exploreV s).1).2))), (4, some (.box 188 [.ref 2, .ref 3])), (8, some (.arr 129 (.pr .str .int) s.2.1)), (10, some (.arr 170 (.pr .int (.pr .int (.pr .bool .int))) (arcsOf s.2.2.1 ((exploreV s).1).2))), (11, some (.box 77 [.ref 8, .ref 17, .ref 10])), (13, some (.arr 5 .u8 ((valsV ((((exploreV s).1).1).length : Int).toNat (arcsOf s.2.2.1 ((exploreV s).1).2) (k : Int)).1))), (17, some (.arr 9 .str (codes2.set i (x17 ++ (⟨#[x15]⟩ : ByteArray)))))]⟩ (by omega) (Wk.of [(1, 1), (2, 2), (3, 3), (4, 4), (8, 8), (10, 10), (11, 11), (13, 13), (17, 17)] rfl ⟨rfl, rfl, rfl, rfl, rfl, rfl, rfl, rfl, rfl, rfl, rfl, rfl, rfl, rfl, rfl, rfl, rfl, rfl, rfl, rfl, rfl, rfl, rfl, rfl, rfl, trivial⟩ ⟨rfl, rfl, rfl, rfl, rfl, rfl, rfl, rfl, (show some (Ent.arr 9 .str (codes2.set i (x17 ++ (⟨#[x15]⟩ : ByteArray)))) = some (Ent.arr 9 .str (codes2.set i (x17 ++ (⟨#[x15]⟩ : ByteArray)))) from congrArg (fun z => some (Ent.arr 9 .str z)) (by first | rfl | simp)), trivial⟩ rfl rfl) ⟨i + 1, (codes2.set i (x17 ++ (⟨#[x15]⟩ : ByteArray))), by omega, rfl, hA2.trans (addF_step hx16 hx18), (by rw [List.length_set]; exact hL2), (size_set hZ2 hx18 (by rw [ByteArray.size_append]; exact Nat.le_refl _)), rfl⟩
    · have _h := hb4
      have hb4' : (4000 < ((((exploreV s).1).2).length : Int)) := of_decide_eq_true hb4
      refine AC.condT (Evl.tmp rfl) ?_
      refine AC.seq ?_
      refine AC.region ?_
      refine AL.cons rfl (Does.build bld_77 rfl (List.all_eq_true.1 rfl) rfl rfl) ?_
      refine AL.cons rfl (Does.storeP (Evl.tmp rfl) rfl (Ev.tmp rfl) rfl tsh_77 rfl) ?_
      refine AL.cons rfl (Does.assignC Evl.bool rfl) ?_
      refine AL.nil ?_
      refine (?_ : AC _ _ _ _ _)
      refine AC.wk (Wk.nilC 19 (p := 1) (off := 0) 129 (.pr .str .int) rfl rfl (Fresh.of rfl) (Nat.le_of_ble_eq_true rfl)) ?_
      refine AC.wk (Wk.nilC 20 (p := 1) (off := 1) 9 .str rfl rfl (Fresh.of rfl) (Nat.le_of_ble_eq_true rfl)) ?_
      refine AC.wk (Wk.nilC 21 (p := 1) (off := 2) 170 (.pr .int (.pr .int (.pr .bool .int))) rfl rfl (Fresh.of rfl) (Nat.le_of_ble_eq_true rfl)) ?_
      refine AC.ret ?_
      subst hO
      have e19 : (false : Bool) = (sgV s).2 := by
        first | (rw [sgV_no1 (by assumption)]; done) | (rw [sgV_no1 (by assumption)]; rfl) | (rw [sgV_no2 (by assumption)]; done) | (rw [sgV_no2 (by assumption)]; rfl) | (rw [sgV_no3 (hA.trans (goS_bad (by omega) (by assumption)))]; done) | (rw [sgV_no3 (hA.trans (goS_bad (by omega) (by assumption)))]; rfl) | (rw [sgV_yes (by assumption) (by assumption) (hA.trans (goS_end (by omega)))]; done) | (rw [sgV_yes (by assumption) (by assumption) (hA.trans (goS_end (by omega)))]; rfl)
      exact fin_is (PV.tup [(true, [.ref 0, .ref 1, .ref 2]), (false, [dB ((sgV s).2)])]) [(0, some (.arr 129 (.pr .str .int) (((sgV s).1).1))), (1, some (.arr 9 .str (((sgV s).1).2.1))), (2, some (.arr 170 (.pr .int (.pr .int (.pr .bool .int))) (((sgV s).1).2.2)))] [(0, 19), (1, 20), (2, 21)] (Res.two rfl (Rs.cell rfl rfl tsh_77 rfl) (Rs.tmp rfl)) (show PV.tup [(true, [.ref 19, .ref 20, .ref 21]), (false, [dB false])] = PV.tup [(true, [.ref 19, .ref 20, .ref 21]), (false, [dB ((sgV s).2)])] by exact (congrArg (fun z_ => PV.tup [(true, [.ref 19, .ref 20, .ref 21]), (false, [dB z_])]) e19)) ⟨(show some (Ent.arr 129 (.pr .str .int) ([])) = some (Ent.arr 129 (.pr .str .int) (((sgV s).1).1)) from congrArg (fun z => some (Ent.arr 129 (.pr .str .int) z)) (by first | (rw [sgV_no1 (by assumption)]; done) | (rw [sgV_no1 (by assumption)]; rfl) | (rw [sgV_no2 (by assumption)]; done) | (rw [sgV_no2 (by assumption)]; rfl) | (rw [sgV_no3 (hA.trans (goS_bad (by omega) (by assumption)))]; done) | (rw [sgV_no3 (hA.trans (goS_bad (by omega) (by assumption)))]; rfl) | (rw [sgV_yes (by assumption) (by assumption) (hA.trans (goS_end (by omega)))]; done) | (rw [sgV_yes (by assumption) (by assumption) (hA.trans (goS_end (by omega)))]; rfl))), (show some (Ent.arr 9 .str ([])) = some (Ent.arr 9 .str (((sgV s).1).2.1)) from congrArg (fun z => some (Ent.arr 9 .str z)) (by first | (rw [sgV_no1 (by assumption)]; done) | (rw [sgV_no1 (by assumption)]; rfl) | (rw [sgV_no2 (by assumption)]; done) | (rw [sgV_no2 (by assumption)]; rfl) | (rw [sgV_no3 (hA.trans (goS_bad (by omega) (by assumption)))]; done) | (rw [sgV_no3 (hA.trans (goS_bad (by omega) (by assumption)))]; rfl) | (rw [sgV_yes (by assumption) (by assumption) (hA.trans (goS_end (by omega)))]; done) | (rw [sgV_yes (by assumption) (by assumption) (hA.trans (goS_end (by omega)))]; rfl))), (show some (Ent.arr 170 (.pr .int (.pr .int (.pr .bool .int))) ([])) = some (Ent.arr 170 (.pr .int (.pr .int (.pr .bool .int))) (((sgV s).1).2.2)) from congrArg (fun z => some (Ent.arr 170 (.pr .int (.pr .int (.pr .bool .int))) z)) (by first | (rw [sgV_no1 (by assumption)]; done) | (rw [sgV_no1 (by assumption)]; rfl) | (rw [sgV_no2 (by assumption)]; done) | (rw [sgV_no2 (by assumption)]; rfl) | (rw [sgV_no3 (hA.trans (goS_bad (by omega) (by assumption)))]; done) | (rw [sgV_no3 (hA.trans (goS_bad (by omega) (by assumption)))]; rfl) | (rw [sgV_yes (by assumption) (by assumption) (hA.trans (goS_end (by omega)))]; done) | (rw [sgV_yes (by assumption) (by assumption) (hA.trans (goS_end (by omega)))]; rfl))), trivial⟩ rfl rfl

set_option maxRecDepth 100000 in
set_option maxHeartbeats 4000000 in
theorem fc_spec_BuildStateGraph (s : (Int × (List (List Int × List Int))) × (List (ByteArray × Int)) × (List (Int × Bool)) × ByteArray) [∀ s, Decidable (StgOk s)]  : FC Try.prog 138 [(true, [dI s.1.1, .dat (.sl 146 (.pr (.sl 3 .int) (.sl 3 .int))) s.1.2, .dat (.sl 129 (.pr .str .int)) s.2.1, .dat (.sl 131 (.pr .int .bool)) s.2.2.1, dS s.2.2.2])] [] 0 (Is (PV.tup [(true, [.ref 0, .ref 1, .ref 2]), (false, [dB ((sgV s).2)])]) [(0, some (.arr 129 (.pr .str .int) (((sgV s).1).1))), (1, some (.arr 9 .str (((sgV s).1).2.1))), (2, some (.arr 170 (.pr .int (.pr .int (.pr .bool .int))) (((sgV s).1).2.2)))]) := by
  obtain ⟨O_, hO⟩ : ∃ x : PV → Tab → Prop, x = Is (PV.tup [(true, [.ref 0, .ref 1, .ref 2]), (false, [dB ((sgV s).2)])]) [(0, some (.arr 129 (.pr .str .int) (((sgV s).1).1))), (1, some (.arr 9 .str (((sgV s).1).2.1))), (2, some (.arr 170 (.pr .int (.pr .int (.pr .bool .int))) (((sgV s).1).2.2)))] := ⟨_, rfl⟩
  refine FC.O_of hO (FC.ren (FC.of Try.func138 rfl rfl fun A_ hn_ hk_ => ?_))
  obtain ⟨w0_, N0_, X_, n_, k0_, h0_, f0_⟩ := A_
  obtain rfl : n_ = 110 := hn_.trans Try.ntmps138
  obtain rfl : k0_ = 0 := hk_
  refine AC.fact (fact_ag (x := .tmp 0) (i := 0) (Ev.tmp rfl) rfl) fun hi1 => ?_
  refine AC.seq ?_
  refine AC.region ?_
  refine AL.cons rfl (Does.box 0 (Ev.tmp rfl) rfl rfl (Fresh.of rfl) (Nat.le_of_ble_eq_true rfl)) ?_
  refine AL.cons rfl (Does.alloc 1 (.pr (.sl 129 (.pr .str .int)) (.pr (.sl 9 .str) (.sl 170 (.pr .int (.pr .int (.pr .bool .int)))))) zer_77 rfl rfl (Fresh.of rfl) (Nat.le_of_ble_eq_true rfl)) ?_
  refine AL.cons rfl (Does.assignC Evl.bool rfl) ?_
  refine AL.nil ?_
  refine (?_ : AC _ _ _ _ _)
  refine AC.seq ?_
  refine AC.region ?_
  refine AL.cons rfl (Does.loadPA (Evl.tmp rfl) rfl tsh_50 rfl rfl) ?_
  refine AL.cons rfl (Does.callG 2 (fc_spec_Explore s) enters_139 ⟨_, _, rfl, (Ev.tmp rfl), rfl⟩ rfl rfl ⟨Fresh.of rfl, Fresh.of rfl, trivial⟩ (Nat.le_of_ble_eq_true rfl)) ?_
  refine AL.cons rfl (Does.move rfl rfl) ?_
  refine AL.cons rfl (Does.extract rfl rfl rfl) ?_
  refine AL.cons rfl (Does.extract rfl rfl rfl) ?_
  refine AL.cons rfl (Does.alloc 4 (.pr (.sl 9 .str) (.sl 229 (.pr .int (.pr .int .int)))) zer_188 rfl rfl (Fresh.of rfl) (Nat.le_of_ble_eq_true rfl)) ?_
  refine AL.cons rfl (Does.storeP (Evl.tmp rfl) rfl (Ev.tmp rfl) rfl tsh_188 rfl) ?_
  refine AL.cons rfl (Does.assign rfl rfl) ?_
  refine AL.nil ?_
  refine (?_ : AC _ _ _ _ _)
  refine AC.seq ?_
  refine AC.seq ?_
  refine AC.region ?_
  refine AL.cons rfl (Does.move rfl rfl) ?_
  refine AL.cons rfl (Does.not (Evl.tmp rfl) rfl) ?_
  refine AL.cons rfl (Does.move rfl rfl) ?_
  cases hb2 : ((exploreV s).2)
  · have _h := hb2
    refine AL.guard_no (b := false) rfl rfl rfl ?_ rfl
    refine AL.guard_no (b := false) rfl rfl rfl ?_ rfl
    refine AL.guard_no (b := false) rfl rfl rfl ?_ rfl
    refine AL.guard_no (b := false) rfl rfl rfl ?_ rfl
    refine AL.guard_no (b := false) rfl rfl rfl ?_ rfl
    refine AL.cons rfl (Does.pickT (Evl.tmp rfl) (Evl.ev Evl.bool) rfl) ?_
    refine AL.cons rfl (Does.move rfl rfl) ?_
    refine AL.guard_no (b := false) rfl rfl rfl ?_ rfl
    refine AL.guard_no (b := false) rfl rfl rfl ?_ rfl
    refine AL.guard_no (b := false) rfl rfl rfl ?_ rfl
    refine AL.guard_no (b := false) rfl rfl rfl ?_ rfl
    refine AL.cons rfl (Does.pickT (Evl.tmp rfl) (Evl.ev Evl.bool) rfl) ?_
    refine AL.nil ?_
    refine (?_ : AC _ _ _ _ _)
    refine AC.condT (Evl.tmp rfl) ?_
    refine AC.seq ?_
    refine AC.region ?_
    refine AL.cons rfl (Does.build bld_77 rfl (List.all_eq_true.1 rfl) rfl rfl) ?_
    refine AL.cons rfl (Does.storeP (Evl.tmp rfl) rfl (Ev.tmp rfl) rfl tsh_77 rfl) ?_
    refine AL.cons rfl (Does.assignC Evl.bool rfl) ?_
    refine AL.nil ?_
    refine (?_ : AC _ _ _ _ _)
    refine AC.wk (Wk.nilC 5 (p := 1) (off := 0) 129 (.pr .str .int) rfl rfl (Fresh.of rfl) (Nat.le_of_ble_eq_true rfl)) ?_
    refine AC.wk (Wk.nilC 6 (p := 1) (off := 1) 9 .str rfl rfl (Fresh.of rfl) (Nat.le_of_ble_eq_true rfl)) ?_
    refine AC.wk (Wk.nilC 7 (p := 1) (off := 2) 170 (.pr .int (.pr .int (.pr .bool .int))) rfl rfl (Fresh.of rfl) (Nat.le_of_ble_eq_true rfl)) ?_
    refine AC.ret ?_
    subst hO
    have e3 : (false : Bool) = (sgV s).2 := by
      first | (rw [sgV_no1 (by assumption)]; done) | (rw [sgV_no1 (by assumption)]; rfl) | (rw [sgV_no2 (by assumption)]; done) | (rw [sgV_no2 (by assumption)]; rfl) | (rw [sgV_no3 (clash_some (arcs_inr (exploreV_ok (by assumption)).2.2.2.2.1) (by assumption))]; done) | (rw [sgV_no3 (clash_some (arcs_inr (exploreV_ok (by assumption)).2.2.2.2.1) (by assumption))]; rfl) | (rw [sgV_yes (by assumption) (by assumption) (hA.trans (goS_end (by omega)))]; done) | (rw [sgV_yes (by assumption) (by assumption) (hA.trans (goS_end (by omega)))]; rfl) | (rw [sgV_yes (by assumption) (by assumption) (hA.trans (goS_end (by omega))), take_end (by omega)]; done) | (rw [sgV_yes (by assumption) (by assumption) (hA.trans (goS_end (by omega))), take_end (by omega)]; rfl)
    exact fin_is (PV.tup [(true, [.ref 0, .ref 1, .ref 2]), (false, [dB ((sgV s).2)])]) [(0, some (.arr 129 (.pr .str .int) (((sgV s).1).1))), (1, some (.arr 9 .str (((sgV s).1).2.1))), (2, some (.arr 170 (.pr .int (.pr .int (.pr .bool .int))) (((sgV s).1).2.2)))] [(0, 5), (1, 6), (2, 7)] (Res.two rfl (Rs.cell rfl rfl tsh_77 rfl) (Rs.tmp rfl)) (show PV.tup [(true, [.ref 5, .ref 6, .ref 7]), (false, [dB false])] = PV.tup [(true, [.ref 5, .ref 6, .ref 7]), (false, [dB ((sgV s).2)])] by exact (congrArg (fun z_ => PV.tup [(true, [.ref 5, .ref 6, .ref 7]), (false, [dB z_])]) e3)) ⟨(show some (Ent.arr 129 (.pr .str .int) ([])) = some (Ent.arr 129 (.pr .str .int) (((sgV s).1).1)) from congrArg (fun z => some (Ent.arr 129 (.pr .str .int) z)) (by first | (rw [sgV_no1 (by assumption)]; done) | (rw [sgV_no1 (by assumption)]; rfl) | (rw [sgV_no2 (by assumption)]; done) | (rw [sgV_no2 (by assumption)]; rfl) | (rw [sgV_no3 (clash_some (arcs_inr (exploreV_ok (by assumption)).2.2.2.2.1) (by assumption))]; done) | (rw [sgV_no3 (clash_some (arcs_inr (exploreV_ok (by assumption)).2.2.2.2.1) (by assumption))]; rfl) | (rw [sgV_yes (by assumption) (by assumption) (hA.trans (goS_end (by omega)))]; done) | (rw [sgV_yes (by assumption) (by assumption) (hA.trans (goS_end (by omega)))]; rfl) | (rw [sgV_yes (by assumption) (by assumption) (hA.trans (goS_end (by omega))), take_end (by omega)]; done) | (rw [sgV_yes (by assumption) (by assumption) (hA.trans (goS_end (by omega))), take_end (by omega)]; rfl))), (show some (Ent.arr 9 .str ([])) = some (Ent.arr 9 .str (((sgV s).1).2.1)) from congrArg (fun z => some (Ent.arr 9 .str z)) (by first | (rw [sgV_no1 (by assumption)]; done) | (rw [sgV_no1 (by assumption)]; rfl) | (rw [sgV_no2 (by assumption)]; done) | (rw [sgV_no2 (by assumption)]; rfl) | (rw [sgV_no3 (clash_some (arcs_inr (exploreV_ok (by assumption)).2.2.2.2.1) (by assumption))]; done) | (rw [sgV_no3 (clash_some (arcs_inr (exploreV_ok (by assumption)).2.2.2.2.1) (by assumption))]; rfl) | (rw [sgV_yes (by assumption) (by assumption) (hA.trans (goS_end (by omega)))]; done) | (rw [sgV_yes (by assumption) (by assumption) (hA.trans (goS_end (by omega)))]; rfl) | (rw [sgV_yes (by assumption) (by assumption) (hA.trans (goS_end (by omega))), take_end (by omega)]; done) | (rw [sgV_yes (by assumption) (by assumption) (hA.trans (goS_end (by omega))), take_end (by omega)]; rfl))), (show some (Ent.arr 170 (.pr .int (.pr .int (.pr .bool .int))) ([])) = some (Ent.arr 170 (.pr .int (.pr .int (.pr .bool .int))) (((sgV s).1).2.2)) from congrArg (fun z => some (Ent.arr 170 (.pr .int (.pr .int (.pr .bool .int))) z)) (by first | (rw [sgV_no1 (by assumption)]; done) | (rw [sgV_no1 (by assumption)]; rfl) | (rw [sgV_no2 (by assumption)]; done) | (rw [sgV_no2 (by assumption)]; rfl) | (rw [sgV_no3 (clash_some (arcs_inr (exploreV_ok (by assumption)).2.2.2.2.1) (by assumption))]; done) | (rw [sgV_no3 (clash_some (arcs_inr (exploreV_ok (by assumption)).2.2.2.2.1) (by assumption))]; rfl) | (rw [sgV_yes (by assumption) (by assumption) (hA.trans (goS_end (by omega)))]; done) | (rw [sgV_yes (by assumption) (by assumption) (hA.trans (goS_end (by omega)))]; rfl) | (rw [sgV_yes (by assumption) (by assumption) (hA.trans (goS_end (by omega))), take_end (by omega)]; done) | (rw [sgV_yes (by assumption) (by assumption) (hA.trans (goS_end (by omega))), take_end (by omega)]; rfl))), trivial⟩ rfl rfl
  · have _h := hb2
    refine AL.guard_yes rfl rfl rfl (Does.loadPA (Evl.tmp rfl) rfl tsh_50 rfl rfl) ?_
    refine AL.guard_yes rfl rfl rfl (Does.loadPA (Evl.tmp rfl) rfl tsh_188 rfl rfl) ?_
    refine AL.guard_yes rfl rfl rfl (Does.callOB 8 (fc_spec_l5Clash s ((exploreV s).1) (exploreV_ok (s := s) (by assumption)).2.2.2.2.1 (by have := (exploreV_ok (s := s) (by assumption)).2.2.1; omega) (by have := sigs_len (exploreV_ok (s := s) (by assumption)).1.sigs; omega)) enters_184 ⟨_, _, rfl, (Ev.b (Ev.tmp rfl)), ⟨_, _, rfl, (Ev.ob (Ev.tmp rfl) ⟨_, _, rfl, .inr ⟨_, _, _, _, rfl, rfl, rfl⟩, ⟨_, _, rfl, .inr ⟨_, _, _, _, rfl, rfl, rfl⟩, rfl⟩⟩), rfl⟩⟩ rfl (Fresh.of rfl) (Nat.le_of_ble_eq_true rfl)) ?_
    refine AL.guard_yes rfl rfl rfl (Does.lenO (Evl.tmp rfl) rfl rfl und_72) ?_
    refine AL.guard_yes rfl rfl rfl (Does.gtr (Evl.tmp rfl) (Evl.int rfl) rfl) ?_
    refine AL.cons rfl (Does.pickF (Evl.tmp rfl) (Ev.tmp rfl) rfl) ?_
    refine AL.cons rfl (Does.move rfl rfl) ?_
    cases hb4 : (decide (0 < ((clash ((exploreV s).1).1.length (arcsOf s.2.2.1 ((exploreV s).1).2) s.2.1.length).length : Int)))
    · have _h := hb4
      have hb4' : ¬ (0 < ((clash ((exploreV s).1).1.length (arcsOf s.2.2.1 ((exploreV s).1).2) s.2.1.length).length : Int)) := of_decide_eq_false hb4
      refine AL.guard_yes rfl rfl rfl (Does.fieldP (Evl.tmp rfl) fld_188_1 rfl rfl) ?_
      refine AL.guard_yes rfl rfl rfl (Does.loadP (Evl.tmp rfl) rfl tsh_186 rfl rfl) ?_
      refine AL.guard_yes rfl rfl rfl (Does.lenO (Evl.tmp rfl) rfl rfl und_186) ?_
      refine AL.guard_yes rfl rfl rfl (Does.gtr (Evl.tmp rfl) (Evl.int rfl) rfl) ?_
      refine AL.cons rfl (Does.pickF (Evl.tmp rfl) (Ev.tmp rfl) rfl) ?_
      refine AL.nil ?_
      refine (?_ : AC _ _ _ _ _)
      cases hb5 : (decide (4000 < ((((exploreV s).1).2).length : Int)))
      · have _h := hb5
        have hb5' : ¬ (4000 < ((((exploreV s).1).2).length : Int)) := of_decide_eq_false hb5
        refine AC.condF (Evl.tmp rfl) ?_
        refine AC.skip ?_
        refine (?_ : AC _ _ _ _ _)
        refine AC.seq ?_
        obtain ⟨hsg, hN1, hN2, hNd, hMv, hMl⟩ := exploreV_ok (s := s) (by assumption)
        have hir := arcs_inr (ls := s.2.2.1) hMv
        have hsl := sigs_len hsg.sigs
        refine AC.drawL [⟨some 36, lf (.ref 9), [(9, some (.arr 129 (.pr .str .int) ([])))]⟩, ⟨some 37, lf (.ptr 0 2), []⟩, ⟨some 38, lf (.dat (.sl 129 (.pr .str .int)) s.2.1), []⟩, ⟨some 39, lf (.ref 10), [(10, some (.arr 129 (.pr .str .int) (([]) ++ s.2.1))), (9, none)]⟩, ⟨some 40, lf (.ptr 4 0), []⟩, ⟨some 41, lf (.ref 2), []⟩, ⟨some 42, lf (dI ((((exploreV s).1).1).length : Int)), []⟩, ⟨some 43, lf (.ref 11), [(11, some (.arr 9 .str (List.replicate ((((exploreV s).1).1).length) (Ty.zero .str))))]⟩, ⟨some 44, ag [.ref 10, .ref 11, .val (.slice none 0 0)], []⟩, ⟨some 6, lf (.ptr 12 0), [(12, some (.box 77 [.val (.slice none 0 0), .val (.slice none 0 0), .val (.slice none 0 0)]))]⟩, ⟨none, lf (.val undef), [(12, some (.box 77 [.ref 10, .ref 11, .val (.slice none 0 0)]))]⟩] [[], [], [1], [0, 1, 2], [], [4], [4, 5], [4, 5, 6], [0, 1, 2, 3, 4, 5, 6, 7], [], [0, 1, 2, 3, 4, 5, 6, 7, 8, 9]] mixed rfl (by kernel_rfl) ?_ ?_
        · refine ⟨fun s_ hs => Acts.of1 rfl (Does.buildSlice 9 (e := (.pr .str .int)) und_29 tsh_129 zer_129 rfl rfl (List.all_eq_true.1 rfl) ⟨rfl, rfl⟩ (by decide) rfl rfl (hs.fr 9 rfl) (Nat.le_of_ble_eq_true rfl)) rfl, fun s_ hs => Acts.of1 rfl (Does.fieldP (Evl.tmp (hs.tm 1 rfl)) fld_50_1 (by rw [hs.en 0 rfl]; rfl) rfl) rfl, fun s_ hs => Acts.of1 rfl (Does.loadP (Evl.tmp (hs.tm 37 rfl)) (hs.en 0 rfl) tsh_29 rfl rfl) rfl, fun s_ hs => Acts.of1 rfl (Does.appendF 10 (Evl.tmp (hs.tm 36 rfl)) (hs.en 9 rfl) (Evl.rep (Evl.tmp (hs.tm 38 rfl))) rfl und_29 elb_129 (by first | omega | (simp only [List.length_append, List.length_map, List.length_take, List.length_cons, List.length_nil]; omega)) rfl (hs.fr 10 rfl) (Nat.le_of_ble_eq_true rfl)) rfl, fun s_ hs => Acts.of1 rfl (Does.fieldP (Evl.tmp (hs.tm 4 rfl)) fld_188_0 (by rw [hs.en 4 rfl]; rfl) rfl) rfl, fun s_ hs => Acts.of1 rfl (Does.loadP (Evl.tmp (hs.tm 40 rfl)) (hs.en 4 rfl) tsh_67 rfl rfl) rfl, fun s_ hs => Acts.of1 rfl (Does.lenO (Evl.tmp (hs.tm 41 rfl)) (hs.en 2 rfl) rfl und_67) rfl, fun s_ hs => Acts.of1 rfl (Does.make 11 (e := .str) (n := (((exploreV s).1).1).length) (Evl.tmp (hs.tm 42 rfl)) (Evl.tmp (hs.tm 42 rfl)) und_67 mki_9 rfl (by omega) (by omega) rfl (hs.fr 11 rfl) (Nat.le_of_ble_eq_true rfl)) rfl, fun s_ hs => Acts.of1 rfl (Does.build bld_77 ⟨_, _, rfl, (Ev.tmp (hs.tm 39 rfl)), ⟨_, _, rfl, (Ev.tmp (hs.tm 43 rfl)), rfl⟩⟩ (List.all_eq_true.1 (by simp only [okLVs, okLV, List.all_cons, List.all_nil]; rw [hs.en 10 rfl, hs.en 11 rfl]; rfl)) rfl rfl) rfl, fun s_ hs => Acts.of1 rfl (Does.alloc 12 (.pr (.sl 129 (.pr .str .int)) (.pr (.sl 9 .str) (.sl 170 (.pr .int (.pr .int (.pr .bool .int)))))) zer_77 rfl rfl (hs.fr 12 rfl) (Nat.le_of_ble_eq_true rfl)) rfl, fun s_ hs => Acts.of1 rfl (Does.storeP (Evl.tmp (hs.tm 6 rfl)) (hs.en 12 rfl) (Ev.tmp (hs.tm 44 rfl)) (by simp only [okLVs, okLV, List.all_cons, List.all_nil]; rw [hs.en 10 rfl, hs.en 11 rfl]; rfl) tsh_77 rfl) rfl, trivial⟩
        refine (?_ : AC _ _ _ _ _)
        refine AC.wk (s' := _) (Wk.refl _ _) ?_
        refine AC.seq ?_
        refine AC.seq ?_
        refine AC.region ?_
        refine AL.cons rfl (Does.fieldP (Evl.tmp rfl) fld_50_1 rfl rfl) ?_
        refine AL.cons rfl (Does.loadP (Evl.tmp rfl) rfl tsh_29 rfl rfl) ?_
        refine AL.fact (fact_len (x := .tmp 46) (Evl.tmp rfl)) fun hl6 => ?_
        refine AL.cons rfl (Does.len (Evl.tmp rfl) rfl und_29) ?_
        refine AL.cons rfl (Does.moveC (Evl.int rfl) rfl) ?_
        refine AL.nil ?_
        refine (?_ : AC _ _ _ _ _)
        refine AC.block ?_
        refine AC.wk (s' := ⟨[(1, lf (.ptr 0 0)), (2, lf (.ptr 1 0)), (3, lf (dB false)), (4, lf (.ptr 4 0)), (6, lf (.ptr 12 0)), (47, lf (dI (s.2.1.length : Int))), (48, lf (dI (0 : Int)))], [(0, some (.box 50 [dI s.1.1, .dat (.sl 146 (.pr (.sl 3 .int) (.sl 3 .int))) s.1.2, .dat (.sl 129 (.pr .str .int)) s.2.1, .dat (.sl 131 (.pr .int .bool)) s.2.2.1, dS s.2.2.2])), (1, some (.box 77 [.val (.slice none 0 0), .val (.slice none 0 0), .val (.slice none 0 0)])), (2, some (.arr 9 .str (((exploreV s).1).1))), (3, some (.arr 229 (.pr .int (.pr .int .int)) (((exploreV s).1).2))), (4, some (.box 188 [.ref 2, .ref 3])), (10, some (.arr 129 (.pr .str .int) (([]) ++ s.2.1))), (12, some (.box 77 [.ref 10, .ref 13, .val (.slice none 0 0)])), (13, some (.arr 9 .str (List.replicate ((((exploreV s).1).1).length) (Ty.zero .str))))]⟩) (Wk.of [(0, 0), (1, 1), (2, 2), (3, 3), (4, 4), (10, 10), (12, 12), (13, 11)] rfl ⟨rfl, rfl, rfl, rfl, rfl, rfl, rfl, trivial⟩ ⟨rfl, rfl, rfl, rfl, rfl, rfl, rfl, (show some (Ent.arr 9 .str (List.replicate ((((exploreV s).1).1).length) (Ty.zero .str))) = some (Ent.arr 9 .str (List.replicate ((((exploreV s).1).1).length) (Ty.zero .str))) from congrArg (fun z => some (Ent.arr 9 .str z)) (by first | rfl | simp)), trivial⟩ rfl rfl) ?_
        refine AC.loop (fun m_ s_ => ∃ (k : Nat) (codes : List ByteArray), k ≤ s.2.1.length ∧ m_ = s.2.1.length - k ∧ (goS (exploreV s).1.1.length (arcsOf s.2.2.1 (exploreV s).1.2) s.2.1.length 0 (List.replicate (exploreV s).1.1.length ByteArray.empty) = goS (exploreV s).1.1.length (arcsOf s.2.2.1 (exploreV s).1.2) (s.2.1.length - k) k codes) ∧ (codes.length = (exploreV s).1.1.length) ∧ (∀ c ∈ codes, c.size ≤ 300 * k) ∧ s_ = ⟨[(1, lf (.ptr 0 0)), (2, lf (.ptr 1 0)), (3, lf (dB false)), (4, lf (.ptr 4 0)), (6, lf (.ptr 12 0)), (47, lf (dI (s.2.1.length : Int))), (48, lf (dI (k : Int)))], [(0, some (.box 50 [dI s.1.1, .dat (.sl 146 (.pr (.sl 3 .int) (.sl 3 .int))) s.1.2, .dat (.sl 129 (.pr .str .int)) s.2.1, .dat (.sl 131 (.pr .int .bool)) s.2.2.1, dS s.2.2.2])), (1, some (.box 77 [.val (.slice none 0 0), .val (.slice none 0 0), .val (.slice none 0 0)])), (2, some (.arr 9 .str (((exploreV s).1).1))), (3, some (.arr 229 (.pr .int (.pr .int .int)) (((exploreV s).1).2))), (4, some (.box 188 [.ref 2, .ref 3])), (10, some (.arr 129 (.pr .str .int) (([]) ++ s.2.1))), (12, some (.box 77 [.ref 10, .ref 13, .val (.slice none 0 0)])), (13, some (.arr 9 .str codes))]⟩) (m := s.2.1.length - 0) ⟨0, List.replicate ((((exploreV s).1).1).length) (Ty.zero .str), Nat.zero_le _, rfl, rfl, (by simp), (fun c hc => by rw [List.eq_of_mem_replicate hc]; exact Nat.zero_le _), rfl⟩ ?_
        rintro m_ s_ ⟨k, codes, hk7, hm8, hA, hL, hZ, rfl⟩
        refine AC.seq ?_
        refine AC.region ?_
        refine AL.cons rfl (Does.lss (Evl.tmp rfl) (Evl.tmp rfl) rfl) ?_
        refine AL.nil ?_
        refine (?_ : AC _ _ _ _ _)
        refine AC.seq ?_
        cases hb9 : (decide ((k : Int) < (s.2.1.length : Int)))
        · have _h := hb9
          have hb9' : ¬ ((k : Int) < (s.2.1.length : Int)) := of_decide_eq_false hb9
          refine AC.condF (Evl.tmp rfl) ?_
          refine AC.exit ?_
          refine (?_ : AC _ _ _ _ _)
          refine AC.seq ?_
          refine AC.seq ?_
          refine AC.region ?_
          refine AL.cons rfl (Does.fieldP (Evl.tmp rfl) fld_188_1 rfl rfl) ?_
          refine AL.cons rfl (Does.loadP (Evl.tmp rfl) rfl tsh_186 rfl rfl) ?_
          refine AL.cons rfl (Does.lenO (Evl.tmp rfl) rfl rfl und_186) ?_
          refine AL.cons rfl (Does.moveC (Evl.int rfl) rfl) ?_
          refine AL.nil ?_
          refine (?_ : AC _ _ _ _ _)
          refine AC.block ?_
          refine AC.wk (Wk.nilC 14 (p := 12) (off := 2) 170 (.pr .int (.pr .int (.pr .bool .int))) rfl rfl (Fresh.of rfl) (Nat.le_of_ble_eq_true rfl)) ?_
          refine AC.wk (s' := ⟨[(1, lf (.ptr 0 0)), (2, lf (.ptr 1 0)), (3, lf (dB false)), (6, lf (.ptr 12 0)), (82, lf (.ref 3)), (83, lf (dI ((((exploreV s).1).2).length : Int))), (84, lf (dI (0 : Int)))], [(0, some (.box 50 [dI s.1.1, .dat (.sl 146 (.pr (.sl 3 .int) (.sl 3 .int))) s.1.2, .dat (.sl 129 (.pr .str .int)) s.2.1, .dat (.sl 131 (.pr .int .bool)) s.2.2.1, dS s.2.2.2])), (1, some (.box 77 [.val (.slice none 0 0), .val (.slice none 0 0), .val (.slice none 0 0)])), (3, some (.arr 229 (.pr .int (.pr .int .int)) (((exploreV s).1).2))), (10, some (.arr 129 (.pr .str .int) (([]) ++ s.2.1))), (12, some (.box 77 [.ref 10, .ref 13, .ref 15])), (13, some (.arr 9 .str codes)), (15, some (.arr 170 (.pr .int (.pr .int (.pr .bool .int))) ((((exploreV s).1).2.take 0).map (arcOf s.2.2.1))))]⟩) (Wk.of [(0, 0), (1, 1), (3, 3), (10, 10), (12, 12), (13, 13), (15, 14)] rfl ⟨rfl, rfl, rfl, rfl, rfl, rfl, rfl, trivial⟩ ⟨rfl, rfl, rfl, rfl, rfl, rfl, (show some (Ent.arr 170 (.pr .int (.pr .int (.pr .bool .int))) ([])) = some (Ent.arr 170 (.pr .int (.pr .int (.pr .bool .int))) ((((exploreV s).1).2.take 0).map (arcOf s.2.2.1))) from congrArg (fun z => some (Ent.arr 170 (.pr .int (.pr .int (.pr .bool .int))) z)) (by first | rfl | simp)), trivial⟩ rfl rfl) ?_
          refine AC.loop (fun m_ s_ => ∃ (j : Nat), j ≤ (((exploreV s).1).2).length ∧ m_ = (((exploreV s).1).2).length - j ∧ s_ = ⟨[(1, lf (.ptr 0 0)), (2, lf (.ptr 1 0)), (3, lf (dB false)), (6, lf (.ptr 12 0)), (82, lf (.ref 3)), (83, lf (dI ((((exploreV s).1).2).length : Int))), (84, lf (dI (j : Int)))], [(0, some (.box 50 [dI s.1.1, .dat (.sl 146 (.pr (.sl 3 .int) (.sl 3 .int))) s.1.2, .dat (.sl 129 (.pr .str .int)) s.2.1, .dat (.sl 131 (.pr .int .bool)) s.2.2.1, dS s.2.2.2])), (1, some (.box 77 [.val (.slice none 0 0), .val (.slice none 0 0), .val (.slice none 0 0)])), (3, some (.arr 229 (.pr .int (.pr .int .int)) (((exploreV s).1).2))), (10, some (.arr 129 (.pr .str .int) (([]) ++ s.2.1))), (12, some (.box 77 [.ref 10, .ref 13, .ref 15])), (13, some (.arr 9 .str codes)), (15, some (.arr 170 (.pr .int (.pr .int (.pr .bool .int))) ((((exploreV s).1).2.take j).map (arcOf s.2.2.1))))]⟩) (m := (((exploreV s).1).2).length - 0) ⟨0, Nat.zero_le _, rfl, rfl⟩ ?_
          rintro m_ s_ ⟨j, hk10, hm11, rfl⟩
          refine AC.seq ?_
          refine AC.region ?_
          refine AL.cons rfl (Does.lss (Evl.tmp rfl) (Evl.tmp rfl) rfl) ?_
          refine AL.nil ?_
          refine (?_ : AC _ _ _ _ _)
          refine AC.seq ?_
          cases hb12 : (decide ((j : Int) < ((((exploreV s).1).2).length : Int)))
          · have _h := hb12
            have hb12' : ¬ ((j : Int) < ((((exploreV s).1).2).length : Int)) := of_decide_eq_false hb12
            refine AC.condF (Evl.tmp rfl) ?_
            refine AC.exit ?_
            refine (?_ : AC _ _ _ _ _)
            refine AC.seq ?_
            refine AC.region ?_
            refine AL.cons rfl (Does.loadPA (Evl.tmp rfl) rfl tsh_77 rfl rfl) ?_
            refine AL.cons rfl (Does.storeP (Evl.tmp rfl) rfl (Ev.tmp rfl) rfl tsh_77 rfl) ?_
            refine AL.cons rfl (Does.assignC Evl.bool rfl) ?_
            refine AL.nil ?_
            refine (?_ : AC _ _ _ _ _)
            refine AC.ret ?_
            subst hO
            have e13 : (true : Bool) = (sgV s).2 := by
              first | (rw [sgV_no1 (by assumption)]; done) | (rw [sgV_no1 (by assumption)]; rfl) | (rw [sgV_no2 (by assumption)]; done) | (rw [sgV_no2 (by assumption)]; rfl) | (rw [sgV_no3 (clash_some (arcs_inr (exploreV_ok (by assumption)).2.2.2.2.1) (by assumption))]; done) | (rw [sgV_no3 (clash_some (arcs_inr (exploreV_ok (by assumption)).2.2.2.2.1) (by assumption))]; rfl) | (rw [sgV_yes (by assumption) (by assumption) (hA.trans (goS_end (by omega)))]; done) | (rw [sgV_yes (by assumption) (by assumption) (hA.trans (goS_end (by omega)))]; rfl) | (rw [sgV_yes (by assumption) (by assumption) (hA.trans (goS_end (by omega))), take_end (by omega)]; done) | (rw [sgV_yes (by assumption) (by assumption) (hA.trans (goS_end (by omega))), take_end (by omega)]; rfl)
            exact fin_is (PV.tup [(true, [.ref 0, .ref 1, .ref 2]), (false, [dB ((sgV s).2)])]) [(0, some (.arr 129 (.pr .str .int) (((sgV s).1).1))), (1, some (.arr 9 .str (((sgV s).1).2.1))), (2, some (.arr 170 (.pr .int (.pr .int (.pr .bool .int))) (((sgV s).1).2.2)))] [(0, 10), (1, 13), (2, 15)] (Res.two rfl (Rs.cell rfl rfl tsh_77 rfl) (Rs.tmp rfl)) (show PV.tup [(true, [.ref 10, .ref 13, .ref 15]), (false, [dB true])] = PV.tup [(true, [.ref 10, .ref 13, .ref 15]), (false, [dB ((sgV s).2)])] by exact (congrArg (fun z_ => PV.tup [(true, [.ref 10, .ref 13, .ref 15]), (false, [dB z_])]) e13)) ⟨(show some (Ent.arr 129 (.pr .str .int) (([]) ++ s.2.1)) = some (Ent.arr 129 (.pr .str .int) (((sgV s).1).1)) from congrArg (fun z => some (Ent.arr 129 (.pr .str .int) z)) (by first | (rw [sgV_no1 (by assumption)]; done) | (rw [sgV_no1 (by assumption)]; rfl) | (rw [sgV_no2 (by assumption)]; done) | (rw [sgV_no2 (by assumption)]; rfl) | (rw [sgV_no3 (clash_some (arcs_inr (exploreV_ok (by assumption)).2.2.2.2.1) (by assumption))]; done) | (rw [sgV_no3 (clash_some (arcs_inr (exploreV_ok (by assumption)).2.2.2.2.1) (by assumption))]; rfl) | (rw [sgV_yes (by assumption) (by assumption) (hA.trans (goS_end (by omega)))]; done) | (rw [sgV_yes (by assumption) (by assumption) (hA.trans (goS_end (by omega)))]; rfl) | (rw [sgV_yes (by assumption) (by assumption) (hA.trans (goS_end (by omega))), take_end (by omega)]; done) | (rw [sgV_yes (by assumption) (by assumption) (hA.trans (goS_end (by omega))), take_end (by omega)]; rfl))), (show some (Ent.arr 9 .str codes) = some (Ent.arr 9 .str (((sgV s).1).2.1)) from congrArg (fun z => some (Ent.arr 9 .str z)) (by first | (rw [sgV_no1 (by assumption)]; done) | (rw [sgV_no1 (by assumption)]; rfl) | (rw [sgV_no2 (by assumption)]; done) | (rw [sgV_no2 (by assumption)]; rfl) | (rw [sgV_no3 (clash_some (arcs_inr (exploreV_ok (by assumption)).2.2.2.2.1) (by assumption))]; done) | (rw [sgV_no3 (clash_some (arcs_inr (exploreV_ok (by assumption)).2.2.2.2.1) (by assumption))]; rfl) | (rw [sgV_yes (by assumption) (by assumption) (hA.trans (goS_end (by omega)))]; done) | (rw [sgV_yes (by assumption) (by assumption) (hA.trans (goS_end (by omega)))]; rfl) | (rw [sgV_yes (by assumption) (by assumption) (hA.trans (goS_end (by omega))), take_end (by omega)]; done) | (rw [sgV_yes (by assumption) (by assumption) (hA.trans (goS_end (by omega))), take_end (by omega)]; rfl))), (show some (Ent.arr 170 (.pr .int (.pr .int (.pr .bool .int))) ((((exploreV s).1).2.take j).map (arcOf s.2.2.1))) = some (Ent.arr 170 (.pr .int (.pr .int (.pr .bool .int))) (((sgV s).1).2.2)) from congrArg (fun z => some (Ent.arr 170 (.pr .int (.pr .int (.pr .bool .int))) z)) (by first | (rw [sgV_no1 (by assumption)]; done) | (rw [sgV_no1 (by assumption)]; rfl) | (rw [sgV_no2 (by assumption)]; done) | (rw [sgV_no2 (by assumption)]; rfl) | (rw [sgV_no3 (clash_some (arcs_inr (exploreV_ok (by assumption)).2.2.2.2.1) (by assumption))]; done) | (rw [sgV_no3 (clash_some (arcs_inr (exploreV_ok (by assumption)).2.2.2.2.1) (by assumption))]; rfl) | (rw [sgV_yes (by assumption) (by assumption) (hA.trans (goS_end (by omega)))]; done) | (rw [sgV_yes (by assumption) (by assumption) (hA.trans (goS_end (by omega)))]; rfl) | (rw [sgV_yes (by assumption) (by assumption) (hA.trans (goS_end (by omega))), take_end (by omega)]; done) | (rw [sgV_yes (by assumption) (by assumption) (hA.trans (goS_end (by omega))), take_end (by omega)]; rfl))), trivial⟩ rfl rfl
          · have _h := hb12
            have hb12' : ((j : Int) < ((((exploreV s).1).2).length : Int)) := of_decide_eq_true hb12
            refine AC.condT (Evl.tmp rfl) ?_
            refine AC.skip ?_
            refine (?_ : AC _ _ _ _ _)
            refine AC.seq ?_
            refine AC.block ?_
            refine AC.seq ?_
            refine AC.region ?_
            refine AL.cons rfl (Does.indexI (e := (.pr .int (.pr .int .int))) (Evl.tmp rfl) rfl (Evl.tmp rfl) und_186 tsh_229 rfl (by omega) (by first | omega | (simp only [List.length_set]; omega))) ?_
            obtain ⟨mv, hx15⟩ : ∃ z, (((exploreV s).1).2)[j]? = some z := ⟨_, List.getElem?_eq_getElem (by omega)⟩
            have hrm := (hMv _ (List.mem_of_getElem? hx15)).2.1
            refine AL.cons rfl (Does.loadIA (e := (.pr .int (.pr .int .int))) (Evl.tmp rfl) rfl hx15 rfl tsh_229 rfl rfl) ?_
            refine AL.cons rfl (Does.alloc 16 (.pr .int (.pr .int .int)) zer_229 rfl rfl (Fresh.of rfl) (Nat.le_of_ble_eq_true rfl)) ?_
            refine AL.cons rfl (Does.storeP (Evl.tmp rfl) rfl (Ev.tmp rfl) rfl tsh_229 rfl) ?_
            refine AL.nil ?_
            refine (?_ : AC _ _ _ _ _)
            refine AC.seq ?_
            refine AC.region ?_
            refine AL.cons rfl (Does.fieldP (Evl.tmp rfl) fld_50_2 rfl rfl) ?_
            refine AL.cons rfl (Does.loadP (Evl.tmp rfl) rfl tsh_48 rfl rfl) ?_
            refine AL.cons rfl (Does.fieldP (Evl.tmp rfl) fld_229_1 rfl rfl) ?_
            refine AL.cons rfl (Does.loadP (Evl.tmp rfl) rfl tsh_3 rfl rfl) ?_
            refine AL.fact (fact_int (x := .tmp 91) (Evl.tmp rfl)) fun hi16 => ?_
            obtain ⟨x17, hx18⟩ : ∃ z, s.2.2.1[(mv.2.1).toNat]? = some z := ⟨_, List.getElem?_eq_getElem (by omega)⟩
            have hla := lab_get hx18
            refine AL.cons rfl (Does.indexE (Evl.tmp rfl) (Evl.tmp rfl) und_48 tsh_131 rfl (by omega) hx18) ?_
            refine AL.cons rfl (Does.loadEA (Evl.tmp rfl) tsh_131 rfl rfl) ?_
            refine AL.cons rfl (Does.alloc 17 (.pr .int .bool) zer_131 rfl rfl (Fresh.of rfl) (Nat.le_of_ble_eq_true rfl)) ?_
            refine AL.cons rfl (Does.storeP (Evl.tmp rfl) rfl (Ev.tmp rfl) rfl tsh_131 rfl) ?_
            refine AL.nil ?_
            refine (?_ : AC _ _ _ _ _)
            refine AC.region ?_
            refine AL.cons rfl (Does.fieldP (Evl.tmp rfl) fld_77_2 rfl rfl) ?_
            refine AL.cons rfl (Does.loadP (Evl.tmp rfl) rfl tsh_75 rfl rfl) ?_
            refine AL.cons rfl (Does.fieldP (Evl.tmp rfl) fld_229_0 rfl rfl) ?_
            refine AL.cons rfl (Does.loadP (Evl.tmp rfl) rfl tsh_3 rfl rfl) ?_
            refine AL.fact (fact_int (x := .tmp 97) (Evl.tmp rfl)) fun hi19 => ?_
            refine AL.cons rfl (Does.fieldP (Evl.tmp rfl) fld_131_0 rfl rfl) ?_
            refine AL.cons rfl (Does.loadP (Evl.tmp rfl) rfl tsh_3 rfl rfl) ?_
            refine AL.fact (fact_int (x := .tmp 99) (Evl.tmp rfl)) fun hi20 => ?_
            refine AL.cons rfl (Does.fieldP (Evl.tmp rfl) fld_131_1 rfl rfl) ?_
            refine AL.cons rfl (Does.loadP (Evl.tmp rfl) rfl tsh_4 rfl rfl) ?_
            refine AL.cons rfl (Does.fieldP (Evl.tmp rfl) fld_229_2 rfl rfl) ?_
            refine AL.cons rfl (Does.loadP (Evl.tmp rfl) rfl tsh_3 rfl rfl) ?_
            refine AL.fact (fact_int (x := .tmp 103) (Evl.tmp rfl)) fun hi21 => ?_
            refine AL.cons rfl (Does.build bld_170 ⟨_, _, rfl, (Ev.tmp rfl), ⟨_, _, rfl, (Ev.tmp rfl), ⟨_, _, rfl, (Ev.tmp rfl), ⟨_, _, rfl, (Ev.tmp rfl), rfl⟩⟩⟩⟩ (List.all_eq_true.1 rfl) rfl rfl) ?_
            refine AL.cons rfl (Does.buildSlice 18 (e := (.pr .int (.pr .int (.pr .bool .int)))) und_75 tsh_170 zer_170 rfl ⟨_, _, rfl, (Ev.tmp rfl), rfl⟩ (List.all_eq_true.1 rfl) ⟨_, _, _, _, rfl, ⟨[dI mv.1], [dI x17.1, dB x17.2, dI mv.2.2], _, _, _, _, rfl, rfl, ⟨rfl, rfl⟩, ⟨[dI x17.1], [dB x17.2, dI mv.2.2], _, _, _, _, rfl, rfl, ⟨rfl, rfl⟩, ⟨[dB x17.2], [dI mv.2.2], _, _, _, _, rfl, rfl, ⟨rfl, rfl⟩, ⟨rfl, rfl⟩, rfl⟩, rfl⟩, rfl⟩, ⟨rfl, rfl⟩, rfl⟩ (by decide) rfl rfl (Fresh.of rfl) (Nat.le_of_ble_eq_true rfl)) ?_
            refine AL.cons rfl (Does.append 19 (Evl.tmp rfl) rfl (Evl.tmp rfl) rfl rfl und_75 elb_170 (by first | omega | (simp only [List.length_append, List.length_map, List.length_take, List.length_cons, List.length_nil]; omega)) rfl (Fresh.of rfl) (Nat.le_of_ble_eq_true rfl)) ?_
            refine AL.cons rfl (Does.fieldP (Evl.tmp rfl) fld_77_2 rfl rfl) ?_
            refine AL.cons rfl (Does.storeP (Evl.tmp rfl) rfl (Ev.tmp rfl) rfl tsh_75 rfl) ?_
            refine AL.nil ?_
            refine (?_ : AC _ _ _ _ _)
            refine AC.region ?_
            refine AL.cons rfl (Does.add (Evl.tmp rfl) (Evl.int rfl) rfl (by omega)) ?_
            refine AL.cons rfl (Does.move rfl rfl) ?_
            refine AL.nil ?_
            exact loop_end ((((exploreV s).1).2).length - (j + 1)) ⟨[(1, lf (.ptr 0 0)), (2, lf (.ptr 1 0)), (3, lf (dB false)), (6, lf (.ptr 12 0)), (82, lf (.ref 3)), (83, lf (dI ((((exploreV s).1).2).length : Int))), (84, lf (dI ((j + 1) : Int)))], [(0, some (.box 50 [dI s.1.1, .dat (.sl 146 (.pr (.sl 3 .int) (.sl 3 .int))) s.1.2, .dat (.sl 129 (.pr .str .int)) s.2.1, .dat (.sl 131 (.pr .int .bool)) s.2.2.1, dS s.2.2.2])), (1, some (.box 77 [.val (.slice none 0 0), .val (.slice none 0 0), .val (.slice none 0 0)])), (3, some (.arr 229 (.pr .int (.pr .int .int)) (((exploreV s).1).2))), (10, some (.arr 129 (.pr .str .int) (([]) ++ s.2.1))), (12, some (.box 77 [.ref 10, .ref 13, .ref 15])), (13, some (.arr 9 .str codes)), (15, some (.arr 170 (.pr .int (.pr .int (.pr .bool .int))) ((((exploreV s).1).2.take (j + 1)).map (arcOf s.2.2.1))))]⟩ (by omega) (Wk.of [(0, 0), (1, 1), (3, 3), (10, 10), (12, 12), (13, 13), (15, 19)] rfl ⟨rfl, rfl, rfl, rfl, rfl, rfl, rfl, trivial⟩ ⟨rfl, rfl, rfl, rfl, rfl, rfl, (show some (Ent.arr 170 (.pr .int (.pr .int (.pr .bool .int))) (((((exploreV s).1).2.take j).map (arcOf s.2.2.1)) ++ ([(mv.1, x17.1, x17.2, mv.2.2)]))) = some (Ent.arr 170 (.pr .int (.pr .int (.pr .bool .int))) ((((exploreV s).1).2.take (j + 1)).map (arcOf s.2.2.1))) from congrArg (fun z => some (Ent.arr 170 (.pr .int (.pr .int (.pr .bool .int))) z)) (by rw [take_snoc hx15]; simp [arcOf, hla])), trivial⟩ rfl rfl) ⟨j + 1, by omega, rfl, rfl⟩
        · have _h := hb9
          have hb9' : ((k : Int) < (s.2.1.length : Int)) := of_decide_eq_true hb9
          refine AC.condT (Evl.tmp rfl) ?_
          refine AC.skip ?_
          refine (?_ : AC _ _ _ _ _)
          refine AC.seq ?_
          refine AC.block ?_
          refine AC.seq ?_
          refine AC.region ?_
          refine AL.cons rfl (Does.move rfl rfl) ?_
          refine AL.cons rfl (Does.assign rfl rfl) ?_
          refine AL.nil ?_
          refine (?_ : AC _ _ _ _ _)
          refine AC.seq ?_
          refine AC.region ?_
          refine AL.cons rfl (Does.loadPA (Evl.tmp rfl) rfl tsh_50 rfl rfl) ?_
          refine AL.cons rfl (Does.loadPA (Evl.tmp rfl) rfl tsh_188 rfl rfl) ?_
          refine AL.cons rfl (Does.move rfl rfl) ?_
          refine AL.cons rfl (Does.callB (fc_spec_l5Values s ((exploreV s).1) (k : Int) hMv (by omega)) enters_185 ⟨_, _, rfl, (Ev.b (Ev.tmp rfl)), ⟨_, _, rfl, (Ev.ob (Ev.tmp rfl) ⟨_, _, rfl, .inr ⟨_, _, _, _, rfl, rfl, rfl⟩, ⟨_, _, rfl, .inr ⟨_, _, _, _, rfl, rfl, rfl⟩, rfl⟩⟩), ⟨_, _, rfl, (Ev.b (Ev.tmp rfl)), rfl⟩⟩⟩ rfl rfl rfl) ?_
          refine AL.cons rfl (Does.move rfl rfl) ?_
          refine AL.cons rfl (Does.extract rfl rfl rfl) ?_
          refine AL.cons rfl (Does.extract rfl rfl rfl) ?_
          refine AL.cons rfl (Does.assign rfl rfl) ?_
          refine AL.cons rfl (Does.assign rfl rfl) ?_
          refine AL.nil ?_
          refine (?_ : AC _ _ _ _ _)
          refine AC.seq ?_
          obtain ⟨us, hu1, hu2, hu3, hu4⟩ := l5V_us (sig := (k : Int)) hir (clash_none (m := s.2.1.length) (by assumption) (by omega))
          refine AC.region ?_
          refine AL.cons rfl (Does.fieldP (Evl.tmp rfl) fld_77_1 rfl rfl) ?_
          refine AL.cons rfl (Does.loadP (Evl.tmp rfl) rfl tsh_67 rfl rfl) ?_
          refine AL.cons rfl (Does.lenO (Evl.tmp rfl) rfl rfl und_67) ?_
          refine AL.cons rfl (Does.moveC (Evl.int rfl) rfl) ?_
          refine AL.nil ?_
          refine (?_ : AC _ _ _ _ _)
          refine AC.block ?_
          refine AC.wk (s' := ⟨[(1, lf (.ptr 0 0)), (2, lf (.ptr 1 0)), (3, lf (dB false)), (4, lf (.ptr 4 0)), (6, lf (.ptr 12 0)), (7, lf (dI (k : Int))), (8, lf (dS ((l5V ((exploreV s).1).1.length (arcsOf s.2.2.1 ((exploreV s).1).2) (k : Int)).1))), (47, lf (dI (s.2.1.length : Int))), (48, lf (dI (k : Int))), (49, lf (dB true)), (50, lf (dI (k : Int))), (51, PV.tup [(false, [dS ((l5V ((exploreV s).1).1.length (arcsOf s.2.2.1 ((exploreV s).1).2) (k : Int)).1)]), (false, [dB ((l5V ((exploreV s).1).1.length (arcsOf s.2.2.1 ((exploreV s).1).2) (k : Int)).2)])]), (52, ag [dI s.1.1, .dat (.sl 146 (.pr (.sl 3 .int) (.sl 3 .int))) s.1.2, .dat (.sl 129 (.pr .str .int)) s.2.1, .dat (.sl 131 (.pr .int .bool)) s.2.2.1, dS s.2.2.2]), (53, ag [.ref 2, .ref 3]), (54, lf (dI (k : Int))), (55, PV.tup [(false, [dS ((l5V ((exploreV s).1).1.length (arcsOf s.2.2.1 ((exploreV s).1).2) (k : Int)).1)]), (false, [dB ((l5V ((exploreV s).1).1.length (arcsOf s.2.2.1 ((exploreV s).1).2) (k : Int)).2)])]), (56, lf (dS ((l5V ((exploreV s).1).1.length (arcsOf s.2.2.1 ((exploreV s).1).2) (k : Int)).1))), (57, lf (dB ((l5V ((exploreV s).1).1.length (arcsOf s.2.2.1 ((exploreV s).1).2) (k : Int)).2))), (58, lf (.ptr 12 1)), (60, lf (dI (codes.length : Int))), (61, lf (dI (0 : Int)))], [(0, some (.box 50 [dI s.1.1, .dat (.sl 146 (.pr (.sl 3 .int) (.sl 3 .int))) s.1.2, .dat (.sl 129 (.pr .str .int)) s.2.1, .dat (.sl 131 (.pr .int .bool)) s.2.2.1, dS s.2.2.2])), (1, some (.box 77 [.val (.slice none 0 0), .val (.slice none 0 0), .val (.slice none 0 0)])), (2, some (.arr 9 .str (((exploreV s).1).1))), (3, some (.arr 229 (.pr .int (.pr .int .int)) (((exploreV s).1).2))), (4, some (.box 188 [.ref 2, .ref 3])), (10, some (.arr 129 (.pr .str .int) (([]) ++ s.2.1))), (12, some (.box 77 [.ref 10, .ref 20, .val (.slice none 0 0)])), (20, some (.arr 9 .str codes))]⟩) (Wk.of [(0, 0), (1, 1), (2, 2), (3, 3), (4, 4), (10, 10), (12, 12), (20, 13)] rfl ⟨rfl, rfl, rfl, rfl, rfl, rfl, rfl, rfl, rfl, rfl, rfl, rfl, rfl, rfl, rfl, rfl, rfl, rfl, rfl, rfl, rfl, trivial⟩ ⟨rfl, rfl, rfl, rfl, rfl, rfl, rfl, rfl, trivial⟩ rfl rfl) ?_
          refine AC.loop (fun m_ s_ => ∃ (i : Nat) (codes2 : List ByteArray), i ≤ codes.length ∧ m_ = codes.length - i ∧ (addF 0 codes (us.map q0) = addF i codes2 ((us.map q0).drop i)) ∧ (codes2.length = (exploreV s).1.1.length) ∧ (∀ c ∈ codes2, c.size ≤ 300 * k + i) ∧ s_ = ⟨[(1, lf (.ptr 0 0)), (2, lf (.ptr 1 0)), (3, lf (dB false)), (4, lf (.ptr 4 0)), (6, lf (.ptr 12 0)), (7, lf (dI (k : Int))), (8, lf (dS ((l5V ((exploreV s).1).1.length (arcsOf s.2.2.1 ((exploreV s).1).2) (k : Int)).1))), (47, lf (dI (s.2.1.length : Int))), (48, lf (dI (k : Int))), (49, lf (dB true)), (50, lf (dI (k : Int))), (51, PV.tup [(false, [dS ((l5V ((exploreV s).1).1.length (arcsOf s.2.2.1 ((exploreV s).1).2) (k : Int)).1)]), (false, [dB ((l5V ((exploreV s).1).1.length (arcsOf s.2.2.1 ((exploreV s).1).2) (k : Int)).2)])]), (52, ag [dI s.1.1, .dat (.sl 146 (.pr (.sl 3 .int) (.sl 3 .int))) s.1.2, .dat (.sl 129 (.pr .str .int)) s.2.1, .dat (.sl 131 (.pr .int .bool)) s.2.2.1, dS s.2.2.2]), (53, ag [.ref 2, .ref 3]), (54, lf (dI (k : Int))), (55, PV.tup [(false, [dS ((l5V ((exploreV s).1).1.length (arcsOf s.2.2.1 ((exploreV s).1).2) (k : Int)).1)]), (false, [dB ((l5V ((exploreV s).1).1.length (arcsOf s.2.2.1 ((exploreV s).1).2) (k : Int)).2)])]), (56, lf (dS ((l5V ((exploreV s).1).1.length (arcsOf s.2.2.1 ((exploreV s).1).2) (k : Int)).1))), (57, lf (dB ((l5V ((exploreV s).1).1.length (arcsOf s.2.2.1 ((exploreV s).1).2) (k : Int)).2))), (58, lf (.ptr 12 1)), (60, lf (dI (codes.length : Int))), (61, lf (dI (i : Int)))], [(0, some (.box 50 [dI s.1.1, .dat (.sl 146 (.pr (.sl 3 .int) (.sl 3 .int))) s.1.2, .dat (.sl 129 (.pr .str .int)) s.2.1, .dat (.sl 131 (.pr .int .bool)) s.2.2.1, dS s.2.2.2])), (1, some (.box 77 [.val (.slice none 0 0), .val (.slice none 0 0), .val (.slice none 0 0)])), (2, some (.arr 9 .str (((exploreV s).1).1))), (3, some (.arr 229 (.pr .int (.pr .int .int)) (((exploreV s).1).2))), (4, some (.box 188 [.ref 2, .ref 3])), (10, some (.arr 129 (.pr .str .int) (([]) ++ s.2.1))), (12, some (.box 77 [.ref 10, .ref 20, .val (.slice none 0 0)])), (20, some (.arr 9 .str codes2))]⟩) (m := codes.length - 0) ⟨0, codes, Nat.zero_le _, rfl, rfl, hL, hZ, rfl⟩ ?_
          rintro m_ s_ ⟨i, codes2, hk22, hm23, hA2, hL2, hZ2, rfl⟩
          refine AC.seq ?_
          refine AC.region ?_
          refine AL.cons rfl (Does.lss (Evl.tmp rfl) (Evl.tmp rfl) rfl) ?_
          refine AL.nil ?_
          refine (?_ : AC _ _ _ _ _)
          refine AC.seq ?_
          cases hb24 : (decide ((i : Int) < (codes.length : Int)))
          · have _h := hb24
            have hb24' : ¬ ((i : Int) < (codes.length : Int)) := of_decide_eq_false hb24
            refine AC.condF (Evl.tmp rfl) ?_
            refine AC.exit ?_
            refine (?_ : AC _ _ _ _ _)
            refine AC.region ?_
            refine AL.cons rfl (Does.add (Evl.tmp rfl) (Evl.int rfl) rfl (by omega)) ?_
            refine AL.cons rfl (Does.move rfl rfl) ?_
            refine AL.nil ?_
            exact loop_end (s.2.1.length - (k + 1)) ⟨[(1, lf (.ptr 0 0)), (2, lf (.ptr 1 0)), (3, lf (dB false)), (4, lf (.ptr 4 0)), (6, lf (.ptr 12 0)), (47, lf (dI (s.2.1.length : Int))), (48, lf (dI ((k + 1) : Int)))], [(0, some (.box 50 [dI s.1.1, .dat (.sl 146 (.pr (.sl 3 .int) (.sl 3 .int))) s.1.2, .dat (.sl 129 (.pr .str .int)) s.2.1, .dat (.sl 131 (.pr .int .bool)) s.2.2.1, dS s.2.2.2])), (1, some (.box 77 [.val (.slice none 0 0), .val (.slice none 0 0), .val (.slice none 0 0)])), (2, some (.arr 9 .str (((exploreV s).1).1))), (3, some (.arr 229 (.pr .int (.pr .int .int)) (((exploreV s).1).2))), (4, some (.box 188 [.ref 2, .ref 3])), (10, some (.arr 129 (.pr .str .int) (([]) ++ s.2.1))), (12, some (.box 77 [.ref 10, .ref 13, .val (.slice none 0 0)])), (13, some (.arr 9 .str codes2))]⟩ (by omega) (Wk.of [(0, 0), (1, 1), (2, 2), (3, 3), (4, 4), (10, 10), (12, 12), (13, 20)] rfl ⟨rfl, rfl, rfl, rfl, rfl, rfl, rfl, trivial⟩ ⟨rfl, rfl, rfl, rfl, rfl, rfl, rfl, rfl, trivial⟩ rfl rfl) ⟨k + 1, codes2, by omega, rfl, (by rw [hA, goS_ok (by omega) (by rw [hu4])]; exact congrArg _ (by rw [hu4]; exact hA2.trans (addQ_end (by omega)))), hL2, (fun c hc => Nat.le_trans (hZ2 c hc) (by omega)), rfl⟩
          · have _h := hb24
            have hb24' : ((i : Int) < (codes.length : Int)) := of_decide_eq_true hb24
            refine AC.condT (Evl.tmp rfl) ?_
            refine AC.skip ?_
            refine (?_ : AC _ _ _ _ _)
            refine AC.seq ?_
            refine AC.block ?_
            refine AC.seq ?_
            refine AC.region ?_
            refine AL.cons rfl (Does.move rfl rfl) ?_
            refine AL.cons rfl (Does.assign rfl rfl) ?_
            refine AL.nil ?_
            refine (?_ : AC _ _ _ _ _)
            refine AC.seq ?_
            refine AC.region ?_
            refine AL.cons rfl (Does.move rfl rfl) ?_
            refine AL.cons rfl (Does.move rfl rfl) ?_
            refine AL.cons rfl (Does.move rfl rfl) ?_
            refine AL.cons rfl (Does.add (Evl.tmp rfl) (Evl.int rfl) rfl (by omega)) ?_
            refine AL.cons rfl (show Does _ _ _ _ (St.put _ 68 (lf (dS (((l5V ((exploreV s).1).1.length (arcsOf s.2.2.1 ((exploreV s).1).2) (k : Int)).1).extract ((i : Int)).toNat ((i : Int) + 1).toNat)))) from Does.sliceS (l := (some (i : Int))) (h := (some ((i : Int) + 1))) (Evl.tmp rfl) (Evl.tmp rfl) (Evl.tmp rfl) und_9 rfl (by first | omega | (simp only [Option.getD_none, Option.getD_some]; omega)) (by first | omega | (simp only [Option.getD_none, Option.getD_some]; omega)) (by first | omega | (simp only [Option.getD_none, Option.getD_some]; omega))) ?_
            refine AL.cons rfl (Does.assign rfl rfl) ?_
            refine AL.nil ?_
            refine (?_ : AC _ _ _ _ _)
            refine AC.seq ?_
            refine AC.seq ?_
            refine AC.region ?_
            refine AL.cons rfl (Does.move rfl rfl) ?_
            refine AL.cons rfl (Does.eqlS (Evl.tmp rfl) (Evl.str rfl) rfl) ?_
            refine AL.nil ?_
            refine (?_ : AC _ _ _ _ _)
            cases hb25 : (decide ((((l5V ((exploreV s).1).1.length (arcsOf s.2.2.1 ((exploreV s).1).2) (k : Int)).1).extract ((i : Int)).toNat ((i : Int) + 1).toNat) = (⟨#[63]⟩ : ByteArray)))
            · have _h := hb25
              have hb25' : ¬ ((((l5V ((exploreV s).1).1.length (arcsOf s.2.2.1 ((exploreV s).1).2) (k : Int)).1).extract ((i : Int)).toNat ((i : Int) + 1).toNat) = (⟨#[63]⟩ : ByteArray)) := of_decide_eq_false hb25
              refine AC.condF (Evl.tmp rfl) ?_
              refine AC.skip ?_
              refine (?_ : AC _ _ _ _ _)
              refine AC.region ?_
              refine AL.cons rfl (Does.fieldP (Evl.tmp rfl) fld_77_1 rfl rfl) ?_
              refine AL.cons rfl (Does.loadP (Evl.tmp rfl) rfl tsh_67 rfl rfl) ?_
              refine AL.cons rfl (Does.move rfl rfl) ?_
              refine AL.cons rfl (Does.indexI (e := .str) (Evl.tmp rfl) rfl (Evl.tmp rfl) und_67 tsh_9 rfl (by omega) (by first | omega | (simp only [List.length_set]; omega))) ?_
              obtain ⟨x26, hx27⟩ : ∃ z, codes2[i]? = some z := ⟨_, List.getElem?_eq_getElem (by omega)⟩
              have hczx26 := hZ2 _ (List.mem_of_getElem? hx27)
              refine AL.cons rfl (Does.loadI (e := .str) (Evl.tmp rfl) rfl hx27 rfl tsh_9 rfl rfl) ?_
              refine AL.cons rfl (Does.move rfl rfl) ?_
              refine AL.cons rfl (Does.addS (Evl.tmp rfl) (Evl.tmp rfl) rfl (by first | (simp only [bsize1]; omega) | (refine Nat.le_trans (Nat.add_le_add_left (ext_le1 _ i) _) ?_; omega))) ?_
              refine AL.cons rfl (Does.indexI (e := .str) (Evl.tmp rfl) rfl (Evl.tmp rfl) und_67 tsh_9 rfl (by omega) (by first | omega | (simp only [List.length_set]; omega))) ?_
              refine AL.cons rfl (Does.storeI (e := .str) (z' := x26 ++ (((l5V ((exploreV s).1).1.length (arcsOf s.2.2.1 ((exploreV s).1).2) (k : Int)).1).extract ((i : Int)).toNat ((i : Int) + 1).toNat)) (Evl.tmp rfl) rfl hx27 rfl (Ev.tmp rfl) rfl tsh_9 rfl rfl) ?_
              refine AL.nil ?_
              refine (?_ : AC _ _ _ _ _)
              refine AC.region ?_
              refine AL.cons rfl (Does.add (Evl.tmp rfl) (Evl.int rfl) rfl (by omega)) ?_
              refine AL.cons rfl (Does.move rfl rfl) ?_
              refine AL.nil ?_
              exact loop_end (codes.length - (i + 1)) ⟨[(1, lf (.ptr 0 0)), (2, lf (.ptr 1 0)), (3, lf (dB false)), (4, lf (.ptr 4 0)), (6, lf (.ptr 12 0)), (7, lf (dI (k : Int))), (8, lf (dS ((l5V ((exploreV s).1).1.length (arcsOf s.2.2.1 ((exploreV s).1).2) (k : Int)).1))), (47, lf (dI (s.2.1.length : Int))), (48, lf (dI (k : Int))), (49, lf (dB true)), (50, lf (dI (k : Int))), (51, PV.tup [(false, [dS ((l5V ((exploreV s).1).1.length (arcsOf s.2.2.1 ((exploreV s).1).2) (k : Int)).1)]), (false, [dB ((l5V ((exploreV s).1).1.length (arcsOf s.2.2.1 ((exploreV s).1).2) (k : Int)).2)])]), (52, ag [dI s.1.1, .dat (.sl 146 (.pr (.sl 3 .int) (.sl 3 .int))) s.1.2, .dat (.sl 129 (.pr .str .int)) s.2.1, .dat (.sl 131 (.pr .int .bool)) s.2.2.1, dS s.2.2.2]), (53, ag [.ref 2, .ref 3]), (54, lf (dI (k : Int))), (55, PV.tup [(false, [dS ((l5V ((exploreV s).1).1.length (arcsOf s.2.2.1 ((exploreV s).1).2) (k : Int)).1)]), (false, [dB ((l5V ((exploreV s).1).1.length (arcsOf s.2.2.1 ((exploreV s).1).2) (k : Int)).2)])]), (56, lf (dS ((l5V ((exploreV s).1).1.length (arcsOf s.2.2.1 ((exploreV s).1).2) (k : Int)).1))), (57, lf (dB ((l5V ((exploreV s).1).1.length (arcsOf s.2.2.1 ((exploreV s).1).2) (k : Int)).2))), (58, lf (.ptr 12 1)), (60, lf (dI (codes.length : Int))), (61, lf (dI ((i + 1) : Int)))], [(0, some (.box 50 [dI s.1.1, .dat (.sl 146 (.pr (.sl 3 .int) (.sl 3 .int))) s.1.2, .dat (.sl 129 (.pr .str .int)) s.2.1, .dat (.sl 131 (.pr .int .bool)) s.2.2.1, dS s.2.2.2])), (1, some (.box 77 [.val (.slice none 0 0), .val (.slice none 0 0), .val (.slice none 0 0)])), (2, some (.arr 9 .str (((exploreV s).1).1))), (3, some (.arr 229 (.pr .int (.pr .int .int)) (((exploreV s).1).2))), (4, some (.box 188 [.ref 2, .ref 3])), (10, some (.arr 129 (.pr .str .int) (([]) ++ s.2.1))), (12, some (.box 77 [.ref 10, .ref 20, .val (.slice none 0 0)])), (20, some (.arr 9 .str (codes2.set i (x26 ++ (((l5V ((exploreV s).1).1.length (arcsOf s.2.2.1 ((exploreV s).1).2) (k : Int)).1).extract ((i : Int)).toNat ((i : Int) + 1).toNat)))))]⟩ (by omega) (Wk.of [(0, 0), (1, 1), (2, 2), (3, 3), (4, 4), (10, 10), (12, 12), (20, 20)] rfl ⟨rfl, rfl, rfl, rfl, rfl, rfl, rfl, rfl, rfl, rfl, rfl, rfl, rfl, rfl, rfl, rfl, rfl, rfl, rfl, rfl, rfl, trivial⟩ ⟨rfl, rfl, rfl, rfl, rfl, rfl, rfl, (show some (Ent.arr 9 .str (codes2.set i (x26 ++ (((l5V ((exploreV s).1).1.length (arcsOf s.2.2.1 ((exploreV s).1).2) (k : Int)).1).extract ((i : Int)).toNat ((i : Int) + 1).toNat)))) = some (Ent.arr 9 .str (codes2.set i (x26 ++ (((l5V ((exploreV s).1).1.length (arcsOf s.2.2.1 ((exploreV s).1).2) (k : Int)).1).extract ((i : Int)).toNat ((i : Int) + 1).toNat)))) from congrArg (fun z => some (Ent.arr 9 .str z)) (by first | rfl | simp)), trivial⟩ rfl rfl) ⟨i + 1, (codes2.set i (x26 ++ (((l5V ((exploreV s).1).1.length (arcsOf s.2.2.1 ((exploreV s).1).2) (k : Int)).1).extract ((i : Int)).toNat ((i : Int) + 1).toNat))), by omega, rfl, by first | exact hA2.trans (addQ_q hu1 (by omega) (by assumption) hx27) | exact hA2.trans (addQ_n hu1 (by omega) (by assumption) hx27), (by rw [List.length_set]; exact hL2), (size_set hZ2 hx27 (by rw [ByteArray.size_append]; first | exact Nat.le_refl _ | exact Nat.add_le_add_left (ext_le1 _ _) _)), rfl⟩
            · have _h := hb25
              have hb25' : ((((l5V ((exploreV s).1).1.length (arcsOf s.2.2.1 ((exploreV s).1).2) (k : Int)).1).extract ((i : Int)).toNat ((i : Int) + 1).toNat) = (⟨#[63]⟩ : ByteArray)) := of_decide_eq_true hb25
              refine AC.condT (Evl.tmp rfl) ?_
              refine AC.region ?_
              refine AL.cons rfl (Does.assignC (Evl.str rfl) rfl) ?_
              refine AL.nil ?_
              refine (?_ : AC _ _ _ _ _)
              refine AC.region ?_
              refine AL.cons rfl (Does.fieldP (Evl.tmp rfl) fld_77_1 rfl rfl) ?_
              refine AL.cons rfl (Does.loadP (Evl.tmp rfl) rfl tsh_67 rfl rfl) ?_
              refine AL.cons rfl (Does.move rfl rfl) ?_
              refine AL.cons rfl (Does.indexI (e := .str) (Evl.tmp rfl) rfl (Evl.tmp rfl) und_67 tsh_9 rfl (by omega) (by first | omega | (simp only [List.length_set]; omega))) ?_
              obtain ⟨x28, hx29⟩ : ∃ z, codes2[i]? = some z := ⟨_, List.getElem?_eq_getElem (by omega)⟩
              have hczx28 := hZ2 _ (List.mem_of_getElem? hx29)
              refine AL.cons rfl (Does.loadI (e := .str) (Evl.tmp rfl) rfl hx29 rfl tsh_9 rfl rfl) ?_
              refine AL.cons rfl (Does.move rfl rfl) ?_
              refine AL.cons rfl (Does.addS (Evl.tmp rfl) (Evl.tmp rfl) rfl (by first | (simp only [bsize1]; omega) | (refine Nat.le_trans (Nat.add_le_add_left (ext_le1 _ i) _) ?_; omega))) ?_
              refine AL.cons rfl (Does.indexI (e := .str) (Evl.tmp rfl) rfl (Evl.tmp rfl) und_67 tsh_9 rfl (by omega) (by first | omega | (simp only [List.length_set]; omega))) ?_
              refine AL.cons rfl (Does.storeI (e := .str) (z' := x28 ++ (⟨#[48]⟩ : ByteArray)) (Evl.tmp rfl) rfl hx29 rfl (Ev.tmp rfl) rfl tsh_9 rfl rfl) ?_
              refine AL.nil ?_
              refine (?_ : AC _ _ _ _ _)
              refine AC.region ?_
              refine AL.cons rfl (Does.add (Evl.tmp rfl) (Evl.int rfl) rfl (by omega)) ?_
              refine AL.cons rfl (Does.move rfl rfl) ?_
              refine AL.nil ?_
              exact loop_end (codes.length - (i + 1)) ⟨[(1, lf (.ptr 0 0)), (2, lf (.ptr 1 0)), (3, lf (dB false)), (4, lf (.ptr 4 0)), (6, lf (.ptr 12 0)), (7, lf (dI (k : Int))), (8, lf (dS ((l5V ((exploreV s).1).1.length (arcsOf s.2.2.1 ((exploreV s).1).2) (k : Int)).1))), (47, lf (dI (s.2.1.length : Int))), (48, lf (dI (k : Int))), (49, lf (dB true)), (50, lf (dI (k : Int))), (51, PV.tup [(false, [dS ((l5V ((exploreV s).1).1.length (arcsOf s.2.2.1 ((exploreV s).1).2) (k : Int)).1)]), (false, [dB ((l5V ((exploreV s).1).1.length (arcsOf s.2.2.1 ((exploreV s).1).2) (k : Int)).2)])]), (52, ag [dI s.1.1, .dat (.sl 146 (.pr (.sl 3 .int) (.sl 3 .int))) s.1.2, .dat (.sl 129 (.pr .str .int)) s.2.1, .dat (.sl 131 (.pr .int .bool)) s.2.2.1, dS s.2.2.2]), (53, ag [.ref 2, .ref 3]), (54, lf (dI (k : Int))), (55, PV.tup [(false, [dS ((l5V ((exploreV s).1).1.length (arcsOf s.2.2.1 ((exploreV s).1).2) (k : Int)).1)]), (false, [dB ((l5V ((exploreV s).1).1.length (arcsOf s.2.2.1 ((exploreV s).1).2) (k : Int)).2)])]), (56, lf (dS ((l5V ((exploreV s).1).1.length (arcsOf s.2.2.1 ((exploreV s).1).2) (k : Int)).1))), (57, lf (dB ((l5V ((exploreV s).1).1.length (arcsOf s.2.2.1 ((exploreV s).1).2) (k : Int)).2))), (58, lf (.ptr 12 1)), (60, lf (dI (codes.length : Int))), (61, lf (dI ((i + 1) : Int)))], [(0, some (.box 50 [dI s.1.1, .dat (.sl 146 (.pr (.sl 3 .int) (.sl 3 .int))) s.1.2, .dat (.sl 129 (.pr .str .int)) s.2.1, .dat (.sl 131 (.pr .int .bool)) s.2.2.1, dS s.2.2.2])), (1, some (.box 77 [.val (.slice none 0 0), .val (.slice none 0 0), .val (.slice none 0 0)])), (2, some (.arr 9 .str (((exploreV s).1).1))), (3, some (.arr 229 (.pr .int (.pr .int .int)) (((exploreV s).1).2))), (4, some (.box 188 [.ref 2, .ref 3])), (10, some (.arr 129 (.pr .str .int) (([]) ++ s.2.1))), (12, some (.box 77 [.ref 10, .ref 20, .val (.slice none 0 0)])), (20, some (.arr 9 .str (codes2.set i (x28 ++ (⟨#[48]⟩ : ByteArray)))))]⟩ (by omega) (Wk.of [(0, 0), (1, 1), (2, 2), (3, 3), (4, 4), (10, 10), (12, 12), (20, 20)] rfl ⟨rfl, rfl, rfl, rfl, rfl, rfl, rfl, rfl, rfl, rfl, rfl, rfl, rfl, rfl, rfl, rfl, rfl, rfl, rfl, rfl, rfl, trivial⟩ ⟨rfl, rfl, rfl, rfl, rfl, rfl, rfl, (show some (Ent.arr 9 .str (codes2.set i (x28 ++ (⟨#[48]⟩ : ByteArray)))) = some (Ent.arr 9 .str (codes2.set i (x28 ++ (⟨#[48]⟩ : ByteArray)))) from congrArg (fun z => some (Ent.arr 9 .str z)) (by first | rfl | simp)), trivial⟩ rfl rfl) ⟨i + 1, (codes2.set i (x28 ++ (⟨#[48]⟩ : ByteArray))), by omega, rfl, by first | exact hA2.trans (addQ_q hu1 (by omega) (by assumption) hx29) | exact hA2.trans (addQ_n hu1 (by omega) (by assumption) hx29), (by rw [List.length_set]; exact hL2), (size_set hZ2 hx29 (by rw [ByteArray.size_append]; first | exact Nat.le_refl _ | exact Nat.add_le_add_left (ext_le1 _ _) _)), rfl⟩
      · have _h := hb5
        have hb5' : (4000 < ((((exploreV s).1).2).length : Int)) := of_decide_eq_true hb5
        refine AC.condT (Evl.tmp rfl) ?_
        refine AC.seq ?_
        refine AC.region ?_
        refine AL.cons rfl (Does.build bld_77 rfl (List.all_eq_true.1 rfl) rfl rfl) ?_
        refine AL.cons rfl (Does.storeP (Evl.tmp rfl) rfl (Ev.tmp rfl) rfl tsh_77 rfl) ?_
        refine AL.cons rfl (Does.assignC Evl.bool rfl) ?_
        refine AL.nil ?_
        refine (?_ : AC _ _ _ _ _)
        refine AC.wk (Wk.nilC 21 (p := 1) (off := 0) 129 (.pr .str .int) rfl rfl (Fresh.of rfl) (Nat.le_of_ble_eq_true rfl)) ?_
        refine AC.wk (Wk.nilC 22 (p := 1) (off := 1) 9 .str rfl rfl (Fresh.of rfl) (Nat.le_of_ble_eq_true rfl)) ?_
        refine AC.wk (Wk.nilC 23 (p := 1) (off := 2) 170 (.pr .int (.pr .int (.pr .bool .int))) rfl rfl (Fresh.of rfl) (Nat.le_of_ble_eq_true rfl)) ?_
        refine AC.ret ?_
        subst hO
        have e30 : (false : Bool) = (sgV s).2 := by
          first | (rw [sgV_no1 (by assumption)]; done) | (rw [sgV_no1 (by assumption)]; rfl) | (rw [sgV_no2 (by assumption)]; done) | (rw [sgV_no2 (by assumption)]; rfl) | (rw [sgV_no3 (clash_some (arcs_inr (exploreV_ok (by assumption)).2.2.2.2.1) (by assumption))]; done) | (rw [sgV_no3 (clash_some (arcs_inr (exploreV_ok (by assumption)).2.2.2.2.1) (by assumption))]; rfl) | (rw [sgV_yes (by assumption) (by assumption) (hA.trans (goS_end (by omega)))]; done) | (rw [sgV_yes (by assumption) (by assumption) (hA.trans (goS_end (by omega)))]; rfl) | (rw [sgV_yes (by assumption) (by assumption) (hA.trans (goS_end (by omega))), take_end (by omega)]; done) | (rw [sgV_yes (by assumption) (by assumption) (hA.trans (goS_end (by omega))), take_end (by omega)]; rfl)
        exact fin_is (PV.tup [(true, [.ref 0, .ref 1, .ref 2]), (false, [dB ((sgV s).2)])]) [(0, some (.arr 129 (.pr .str .int) (((sgV s).1).1))), (1, some (.arr 9 .str (((sgV s).1).2.1))), (2, some (.arr 170 (.pr .int (.pr .int (.pr .bool .int))) (((sgV s).1).2.2)))] [(0, 21), (1, 22), (2, 23)] (Res.two rfl (Rs.cell rfl rfl tsh_77 rfl) (Rs.tmp rfl)) (show PV.tup [(true, [.ref 21, .ref 22, .ref 23]), (false, [dB false])] = PV.tup [(true, [.ref 21, .ref 22, .ref 23]), (false, [dB ((sgV s).2)])] by exact (congrArg (fun z_ => PV.tup [(true, [.ref 21, .ref 22, .ref 23]), (false, [dB z_])]) e30)) ⟨(show some (Ent.arr 129 (.pr .str .int) ([])) = some (Ent.arr 129 (.pr .str .int) (((sgV s).1).1)) from congrArg (fun z => some (Ent.arr 129 (.pr .str .int) z)) (by first | (rw [sgV_no1 (by assumption)]; done) | (rw [sgV_no1 (by assumption)]; rfl) | (rw [sgV_no2 (by assumption)]; done) | (rw [sgV_no2 (by assumption)]; rfl) | (rw [sgV_no3 (clash_some (arcs_inr (exploreV_ok (by assumption)).2.2.2.2.1) (by assumption))]; done) | (rw [sgV_no3 (clash_some (arcs_inr (exploreV_ok (by assumption)).2.2.2.2.1) (by assumption))]; rfl) | (rw [sgV_yes (by assumption) (by assumption) (hA.trans (goS_end (by omega)))]; done) | (rw [sgV_yes (by assumption) (by assumption) (hA.trans (goS_end (by omega)))]; rfl) | (rw [sgV_yes (by assumption) (by assumption) (hA.trans (goS_end (by omega))), take_end (by omega)]; done) | (rw [sgV_yes (by assumption) (by assumption) (hA.trans (goS_end (by omega))), take_end (by omega)]; rfl))), (show some (Ent.arr 9 .str ([])) = some (Ent.arr 9 .str (((sgV s).1).2.1)) from congrArg (fun z => some (Ent.arr 9 .str z)) (by first | (rw [sgV_no1 (by assumption)]; done) | (rw [sgV_no1 (by assumption)]; rfl) | (rw [sgV_no2 (by assumption)]; done) | (rw [sgV_no2 (by assumption)]; rfl) | (rw [sgV_no3 (clash_some (arcs_inr (exploreV_ok (by assumption)).2.2.2.2.1) (by assumption))]; done) | (rw [sgV_no3 (clash_some (arcs_inr (exploreV_ok (by assumption)).2.2.2.2.1) (by assumption))]; rfl) | (rw [sgV_yes (by assumption) (by assumption) (hA.trans (goS_end (by omega)))]; done) | (rw [sgV_yes (by assumption) (by assumption) (hA.trans (goS_end (by omega)))]; rfl) | (rw [sgV_yes (by assumption) (by assumption) (hA.trans (goS_end (by omega))), take_end (by omega)]; done) | (rw [sgV_yes (by assumption) (by assumption) (hA.trans (goS_end (by omega))), take_end (by omega)]; rfl))), (show some (Ent.arr 170 (.pr .int (.pr .int (.pr .bool .int))) ([])) = some (Ent.arr 170 (.pr .int (.pr .int (.pr .bool .int))) (((sgV s).1).2.2)) from congrArg (fun z => some (Ent.arr 170 (.pr .int (.pr .int (.pr .bool .int))) z)) (by first | (rw [sgV_no1 (by assumption)]; done) | (rw [sgV_no1 (by assumption)]; rfl) | (rw [sgV_no2 (by assumption)]; done) | (rw [sgV_no2 (by assumption)]; rfl) | (rw [sgV_no3 (clash_some (arcs_inr (exploreV_ok (by assumption)).2.2.2.2.1) (by assumption))]; done) | (rw [sgV_no3 (clash_some (arcs_inr (exploreV_ok (by assumption)).2.2.2.2.1) (by assumption))]; rfl) | (rw [sgV_yes (by assumption) (by assumption) (hA.trans (goS_end (by omega)))]; done) | (rw [sgV_yes (by assumption) (by assumption) (hA.trans (goS_end (by omega)))]; rfl) | (rw [sgV_yes (by assumption) (by assumption) (hA.trans (goS_end (by omega))), take_end (by omega)]; done) | (rw [sgV_yes (by assumption) (by assumption) (hA.trans (goS_end (by omega))), take_end (by omega)]; rfl))), trivial⟩ rfl rfl
    · have _h := hb4
      have hb4' : (0 < ((clash ((exploreV s).1).1.length (arcsOf s.2.2.1 ((exploreV s).1).2) s.2.1.length).length : Int)) := of_decide_eq_true hb4
      refine AL.guard_no (b := false) rfl rfl rfl ?_ rfl
      refine AL.guard_no (b := false) rfl rfl rfl ?_ rfl
      refine AL.guard_no (b := false) rfl rfl rfl ?_ rfl
      refine AL.guard_no (b := false) rfl rfl rfl ?_ rfl
      refine AL.cons rfl (Does.pickT (Evl.tmp rfl) (Evl.ev Evl.bool) rfl) ?_
      refine AL.nil ?_
      refine (?_ : AC _ _ _ _ _)
      refine AC.condT (Evl.tmp rfl) ?_
      refine AC.seq ?_
      refine AC.region ?_
      refine AL.cons rfl (Does.build bld_77 rfl (List.all_eq_true.1 rfl) rfl rfl) ?_
      refine AL.cons rfl (Does.storeP (Evl.tmp rfl) rfl (Ev.tmp rfl) rfl tsh_77 rfl) ?_
      refine AL.cons rfl (Does.assignC Evl.bool rfl) ?_
      refine AL.nil ?_
      refine (?_ : AC _ _ _ _ _)
      refine AC.wk (Wk.nilC 24 (p := 1) (off := 0) 129 (.pr .str .int) rfl rfl (Fresh.of rfl) (Nat.le_of_ble_eq_true rfl)) ?_
      refine AC.wk (Wk.nilC 25 (p := 1) (off := 1) 9 .str rfl rfl (Fresh.of rfl) (Nat.le_of_ble_eq_true rfl)) ?_
      refine AC.wk (Wk.nilC 26 (p := 1) (off := 2) 170 (.pr .int (.pr .int (.pr .bool .int))) rfl rfl (Fresh.of rfl) (Nat.le_of_ble_eq_true rfl)) ?_
      refine AC.ret ?_
      subst hO
      have e31 : (false : Bool) = (sgV s).2 := by
        first | (rw [sgV_no1 (by assumption)]; done) | (rw [sgV_no1 (by assumption)]; rfl) | (rw [sgV_no2 (by assumption)]; done) | (rw [sgV_no2 (by assumption)]; rfl) | (rw [sgV_no3 (clash_some (arcs_inr (exploreV_ok (by assumption)).2.2.2.2.1) (by assumption))]; done) | (rw [sgV_no3 (clash_some (arcs_inr (exploreV_ok (by assumption)).2.2.2.2.1) (by assumption))]; rfl) | (rw [sgV_yes (by assumption) (by assumption) (hA.trans (goS_end (by omega)))]; done) | (rw [sgV_yes (by assumption) (by assumption) (hA.trans (goS_end (by omega)))]; rfl) | (rw [sgV_yes (by assumption) (by assumption) (hA.trans (goS_end (by omega))), take_end (by omega)]; done) | (rw [sgV_yes (by assumption) (by assumption) (hA.trans (goS_end (by omega))), take_end (by omega)]; rfl)
      exact fin_is (PV.tup [(true, [.ref 0, .ref 1, .ref 2]), (false, [dB ((sgV s).2)])]) [(0, some (.arr 129 (.pr .str .int) (((sgV s).1).1))), (1, some (.arr 9 .str (((sgV s).1).2.1))), (2, some (.arr 170 (.pr .int (.pr .int (.pr .bool .int))) (((sgV s).1).2.2)))] [(0, 24), (1, 25), (2, 26)] (Res.two rfl (Rs.cell rfl rfl tsh_77 rfl) (Rs.tmp rfl)) (show PV.tup [(true, [.ref 24, .ref 25, .ref 26]), (false, [dB false])] = PV.tup [(true, [.ref 24, .ref 25, .ref 26]), (false, [dB ((sgV s).2)])] by exact (congrArg (fun z_ => PV.tup [(true, [.ref 24, .ref 25, .ref 26]), (false, [dB z_])]) e31)) ⟨(show some (Ent.arr 129 (.pr .str .int) ([])) = some (Ent.arr 129 (.pr .str .int) (((sgV s).1).1)) from congrArg (fun z => some (Ent.arr 129 (.pr .str .int) z)) (by first | (rw [sgV_no1 (by assumption)]; done) | (rw [sgV_no1 (by assumption)]; rfl) | (rw [sgV_no2 (by assumption)]; done) | (rw [sgV_no2 (by assumption)]; rfl) | (rw [sgV_no3 (clash_some (arcs_inr (exploreV_ok (by assumption)).2.2.2.2.1) (by assumption))]; done) | (rw [sgV_no3 (clash_some (arcs_inr (exploreV_ok (by assumption)).2.2.2.2.1) (by assumption))]; rfl) | (rw [sgV_yes (by assumption) (by assumption) (hA.trans (goS_end (by omega)))]; done) | (rw [sgV_yes (by assumption) (by assumption) (hA.trans (goS_end (by omega)))]; rfl) | (rw [sgV_yes (by assumption) (by assumption) (hA.trans (goS_end (by omega))), take_end (by omega)]; done) | (rw [sgV_yes (by assumption) (by assumption) (hA.trans (goS_end (by omega))), take_end (by omega)]; rfl))), (show some (Ent.arr 9 .str ([])) = some (Ent.arr 9 .str (((sgV s).1).2.1)) from congrArg (fun z => some (Ent.arr 9 .str z)) (by first | (rw [sgV_no1 (by assumption)]; done) | (rw [sgV_no1 (by assumption)]; rfl) | (rw [sgV_no2 (by assumption)]; done) | (rw [sgV_no2 (by assumption)]; rfl) | (rw [sgV_no3 (clash_some (arcs_inr (exploreV_ok (by assumption)).2.2.2.2.1) (by assumption))]; done) | (rw [sgV_no3 (clash_some (arcs_inr (exploreV_ok (by assumption)).2.2.2.2.1) (by assumption))]; rfl) | (rw [sgV_yes (by assumption) (by assumption) (hA.trans (goS_end (by omega)))]; done) | (rw [sgV_yes (by assumption) (by assumption) (hA.trans (goS_end (by omega)))]; rfl) | (rw [sgV_yes (by assumption) (by assumption) (hA.trans (goS_end (by omega))), take_end (by omega)]; done) | (rw [sgV_yes (by assumption) (by assumption) (hA.trans (goS_end (by omega))), take_end (by omega)]; rfl))), (show some (Ent.arr 170 (.pr .int (.pr .int (.pr .bool .int))) ([])) = some (Ent.arr 170 (.pr .int (.pr .int (.pr .bool .int))) (((sgV s).1).2.2)) from congrArg (fun z => some (Ent.arr 170 (.pr .int (.pr .int (.pr .bool .int))) z)) (by first | (rw [sgV_no1 (by assumption)]; done) | (rw [sgV_no1 (by assumption)]; rfl) | (rw [sgV_no2 (by assumption)]; done) | (rw [sgV_no2 (by assumption)]; rfl) | (rw [sgV_no3 (clash_some (arcs_inr (exploreV_ok (by assumption)).2.2.2.2.1) (by assumption))]; done) | (rw [sgV_no3 (clash_some (arcs_inr (exploreV_ok (by assumption)).2.2.2.2.1) (by assumption))]; rfl) | (rw [sgV_yes (by assumption) (by assumption) (hA.trans (goS_end (by omega)))]; done) | (rw [sgV_yes (by assumption) (by assumption) (hA.trans (goS_end (by omega)))]; rfl) | (rw [sgV_yes (by assumption) (by assumption) (hA.trans (goS_end (by omega))), take_end (by omega)]; done) | (rw [sgV_yes (by assumption) (by assumption) (hA.trans (goS_end (by omega))), take_end (by omega)]; rfl))), trivial⟩ rfl rfl

end Go.Proofs.Ytbelopdphlllnaa
