/- Walks over abstract states: the state graph, both sides. -/
import Derived.Test.YtnakmhfjafecpaaGreatWp
set_option linter.unusedSimpArgs false
set_option linter.unusedVariables false
set_option linter.unusedSectionVars false
namespace Go.Proofs.YtnakmhfjafecpaaGreat
open Go.RowKit
set_option maxRecDepth 100000
set_option maxHeartbeats 4000000

/-- A column of bits put behind the codes, from place i on. -/
def addF : Nat → List ByteArray → List UInt8 → List ByteArray
  | _, c, [] => c
  | i, c, v :: vs => addF (i + 1) (c.set i ((c[i]?).getD ByteArray.empty ++ ⟨#[v]⟩)) vs
def goS (n : Nat) (arcs : List DAr) : Nat → Nat → List ByteArray → Option (List ByteArray)
  | 0, _, c => some c
  | f + 1, k, c => if (valsV n arcs (k : Int)).2 = true then goS n arcs f (k + 1) (addF 0 c (valsV n arcs (k : Int)).1) else none
section
variable {n f k i m : Nat} {arcs : List DAr} {c codes : List ByteArray} {vs us : List UInt8} {v : UInt8} {x : ByteArray}
theorem addF_step (hv : vs[i]? = some v) (hx : c[i]? = some x) : addF i c (vs.drop i) = addF (i + 1) (c.set i (x ++ ⟨#[v]⟩)) (vs.drop (i + 1)) := by
  rw [drop_cons hv, addF, hx]
  rfl
theorem addF_end (h : vs.length ≤ i) : addF i c (vs.drop i) = c := by rw [List.drop_eq_nil_of_le h, addF]
theorem goS_ok (hk : k < m) (h : (valsV n arcs (k : Int)).2 = true) : goS n arcs (m - k) k c = goS n arcs (m - (k + 1)) (k + 1) (addF 0 c (valsV n arcs (k : Int)).1) := by
  rw [show m - k = (m - (k + 1)) + 1 by omega, goS, if_pos h]
theorem goS_bad (hk : k < m) (h : (valsV n arcs (k : Int)).2 = false) : goS n arcs (m - k) k c = none := by
  rw [show m - k = (m - (k + 1)) + 1 by omega, goS, if_neg (by rw [h]; decide)]
theorem goS_end (hk : m ≤ k) : goS n arcs (m - k) k c = some c := by rw [show m - k = 0 by omega, goS]
theorem goS_none {j : Nat} (h : (valsV n arcs (j : Int)).2 = false) (hk : k ≤ j) (hj : j < k + f) : goS n arcs f k c = none := by
  induction f generalizing k c with
  | zero => omega
  | succ f ih =>
    rw [goS]
    by_cases e : j = k
    · subst e; rw [if_neg (by rw [h]; decide)]
    · split
      · exact ih (by omega) (by omega)
      · rfl
theorem vals_of_l5 (hr : ∀ a ∈ arcs, InR n a) (sig : Int) : (valsV n arcs sig).2 = (l5V n arcs sig).2 := by
  rcases l5V_vals (sig := sig) hr with ⟨h1, h2, _⟩ | ⟨us, h1, _, h2⟩
  · rw [h1, h2]
  · rw [h1, h2]
theorem clash_none (h : ¬ 0 < ((clash n arcs m).length : Int)) (hk : k < m) : (l5V n arcs (k : Int)).2 = true := by
  induction m with
  | zero => omega
  | succ m ih =>
    simp only [clash, List.length_append] at h
    by_cases e : k = m
    · subst e
      cases h2 : (l5V n arcs (k : Int)).2 with
      | true => rfl
      | false => rw [h2] at h; simp at h
    · exact ih (by omega) (by omega)
theorem clash_some (hr : ∀ a ∈ arcs, InR n a) (h : 0 < ((clash n arcs m).length : Int)) : goS n arcs m 0 c = none := by
  have : ∃ j, j < m ∧ (l5V n arcs (j : Int)).2 = false := by
    induction m with
    | zero => simp [clash] at h
    | succ m ih =>
      simp only [clash, List.length_append] at h
      cases h2 : (l5V n arcs (m : Int)).2 with
      | false => exact ⟨m, by omega, h2⟩
      | true =>
        rw [h2] at h
        obtain ⟨j, h3, h4⟩ := ih (by simpa using h)
        exact ⟨j, by omega, h4⟩
  obtain ⟨j, h1, h2⟩ := this
  exact goS_none ((vals_of_l5 hr _).trans h2) (Nat.zero_le _) (by omega)
theorem vals_len (hr : ∀ a ∈ arcs, InR n a) (sig : Int) : (valsV n arcs sig).1.length ≤ n := by
  rcases l5V_vals (sig := sig) hr with ⟨_, _, _, h2⟩ | ⟨us, _, h1, h2⟩
  · rw [h2]; exact Nat.zero_le _
  · rw [h2, List.length_map, h1]; exact Nat.le_refl _
theorem size_set {b : Nat} {y : ByteArray} (h : ∀ z ∈ c, z.size ≤ b) (hx : c[i]? = some x) (hy : y.size ≤ x.size + 1) : ∀ z ∈ c.set i y, z.size ≤ b + 1 := fun z hz => by
  rcases List.mem_or_eq_of_mem_set hz with h1 | h1
  · exact Nat.le_succ_of_le (h z h1)
  · rw [h1]; have := h x (List.mem_of_getElem? hx); omega
theorem arcs_inr {ls : List DLabel} {ms : List DMv} {q : Nat} (h : ∀ v ∈ ms, MvOk n q v) : ∀ a ∈ arcsOf ls ms, InR n a := fun a ha => by
  obtain ⟨v, hv, rfl⟩ := List.mem_map.1 ha
  obtain ⟨h1, _, h2⟩ := h v hv
  exact ⟨h1, h2⟩
theorem l5V_us {sig : Int} (hr : ∀ a ∈ arcs, InR n a) (h : (l5V n arcs sig).2 = true) : ∃ us : List UInt8, (l5V n arcs sig).1 = ⟨us.toArray⟩ ∧ us.length = n ∧ (l5V n arcs sig).1.size = n ∧ valsV n arcs sig = (us.map q0, true) := by
  rcases l5V_vals (sig := sig) hr with ⟨h1, _⟩ | ⟨us, h1, h2, h3⟩
  · rw [h1] at h; cases h
  · exact ⟨us, by rw [h1], h2, by rw [h1, ← h2]; rfl, h3⟩
theorem ext_le1 (b : ByteArray) (i : Nat) : (b.extract i (i + 1)).size ≤ 1 := by simp only [ByteArray.size_extract]; omega
theorem ext1 (hu : us[i]? = some v) : (⟨us.toArray⟩ : ByteArray).extract i (i + 1) = ⟨#[v]⟩ := by
  apply ByteArray.ext
  simp only [ByteArray.data_extract]
  obtain ⟨h1, h2⟩ := List.getElem?_eq_some_iff.1 hu
  apply Array.ext
  · simp; omega
  · intro j h3 h4
    have : j = 0 := by simp at h4; omega
    subst this
    simp [h2]
theorem q0_at (hu : us[i]? = some v) : (us.map q0)[i]? = some (q0 v) := by rw [List.getElem?_map, hu]; rfl
theorem addQ_q {b : ByteArray} (hb : b = ⟨us.toArray⟩) (hi : i < us.length) (hd : decide (b.extract i (i + 1) = ⟨#[63]⟩) = true) (hx : c[i]? = some x) : addF i c ((us.map q0).drop i) = addF (i + 1) (c.set i (x ++ ⟨#[48]⟩)) ((us.map q0).drop (i + 1)) := by
  have hu := List.getElem?_eq_getElem hi
  have h1 := of_decide_eq_true hd
  rw [hb, ext1 hu] at h1
  have h2 : us[i] = 63 := by
    have := congrArg (fun b : ByteArray => b.data[0]?) h1
    simpa using this
  have := addF_step (q0_at hu) hx
  rwa [show q0 us[i] = 48 by rw [h2]; rfl] at this
theorem addQ_n {b : ByteArray} (hb : b = ⟨us.toArray⟩) (hi : i < us.length) (hd : decide (b.extract i (i + 1) = ⟨#[63]⟩) = false) (hx : c[i]? = some x) : addF i c ((us.map q0).drop i) = addF (i + 1) (c.set i (x ++ b.extract i (i + 1))) ((us.map q0).drop (i + 1)) := by
  have hu := List.getElem?_eq_getElem hi
  have h1 := of_decide_eq_false hd
  rw [hb, ext1 hu] at h1 ⊢
  have := addF_step (q0_at hu) hx
  rwa [show q0 us[i] = us[i] by unfold q0; rw [if_neg]; intro e; exact h1 (by rw [e])] at this
theorem addQ_end (h : us.length ≤ i) : addF i c ((us.map q0).drop i) = c := addF_end (by simpa using h)
end
section
variable [∀ s, Decidable (StgOk s)] {s : DSTG} {c : List ByteArray}
def zeroSG : List (ByteArray × Int) × List ByteArray × List DAr := ([], [], [])
def sgV (s : DSTG) : (List (ByteArray × Int) × List ByteArray × List DAr) × Bool :=
  if (exploreV s).2 = true ∧ ¬ 4000 < (exploreV s).1.2.length then
    (match goS (exploreV s).1.1.length (arcsOf s.2.2.1 (exploreV s).1.2) s.2.1.length 0 (List.replicate (exploreV s).1.1.length ByteArray.empty) with
    | some c => ((s.2.1, c, arcsOf s.2.2.1 (exploreV s).1.2), true)
    | none => (zeroSG, false))
  else (zeroSG, false)
theorem sgV_no1 (h : (exploreV s).2 = false) : sgV s = (zeroSG, false) := if_neg fun h2 => by rw [h] at h2; cases h2.1
theorem sgV_no2 (h : (4000 : Int) < ((exploreV s).1.2.length : Int)) : sgV s = (zeroSG, false) := if_neg fun h2 => h2.2 (by omega)
theorem sgV_no3 (h : goS (exploreV s).1.1.length (arcsOf s.2.2.1 (exploreV s).1.2) s.2.1.length 0 (List.replicate (exploreV s).1.1.length ByteArray.empty) = none) : sgV s = (zeroSG, false) := by
  unfold sgV
  rw [h]
  split <;> rfl
theorem sgV_yes (h1 : (exploreV s).2 = true) (h2 : ¬ (4000 : Int) < ((exploreV s).1.2.length : Int)) (h : goS (exploreV s).1.1.length (arcsOf s.2.2.1 (exploreV s).1.2) s.2.1.length 0 (List.replicate (exploreV s).1.1.length ByteArray.empty) = some c) :
    sgV s = ((s.2.1, c, arcsOf s.2.2.1 (exploreV s).1.2), true) := by
  unfold sgV
  rw [if_pos ⟨h1, by omega⟩, h]
end

theorem fc_impl_BuildStateGraph (s : (Int × (List (List Int × List Int))) × (List (ByteArray × Int)) × (List (Int × Bool)) × ByteArray) [∀ s, Decidable (StgOk s)]  : FC Tryz.prog 91 [(true, [dI s.1.1, .dat (.sl 159 (.pr (.sl 3 .int) (.sl 3 .int))) s.1.2, .dat (.sl 145 (.pr .str .int)) s.2.1, .dat (.sl 61 (.pr .int .bool)) s.2.2.1, dS s.2.2.2])] [] 0 (Is (PV.tup [(true, [.ref 0, .ref 1, .ref 2]), (false, [dB ((sgV s).2)])]) [(0, some (.arr 145 (.pr .str .int) (((sgV s).1).1))), (1, some (.arr 9 .str (((sgV s).1).2.1))), (2, some (.arr 179 (.pr .int (.pr .int (.pr .bool .int))) (((sgV s).1).2.2)))]) := by
 refine FC.go Tryz.func91 rfl rfl Tryz.ntmps91 fun O_ hO w0_ N0_ X_ h0_ f0_ => ?_
 refine AC.fact (fact_ag (x := .tmp 0) (i := 0) (Ev.tmp rfl) rfl) fun hi1 => ?_
 refine w_ ?_
 refine lc (Does.box 0 (Ev.tmp rfl) rfl rfl (Fresh.of rfl) (nlr rfl)) <| lc (Does.alloc 1 (.pr (.sl 145 (.pr .str .int)) (.pr (.sl 9 .str) (.sl 179 (.pr .int (.pr .int (.pr .bool .int)))))) zer_59 rfl rfl (Fresh.of rfl) (nlr rfl)) ?_
 iterate 4 refine w_ ?_
 refine lc (Does.callG 2 (fc_impl_Explore s) enters_113 ⟨_, _, rfl, (Ev.tmp rfl), rfl⟩ rfl rfl ⟨Fresh.of rfl, Fresh.of rfl, trivial⟩ (nlr rfl)) ?_
 iterate 3 refine w_ ?_
 refine lc (Does.alloc 4 (.pr (.sl 9 .str) (.sl 226 (.pr .int (.pr .int .int)))) zer_98 rfl rfl (Fresh.of rfl) (nlr rfl)) <| lc (Does.storeP (Evl.tmp rfl) rfl (Ev.tmp rfl) rfl tsh_98 rfl) ?_
 iterate 7 refine w_ ?_
 cases hb2 : ((exploreV s).2)
 ·iterate 8 refine w_ ?_
  refine lc (Does.build bld_59 rfl (List.all_eq_true.1 rfl) rfl rfl) <| lc (Does.storeP (Evl.tmp rfl) rfl (Ev.tmp rfl) rfl tsh_59 rfl) ?_
  iterate 2 refine w_ ?_
  refine AC.wk (Wk.nilC 5 (p := 1) (off := 0) 145 (.pr .str .int) rfl rfl (Fresh.of rfl) (nlr rfl)) <| AC.wk (Wk.nilC 6 (p := 1) (off := 1) 9 .str rfl rfl (Fresh.of rfl) (nlr rfl)) <| AC.wk (Wk.nilC 7 (p := 1) (off := 2) 179 (.pr .int (.pr .int (.pr .bool .int))) rfl rfl (Fresh.of rfl) (nlr rfl)) <| AC.ret ?_
  subst hO
  have e3 : (false : Bool) = ((sgV s).2) := by
   (rw [sgV_no1 (by assumption)]; done)
  exact fin_is _ _ [(0, 5), (1, 6), (2, 7)] (Res.two rfl (Rs.cell rfl rfl tsh_59 rfl) (Rs.tmp rfl)) ((congrArg (fun z_ => PV.tup [(true, [.ref 5, .ref 6, .ref 7]), (false, [dB z_])]) e3)) ⟨(entE (by (rw [sgV_no1 (by assumption)]; rfl))), (entE (by (rw [sgV_no1 (by assumption)]; rfl))), (entE (by (rw [sgV_no1 (by assumption)]; rfl))), trivial⟩ rfl rfl
 ·iterate 6 refine w_ ?_
  cases hb4 : (decide (4000 < ((((exploreV s).1).2).length : Int)))
  ·have hb4' := of_decide_eq_false hb4
   iterate 2 refine w_ ?_
   obtain ⟨hsg, hN1, hN2, hNd, hMv, hMl⟩ := exploreV_ok (s := s) (by assumption)
   have hir := arcs_inr (ls := s.2.2.1) hMv
   have hsl := sigs_len hsg.sigs
   refine dw [io 26 (lP 0 2), io 27 (lf (.dat (.sl 145 (.pr .str .int)) s.2.1)), ⟨some 28, lR 8, [(8, some (.arr 145 (.pr .str .int) s.2.1))]⟩, io 29 (lP 4 0), io 30 (lR 2), io 31 (lI ((((exploreV s).1).1).length : Int)), ⟨some 32, lR 9, [(9, some (.arr 9 .str (List.replicate ((((exploreV s).1).1).length) (Ty.zero .str))))]⟩, io 33 (ag [dI s.1.1, .dat (.sl 159 (.pr (.sl 3 .int) (.sl 3 .int))) s.1.2, .dat (.sl 145 (.pr .str .int)) s.2.1, .dat (.sl 61 (.pr .int .bool)) s.2.2.1, dS s.2.2.2]), io 34 (ag [.ref 2, .ref 3]), ⟨some 35, lR 10, [(10, some (.arr 179 (.pr .int (.pr .int (.pr .bool .int))) (arcsOf s.2.2.1 ((exploreV s).1).2)))]⟩, io 36 (ag [.ref 8, .ref 9, .ref 10]), ⟨some 6, lP 11 0, [(11, some (.box 59 [.val (.slice none 0 0), .val (.slice none 0 0), .val (.slice none 0 0)]))]⟩, ⟨none, lf (.val undef), [(11, some (.box 59 [.ref 8, .ref 9, .ref 10]))]⟩] [0, 1, 3, 0, 8, 24, 56, 0, 0, 391, 1023, 0, 4095] mixed rfl (by kernel_rfl) ⟨dxf fld_39_1 rfl rfl rfl, dxl tsh_36 rfl rfl rfl rfl rfl, fun _ h_ => ac (Does.callO 8 (fc_slices_Clone_impl_Signal_impl_Signal s.2.1 (by omega)) enters_168 ⟨_, _, rfl, (h_.w rfl), rfl⟩ rfl (h_.fr 8 rfl) (nlr rfl)) rfl, dxf fld_98_0 rfl rfl rfl, dxl tsh_46 rfl rfl rfl rfl rfl, fun _ h_ => ac (Does.lenO (h_.v rfl) (h_.n 2 rfl) rfl und_46) rfl, fun _ h_ => ac (Does.make 9 (e := .str) (n := (((exploreV s).1).1).length) (h_.v rfl) (h_.v rfl) und_46 mki_9 rfl (by omega) (by omega) rfl (h_.fr 9 rfl) (nlr rfl)) rfl, dxa tsh_39 rfl rfl rfl rfl, dxa tsh_98 rfl rfl rfl rfl, fun _ h_ => ac (Does.callOB 10 (fc_impl_labelledArcs s ((exploreV s).1) (fun m hm => (hMv m hm).2.1) (by omega)) enters_169 ⟨_, _, rfl, (Ev.b (h_.w rfl)), ⟨_, _, rfl, (Ev.ob (h_.w rfl) ⟨_, _, rfl, .inr ⟨_, _, _, _, rfl, (h_.en 2 rfl), rfl⟩, ⟨_, _, rfl, .inr ⟨_, _, _, _, rfl, (h_.en 3 rfl), rfl⟩, rfl⟩⟩), rfl⟩⟩ rfl (h_.fr 10 rfl) (nlr rfl)) rfl, fun _ h_ => ac (Does.build bld_59 ⟨_, _, rfl, (h_.w rfl), ⟨_, _, rfl, (h_.w rfl), ⟨_, _, rfl, (h_.w rfl), rfl⟩⟩⟩ (List.all_eq_true.1 (by simp only [okLVs, okLV, List.all_cons, List.all_nil]; rw [(h_.en 8 rfl), (h_.en 9 rfl), (h_.en 10 rfl)]; rfl)) rfl rfl) rfl, fun _ h_ => ac (Does.alloc 11 (.pr (.sl 145 (.pr .str .int)) (.pr (.sl 9 .str) (.sl 179 (.pr .int (.pr .int (.pr .bool .int)))))) zer_59 rfl rfl (h_.fr 11 rfl) (nlr rfl)) rfl, fun _ h_ => ac (Does.storeP (h_.v rfl) (h_.en 11 rfl) (h_.w rfl) (by simp only [okLVs, okLV, List.all_cons, List.all_nil]; rw [(h_.en 8 rfl), (h_.en 9 rfl), (h_.en 10 rfl)]; rfl) tsh_59 rfl) rfl, ⟨⟩⟩ ?_
   iterate 4 refine w_ ?_
   refine AL.fact (fact_len (x := .tmp 38) (Evl.tmp rfl)) fun hl5 => ?_
   iterate 4 refine w_ ?_
   refine AC.loopW (fun m_ s_ => ∃ (k : Nat) (codes : List ByteArray), k ≤ s.2.1.length ∧ m_ = s.2.1.length - k ∧ (goS (exploreV s).1.1.length (arcsOf s.2.2.1 (exploreV s).1.2) s.2.1.length 0 (List.replicate (exploreV s).1.1.length ByteArray.empty) = goS (exploreV s).1.1.length (arcsOf s.2.2.1 (exploreV s).1.2) (s.2.1.length - k) k codes) ∧ (codes.length = (exploreV s).1.1.length) ∧ (∀ c ∈ codes, c.size ≤ 300 * k) ∧ s_ = ⟨[(2, lP 1 0), (4, lP 4 0), (6, lP 11 0), (39, lI (s.2.1.length : Int)), (40, lI (k : Int))], [(1, some (.box 59 [.val (.slice none 0 0), .val (.slice none 0 0), .val (.slice none 0 0)])), (2, some (.arr 9 .str (((exploreV s).1).1))), (3, some (.arr 226 (.pr .int (.pr .int .int)) (((exploreV s).1).2))), (4, some (.box 98 [.ref 2, .ref 3])), (8, some (.arr 145 (.pr .str .int) s.2.1)), (10, some (.arr 179 (.pr .int (.pr .int (.pr .bool .int))) (arcsOf s.2.2.1 ((exploreV s).1).2))), (11, some (.box 59 [.ref 8, .ref 12, .ref 10])), (12, some (.arr 9 .str codes))]⟩) ⟨0, List.replicate ((((exploreV s).1).1).length) (Ty.zero .str), Nat.zero_le _, rfl, rfl, (by simp), (fun c hc => by rw [List.eq_of_mem_replicate hc]; exact Nat.zero_le _), rfl⟩ ?_ ?_
   · exact Wk.of [(1, 1), (2, 2), (3, 3), (4, 4), (8, 8), (10, 10), (11, 11), (12, 9)] rfl ⟨rfl, rfl, rfl, rfl, rfl, trivial⟩ ⟨rfl, rfl, rfl, rfl, rfl, rfl, rfl, (entE (by first | rfl | simp)), trivial⟩ rfl rfl
   rintro m_ s_ ⟨k, codes, hk6, hm7, hA, hL, hZ, rfl⟩
   iterate 4 refine w_ ?_
   cases hb8 : (decide ((k : Int) < (s.2.1.length : Int)))
   ·have hb8' := of_decide_eq_false hb8
    refine w_ ?_
    refine AC.exit ?_
    refine (?_ : AC _ _ _ _ _)
    iterate 2 refine w_ ?_
    refine lc (Does.storeP (Evl.tmp rfl) rfl (Ev.tmp rfl) rfl tsh_59 rfl) ?_
    iterate 2 refine w_ ?_
    refine AC.ret ?_
    subst hO
    have e9 : (true : Bool) = ((sgV s).2) := by
     (rw [sgV_yes (by assumption) (by assumption) (hA.trans (goS_end (by omega)))]; done)
    exact fin_is _ _ [(0, 8), (1, 12), (2, 10)] (Res.two rfl (Rs.cell rfl rfl tsh_59 rfl) (Rs.tmp rfl)) ((congrArg (fun z_ => PV.tup [(true, [.ref 8, .ref 12, .ref 10]), (false, [dB z_])]) e9)) ⟨(entE (by (rw [sgV_yes (by assumption) (by assumption) (hA.trans (goS_end (by omega)))]; done))), (entE (by (rw [sgV_yes (by assumption) (by assumption) (hA.trans (goS_end (by omega)))]; done))), (entE (by (rw [sgV_yes (by assumption) (by assumption) (hA.trans (goS_end (by omega)))]; done))), trivial⟩ rfl rfl
   ·have hb8' := of_decide_eq_true hb8
    iterate 15 refine w_ ?_
    refine lc (Does.callGB 13 (fc_impl_valuesOf ((((exploreV s).1).1).length : Int) (arcsOf s.2.2.1 ((exploreV s).1).2) (k : Int) (by omega) hir) enters_170 ⟨_, _, rfl, (Ev.b (Ev.tmp rfl)), ⟨_, _, rfl, (Evl.ob (Evl.tmp rfl) rfl), ⟨_, _, rfl, (Ev.b (Ev.tmp rfl)), rfl⟩⟩⟩ rfl rfl rfl ⟨Fresh.of rfl, trivial⟩ (nlr rfl)) ?_
    iterate 11 refine w_ ?_
    cases hb10 : ((valsV ((((exploreV s).1).1).length : Int).toNat (arcsOf s.2.2.1 ((exploreV s).1).2) (k : Int)).2)
    ·iterate 2 refine w_ ?_
     refine lc (Does.build bld_59 rfl (List.all_eq_true.1 rfl) rfl rfl) <| lc (Does.storeP (Evl.tmp rfl) rfl (Ev.tmp rfl) rfl tsh_59 rfl) ?_
     iterate 2 refine w_ ?_
     refine AC.wk (Wk.nilC 14 (p := 1) (off := 0) 145 (.pr .str .int) rfl rfl (Fresh.of rfl) (nlr rfl)) <| AC.wk (Wk.nilC 15 (p := 1) (off := 1) 9 .str rfl rfl (Fresh.of rfl) (nlr rfl)) <| AC.wk (Wk.nilC 16 (p := 1) (off := 2) 179 (.pr .int (.pr .int (.pr .bool .int))) rfl rfl (Fresh.of rfl) (nlr rfl)) <| AC.ret ?_
     subst hO
     have e11 : (false : Bool) = ((sgV s).2) := by
      (rw [sgV_no3 (hA.trans (goS_bad (by omega) (by assumption)))]; done)
     exact fin_is _ _ [(0, 14), (1, 15), (2, 16)] (Res.two rfl (Rs.cell rfl rfl tsh_59 rfl) (Rs.tmp rfl)) ((congrArg (fun z_ => PV.tup [(true, [.ref 14, .ref 15, .ref 16]), (false, [dB z_])]) e11)) ⟨(entE (by (rw [sgV_no3 (hA.trans (goS_bad (by omega) (by assumption)))]; rfl))), (entE (by (rw [sgV_no3 (hA.trans (goS_bad (by omega) (by assumption)))]; rfl))), (entE (by (rw [sgV_no3 (hA.trans (goS_bad (by omega) (by assumption)))]; rfl))), trivial⟩ rfl rfl
    ·iterate 8 refine w_ ?_
     refine AC.loopW (fun m_ s_ => ∃ (i : Nat) (codes2 : List ByteArray), i ≤ (valsV (((exploreV s).1.1.length : Int)).toNat (arcsOf s.2.2.1 (exploreV s).1.2) (k : Int)).1.length ∧ m_ = (valsV (((exploreV s).1.1.length : Int)).toNat (arcsOf s.2.2.1 (exploreV s).1.2) (k : Int)).1.length - i ∧ (addF 0 codes (valsV (((exploreV s).1.1.length : Int)).toNat (arcsOf s.2.2.1 (exploreV s).1.2) (k : Int)).1 = addF i codes2 ((valsV (((exploreV s).1.1.length : Int)).toNat (arcsOf s.2.2.1 (exploreV s).1.2) (k : Int)).1.drop i)) ∧ (codes2.length = (exploreV s).1.1.length) ∧ (∀ c ∈ codes2, c.size ≤ 300 * k + i) ∧ s_ = ⟨[(2, lP 1 0), (4, lP 4 0), (6, lP 11 0), (7, lI (k : Int)), (8, lR 13), (9, lB true), (39, lI (s.2.1.length : Int)), (40, lI (k : Int)), (41, lB true), (42, lI (k : Int)), (43, PV.tup [(false, [.ref 13]), (false, [dB true])]), (44, lP 4 0), (45, lR 2), (46, lI ((((exploreV s).1).1).length : Int)), (47, lP 11 2), (48, lR 10), (49, lI (k : Int)), (50, PV.tup [(false, [.ref 13]), (false, [dB true])]), (51, lR 13), (52, lB true), (53, lB true), (54, lB (!true)), (56, lR 13), (57, lI (((valsV ((((exploreV s).1).1).length : Int).toNat (arcsOf s.2.2.1 ((exploreV s).1).2) (k : Int)).1).length : Int)), (58, lI (i : Int))], [(1, some (.box 59 [.val (.slice none 0 0), .val (.slice none 0 0), .val (.slice none 0 0)])), (2, some (.arr 9 .str (((exploreV s).1).1))), (3, some (.arr 226 (.pr .int (.pr .int .int)) (((exploreV s).1).2))), (4, some (.box 98 [.ref 2, .ref 3])), (8, some (.arr 145 (.pr .str .int) s.2.1)), (10, some (.arr 179 (.pr .int (.pr .int (.pr .bool .int))) (arcsOf s.2.2.1 ((exploreV s).1).2))), (11, some (.box 59 [.ref 8, .ref 17, .ref 10])), (13, some (.arr 5 .u8 ((valsV ((((exploreV s).1).1).length : Int).toNat (arcsOf s.2.2.1 ((exploreV s).1).2) (k : Int)).1))), (17, some (.arr 9 .str codes2))]⟩) ⟨0, codes, Nat.zero_le _, rfl, rfl, hL, hZ, rfl⟩ ?_ ?_
     · exact Wk.of [(1, 1), (2, 2), (3, 3), (4, 4), (8, 8), (10, 10), (11, 11), (13, 13), (17, 12)] rfl ⟨rfl, rfl, rfl, rfl, rfl, rfl, rfl, rfl, rfl, rfl, rfl, rfl, rfl, rfl, rfl, rfl, rfl, rfl, rfl, rfl, rfl, rfl, rfl, rfl, rfl, trivial⟩ ⟨rfl, rfl, rfl, rfl, rfl, rfl, rfl, rfl, rfl, trivial⟩ rfl rfl
     rintro m_ s_ ⟨i, codes2, hk12, hm13, hA2, hL2, hZ2, rfl⟩
     have hvl : (valsV (((exploreV s).1.1.length : Int)).toNat (arcsOf s.2.2.1 (exploreV s).1.2) (k : Int)).1.length ≤ (exploreV s).1.1.length := vals_len hir (k : Int)
     iterate 4 refine w_ ?_
     cases hb14 : (decide ((i : Int) < (((valsV ((((exploreV s).1).1).length : Int).toNat (arcsOf s.2.2.1 ((exploreV s).1).2) (k : Int)).1).length : Int)))
     ·have hb14' := of_decide_eq_false hb14
      refine w_ ?_
      refine AC.exit ?_
      refine (?_ : AC _ _ _ _ _)
      iterate 3 refine w_ ?_
      refine AL.nil <| lend ⟨k + 1, codes2, by omega, rfl, (by rw [hA, goS_ok (by omega) (by assumption)]; exact congrArg _ (hA2.trans (addF_end (by omega)))), hL2, (fun c hc => Nat.le_trans (hZ2 c hc) (by have hvl : (valsV (((exploreV s).1.1.length : Int)).toNat (arcsOf s.2.2.1 (exploreV s).1.2) (k : Int)).1.length ≤ (exploreV s).1.1.length := vals_len hir (k : Int); omega)), rfl⟩ (by omega) ?_
      exact Wk.of [(1, 1), (2, 2), (3, 3), (4, 4), (8, 8), (10, 10), (11, 11), (12, 17)] rfl ⟨rfl, rfl, rfl, rfl, rfl, trivial⟩ ⟨rfl, rfl, rfl, rfl, rfl, rfl, rfl, rfl, trivial⟩ rfl rfl
     ·have hb14' := of_decide_eq_true hb14
      iterate 6 refine w_ ?_
      refine lc (Does.indexI (e := .u8) (Evl.tmp rfl) rfl (Evl.tmp rfl) und_209 tsh_5 rfl (by omega) (by first | omega | (simp only [List.length_set]; omega))) ?_
      obtain ⟨x15, hx16⟩ : ∃ z, ((valsV ((((exploreV s).1).1).length : Int).toNat (arcsOf s.2.2.1 ((exploreV s).1).2) (k : Int)).1)[i]? = some z := ⟨_, List.getElem?_eq_getElem (by omega)⟩
      refine lc (Does.loadI (e := .u8) (Evl.tmp rfl) rfl hx16 rfl tsh_5 rfl rfl) ?_
      iterate 3 refine w_ ?_
      obtain ⟨x17, hx18⟩ : ∃ z, codes2[i]? = some z := ⟨_, List.getElem?_eq_getElem (by omega)⟩
      have hczx17 := hZ2 _ (List.mem_of_getElem? hx18)
      refine dv [io 63 (lP 11 1), io 64 (lR 17), io 65 (lI (i : Int)), io 66 (lf (.ept 17 1 i 0)), io 67 (lf (dS x17)), io 68 (lf (.dat .u8 x15)), ⟨some 69, lR 18, [(18, some (.arr 5 .u8 ([x15])))]⟩, io 70 (lf (dS (⟨#[x15]⟩ : ByteArray))), io 71 (lf (dS (x17 ++ (⟨#[x15]⟩ : ByteArray)))), io 72 (lf (.ept 17 1 i 0)), ⟨none, lf (.val undef), [(17, some (.arr 9 .str (codes2.set i (x17 ++ (⟨#[x15]⟩ : ByteArray)))))]⟩] [0, 1, 0, 7, 15, 0, 32, 96, 255, 511, 1023] mixed rfl (by kernel_rfl) ⟨dxf fld_59_1 rfl rfl rfl, dxl tsh_46 rfl rfl rfl rfl rfl, dxm rfl rfl, fun _ h_ => ac (Does.indexI (e := .str) (h_.v rfl) (h_.en 17 rfl) (h_.v rfl) und_46 tsh_9 rfl (by omega) (by first | omega | (simp only [List.length_set]; omega))) rfl, fun _ h_ => ac (Does.loadI (e := .str) (h_.v rfl) (h_.n 17 rfl) hx18 rfl tsh_9 rfl rfl) rfl, dxm rfl rfl, fun _ h_ => ac (Does.buildSlice 18 (e := .u8) und_209 tsh_5 zer_5 rfl ⟨_, _, rfl, (h_.w rfl), rfl⟩ (List.all_eq_true.1 rfl) ⟨_, _, _, _, rfl, ⟨rfl, rfl⟩, ⟨rfl, rfl⟩, rfl⟩ (by decide) rfl rfl (h_.fr 18 rfl) (nlr rfl)) rfl, fun _ h_ => ac (Does.ofBytes (ys := [x15]) (Evl.repO (h_.v rfl) (h_.n 18 rfl)) und_209 und_5 und_9 rfl) rfl, fun _ h_ => ac (Does.addS (h_.v rfl) (h_.v rfl) rfl (by simp only [bsize1]; omega)) rfl, fun _ h_ => ac (Does.indexI (e := .str) (h_.v rfl) (h_.en 17 rfl) (h_.v rfl) und_46 tsh_9 rfl (by omega) (by first | omega | (simp only [List.length_set]; omega))) rfl, fun _ h_ => ac (Does.storeI (e := .str) (z' := x17 ++ (⟨#[x15]⟩ : ByteArray)) (h_.v rfl) (h_.n 17 rfl) hx18 rfl (h_.w rfl) rfl tsh_9 rfl rfl) rfl, ⟨⟩⟩ ?_
      refine (?_ : AC _ _ _ _ _)
      iterate 3 refine w_ ?_
      refine AL.nil <| lend ⟨i + 1, (codes2.set i (x17 ++ (⟨#[x15]⟩ : ByteArray))), by omega, rfl, hA2.trans (addF_step hx16 hx18), (by rw [List.length_set]; exact hL2), (size_set hZ2 hx18 (by rw [ByteArray.size_append]; exact Nat.le_refl _)), rfl⟩ (by omega) ?_
      exact Wk.of [(1, 1), (2, 2), (3, 3), (4, 4), (8, 8), (10, 10), (11, 11), (13, 13), (17, 17)] rfl ⟨rfl, rfl, rfl, rfl, rfl, rfl, rfl, rfl, rfl, rfl, rfl, rfl, rfl, rfl, rfl, rfl, rfl, rfl, rfl, rfl, rfl, rfl, rfl, rfl, rfl, trivial⟩ ⟨rfl, rfl, rfl, rfl, rfl, rfl, rfl, rfl, (entE (by first | rfl | simp)), trivial⟩ rfl rfl
  ·have hb4' := of_decide_eq_true hb4
   iterate 2 refine w_ ?_
   refine lc (Does.build bld_59 rfl (List.all_eq_true.1 rfl) rfl rfl) <| lc (Does.storeP (Evl.tmp rfl) rfl (Ev.tmp rfl) rfl tsh_59 rfl) ?_
   iterate 2 refine w_ ?_
   refine AC.wk (Wk.nilC 19 (p := 1) (off := 0) 145 (.pr .str .int) rfl rfl (Fresh.of rfl) (nlr rfl)) <| AC.wk (Wk.nilC 20 (p := 1) (off := 1) 9 .str rfl rfl (Fresh.of rfl) (nlr rfl)) <| AC.wk (Wk.nilC 21 (p := 1) (off := 2) 179 (.pr .int (.pr .int (.pr .bool .int))) rfl rfl (Fresh.of rfl) (nlr rfl)) <| AC.ret ?_
   subst hO
   have e19 : (false : Bool) = ((sgV s).2) := by
    (rw [sgV_no2 (by assumption)]; done)
   exact fin_is _ _ [(0, 19), (1, 20), (2, 21)] (Res.two rfl (Rs.cell rfl rfl tsh_59 rfl) (Rs.tmp rfl)) ((congrArg (fun z_ => PV.tup [(true, [.ref 19, .ref 20, .ref 21]), (false, [dB z_])]) e19)) ⟨(entE (by (rw [sgV_no2 (by assumption)]; rfl))), (entE (by (rw [sgV_no2 (by assumption)]; rfl))), (entE (by (rw [sgV_no2 (by assumption)]; rfl))), trivial⟩ rfl rfl

theorem fc_spec_BuildStateGraph (s : (Int × (List (List Int × List Int))) × (List (ByteArray × Int)) × (List (Int × Bool)) × ByteArray) [∀ s, Decidable (StgOk s)]  : FC Tryz.prog 163 [(true, [dI s.1.1, .dat (.sl 159 (.pr (.sl 3 .int) (.sl 3 .int))) s.1.2, .dat (.sl 145 (.pr .str .int)) s.2.1, .dat (.sl 61 (.pr .int .bool)) s.2.2.1, dS s.2.2.2])] [] 0 (Is (PV.tup [(true, [.ref 0, .ref 1, .ref 2]), (false, [dB ((sgV s).2)])]) [(0, some (.arr 145 (.pr .str .int) (((sgV s).1).1))), (1, some (.arr 9 .str (((sgV s).1).2.1))), (2, some (.arr 179 (.pr .int (.pr .int (.pr .bool .int))) (((sgV s).1).2.2)))]) := by
 refine FC.go Tryz.func163 rfl rfl Tryz.ntmps163 fun O_ hO w0_ N0_ X_ h0_ f0_ => ?_
 refine AC.fact (fact_ag (x := .tmp 0) (i := 0) (Ev.tmp rfl) rfl) fun hi1 => ?_
 refine w_ ?_
 refine lc (Does.box 0 (Ev.tmp rfl) rfl rfl (Fresh.of rfl) (nlr rfl)) <| lc (Does.alloc 1 (.pr (.sl 145 (.pr .str .int)) (.pr (.sl 9 .str) (.sl 179 (.pr .int (.pr .int (.pr .bool .int)))))) zer_59 rfl rfl (Fresh.of rfl) (nlr rfl)) ?_
 iterate 4 refine w_ ?_
 refine lc (Does.callG 2 (fc_spec_Explore s) enters_52 ⟨_, _, rfl, (Ev.tmp rfl), rfl⟩ rfl rfl ⟨Fresh.of rfl, Fresh.of rfl, trivial⟩ (nlr rfl)) ?_
 iterate 3 refine w_ ?_
 refine lc (Does.alloc 4 (.pr (.sl 9 .str) (.sl 226 (.pr .int (.pr .int .int)))) zer_98 rfl rfl (Fresh.of rfl) (nlr rfl)) <| lc (Does.storeP (Evl.tmp rfl) rfl (Ev.tmp rfl) rfl tsh_98 rfl) ?_
 iterate 7 refine w_ ?_
 cases hb2 : ((exploreV s).2)
 ·iterate 15 refine w_ ?_
  refine lc (Does.build bld_59 rfl (List.all_eq_true.1 rfl) rfl rfl) <| lc (Does.storeP (Evl.tmp rfl) rfl (Ev.tmp rfl) rfl tsh_59 rfl) ?_
  iterate 2 refine w_ ?_
  refine AC.wk (Wk.nilC 5 (p := 1) (off := 0) 145 (.pr .str .int) rfl rfl (Fresh.of rfl) (nlr rfl)) <| AC.wk (Wk.nilC 6 (p := 1) (off := 1) 9 .str rfl rfl (Fresh.of rfl) (nlr rfl)) <| AC.wk (Wk.nilC 7 (p := 1) (off := 2) 179 (.pr .int (.pr .int (.pr .bool .int))) rfl rfl (Fresh.of rfl) (nlr rfl)) <| AC.ret ?_
  subst hO
  have e3 : (false : Bool) = ((sgV s).2) := by
   (rw [sgV_no1 (by assumption)]; done)
  exact fin_is _ _ [(0, 5), (1, 6), (2, 7)] (Res.two rfl (Rs.cell rfl rfl tsh_59 rfl) (Rs.tmp rfl)) ((congrArg (fun z_ => PV.tup [(true, [.ref 5, .ref 6, .ref 7]), (false, [dB z_])]) e3)) ⟨(entE (by (rw [sgV_no1 (by assumption)]; rfl))), (entE (by (rw [sgV_no1 (by assumption)]; rfl))), (entE (by (rw [sgV_no1 (by assumption)]; rfl))), trivial⟩ rfl rfl
 ·iterate 2 refine w_ ?_
  refine lgy rfl rfl (Does.callOB 8 (fc_spec_l5Clash s ((exploreV s).1) (exploreV_ok (s := s) (by assumption)).2.2.2.2.1 (by have := (exploreV_ok (s := s) (by assumption)).2.2.1; omega) (by have := sigs_len (exploreV_ok (s := s) (by assumption)).1.sigs; omega)) enters_226 ⟨_, _, rfl, (Ev.b (Ev.tmp rfl)), ⟨_, _, rfl, (Ev.ob (Ev.tmp rfl) ⟨_, _, rfl, .inr ⟨_, _, _, _, rfl, rfl, rfl⟩, ⟨_, _, rfl, .inr ⟨_, _, _, _, rfl, rfl, rfl⟩, rfl⟩⟩), rfl⟩⟩ rfl (Fresh.of rfl) (nlr rfl)) ?_
  iterate 4 refine w_ ?_
  cases hb4 : (decide (0 < ((clash ((exploreV s).1).1.length (arcsOf s.2.2.1 ((exploreV s).1).2) s.2.1.length).length : Int)))
  ·have hb4' := of_decide_eq_false hb4
   iterate 6 refine w_ ?_
   cases hb5 : (decide (4000 < ((((exploreV s).1).2).length : Int)))
   ·have hb5' := of_decide_eq_false hb5
    iterate 2 refine w_ ?_
    obtain ⟨hsg, hN1, hN2, hNd, hMv, hMl⟩ := exploreV_ok (s := s) (by assumption)
    have hir := arcs_inr (ls := s.2.2.1) hMv
    have hsl := sigs_len hsg.sigs
    refine dw [⟨some 36, lR 9, [(9, some (.arr 145 (.pr .str .int) ([])))]⟩, io 37 (lP 0 2), io 38 (lf (.dat (.sl 145 (.pr .str .int)) s.2.1)), ⟨some 39, lR 10, [(10, some (.arr 145 (.pr .str .int) (([]) ++ s.2.1))), (9, none)]⟩, io 40 (lP 4 0), io 41 (lR 2), io 42 (lI ((((exploreV s).1).1).length : Int)), ⟨some 43, lR 11, [(11, some (.arr 9 .str (List.replicate ((((exploreV s).1).1).length) (Ty.zero .str))))]⟩, io 44 (ag [.ref 10, .ref 11, .val (.slice none 0 0)]), ⟨some 6, lP 12 0, [(12, some (.box 59 [.val (.slice none 0 0), .val (.slice none 0 0), .val (.slice none 0 0)]))]⟩, ⟨none, lf (.val undef), [(12, some (.box 59 [.ref 10, .ref 11, .val (.slice none 0 0)]))]⟩] [0, 0, 2, 7, 0, 16, 48, 112, 255, 0, 1023] mixed rfl (by kernel_rfl) ⟨fun _ h_ => ac (Does.buildSlice 9 (e := (.pr .str .int)) und_36 tsh_145 zer_145 rfl rfl (List.all_eq_true.1 rfl) ⟨rfl, rfl⟩ (by decide) rfl rfl (h_.fr 9 rfl) (nlr rfl)) rfl, dxf fld_39_1 rfl rfl rfl, dxl tsh_36 rfl rfl rfl rfl rfl, fun _ h_ => ac (Does.appendF 10 (h_.v rfl) (h_.en 9 rfl) (Evl.rep (h_.v rfl)) rfl und_36 elb_145 (by first | omega | (simp only [List.length_append, List.length_map, List.length_take, List.length_cons, List.length_nil]; omega) | (simp only [List.length_append, List.length_drop, List.length_take, List.length_cons, List.length_nil]; omega)) rfl (h_.fr 10 rfl) (nlr rfl)) rfl, dxf fld_98_0 rfl rfl rfl, dxl tsh_46 rfl rfl rfl rfl rfl, fun _ h_ => ac (Does.lenO (h_.v rfl) (h_.n 2 rfl) rfl und_46) rfl, fun _ h_ => ac (Does.make 11 (e := .str) (n := (((exploreV s).1).1).length) (h_.v rfl) (h_.v rfl) und_46 mki_9 rfl (by omega) (by omega) rfl (h_.fr 11 rfl) (nlr rfl)) rfl, fun _ h_ => ac (Does.build bld_59 ⟨_, _, rfl, (h_.w rfl), ⟨_, _, rfl, (h_.w rfl), rfl⟩⟩ (List.all_eq_true.1 (by simp only [okLVs, okLV, List.all_cons, List.all_nil]; rw [(h_.en 10 rfl), (h_.en 11 rfl)]; rfl)) rfl rfl) rfl, fun _ h_ => ac (Does.alloc 12 (.pr (.sl 145 (.pr .str .int)) (.pr (.sl 9 .str) (.sl 179 (.pr .int (.pr .int (.pr .bool .int)))))) zer_59 rfl rfl (h_.fr 12 rfl) (nlr rfl)) rfl, fun _ h_ => ac (Does.storeP (h_.v rfl) (h_.en 12 rfl) (h_.w rfl) (by simp only [okLVs, okLV, List.all_cons, List.all_nil]; rw [(h_.en 10 rfl), (h_.en 11 rfl)]; rfl) tsh_59 rfl) rfl, ⟨⟩⟩ ?_
    iterate 4 refine w_ ?_
    refine AL.fact (fact_len (x := .tmp 46) (Evl.tmp rfl)) fun hl6 => ?_
    iterate 4 refine w_ ?_
    refine AC.loopW (fun m_ s_ => ∃ (k : Nat) (codes : List ByteArray), k ≤ s.2.1.length ∧ m_ = s.2.1.length - k ∧ (goS (exploreV s).1.1.length (arcsOf s.2.2.1 (exploreV s).1.2) s.2.1.length 0 (List.replicate (exploreV s).1.1.length ByteArray.empty) = goS (exploreV s).1.1.length (arcsOf s.2.2.1 (exploreV s).1.2) (s.2.1.length - k) k codes) ∧ (codes.length = (exploreV s).1.1.length) ∧ (∀ c ∈ codes, c.size ≤ 300 * k) ∧ s_ = ⟨[(1, lP 0 0), (2, lP 1 0), (3, lB false), (4, lP 4 0), (6, lP 12 0), (47, lI (s.2.1.length : Int)), (48, lI (k : Int))], [(0, some (.box 39 [dI s.1.1, .dat (.sl 159 (.pr (.sl 3 .int) (.sl 3 .int))) s.1.2, .dat (.sl 145 (.pr .str .int)) s.2.1, .dat (.sl 61 (.pr .int .bool)) s.2.2.1, dS s.2.2.2])), (1, some (.box 59 [.val (.slice none 0 0), .val (.slice none 0 0), .val (.slice none 0 0)])), (2, some (.arr 9 .str (((exploreV s).1).1))), (3, some (.arr 226 (.pr .int (.pr .int .int)) (((exploreV s).1).2))), (4, some (.box 98 [.ref 2, .ref 3])), (10, some (.arr 145 (.pr .str .int) (([]) ++ s.2.1))), (12, some (.box 59 [.ref 10, .ref 13, .val (.slice none 0 0)])), (13, some (.arr 9 .str codes))]⟩) ⟨0, List.replicate ((((exploreV s).1).1).length) (Ty.zero .str), Nat.zero_le _, rfl, rfl, (by simp), (fun c hc => by rw [List.eq_of_mem_replicate hc]; exact Nat.zero_le _), rfl⟩ ?_ ?_
    · exact Wk.of [(0, 0), (1, 1), (2, 2), (3, 3), (4, 4), (10, 10), (12, 12), (13, 11)] rfl ⟨rfl, rfl, rfl, rfl, rfl, rfl, rfl, trivial⟩ ⟨rfl, rfl, rfl, rfl, rfl, rfl, rfl, (entE (by first | rfl | simp)), trivial⟩ rfl rfl
    rintro m_ s_ ⟨k, codes, hk7, hm8, hA, hL, hZ, rfl⟩
    iterate 4 refine w_ ?_
    cases hb9 : (decide ((k : Int) < (s.2.1.length : Int)))
    ·have hb9' := of_decide_eq_false hb9
     refine w_ ?_
     refine AC.exit ?_
     refine (?_ : AC _ _ _ _ _)
     iterate 8 refine w_ ?_
     refine AC.wk (Wk.nilC 14 (p := 12) (off := 2) 179 (.pr .int (.pr .int (.pr .bool .int))) rfl rfl (Fresh.of rfl) (nlr rfl)) ?_
     refine AC.loopW (fun m_ s_ => ∃ (j : Nat), j ≤ (((exploreV s).1).2).length ∧ m_ = (((exploreV s).1).2).length - j ∧ s_ = ⟨[(1, lP 0 0), (2, lP 1 0), (3, lB false), (6, lP 12 0), (82, lR 3), (83, lI ((((exploreV s).1).2).length : Int)), (84, lI (j : Int))], [(0, some (.box 39 [dI s.1.1, .dat (.sl 159 (.pr (.sl 3 .int) (.sl 3 .int))) s.1.2, .dat (.sl 145 (.pr .str .int)) s.2.1, .dat (.sl 61 (.pr .int .bool)) s.2.2.1, dS s.2.2.2])), (1, some (.box 59 [.val (.slice none 0 0), .val (.slice none 0 0), .val (.slice none 0 0)])), (3, some (.arr 226 (.pr .int (.pr .int .int)) (((exploreV s).1).2))), (10, some (.arr 145 (.pr .str .int) (([]) ++ s.2.1))), (12, some (.box 59 [.ref 10, .ref 13, .ref 15])), (13, some (.arr 9 .str codes)), (15, some (.arr 179 (.pr .int (.pr .int (.pr .bool .int))) ((((exploreV s).1).2.take j).map (arcOf s.2.2.1))))]⟩) ⟨0, Nat.zero_le _, rfl, rfl⟩ ?_ ?_
     · exact Wk.of [(0, 0), (1, 1), (3, 3), (10, 10), (12, 12), (13, 13), (15, 14)] rfl ⟨rfl, rfl, rfl, rfl, rfl, rfl, rfl, trivial⟩ ⟨rfl, rfl, rfl, rfl, rfl, rfl, (entE (by first | rfl | simp)), trivial⟩ rfl rfl
     rintro m_ s_ ⟨j, hk10, hm11, rfl⟩
     iterate 4 refine w_ ?_
     cases hb12 : (decide ((j : Int) < ((((exploreV s).1).2).length : Int)))
     ·have hb12' := of_decide_eq_false hb12
      refine w_ ?_
      refine AC.exit ?_
      refine (?_ : AC _ _ _ _ _)
      iterate 2 refine w_ ?_
      refine lc (Does.storeP (Evl.tmp rfl) rfl (Ev.tmp rfl) rfl tsh_59 rfl) ?_
      iterate 2 refine w_ ?_
      refine AC.ret ?_
      subst hO
      have e13 : (true : Bool) = ((sgV s).2) := by
       (rw [sgV_yes (by assumption) (by assumption) (hA.trans (goS_end (by omega)))]; done)
      exact fin_is _ _ [(0, 10), (1, 13), (2, 15)] (Res.two rfl (Rs.cell rfl rfl tsh_59 rfl) (Rs.tmp rfl)) ((congrArg (fun z_ => PV.tup [(true, [.ref 10, .ref 13, .ref 15]), (false, [dB z_])]) e13)) ⟨(entE (by (rw [sgV_yes (by assumption) (by assumption) (hA.trans (goS_end (by omega)))]; rfl))), (entE (by (rw [sgV_yes (by assumption) (by assumption) (hA.trans (goS_end (by omega)))]; done))), (entE (by (rw [sgV_yes (by assumption) (by assumption) (hA.trans (goS_end (by omega))), take_end (by omega)]; rfl))), trivial⟩ rfl rfl
     ·have hb12' := of_decide_eq_true hb12
      iterate 5 refine w_ ?_
      refine lc (Does.indexI (e := (.pr .int (.pr .int .int))) (Evl.tmp rfl) rfl (Evl.tmp rfl) und_96 tsh_226 rfl (by omega) (by first | omega | (simp only [List.length_set]; omega))) ?_
      obtain ⟨mv, hx15⟩ : ∃ z, (((exploreV s).1).2)[j]? = some z := ⟨_, List.getElem?_eq_getElem (by omega)⟩
      have hrm := (hMv _ (List.mem_of_getElem? hx15)).2.1
      refine lc (Does.loadIA (e := (.pr .int (.pr .int .int))) (Evl.tmp rfl) rfl hx15 rfl tsh_226 rfl rfl) <| lc (Does.alloc 16 (.pr .int (.pr .int .int)) zer_226 rfl rfl (Fresh.of rfl) (nlr rfl)) <| lc (Does.storeP (Evl.tmp rfl) rfl (Ev.tmp rfl) rfl tsh_226 rfl) ?_
      iterate 6 refine w_ ?_
      refine AL.fact (fact_int (x := .tmp 91) (Evl.tmp rfl)) fun hi16 => ?_
      obtain ⟨x17, hx18⟩ : ∃ z, s.2.2.1[(mv.2.1).toNat]? = some z := ⟨_, List.getElem?_eq_getElem (by omega)⟩
      have hla := lab_get hx18
      refine lc (Does.indexE (Evl.tmp rfl) (Evl.tmp rfl) und_37 tsh_61 rfl (by omega) hx18) ?_
      refine w_ ?_
      refine lc (Does.alloc 17 (.pr .int .bool) zer_61 rfl rfl (Fresh.of rfl) (nlr rfl)) <| lc (Does.storeP (Evl.tmp rfl) rfl (Ev.tmp rfl) rfl tsh_61 rfl) ?_
      iterate 6 refine w_ ?_
      refine AL.fact (fact_int (x := .tmp 97) (Evl.tmp rfl)) fun hi19 => ?_
      iterate 2 refine w_ ?_
      refine AL.fact (fact_int (x := .tmp 99) (Evl.tmp rfl)) fun hi20 => ?_
      iterate 4 refine w_ ?_
      refine AL.fact (fact_int (x := .tmp 103) (Evl.tmp rfl)) fun hi21 => lc (Does.build bld_179 ⟨_, _, rfl, (Ev.tmp rfl), ⟨_, _, rfl, (Ev.tmp rfl), ⟨_, _, rfl, (Ev.tmp rfl), ⟨_, _, rfl, (Ev.tmp rfl), rfl⟩⟩⟩⟩ (List.all_eq_true.1 rfl) rfl rfl) <| lc (Does.buildSlice 18 (e := (.pr .int (.pr .int (.pr .bool .int)))) und_57 tsh_179 zer_179 rfl ⟨_, _, rfl, (Ev.tmp rfl), rfl⟩ (List.all_eq_true.1 rfl) ⟨_, _, _, _, rfl, ⟨[dI mv.1], [dI x17.1, dB x17.2, dI mv.2.2], _, _, _, _, rfl, rfl, ⟨rfl, rfl⟩, ⟨[dI x17.1], [dB x17.2, dI mv.2.2], _, _, _, _, rfl, rfl, ⟨rfl, rfl⟩, ⟨[dB x17.2], [dI mv.2.2], _, _, _, _, rfl, rfl, ⟨rfl, rfl⟩, ⟨rfl, rfl⟩, rfl⟩, rfl⟩, rfl⟩, ⟨rfl, rfl⟩, rfl⟩ (by decide) rfl rfl (Fresh.of rfl) (nlr rfl)) <| lc (Does.append 19 (Evl.tmp rfl) rfl (Evl.tmp rfl) rfl rfl und_57 elb_179 (by first | omega | (simp only [List.length_append, List.length_map, List.length_take, List.length_cons, List.length_nil]; omega) | (simp only [List.length_append, List.length_drop, List.length_take, List.length_cons, List.length_nil]; omega)) rfl (Fresh.of rfl) (nlr rfl)) ?_
      refine w_ ?_
      refine lc (Does.storeP (Evl.tmp rfl) rfl (Ev.tmp rfl) rfl tsh_57 rfl) <| AL.nil ?_
      refine (?_ : AC _ _ _ _ _)
      iterate 3 refine w_ ?_
      refine AL.nil <| lend ⟨j + 1, by omega, rfl, rfl⟩ (by omega) ?_
      exact Wk.of [(0, 0), (1, 1), (3, 3), (10, 10), (12, 12), (13, 13), (15, 19)] rfl ⟨rfl, rfl, rfl, rfl, rfl, rfl, rfl, trivial⟩ ⟨rfl, rfl, rfl, rfl, rfl, rfl, (entE (by rw [take_snoc hx15]; simp [arcOf, hla])), trivial⟩ rfl rfl
    ·have hb9' := of_decide_eq_true hb9
     iterate 12 refine w_ ?_
     refine lc (Does.callB (fc_spec_l5Values s ((exploreV s).1) (k : Int) hMv (by omega)) enters_227 ⟨_, _, rfl, (Ev.b (Ev.tmp rfl)), ⟨_, _, rfl, (Ev.ob (Ev.tmp rfl) ⟨_, _, rfl, .inr ⟨_, _, _, _, rfl, rfl, rfl⟩, ⟨_, _, rfl, .inr ⟨_, _, _, _, rfl, rfl, rfl⟩, rfl⟩⟩), ⟨_, _, rfl, (Ev.b (Ev.tmp rfl)), rfl⟩⟩⟩ rfl rfl rfl) ?_
     iterate 6 refine w_ ?_
     refine AC.seq ?_
     obtain ⟨us, hu1, hu2, hu3, hu4⟩ := l5V_us (sig := (k : Int)) hir (clash_none (m := s.2.1.length) (by assumption) (by omega))
     iterate 7 refine w_ ?_
     refine AC.loopW (fun m_ s_ => ∃ (i : Nat) (codes2 : List ByteArray), i ≤ codes.length ∧ m_ = codes.length - i ∧ (addF 0 codes (us.map q0) = addF i codes2 ((us.map q0).drop i)) ∧ (codes2.length = (exploreV s).1.1.length) ∧ (∀ c ∈ codes2, c.size ≤ 300 * k + i) ∧ s_ = ⟨[(1, lP 0 0), (2, lP 1 0), (3, lB false), (4, lP 4 0), (6, lP 12 0), (7, lI (k : Int)), (8, lf (dS ((l5V ((exploreV s).1).1.length (arcsOf s.2.2.1 ((exploreV s).1).2) (k : Int)).1))), (47, lI (s.2.1.length : Int)), (48, lI (k : Int)), (49, lB true), (50, lI (k : Int)), (51, PV.tup [(false, [dS ((l5V ((exploreV s).1).1.length (arcsOf s.2.2.1 ((exploreV s).1).2) (k : Int)).1)]), (false, [dB ((l5V ((exploreV s).1).1.length (arcsOf s.2.2.1 ((exploreV s).1).2) (k : Int)).2)])]), (52, ag [dI s.1.1, .dat (.sl 159 (.pr (.sl 3 .int) (.sl 3 .int))) s.1.2, .dat (.sl 145 (.pr .str .int)) s.2.1, .dat (.sl 61 (.pr .int .bool)) s.2.2.1, dS s.2.2.2]), (53, ag [.ref 2, .ref 3]), (54, lI (k : Int)), (55, PV.tup [(false, [dS ((l5V ((exploreV s).1).1.length (arcsOf s.2.2.1 ((exploreV s).1).2) (k : Int)).1)]), (false, [dB ((l5V ((exploreV s).1).1.length (arcsOf s.2.2.1 ((exploreV s).1).2) (k : Int)).2)])]), (56, lf (dS ((l5V ((exploreV s).1).1.length (arcsOf s.2.2.1 ((exploreV s).1).2) (k : Int)).1))), (57, lB ((l5V ((exploreV s).1).1.length (arcsOf s.2.2.1 ((exploreV s).1).2) (k : Int)).2)), (58, lP 12 1), (60, lI (codes.length : Int)), (61, lI (i : Int))], [(0, some (.box 39 [dI s.1.1, .dat (.sl 159 (.pr (.sl 3 .int) (.sl 3 .int))) s.1.2, .dat (.sl 145 (.pr .str .int)) s.2.1, .dat (.sl 61 (.pr .int .bool)) s.2.2.1, dS s.2.2.2])), (1, some (.box 59 [.val (.slice none 0 0), .val (.slice none 0 0), .val (.slice none 0 0)])), (2, some (.arr 9 .str (((exploreV s).1).1))), (3, some (.arr 226 (.pr .int (.pr .int .int)) (((exploreV s).1).2))), (4, some (.box 98 [.ref 2, .ref 3])), (10, some (.arr 145 (.pr .str .int) (([]) ++ s.2.1))), (12, some (.box 59 [.ref 10, .ref 20, .val (.slice none 0 0)])), (20, some (.arr 9 .str codes2))]⟩) ⟨0, codes, Nat.zero_le _, rfl, rfl, hL, hZ, rfl⟩ ?_ ?_
     · exact Wk.of [(0, 0), (1, 1), (2, 2), (3, 3), (4, 4), (10, 10), (12, 12), (20, 13)] rfl ⟨rfl, rfl, rfl, rfl, rfl, rfl, rfl, rfl, rfl, rfl, rfl, rfl, rfl, rfl, rfl, rfl, rfl, rfl, rfl, rfl, rfl, trivial⟩ ⟨rfl, rfl, rfl, rfl, rfl, rfl, rfl, rfl, trivial⟩ rfl rfl
     rintro m_ s_ ⟨i, codes2, hk22, hm23, hA2, hL2, hZ2, rfl⟩
     iterate 4 refine w_ ?_
     cases hb24 : (decide ((i : Int) < (codes.length : Int)))
     ·have hb24' := of_decide_eq_false hb24
      refine w_ ?_
      refine AC.exit ?_
      refine (?_ : AC _ _ _ _ _)
      iterate 3 refine w_ ?_
      refine AL.nil <| lend ⟨k + 1, codes2, by omega, rfl, (by rw [hA, goS_ok (by omega) (by rw [hu4])]; exact congrArg _ (by rw [hu4]; exact hA2.trans (addQ_end (by omega)))), hL2, (fun c hc => Nat.le_trans (hZ2 c hc) (by omega)), rfl⟩ (by omega) ?_
      exact Wk.of [(0, 0), (1, 1), (2, 2), (3, 3), (4, 4), (10, 10), (12, 12), (13, 20)] rfl ⟨rfl, rfl, rfl, rfl, rfl, rfl, rfl, trivial⟩ ⟨rfl, rfl, rfl, rfl, rfl, rfl, rfl, rfl, trivial⟩ rfl rfl
     ·have hb24' := of_decide_eq_true hb24
      iterate 13 refine w_ ?_
      refine lc (show Does _ _ _ _ (St.put _ 68 (lf (dS (((l5V ((exploreV s).1).1.length (arcsOf s.2.2.1 ((exploreV s).1).2) (k : Int)).1).extract ((i : Int)).toNat ((i : Int) + 1).toNat)))) from Does.sliceS (l := (some (i : Int))) (h := (some ((i : Int) + 1))) (Evl.tmp rfl) (by exact (Evl.tmp rfl)) (by exact (Evl.tmp rfl)) und_9 rfl (by first | omega | (simp only [Option.getD_none, Option.getD_some]; omega)) (by first | omega | (simp only [Option.getD_none, Option.getD_some]; omega)) (by first | omega | (simp only [Option.getD_none, Option.getD_some]; omega))) ?_
      iterate 7 refine w_ ?_
      cases hb25 : (decide ((((l5V ((exploreV s).1).1.length (arcsOf s.2.2.1 ((exploreV s).1).2) (k : Int)).1).extract ((i : Int)).toNat ((i : Int) + 1).toNat) = (⟨#[63]⟩ : ByteArray)))
      ·have hb25' := of_decide_eq_false hb25
       iterate 6 refine w_ ?_
       refine lc (Does.indexI (e := .str) (Evl.tmp rfl) rfl (Evl.tmp rfl) und_46 tsh_9 rfl (by omega) (by first | omega | (simp only [List.length_set]; omega))) ?_
       obtain ⟨x26, hx27⟩ : ∃ z, codes2[i]? = some z := ⟨_, List.getElem?_eq_getElem (by omega)⟩
       have hczx26 := hZ2 _ (List.mem_of_getElem? hx27)
       refine lc (Does.loadI (e := .str) (Evl.tmp rfl) rfl hx27 rfl tsh_9 rfl rfl) ?_
       refine w_ ?_
       refine lc (Does.addS (Evl.tmp rfl) (Evl.tmp rfl) rfl (by first | (simp only [bsize1]; omega) | (refine Nat.le_trans (Nat.add_le_add_left (ext_le1 _ i) _) ?_; omega))) ?_
       refine lc (Does.indexI (e := .str) (Evl.tmp rfl) rfl (Evl.tmp rfl) und_46 tsh_9 rfl (by omega) (by first | omega | (simp only [List.length_set]; omega))) <| lc (Does.storeI (e := .str) (z' := x26 ++ (((l5V ((exploreV s).1).1.length (arcsOf s.2.2.1 ((exploreV s).1).2) (k : Int)).1).extract ((i : Int)).toNat ((i : Int) + 1).toNat)) (Evl.tmp rfl) rfl hx27 rfl (Ev.tmp rfl) rfl tsh_9 rfl rfl) <| AL.nil ?_
       refine (?_ : AC _ _ _ _ _)
       iterate 3 refine w_ ?_
       refine AL.nil <| lend ⟨i + 1, (codes2.set i (x26 ++ (((l5V ((exploreV s).1).1.length (arcsOf s.2.2.1 ((exploreV s).1).2) (k : Int)).1).extract ((i : Int)).toNat ((i : Int) + 1).toNat))), by omega, rfl, by first | exact hA2.trans (addQ_q hu1 (by omega) (by assumption) hx27) | exact hA2.trans (addQ_n hu1 (by omega) (by assumption) hx27), (by rw [List.length_set]; exact hL2), (size_set hZ2 hx27 (by rw [ByteArray.size_append]; first | exact Nat.le_refl _ | exact Nat.add_le_add_left (ext_le1 _ _) _)), rfl⟩ (by omega) ?_
       exact Wk.of [(0, 0), (1, 1), (2, 2), (3, 3), (4, 4), (10, 10), (12, 12), (20, 20)] rfl ⟨rfl, rfl, rfl, rfl, rfl, rfl, rfl, rfl, rfl, rfl, rfl, rfl, rfl, rfl, rfl, rfl, rfl, rfl, rfl, rfl, rfl, trivial⟩ ⟨rfl, rfl, rfl, rfl, rfl, rfl, rfl, (entE (by first | rfl | simp)), trivial⟩ rfl rfl
      ·have hb25' := of_decide_eq_true hb25
       iterate 8 refine w_ ?_
       refine lc (Does.indexI (e := .str) (Evl.tmp rfl) rfl (Evl.tmp rfl) und_46 tsh_9 rfl (by omega) (by first | omega | (simp only [List.length_set]; omega))) ?_
       obtain ⟨x28, hx29⟩ : ∃ z, codes2[i]? = some z := ⟨_, List.getElem?_eq_getElem (by omega)⟩
       have hczx28 := hZ2 _ (List.mem_of_getElem? hx29)
       refine lc (Does.loadI (e := .str) (Evl.tmp rfl) rfl hx29 rfl tsh_9 rfl rfl) ?_
       refine w_ ?_
       refine lc (Does.addS (Evl.tmp rfl) (Evl.tmp rfl) rfl (by first | (simp only [bsize1]; omega) | (refine Nat.le_trans (Nat.add_le_add_left (ext_le1 _ i) _) ?_; omega))) ?_
       refine lc (Does.indexI (e := .str) (Evl.tmp rfl) rfl (Evl.tmp rfl) und_46 tsh_9 rfl (by omega) (by first | omega | (simp only [List.length_set]; omega))) <| lc (Does.storeI (e := .str) (z' := x28 ++ (⟨#[48]⟩ : ByteArray)) (Evl.tmp rfl) rfl hx29 rfl (Ev.tmp rfl) rfl tsh_9 rfl rfl) <| AL.nil ?_
       refine (?_ : AC _ _ _ _ _)
       iterate 3 refine w_ ?_
       refine AL.nil <| lend ⟨i + 1, (codes2.set i (x28 ++ (⟨#[48]⟩ : ByteArray))), by omega, rfl, by first | exact hA2.trans (addQ_q hu1 (by omega) (by assumption) hx29) | exact hA2.trans (addQ_n hu1 (by omega) (by assumption) hx29), (by rw [List.length_set]; exact hL2), (size_set hZ2 hx29 (by rw [ByteArray.size_append]; first | exact Nat.le_refl _ | exact Nat.add_le_add_left (ext_le1 _ _) _)), rfl⟩ (by omega) ?_
       exact Wk.of [(0, 0), (1, 1), (2, 2), (3, 3), (4, 4), (10, 10), (12, 12), (20, 20)] rfl ⟨rfl, rfl, rfl, rfl, rfl, rfl, rfl, rfl, rfl, rfl, rfl, rfl, rfl, rfl, rfl, rfl, rfl, rfl, rfl, rfl, rfl, trivial⟩ ⟨rfl, rfl, rfl, rfl, rfl, rfl, rfl, (entE (by first | rfl | simp)), trivial⟩ rfl rfl
   ·have hb5' := of_decide_eq_true hb5
    iterate 2 refine w_ ?_
    refine lc (Does.build bld_59 rfl (List.all_eq_true.1 rfl) rfl rfl) <| lc (Does.storeP (Evl.tmp rfl) rfl (Ev.tmp rfl) rfl tsh_59 rfl) ?_
    iterate 2 refine w_ ?_
    refine AC.wk (Wk.nilC 21 (p := 1) (off := 0) 145 (.pr .str .int) rfl rfl (Fresh.of rfl) (nlr rfl)) <| AC.wk (Wk.nilC 22 (p := 1) (off := 1) 9 .str rfl rfl (Fresh.of rfl) (nlr rfl)) <| AC.wk (Wk.nilC 23 (p := 1) (off := 2) 179 (.pr .int (.pr .int (.pr .bool .int))) rfl rfl (Fresh.of rfl) (nlr rfl)) <| AC.ret ?_
    subst hO
    have e30 : (false : Bool) = ((sgV s).2) := by
     (rw [sgV_no2 (by assumption)]; done)
    exact fin_is _ _ [(0, 21), (1, 22), (2, 23)] (Res.two rfl (Rs.cell rfl rfl tsh_59 rfl) (Rs.tmp rfl)) ((congrArg (fun z_ => PV.tup [(true, [.ref 21, .ref 22, .ref 23]), (false, [dB z_])]) e30)) ⟨(entE (by (rw [sgV_no2 (by assumption)]; rfl))), (entE (by (rw [sgV_no2 (by assumption)]; rfl))), (entE (by (rw [sgV_no2 (by assumption)]; rfl))), trivial⟩ rfl rfl
  ·have hb4' := of_decide_eq_true hb4
   iterate 8 refine w_ ?_
   refine lc (Does.build bld_59 rfl (List.all_eq_true.1 rfl) rfl rfl) <| lc (Does.storeP (Evl.tmp rfl) rfl (Ev.tmp rfl) rfl tsh_59 rfl) ?_
   iterate 2 refine w_ ?_
   refine AC.wk (Wk.nilC 24 (p := 1) (off := 0) 145 (.pr .str .int) rfl rfl (Fresh.of rfl) (nlr rfl)) <| AC.wk (Wk.nilC 25 (p := 1) (off := 1) 9 .str rfl rfl (Fresh.of rfl) (nlr rfl)) <| AC.wk (Wk.nilC 26 (p := 1) (off := 2) 179 (.pr .int (.pr .int (.pr .bool .int))) rfl rfl (Fresh.of rfl) (nlr rfl)) <| AC.ret ?_
   subst hO
   have e31 : (false : Bool) = ((sgV s).2) := by
    (rw [sgV_no3 (clash_some (arcs_inr (exploreV_ok (by assumption)).2.2.2.2.1) (by assumption))]; done)
   exact fin_is _ _ [(0, 24), (1, 25), (2, 26)] (Res.two rfl (Rs.cell rfl rfl tsh_59 rfl) (Rs.tmp rfl)) ((congrArg (fun z_ => PV.tup [(true, [.ref 24, .ref 25, .ref 26]), (false, [dB z_])]) e31)) ⟨(entE (by (rw [sgV_no3 (clash_some (arcs_inr (exploreV_ok (by assumption)).2.2.2.2.1) (by assumption))]; rfl))), (entE (by (rw [sgV_no3 (clash_some (arcs_inr (exploreV_ok (by assumption)).2.2.2.2.1) (by assumption))]; rfl))), (entE (by (rw [sgV_no3 (clash_some (arcs_inr (exploreV_ok (by assumption)).2.2.2.2.1) (by assumption))]; rfl))), trivial⟩ rfl rfl

end Go.Proofs.YtnakmhfjafecpaaGreat
