/- Walks over abstract states: labelled arcs, the values of a signal. -/
import Derived.Test.YtjaadeknhofhpaaGreatWk
set_option linter.unusedSimpArgs false
set_option linter.unusedVariables false
set_option linter.unusedSectionVars false
namespace Go.Proofs.YtjaadeknhofhpaaGreat
open Go.RowKit
set_option maxRecDepth 100000
set_option maxHeartbeats 4000000

abbrev DMv := Int × Int × Int
abbrev DAr := Int × Int × Bool × Int
def labAt (ls : List DLabel) (t : Int) : DLabel := (ls[t.toNat]?).getD (0, false)
theorem lab_get {ls : List DLabel} {t : Int} {y : DLabel} (h : ls[t.toNat]? = some y) : labAt ls t = y := by unfold labAt; rw [h]; rfl
def arcOf (ls : List DLabel) (m : DMv) : DAr := (m.1, (labAt ls m.2.1).1, (labAt ls m.2.1).2, m.2.2)
def arcsOf (ls : List DLabel) (ms : List DMv) : List DAr := ms.map (arcOf ls)
def bv (l : List UInt8) (i : Nat) : UInt8 := (l[i]?).getD 0
theorem bv_get {l : List UInt8} {i : Nat} {c : UInt8} (h : l[i]? = some c) : bv l i = c := by unfold bv; rw [h]; rfl
def agr (vs : List UInt8) (i j : Nat) : List UInt8 × Bool × Bool :=
  if bv vs i = bv vs j then (vs, true, false) else if bv vs i = 0 then (vs.set i (bv vs j), true, true) else if bv vs j = 0 then (vs.set j (bv vs i), true, true) else (vs, false, false)
def agb (vs : List UInt8) (i : Nat) (c : UInt8) : List UInt8 × Bool × Bool :=
  if bv vs i = c then (vs, true, false) else if bv vs i = 0 then (vs.set i c, true, true) else (vs, false, false)
section
variable {vs vs' : List UInt8} {i j k : Nat} {a b c : UInt8}
theorem agr_eq (h1 : vs[i]? = some a) (h2 : vs[j]? = some b) : agr vs i j = if a = b then (vs, true, false) else if a = 0 then (vs.set i b, true, true) else if b = 0 then (vs.set j a, true, true) else (vs, false, false) := by
  unfold agr; rw [bv_get h1, bv_get h2]
theorem agb_eq (h1 : vs[i]? = some a) : agb vs i c = if a = c then (vs, true, false) else if a = 0 then (vs.set i c, true, true) else (vs, false, false) := by
  unfold agb; rw [bv_get h1]
theorem agr_len (vs : List UInt8) (i j : Nat) : (agr vs i j).1.length = vs.length := by
  unfold agr; split <;> try rfl
  split <;> try simp
  split <;> simp
theorem agb_len (vs : List UInt8) (i : Nat) (c : UInt8) : (agb vs i c).1.length = vs.length := by
  unfold agb; split <;> try rfl
  split <;> simp
/-- How many are not known. -/
def cnt0 (vs : List UInt8) : Nat := (vs.filter fun c => c = 0).length
theorem cnt0_rep (n : Nat) : cnt0 (List.replicate n 0) = n := by simp [cnt0]
theorem cnt0_set {l : List UInt8} (h : l[i]? = some 0) (hc : c ≠ 0) : cnt0 (l.set i c) + 1 = cnt0 l := by
  induction l generalizing i with
  | nil => simp at h
  | cons x l ih =>
    cases i with
    | zero =>
      simp only [List.getElem?_cons_zero, Option.some.injEq] at h
      subst h
      simp [cnt0, hc]
    | succ i =>
      have := ih (i := i) (by simpa using h)
      simp only [cnt0, List.set_cons_succ, List.filter_cons] at this ⊢
      split <;> simp_all
theorem agr_cnt (h1 : i < vs.length) (h2 : j < vs.length) : cnt0 (agr vs i j).1 ≤ cnt0 vs ∧ ((agr vs i j).2.2 = true → cnt0 (agr vs i j).1 < cnt0 vs) ∧ ((agr vs i j).2.1 = true → (agr vs i j).2.2 = false → (agr vs i j).1 = vs) := by
  have e1 := List.getElem?_eq_getElem h1
  have e2 := List.getElem?_eq_getElem h2
  rw [agr_eq e1 e2]
  split
  · simp
  · rename_i h3
    split
    · rename_i h4
      rw [h4] at e1 h3
      have := cnt0_set e1 (c := vs[j]) (fun h => h3 h.symm)
      simp; omega
    · rename_i h4
      split
      · rename_i h5
        rw [h5] at e2
        have := cnt0_set e2 h4
        simp; omega
      · simp
theorem agb_cnt (h1 : i < vs.length) (hc : c ≠ 0) : cnt0 (agb vs i c).1 ≤ cnt0 vs ∧ ((agb vs i c).2.2 = true → cnt0 (agb vs i c).1 < cnt0 vs) ∧ ((agb vs i c).2.1 = true → (agb vs i c).2.2 = false → (agb vs i c).1 = vs) := by
  have e1 := List.getElem?_eq_getElem h1
  rw [agb_eq e1]
  split
  · simp
  · split
    · rename_i h4
      rw [h4] at e1
      have := cnt0_set e1 hc
      simp; omega
    · simp
end
/-- One arc; one pass; passes till nothing turns. -/
def stepV (sig : Int) (a : DAr) (vs : List UInt8) : Option (List UInt8 × Bool) :=
  if a.2.1 = sig then
    (if (agb vs a.1.toNat (if (!a.2.2.1) = true then 49 else 48)).2.1 = true ∧ (agb (agb vs a.1.toNat (if (!a.2.2.1) = true then 49 else 48)).1 a.2.2.2.toNat (if a.2.2.1 = true then 49 else 48)).2.1 = true then
      some ((agb (agb vs a.1.toNat (if (!a.2.2.1) = true then 49 else 48)).1 a.2.2.2.toNat (if a.2.2.1 = true then 49 else 48)).1, (agb vs a.1.toNat (if (!a.2.2.1) = true then 49 else 48)).2.2 || (agb (agb vs a.1.toNat (if (!a.2.2.1) = true then 49 else 48)).1 a.2.2.2.toNat (if a.2.2.1 = true then 49 else 48)).2.2)
    else none)
  else if (agr vs a.1.toNat a.2.2.2.toNat).2.1 = true then some ((agr vs a.1.toNat a.2.2.2.toNat).1, (agr vs a.1.toNat a.2.2.2.toNat).2.2) else none
def passV (sig : Int) : List DAr → List UInt8 → Bool → Option (List UInt8 × Bool)
  | [], vs, ch => some (vs, ch)
  | a :: rs, vs, ch => match stepV sig a vs with
    | none => none
    | some (vs', c) => passV sig rs vs' (ch || c)
def runV (sig : Int) (arcs : List DAr) : Nat → List UInt8 → Option (List UInt8)
  | 0, vs => some vs
  | f + 1, vs => match passV sig arcs vs false with
    | none => none
    | some (vs', ch) => if ch = true then runV sig arcs f vs' else some vs'
def contV (sig : Int) (arcs : List DAr) (f : Nat) : Option (List UInt8 × Bool) → Option (List UInt8)
  | none => none
  | some (vs', ch) => if ch = true then runV sig arcs f vs' else some vs'
def fz (c : UInt8) : UInt8 := if c = 0 then 48 else c
def valsV (n : Nat) (arcs : List DAr) (sig : Int) : List UInt8 × Bool := match runV sig arcs (n + 1) (List.replicate n 0) with
  | none => ([], false)
  | some vs => (vs.map fz, true)
def InR (n : Int) (a : DAr) : Prop := (0 ≤ a.1 ∧ a.1 < n) ∧ 0 ≤ a.2.2.2 ∧ a.2.2.2 < n
section
variable {sig n : Int} {a : DAr} {vs vs' : List UInt8} {arcs rs : List DAr} {ch ch' c : Bool} {f k : Nat}
theorem stepV_lab (hl : a.2.1 = sig) (h1 : (agb vs a.1.toNat (if (!a.2.2.1) = true then 49 else 48)).2.1 = true) (h2 : (agb (agb vs a.1.toNat (if (!a.2.2.1) = true then 49 else 48)).1 a.2.2.2.toNat (if a.2.2.1 = true then 49 else 48)).2.1 = true) :
    stepV sig a vs = some ((agb (agb vs a.1.toNat (if (!a.2.2.1) = true then 49 else 48)).1 a.2.2.2.toNat (if a.2.2.1 = true then 49 else 48)).1, (agb vs a.1.toNat (if (!a.2.2.1) = true then 49 else 48)).2.2 || (agb (agb vs a.1.toNat (if (!a.2.2.1) = true then 49 else 48)).1 a.2.2.2.toNat (if a.2.2.1 = true then 49 else 48)).2.2) := by
  unfold stepV; rw [if_pos hl, if_pos ⟨h1, h2⟩]
theorem stepV_lab1 (hl : a.2.1 = sig) (h1 : (agb vs a.1.toNat (if (!a.2.2.1) = true then 49 else 48)).2.1 = false) : stepV sig a vs = none := by
  unfold stepV; rw [if_pos hl, if_neg (fun h => by rw [h1] at h; cases h.1)]
theorem stepV_lab2 (hl : a.2.1 = sig) (h2 : (agb (agb vs a.1.toNat (if (!a.2.2.1) = true then 49 else 48)).1 a.2.2.2.toNat (if a.2.2.1 = true then 49 else 48)).2.1 = false) : stepV sig a vs = none := by
  unfold stepV; rw [if_pos hl, if_neg (fun h => by rw [h2] at h; cases h.2)]
theorem stepV_un (hl : ¬ a.2.1 = sig) (h1 : (agr vs a.1.toNat a.2.2.2.toNat).2.1 = true) : stepV sig a vs = some ((agr vs a.1.toNat a.2.2.2.toNat).1, (agr vs a.1.toNat a.2.2.2.toNat).2.2) := by
  unfold stepV; rw [if_neg hl, if_pos h1]
theorem stepV_un1 (hl : ¬ a.2.1 = sig) (h1 : (agr vs a.1.toNat a.2.2.2.toNat).2.1 = false) : stepV sig a vs = none := by
  unfold stepV; rw [if_neg hl, if_neg (by rw [h1]; decide)]
theorem bit_ne (b : Bool) : (if b = true then (49 : UInt8) else 48) ≠ 0 := by split <;> decide
theorem or_a {x : Bool} (h : ch = true) : true = (ch || x) := by rw [h]; rfl
theorem or_b {m1 m2 : Bool} (h : ch = false) (h2 : m1 = true) : true = (ch || (m1 || m2)) := by rw [h, h2]; rfl
theorem or_c {m1 m2 : Bool} (h : ch = false) (h2 : m1 = false) : m2 = (ch || (m1 || m2)) := by rw [h, h2]; rfl
theorem or_d {m : Bool} (h : ch = false) : m = (ch || m) := by rw [h]; rfl
theorem bit_ned (b : Bool) : decide ((if b = true then (49 : UInt8) else 48) = 0) = false := by cases b <;> rfl
theorem stepV_fine (hr : InR vs.length a) (h : stepV sig a vs = some (vs', c)) : vs'.length = vs.length ∧ cnt0 vs' ≤ cnt0 vs ∧ (c = true → cnt0 vs' < cnt0 vs) ∧ (c = false → vs' = vs) := by
  obtain ⟨⟨r1, r2⟩, r3, r4⟩ := hr
  unfold stepV at h
  have hf0 := bit_ne (!a.2.2.1)
  have ht0 := bit_ne a.2.2.1
  generalize (if (!a.2.2.1) = true then (49 : UInt8) else 48) = f0 at h hf0
  generalize (if a.2.2.1 = true then (49 : UInt8) else 48) = t0 at h ht0
  have k1 := agb_cnt (vs := vs) (i := a.1.toNat) (c := f0) (by omega) hf0
  have k2 := agb_cnt (vs := (agb vs a.1.toNat f0).1) (i := a.2.2.2.toNat) (c := t0) (by rw [agb_len]; omega) ht0
  have k3 := agr_cnt (vs := vs) (i := a.1.toNat) (j := a.2.2.2.toNat) (by omega) (by omega)
  have l1 := agb_len vs a.1.toNat f0
  have l2 := agb_len (agb vs a.1.toNat f0).1 a.2.2.2.toNat t0
  have l3 := agr_len vs a.1.toNat a.2.2.2.toNat
  generalize agb (agb vs a.1.toNat f0).1 a.2.2.2.toNat t0 = g2 at h k2 l2
  generalize agb vs a.1.toNat f0 = g1 at h k1 k2 l1 l2
  generalize agr vs a.1.toNat a.2.2.2.toNat = g3 at h k3 l3
  split at h
  · split at h
    · rename_i h1
      simp only [Option.some.injEq, Prod.mk.injEq] at h
      obtain ⟨rfl, rfl⟩ := h
      refine ⟨l2.trans l1, Nat.le_trans k2.1 k1.1, fun hc => ?_, fun hc => ?_⟩
      · rcases Bool.or_eq_true_iff.1 hc with h | h
        · exact Nat.lt_of_le_of_lt k2.1 (k1.2.1 h)
        · exact Nat.lt_of_lt_of_le (k2.2.1 h) k1.1
      · obtain ⟨e1, e2⟩ := Bool.or_eq_false_iff.1 hc
        rw [k2.2.2 h1.2 e2, k1.2.2 h1.1 e1]
    · cases h
  · split at h
    · rename_i h1
      simp only [Option.some.injEq, Prod.mk.injEq] at h
      obtain ⟨rfl, rfl⟩ := h
      exact ⟨l3, k3.1, k3.2.1, k3.2.2 h1⟩
    · cases h
theorem passV_ok (hx : arcs[k]? = some a) (h : stepV sig a vs = some (vs', c)) (hc : ch' = (ch || c)) : passV sig (arcs.drop k) vs ch = passV sig (arcs.drop (k + 1)) vs' ch' := by
  rw [drop_cons hx, passV, h, hc]
theorem passV_bad (hx : arcs[k]? = some a) (h : stepV sig a vs = none) : passV sig (arcs.drop k) vs ch = none := by
  rw [drop_cons hx, passV, h]
theorem passV_end (hk : arcs.length ≤ k) : passV sig (arcs.drop k) vs ch = some (vs, ch) := by rw [List.drop_eq_nil_of_le hk, passV]
theorem passV_fine {m : Nat} (hr : ∀ a ∈ rs, InR m a) (hl : vs.length = m) (h : passV sig rs vs ch = some (vs', ch')) : vs'.length = m ∧ cnt0 vs' ≤ cnt0 vs ∧ (ch' = true → ch = true ∨ cnt0 vs' < cnt0 vs) ∧ (ch' = false → vs' = vs ∧ ch = false) := by
  induction rs generalizing vs ch with
  | nil => rw [passV] at h; cases h; exact ⟨hl, Nat.le_refl _, fun h => .inl h, fun h => ⟨rfl, h⟩⟩
  | cons a rs ih =>
    rw [passV] at h
    cases hs : stepV sig a vs with
    | none => rw [hs] at h; cases h
    | some r =>
      obtain ⟨v1, c1⟩ := r
      rw [hs] at h
      obtain ⟨h1, h2, h3, h4⟩ := stepV_fine (by rw [hl]; exact hr a (List.mem_cons_self ..)) hs
      obtain ⟨k1, k2, k3, k4⟩ := ih (fun b hb => hr b (List.mem_cons_of_mem _ hb)) (h1.trans hl) h
      refine ⟨k1, Nat.le_trans k2 h2, fun e => ?_, fun e => ?_⟩
      · rcases k3 e with h | h
        · rcases Bool.or_eq_true_iff.1 h with h | h
          · exact .inl h
          · exact .inr (Nat.lt_of_le_of_lt k2 (h3 h))
        · exact .inr (Nat.lt_of_lt_of_le h h2)
      · obtain ⟨e1, e2⟩ := k4 e
        obtain ⟨e3, e4⟩ := Bool.or_eq_false_iff.1 e2
        exact ⟨e1.trans (h4 e4), e3⟩
theorem runV_in (f : Nat) (vs : List UInt8) : runV sig arcs (f + 1) vs = contV sig arcs f (passV sig arcs vs false) := by
  rw [runV]; cases passV sig arcs vs false <;> rfl
/-- Enough passes are enough. -/
theorem runV_fuel {m : Nat} (hr : ∀ a ∈ arcs, InR m a) : ∀ {f g : Nat} {vs : List UInt8}, vs.length = m → cnt0 vs < f → cnt0 vs < g → runV sig arcs f vs = runV sig arcs g vs := fun {f} => by
  induction f with
  | zero => intro g vs hl h; omega
  | succ f ih =>
    intro g vs hl h1 h2
    cases g with
    | zero => omega
    | succ g =>
      rw [runV, runV]
      cases hp : passV sig arcs vs false with
      | none => rfl
      | some r =>
        obtain ⟨v1, c1⟩ := r
        obtain ⟨k1, k2, k3, k4⟩ := passV_fine hr hl hp
        cases c1 with
        | false => rfl
        | true =>
          rcases k3 rfl with h | h
          · cases h
          · show runV sig arcs f v1 = runV sig arcs g v1
            exact ih k1 (by omega) (by omega)
theorem contV_next {m : Nat} (hr : ∀ a ∈ arcs, InR m a) (hl : vs'.length = m) (hc : cnt0 vs' ≤ cnt0 vs ∧ (ch = true → cnt0 vs' < cnt0 vs)) : contV sig arcs (cnt0 vs) (some (vs', ch)) = if ch = true then runV sig arcs (cnt0 vs' + 1) vs' else some vs' := by
  show (if ch = true then _ else _) = _
  cases ch with
  | false => rfl
  | true => exact runV_fuel hr hl (hc.2 rfl) (Nat.lt_succ_self _)
theorem meas_dec {m c1 c2 : Nat} (hm : m = if ch = true then c1 + 1 else 0) (hb : ch = true) (hC : c2 ≤ c1 ∧ (ch' = true → c2 < c1)) : (if ch' = true then c2 + 1 else 0) < m := by
  rw [hm, if_pos hb]
  cases ch' with
  | false => simp
  | true => have := hC.2 rfl; simp; omega
theorem cnt_next {c0 : Nat} (hC : cnt0 vs ≤ c0 ∧ (ch = true → cnt0 vs < c0)) (h : vs'.length = vs.length ∧ cnt0 vs' ≤ cnt0 vs ∧ (c = true → cnt0 vs' < cnt0 vs) ∧ (c = false → vs' = vs)) (hc : ch' = (ch || c)) : cnt0 vs' ≤ c0 ∧ (ch' = true → cnt0 vs' < c0) := by
  obtain ⟨h1, h2, h3, _⟩ := h
  refine ⟨Nat.le_trans h2 hC.1, fun e => ?_⟩
  rw [hc] at e
  rcases Bool.or_eq_true_iff.1 e with h | h
  · exact Nat.lt_of_le_of_lt h2 (hC.2 h)
  · exact Nat.lt_of_lt_of_le (h3 h) hC.1
theorem valsV_no {n : Nat} (h : runV sig arcs (n + 1) (List.replicate n 0) = none) : valsV n arcs sig = ([], false) := by unfold valsV; rw [h]
theorem valsV_yes {n : Nat} (h : runV sig arcs (n + 1) (List.replicate n 0) = some vs) : valsV n arcs sig = (vs.map fz, true) := by unfold valsV; rw [h]
/-- What is not known becomes 0. -/
def fillN (vs : List UInt8) (k : Nat) : List UInt8 := (vs.take k).map fz ++ vs.drop k
theorem fillN_len (vs : List UInt8) (k : Nat) : (fillN vs k).length = vs.length := by simp [fillN]; omega
theorem fillN_0 (vs : List UInt8) : fillN vs 0 = vs := by simp [fillN]
theorem fillN_end (h : vs.length ≤ k) : fillN vs k = vs.map fz := by simp [fillN, List.take_of_length_le h, List.drop_eq_nil_of_le h]
theorem fillN_at {x : UInt8} (h : (fillN vs k)[k]? = some x) : vs[k]? = some x := by
  have hk : k < vs.length := by have := (List.getElem?_eq_some_iff.1 h).1; rwa [fillN_len] at this
  unfold fillN at h
  rw [List.getElem?_append_right (by simp; omega)] at h
  simp only [List.length_map, List.length_take, Nat.min_eq_left (Nat.le_of_lt hk), Nat.sub_self] at h
  rw [List.getElem?_drop] at h
  simpa using h
theorem fillN_next {x : UInt8} (h : (fillN vs k)[k]? = some x) : fillN vs (k + 1) = (fillN vs k).set k (fz x) := by
  have h2 := fillN_at h
  have hk := (List.getElem?_eq_some_iff.1 h2).1
  unfold fillN
  rw [List.set_append_right _ _ (by simp; omega)]
  simp only [List.length_map, List.length_take, Nat.min_eq_left (Nat.le_of_lt hk), Nat.sub_self]
  rw [drop_cons h2, take_snoc h2]
  simp
theorem fillN_set {x : UInt8} (h : (fillN vs k)[k]? = some x) (h0 : decide (x = 0) = true) : (fillN vs k).set k 48 = fillN vs (k + 1) := by
  rw [fillN_next h, show fz x = 48 by simp [fz, of_decide_eq_true h0]]
theorem fillN_keep {x : UInt8} (h : (fillN vs k)[k]? = some x) (h0 : decide (x = 0) = false) : fillN vs k = fillN vs (k + 1) := by
  rw [fillN_next h, show fz x = x by simp [fz, of_decide_eq_false h0]]
  apply List.ext_getElem?
  intro i
  by_cases e : k = i
  · subst e; rw [List.getElem?_set_self (List.getElem?_eq_some_iff.1 h).1]; exact h
  · rw [List.getElem?_set_ne e]
end

theorem fc_slices_Clone_impl_Signal_impl_Signal (s : List (ByteArray × Int)) (hl : s.length ≤ 1000000) : FC Tryz.prog 216 [(false, [.dat (.sl 90 (.pr .str .int)) s])] [] 0 (Own1 90 (.pr .str .int) s) := by
 refine FC.go Tryz.func216 rfl rfl Tryz.ntmps216 fun O_ hO w0_ N0_ X_ h0_ f0_ => ?_
 iterate 6 refine w_ ?_
 refine AL.eqNil (Evl.tmp rfl) Evl.val und_26 rfl fun b1 hnil => ?_
 refine w_ ?_
 cases hb2 : (b1)
 ·iterate 3 refine w_ ?_
  refine lc (dBs 0 (e := (.pr .str .int)) zer_90) ?_
  refine w_ ?_
  refine lc (Does.appendF 1 (Evl.tmp rfl) rfl (Evl.rep (Evl.tmp rfl)) rfl und_26 elb_90 (by first | omega | (simp only [List.length_append, List.length_map, List.length_take, List.length_cons, List.length_nil]; omega) | (simp only [List.length_append, List.length_drop, List.length_take, List.length_cons, List.length_nil]; omega)) rfl (Fresh.of rfl) (nlr rfl)) ?_
  iterate 2 refine w_ ?_
  refine AC.ret ?_
  subst hO
  refine fin_own (e := (.pr .str .int)) (xs := (([]) ++ s)) (Res.one rfl (Rs.tmp rfl)) rfl ?_
  rfl
 ·iterate 4 refine w_ ?_
  refine AC.wk (Wk.nilS 2 2 90 (.pr .str .int) rfl (Fresh.of rfl) (nlr rfl)) <| AC.ret ?_
  subst hO
  refine fin_own (e := (.pr .str .int)) (xs := ([])) (Res.one rfl (Rs.tmp rfl)) rfl ?_
  exact (hnil (by assumption)).symm

theorem fc_impl_labelledArcs (s : (Int × (List (List Int × List Int))) × (List (ByteArray × Int)) × (List (Int × Bool)) × ByteArray) (r : List ByteArray × (List (Int × Int × Int))) (hm : ∀ m ∈ r.2, 0 ≤ m.2.1 ∧ m.2.1 < (s.2.2.1.length : Int)) (hl : r.2.length ≤ 1000000) : FC Tryz.prog 217 [(true, [dI s.1.1, .dat (.sl 198 (.pr (.sl 3 .int) (.sl 3 .int))) s.1.2, .dat (.sl 90 (.pr .str .int)) s.2.1, .dat (.sl 55 (.pr .int .bool)) s.2.2.1, dS s.2.2.2]), (true, [.dat (.sl 9 .str) r.1, .dat (.sl 229 (.pr .int (.pr .int .int))) r.2])] [] 0 (Own1 106 (.pr .int (.pr .int (.pr .bool .int))) (arcsOf s.2.2.1 r.2)) := by
 refine FC.go Tryz.func217 rfl rfl Tryz.ntmps217 fun O_ hO w0_ N0_ X_ h0_ f0_ => ?_
 refine AC.fact (fact_ag (x := .tmp 0) (i := 0) (Ev.tmp rfl) rfl) fun hi1 => ?_
 refine w_ ?_
 refine xbx 0 ?_
 refine xbx 1 ?_
 iterate 3 refine w_ ?_
 refine lc (dBs 2 (e := (.pr .int (.pr .int (.pr .bool .int)))) zer_106) ?_
 iterate 6 refine w_ ?_
 refine AL.fact (fact_len (x := .tmp 11) (Evl.tmp rfl)) fun hl2 => ?_
 iterate 4 refine w_ ?_
 refine AC.loopW (fun m_ s_ => ∃ (k : Nat), k ≤ r.2.length ∧ m_ = r.2.length - k ∧ s_ = ⟨[(2, lP 0 0), (4, lf (.val (.slice none 0 0))), (5, lR 3), (11, lf (.dat (.sl 229 (.pr .int (.pr .int .int))) r.2)), (12, lI (r.2.length : Int)), (13, lI (k : Int))], [(0, some (.box 29 [dI s.1.1, .dat (.sl 198 (.pr (.sl 3 .int) (.sl 3 .int))) s.1.2, .dat (.sl 90 (.pr .str .int)) s.2.1, .dat (.sl 55 (.pr .int .bool)) s.2.2.1, dS s.2.2.2])), (3, some (.arr 106 (.pr .int (.pr .int (.pr .bool .int))) ((r.2.take k).map (arcOf s.2.2.1))))]⟩) ⟨0, Nat.zero_le _, rfl, rfl⟩ ?_ ?_
 · exact Wk.of [(3, 2)] rfl ⟨rfl, rfl, rfl, rfl, rfl, rfl, trivial⟩ ⟨rfl, (entE (by first | rfl | simp)), trivial⟩ rfl rfl
 rintro m_ s_ ⟨k, hk3, hm4, rfl⟩
 iterate 4 refine w_ ?_
 cases hb5 : (decide ((k : Int) < (r.2.length : Int)))
 ·have hb5' := of_decide_eq_false hb5
  refine w_ ?_
  refine AC.exit ?_
  refine (?_ : AC _ _ _ _ _)
  iterate 4 refine w_ ?_
  refine AC.ret ?_
  subst hO
  refine fin_own (e := (.pr .int (.pr .int (.pr .bool .int)))) (xs := ((r.2.take k).map (arcOf s.2.2.1))) (Res.one rfl (Rs.tmp rfl)) rfl ?_
  rw [take_end (by omega)]; rfl
 ·have hb5' := of_decide_eq_true hb5
  iterate 5 refine w_ ?_
  obtain ⟨mv, hx7⟩ : ∃ z, r.2[k]? = some z := ⟨_, List.getElem?_eq_getElem (by omega)⟩
  have hrm := hm _ (List.mem_of_getElem? hx7)
  iterate 2 refine w_ ?_
  refine lc (xal 4 (.pr .int (.pr .int .int)) zer_229) ?_
  iterate 7 refine w_ ?_
  refine AL.fact (fact_int (x := .tmp 20) (Evl.tmp rfl)) fun hi8 => ?_
  obtain ⟨x9, hx10⟩ : ∃ z, s.2.2.1[(mv.2.1).toNat]? = some z := ⟨_, List.getElem?_eq_getElem (by omega)⟩
  have hla := lab_get hx10
  iterate 2 refine w_ ?_
  refine lc (xal 5 (.pr .int .bool) zer_55) ?_
  iterate 6 refine w_ ?_
  refine AL.fact (fact_int (x := .tmp 25) (Evl.tmp rfl)) fun hi11 => ?_
  iterate 2 refine w_ ?_
  refine AL.fact (fact_int (x := .tmp 27) (Evl.tmp rfl)) fun hi12 => ?_
  iterate 4 refine w_ ?_
  refine AL.fact (fact_int (x := .tmp 31) (Evl.tmp rfl)) fun hi13 => lc (Does.build bld_106 ⟨_, _, rfl, (Ev.tmp rfl), ⟨_, _, rfl, (Ev.tmp rfl), ⟨_, _, rfl, (Ev.tmp rfl), ⟨_, _, rfl, (Ev.tmp rfl), rfl⟩⟩⟩⟩ (List.all_eq_true.1 rfl) rfl rfl) ?_
  refine lc (dBs 6 (e := (.pr .int (.pr .int (.pr .bool .int)))) zer_106 (hab := by exact ⟨_, _, _, _, rfl, ⟨[dI mv.1], [dI x9.1, dB x9.2, dI mv.2.2], _, _, _, _, rfl, rfl, ⟨rfl, rfl⟩, ⟨[dI x9.1], [dB x9.2, dI mv.2.2], _, _, _, _, rfl, rfl, ⟨rfl, rfl⟩, ⟨[dB x9.2], [dI mv.2.2], _, _, _, _, rfl, rfl, ⟨rfl, rfl⟩, ⟨rfl, rfl⟩, rfl⟩, rfl⟩, rfl⟩, ⟨rfl, rfl⟩, rfl⟩)) ?_
  refine lc (dA 7 elb_106) ?_
  refine w_ ?_
  refine AL.nil ?_
  refine (?_ : AC _ _ _ _ _)
  iterate 3 refine w_ ?_
  refine AL.nil <| lend ⟨k + 1, by omega, rfl, rfl⟩ (by omega) ?_
  exact Wk.of [(3, 7)] rfl ⟨rfl, rfl, rfl, rfl, rfl, rfl, trivial⟩ ⟨rfl, (entE (by rw [take_snoc hx7]; simp [arcOf, hla])), trivial⟩ rfl rfl

theorem fc_impl_agreed (vs : List UInt8) (i : Nat) (j : Nat) (hi : i < vs.length) (hj : j < vs.length) : FC Tryz.prog 292 [(false, [.ept 0 1 i 0]), (false, [.ept 0 1 j 0])] [(0, some (.arr 5 .u8 vs))] 1 (Is (PV.tup [(false, [dB ((agr vs i j).2.1)]), (false, [dB ((agr vs i j).2.2)])]) [(0, some (.arr 5 .u8 ((agr vs i j).1)))]) := by
 refine FC.go Tryz.func292 rfl rfl Tryz.ntmps292 fun O_ hO w0_ N0_ X_ h0_ f0_ => ?_
 iterate 6 refine w_ ?_
 obtain ⟨ca, hx2⟩ : ∃ z, vs[i]? = some z := ⟨_, List.getElem?_eq_getElem (by omega)⟩
 obtain ⟨cb, hx4⟩ : ∃ z, vs[j]? = some z := ⟨_, List.getElem?_eq_getElem (by omega)⟩
 apply dW [io 7 _, io 8 (lf (.ept 0 1 i 0)), io 9 (lf (.dat .u8 ca)), io 10 _, io 11 (lf (.ept 0 1 j 0)), io 12 (lf (.dat .u8 cb)), io 13 _, io 6 _] [0, 0, 0, 7, 7, 7, 0, 0]
 refine z_ ?_
 refine zz (fun _ h_ => ac (Does.nilI (h_.v rfl) (by rw [(h_.en 0 rfl)]; rfl) rfl) rfl) <| zz (fun _ h_ => ac (Does.loadI (e := .u8) (h_.v rfl) (h_.n 0 rfl) hx2 rfl tsh_5 rfl rfl) rfl) ?_
 refine z_ ?_
 refine zz (fun _ h_ => ac (Does.nilI (h_.v rfl) (by rw [(h_.en 0 rfl)]; rfl) rfl) rfl) <| zz (fun _ h_ => ac (Does.loadI (e := .u8) (h_.v rfl) (h_.n 0 rfl) hx4 rfl tsh_5 rfl rfl) rfl) ?_
 iterate 2 refine z_ ?_
 exact zN
 cases hb5 : (decide (ca = cb))
 ·have hb5' := of_decide_eq_false hb5
  iterate 5 refine w_ ?_
  refine lc (Does.eqlU (Evl.tmp rfl) (Evl.u8 0 rfl) rfl) ?_
  iterate 2 refine w_ ?_
  cases hb6 : (decide (ca = 0))
  ·have hb6' := of_decide_eq_false hb6
   iterate 5 refine w_ ?_
   refine lc (Does.eqlU (Evl.tmp rfl) (Evl.u8 0 rfl) rfl) ?_
   iterate 2 refine w_ ?_
   cases hb7 : (decide (cb = 0))
   ·have hb7' := of_decide_eq_false hb7
    refine w_ ?_
    refine AC.skip ?_
    refine (?_ : AC _ _ _ _ _)
    iterate 4 refine w_ ?_
    refine AC.ret ?_
    subst hO
    have e8 : (false : Bool) = ((agr vs i j).2.1) := by
     (rw [agr_eq (by assumption) (by assumption)]; simp [*]; done)
    have e9 : (false : Bool) = ((agr vs i j).2.2) := by
     (rw [agr_eq (by assumption) (by assumption)]; simp [*]; done)
    exact fin_is _ _ [] (Res.two rfl (Rs.tmp rfl) (Rs.tmp rfl)) (((congrArg (fun z_ => PV.tup [(false, [dB z_]), (false, [dB false])]) e8)).trans (congrArg (fun z_ => PV.tup [(false, [dB ((agr vs i j).2.1)]), (false, [dB z_])]) e9)) ⟨(entE (by (rw [agr_eq (by assumption) (by assumption)]; simp [*]; done))), trivial⟩ rfl rfl
   ·have hb7' := of_decide_eq_true hb7
    iterate 7 refine w_ ?_
    refine lc (Does.storeI (e := .u8) (z' := ca) (Evl.tmp rfl) rfl hx4 rfl (Ev.tmp rfl) rfl tsh_5 rfl rfl) ?_
    iterate 5 refine w_ ?_
    refine AC.ret ?_
    subst hO
    have e10 : (true : Bool) = ((agr vs i j).2.1) := by
     (rw [agr_eq (by assumption) (by assumption)]; simp [*]; done)
    have e11 : (true : Bool) = ((agr vs i j).2.2) := by
     (rw [agr_eq (by assumption) (by assumption)]; simp [*]; done)
    exact fin_is _ _ [] (Res.two rfl (Rs.tmp rfl) (Rs.tmp rfl)) (((congrArg (fun z_ => PV.tup [(false, [dB z_]), (false, [dB true])]) e10)).trans (congrArg (fun z_ => PV.tup [(false, [dB ((agr vs i j).2.1)]), (false, [dB z_])]) e11)) ⟨(entE (by (rw [agr_eq (by assumption) (by assumption)]; simp [*]; done))), trivial⟩ rfl rfl
  ·have hb6' := of_decide_eq_true hb6
   iterate 7 refine w_ ?_
   refine lc (Does.storeI (e := .u8) (z' := cb) (Evl.tmp rfl) rfl hx2 rfl (Ev.tmp rfl) rfl tsh_5 rfl rfl) ?_
   iterate 5 refine w_ ?_
   refine AC.ret ?_
   subst hO
   have e12 : (true : Bool) = ((agr vs i j).2.1) := by
    (rw [agr_eq (by assumption) (by assumption)]; simp_all; done)
   have e13 : (true : Bool) = ((agr vs i j).2.2) := by
    (rw [agr_eq (by assumption) (by assumption)]; simp_all; done)
   exact fin_is _ _ [] (Res.two rfl (Rs.tmp rfl) (Rs.tmp rfl)) (((congrArg (fun z_ => PV.tup [(false, [dB z_]), (false, [dB true])]) e12)).trans (congrArg (fun z_ => PV.tup [(false, [dB ((agr vs i j).2.1)]), (false, [dB z_])]) e13)) ⟨(entE (by (rw [agr_eq (by assumption) (by assumption)]; simp_all; done))), trivial⟩ rfl rfl
 ·have hb5' := of_decide_eq_true hb5
  iterate 5 refine w_ ?_
  refine AC.ret ?_
  subst hO
  have e14 : (true : Bool) = ((agr vs i j).2.1) := by
   (rw [agr_eq (by assumption) (by assumption)]; simp [*]; done)
  have e15 : (false : Bool) = ((agr vs i j).2.2) := by
   (rw [agr_eq (by assumption) (by assumption)]; simp [*]; done)
  exact fin_is _ _ [] (Res.two rfl (Rs.tmp rfl) (Rs.tmp rfl)) (((congrArg (fun z_ => PV.tup [(false, [dB z_]), (false, [dB false])]) e14)).trans (congrArg (fun z_ => PV.tup [(false, [dB ((agr vs i j).2.1)]), (false, [dB z_])]) e15)) ⟨(entE (by (rw [agr_eq (by assumption) (by assumption)]; simp [*]; done))), trivial⟩ rfl rfl

theorem fc_impl_agreed_eb (c : UInt8) (vs : List UInt8) (i : Nat) (hi : i < vs.length) (hc : decide (c = 0) = false) : FC Tryz.prog 292 [(false, [.ept 1 1 i 0]), (false, [.ptr 0 0])] [(0, some (.box 5 [.dat .u8 c])), (1, some (.arr 5 .u8 vs))] 2 (Is (PV.tup [(false, [dB ((agb vs i c).2.1)]), (false, [dB ((agb vs i c).2.2)])]) [(0, some (.box 5 [.dat .u8 c])), (1, some (.arr 5 .u8 ((agb vs i c).1)))]) := by
 refine FC.go Tryz.func292 rfl rfl Tryz.ntmps292 fun O_ hO w0_ N0_ X_ h0_ f0_ => ?_
 iterate 6 refine w_ ?_
 obtain ⟨ca, hx2⟩ : ∃ z, vs[i]? = some z := ⟨_, List.getElem?_eq_getElem (by omega)⟩
 apply dW [io 7 _, io 8 (lf (.ept 1 1 i 0)), io 9 (lf (.dat .u8 ca)), io 10 _, io 11 _, io 12 _, io 13 _, io 6 _] [0, 0, 0, 7, 7, 7, 0, 0]
 refine z_ ?_
 refine zz (fun _ h_ => ac (Does.nilI (h_.v rfl) (by rw [(h_.en 1 rfl)]; rfl) rfl) rfl) <| zz (fun _ h_ => ac (Does.loadI (e := .u8) (h_.v rfl) (h_.n 1 rfl) hx2 rfl tsh_5 rfl rfl) rfl) ?_
 iterate 5 refine z_ ?_
 exact zN
 cases hb3 : (decide (ca = c))
 ·have hb3' := of_decide_eq_false hb3
  iterate 5 refine w_ ?_
  refine lc (Does.eqlU (Evl.tmp rfl) (Evl.u8 0 rfl) rfl) ?_
  iterate 2 refine w_ ?_
  cases hb4 : (decide (ca = 0))
  ·have hb4' := of_decide_eq_false hb4
   iterate 5 refine w_ ?_
   refine lc (Does.eqlU (Evl.tmp rfl) (Evl.u8 0 rfl) rfl) ?_
   iterate 2 refine w_ ?_
   cases hb5 : (decide (c = 0))
   ·have hb5' := of_decide_eq_false hb5
    refine w_ ?_
    refine AC.skip ?_
    refine (?_ : AC _ _ _ _ _)
    iterate 4 refine w_ ?_
    refine AC.ret ?_
    subst hO
    have e6 : (false : Bool) = ((agb vs i c).2.1) := by
     (rw [agb_eq (by assumption)]; simp [*]; done)
    have e7 : (false : Bool) = ((agb vs i c).2.2) := by
     (rw [agb_eq (by assumption)]; simp [*]; done)
    exact fin_is _ _ [] (Res.two rfl (Rs.tmp rfl) (Rs.tmp rfl)) (((congrArg (fun z_ => PV.tup [(false, [dB z_]), (false, [dB false])]) e6)).trans (congrArg (fun z_ => PV.tup [(false, [dB ((agb vs i c).2.1)]), (false, [dB z_])]) e7)) ⟨rfl, (entE (by (rw [agb_eq (by assumption)]; simp [*]; done))), trivial⟩ rfl rfl
   · exact absurd (hb5.symm.trans (show (decide (c = 0)) = false from hc)) (by decide)
  ·have hb4' := of_decide_eq_true hb4
   iterate 7 refine w_ ?_
   refine lc (Does.storeI (e := .u8) (z' := c) (Evl.tmp rfl) rfl hx2 rfl (Ev.tmp rfl) rfl tsh_5 rfl rfl) ?_
   iterate 5 refine w_ ?_
   refine AC.ret ?_
   subst hO
   have e8 : (true : Bool) = ((agb vs i c).2.1) := by
    (rw [agb_eq (by assumption)]; simp_all; done)
   have e9 : (true : Bool) = ((agb vs i c).2.2) := by
    (rw [agb_eq (by assumption)]; simp_all; done)
   exact fin_is _ _ [] (Res.two rfl (Rs.tmp rfl) (Rs.tmp rfl)) (((congrArg (fun z_ => PV.tup [(false, [dB z_]), (false, [dB true])]) e8)).trans (congrArg (fun z_ => PV.tup [(false, [dB ((agb vs i c).2.1)]), (false, [dB z_])]) e9)) ⟨rfl, (entE (by (rw [agb_eq (by assumption)]; simp_all; done))), trivial⟩ rfl rfl
 ·have hb3' := of_decide_eq_true hb3
  iterate 5 refine w_ ?_
  refine AC.ret ?_
  subst hO
  have e10 : (true : Bool) = ((agb vs i c).2.1) := by
   (rw [agb_eq (by assumption)]; simp [*]; done)
  have e11 : (false : Bool) = ((agb vs i c).2.2) := by
   (rw [agb_eq (by assumption)]; simp [*]; done)
  exact fin_is _ _ [] (Res.two rfl (Rs.tmp rfl) (Rs.tmp rfl)) (((congrArg (fun z_ => PV.tup [(false, [dB z_]), (false, [dB false])]) e10)).trans (congrArg (fun z_ => PV.tup [(false, [dB ((agb vs i c).2.1)]), (false, [dB z_])]) e11)) ⟨rfl, (entE (by (rw [agb_eq (by assumption)]; simp [*]; done))), trivial⟩ rfl rfl

theorem fc_impl_valuesOf (n : Int) (arcs : List (Int × Int × Bool × Int)) (sig : Int) (hn : 0 ≤ n ∧ n ≤ 1000000) (ha : ∀ a ∈ arcs, InR n.toNat a) : FC Tryz.prog 218 [(false, [dI n]), (false, [.dat (.sl 106 (.pr .int (.pr .int (.pr .bool .int)))) arcs]), (false, [dI sig])] [] 0 (Is (PV.tup [(false, [.ref 0]), (false, [dB ((valsV n.toNat arcs sig).2)])]) [(0, some (.arr 5 .u8 ((valsV n.toNat arcs sig).1)))]) := by
 refine FC.go Tryz.func218 rfl rfl Tryz.ntmps218 fun O_ hO w0_ N0_ X_ h0_ f0_ => ?_
 refine AC.fact (fact_int (x := .tmp 0) (Evl.tmp rfl)) fun hi1 => AC.fact (fact_int (x := .tmp 2) (Evl.tmp rfl)) fun hi2 => ?_
 iterate 6 refine w_ ?_
 refine lc (Does.makeI 0 (e := .u8) (n := n) (Evl.tmp rfl) (Evl.tmp rfl) und_22 mki_5 rfl (by omega) (by omega) (by omega) rfl (Fresh.of rfl) (nlr rfl)) ?_
 iterate 7 refine w_ ?_
 refine AC.loopW (fun m_ s_ => ∃  (vs : List UInt8) (ch : Bool), m_ = (if ch = true then cnt0 vs + 1 else 0) ∧ (runV sig arcs (n.toNat + 1) (List.replicate n.toNat 0) = (if ch = true then runV sig arcs (cnt0 vs + 1) vs else some vs)) ∧ (vs.length = n.toNat) ∧ s_ = ⟨[(1, lf (.dat (.sl 106 (.pr .int (.pr .int (.pr .bool .int)))) arcs)), (2, lI sig), (8, lR 1), (9, lB ch)], [(1, some (.arr 5 .u8 vs))]⟩) ⟨List.replicate (n).toNat (Ty.zero .u8), true, rfl, (by rw [if_pos rfl]; show _ = runV sig arcs (cnt0 (List.replicate n.toNat 0) + 1) (List.replicate n.toNat 0); rw [cnt0_rep]), (by simp), rfl⟩ ?_ ?_
 · exact Wk.of [(1, 0)] rfl ⟨rfl, rfl, rfl, rfl, trivial⟩ ⟨(entE (by first | rfl | simp)), trivial⟩ rfl rfl
 rintro m_ s_ ⟨vs, ch, hm4, hA, hL, rfl⟩
 iterate 4 refine w_ ?_
 cases hb5 : (ch)
 ·refine w_ ?_
  refine AC.exit ?_
  refine (?_ : AC _ _ _ _ _)
  iterate 7 refine w_ ?_
  refine AC.loopW (fun m_ s_ => ∃ (j : Nat), j ≤ vs.length ∧ m_ = vs.length - j ∧ s_ = ⟨[(8, lR 2), (88, lR 2), (89, lI (vs.length : Int)), (90, lI (j : Int))], [(2, some (.arr 5 .u8 (fillN vs j)))]⟩) ⟨0, Nat.zero_le _, rfl, rfl⟩ ?_ ?_
  · exact Wk.of [(2, 1)] rfl ⟨rfl, rfl, rfl, rfl, trivial⟩ ⟨(entE ((fillN_0 vs).symm)), trivial⟩ rfl rfl
  rintro m_ s_ ⟨j, hk6, hm7, rfl⟩
  have hfl := fillN_len vs j
  iterate 4 refine w_ ?_
  cases hb8 : (decide ((j : Int) < (vs.length : Int)))
  ·have hb8' := of_decide_eq_false hb8
   refine w_ ?_
   refine AC.exit ?_
   refine (?_ : AC _ _ _ _ _)
   iterate 5 refine w_ ?_
   refine AC.ret ?_
   subst hO
   have e9 : (true : Bool) = ((valsV n.toNat arcs sig).2) := by
    (rw [valsV_yes (vs := vs) (by rw [hA, if_neg (by simp [*])])]; done)
   exact fin_is _ _ [(0, 2)] (Res.two rfl (Rs.tmp rfl) (Rs.tmp rfl)) ((congrArg (fun z_ => PV.tup [(false, [.ref 2]), (false, [dB z_])]) e9)) ⟨(entE (by (rw [valsV_yes (vs := vs) (by rw [hA, if_neg (by simp [*])]), fillN_end (by omega)]; done))), trivial⟩ rfl rfl
  ·have hb8' := of_decide_eq_true hb8
   iterate 7 refine w_ ?_
   obtain ⟨x10, hx11⟩ : ∃ z, (fillN vs j)[j]? = some z := ⟨_, List.getElem?_eq_getElem (by omega)⟩
   iterate 6 refine w_ ?_
   refine lc (Does.eqlU (Evl.tmp rfl) (Evl.u8 0 rfl) rfl) ?_
   refine w_ ?_
   cases hb12 : (decide (x10 = 0))
   ·have hb12' := of_decide_eq_false hb12
    refine w_ ?_
    refine AC.skip ?_
    refine (?_ : AC _ _ _ _ _)
    iterate 3 refine w_ ?_
    refine AL.nil <| lend ⟨j + 1, by omega, rfl, rfl⟩ (by omega) ?_
    exact Wk.of [] rfl ⟨rfl, rfl, rfl, rfl, trivial⟩ ⟨(entE (by first | exact fillN_set hx11 (by assumption) | exact fillN_keep hx11 (by assumption))), trivial⟩ rfl rfl
   ·have hb12' := of_decide_eq_true hb12
    iterate 5 refine w_ ?_
    refine lc (Does.storeI (e := .u8) (z' := 48) (Evl.tmp rfl) rfl hx11 rfl (Evl.ev (Evl.u8 48 rfl)) rfl tsh_5 rfl rfl) <| AL.nil ?_
    refine (?_ : AC _ _ _ _ _)
    iterate 3 refine w_ ?_
    refine AL.nil <| lend ⟨j + 1, by omega, rfl, rfl⟩ (by omega) ?_
    exact Wk.of [] rfl ⟨rfl, rfl, rfl, rfl, trivial⟩ ⟨(entE (by first | exact fillN_set hx11 (by assumption) | exact fillN_keep hx11 (by assumption))), trivial⟩ rfl rfl
 ·iterate 8 refine w_ ?_
  refine AL.fact (fact_len (x := .tmp 27) (Evl.tmp rfl)) fun hl13 => ?_
  iterate 4 refine w_ ?_
  refine AC.loopW (fun m_ s_ => ∃ (i : Nat) (vs2 : List UInt8) (ch2 : Bool), i ≤ arcs.length ∧ m_ = arcs.length - i ∧ (runV sig arcs (n.toNat + 1) (List.replicate n.toNat 0) = contV sig arcs (cnt0 vs) (passV sig (arcs.drop i) vs2 ch2)) ∧ (vs2.length = n.toNat) ∧ (cnt0 vs2 ≤ cnt0 vs ∧ (ch2 = true → cnt0 vs2 < cnt0 vs)) ∧ s_ = ⟨[(1, lf (.dat (.sl 106 (.pr .int (.pr .int (.pr .bool .int)))) arcs)), (2, lI sig), (8, lR 3), (9, lB ch2), (26, lB true), (27, lf (.dat (.sl 106 (.pr .int (.pr .int (.pr .bool .int)))) arcs)), (28, lI (arcs.length : Int)), (29, lI (i : Int))], [(3, some (.arr 5 .u8 vs2))]⟩) ⟨0, vs, false, Nat.zero_le _, rfl, (by rw [hA, if_pos (by assumption)]; exact runV_in _ _), hL, ⟨Nat.le_refl _, fun h => by cases h⟩, rfl⟩ ?_ ?_
  · exact Wk.of [(3, 1)] rfl ⟨rfl, rfl, rfl, rfl, rfl, rfl, rfl, rfl, trivial⟩ ⟨rfl, trivial⟩ rfl rfl
  rintro m_ s_ ⟨i, vs2, ch2, hk14, hm15, hA2, hL2, hC, rfl⟩
  iterate 4 refine w_ ?_
  cases hb16 : (decide ((i : Int) < (arcs.length : Int)))
  ·have hb16' := of_decide_eq_false hb16
   refine w_ ?_
   refine AC.exit <| lend ⟨vs2, ch2, rfl, (by rw [hA2, passV_end (by omega)]; exact contV_next ha hL2 hC), hL2, rfl⟩ (by exact meas_dec hm4 (by assumption) hC) ?_
   exact Wk.of [(1, 3)] rfl ⟨rfl, rfl, rfl, rfl, trivial⟩ ⟨rfl, trivial⟩ rfl rfl
  ·have hb16' := of_decide_eq_true hb16
   iterate 5 refine w_ ?_
   obtain ⟨ar, hx18⟩ : ∃ z, arcs[i]? = some z := ⟨_, List.getElem?_eq_getElem (by omega)⟩
   have hra := ha _ (List.mem_of_getElem? hx18)
   obtain ⟨⟨hr1, hr2⟩, hr3, hr4⟩ := hra
   iterate 2 refine w_ ?_
   refine lc (xal 4 (.pr .int (.pr .int (.pr .bool .int))) zer_106) ?_
   iterate 2 refine w_ ?_
   apply dW [io 33 _, io 34 _, io 35 _, io 36 (lf (.ept 3 1 ((ar.1).toNat) 0)), io 37 _, io 38 _, io 39 _, io 40 (lf (.ept 3 1 ((ar.2.2.2).toNat) 0)), io 12 _, io 13 _] [0, 1, 1, 0, 15, 31, 31, 15, 240, 0]
   iterate 3 refine z_ ?_
   refine zz (fun _ h_ => ac (Does.indexI (e := .u8) (h_.v rfl) (h_.en 3 rfl) (h_.v rfl) und_22 tsh_5 rfl (by omega) (by first | omega | (simp only [List.length_set]; omega))) rfl) ?_
   iterate 3 refine z_ ?_
   refine zz (fun _ h_ => ac (Does.indexI (e := .u8) (h_.v rfl) (h_.en 3 rfl) (h_.v rfl) und_22 tsh_5 rfl (by omega) (by first | omega | (simp only [List.length_set]; omega))) rfl) ?_
   iterate 2 refine z_ ?_
   exact zN
   iterate 4 refine w_ ?_
   refine AL.fact (fact_int (x := .tmp 42) (Evl.tmp rfl)) fun hi19 => ?_
   iterate 3 refine w_ ?_
   cases hb20 : (decide (ar.2.1 = sig))
   ·have hb20' := of_decide_eq_false hb20
    iterate 5 refine w_ ?_
    refine lc (dP 5 [(0, 3)] (fc_impl_agreed vs2 ((ar.1).toNat) ((ar.2.2.2).toNat) (by omega) (by omega)) enters_292) ?_
    iterate 11 refine w_ ?_
    cases hb21 : ((agr vs2 ((ar.1).toNat) ((ar.2.2.2).toNat)).2.1)
    ·iterate 5 refine w_ ?_
     refine AC.wk (Wk.nilS 6 6 5 .u8 rfl (Fresh.of rfl) (nlr rfl)) <| AC.ret ?_
     subst hO
     have e22 : (false : Bool) = ((valsV n.toNat arcs sig).2) := by
      (rw [valsV_no (by rw [hA2, passV_bad hx18 (by first | exact stepV_lab1 (by assumption) (by assumption) | exact stepV_lab2 (by assumption) (by assumption) | exact stepV_un1 (by assumption) (by assumption))]; rfl)]; done)
     exact fin_is _ _ [(0, 6)] (Res.two rfl (Rs.tmp rfl) (Rs.tmp rfl)) ((congrArg (fun z_ => PV.tup [(false, [.ref 6]), (false, [dB z_])]) e22)) ⟨(entE (by (rw [valsV_no (by rw [hA2, passV_bad hx18 (by first | exact stepV_lab1 (by assumption) (by assumption) | exact stepV_lab2 (by assumption) (by assumption) | exact stepV_un1 (by assumption) (by assumption))]; rfl)]; done))), trivial⟩ rfl rfl
    ·iterate 5 refine w_ ?_
     cases hb23 : (ch2)
     ·iterate 3 refine w_ ?_
      refine AL.nil ?_
      refine (?_ : AC _ _ _ _ _)
      iterate 3 refine w_ ?_
      refine AL.nil <| lend ⟨i + 1, ((agr vs2 ((ar.1).toNat) ((ar.2.2.2).toNat)).1), ((agr vs2 ((ar.1).toNat) ((ar.2.2.2).toNat)).2.2), by omega, rfl, hA2.trans (congrArg (contV sig arcs (cnt0 vs)) (passV_ok hx18 (by first | exact stepV_lab (by assumption) (by assumption) (by assumption) | exact stepV_un (by assumption) (by assumption)) (by first | exact or_a (by assumption) | exact or_b (by assumption) (by assumption) | exact or_c (by assumption) (by assumption) | exact or_d (by assumption)))), (by (rw [agr_len]; exact hL2)), (cnt_next hC (stepV_fine (by rw [hL2]; exact ⟨⟨hr1, hr2⟩, hr3, hr4⟩) (by first | exact stepV_lab (by assumption) (by assumption) (by assumption) | exact stepV_un (by assumption) (by assumption))) (by first | exact or_a (by assumption) | exact or_b (by assumption) (by assumption) | exact or_c (by assumption) (by assumption) | exact or_d (by assumption))), rfl⟩ (by omega) ?_
      exact Wk.of [] rfl ⟨rfl, rfl, rfl, rfl, rfl, rfl, rfl, rfl, trivial⟩ ⟨rfl, trivial⟩ rfl rfl
     ·iterate 3 refine w_ ?_
      refine AL.nil ?_
      refine (?_ : AC _ _ _ _ _)
      iterate 3 refine w_ ?_
      refine AL.nil <| lend ⟨i + 1, ((agr vs2 ((ar.1).toNat) ((ar.2.2.2).toNat)).1), true, by omega, rfl, hA2.trans (congrArg (contV sig arcs (cnt0 vs)) (passV_ok hx18 (by first | exact stepV_lab (by assumption) (by assumption) (by assumption) | exact stepV_un (by assumption) (by assumption)) (by first | exact or_a (by assumption) | exact or_b (by assumption) (by assumption) | exact or_c (by assumption) (by assumption) | exact or_d (by assumption)))), (by (rw [agr_len]; exact hL2)), (cnt_next hC (stepV_fine (by rw [hL2]; exact ⟨⟨hr1, hr2⟩, hr3, hr4⟩) (by first | exact stepV_lab (by assumption) (by assumption) (by assumption) | exact stepV_un (by assumption) (by assumption))) (by first | exact or_a (by assumption) | exact or_b (by assumption) (by assumption) | exact or_c (by assumption) (by assumption) | exact or_d (by assumption))), rfl⟩ (by omega) ?_
      exact Wk.of [] rfl ⟨rfl, rfl, rfl, rfl, rfl, rfl, rfl, rfl, trivial⟩ ⟨rfl, trivial⟩ rfl rfl
   ·have hb20' := of_decide_eq_true hb20
    refine w_ ?_
    apply dW [io 45 _, io 46 _, io 47 _, io 48 (lf (.dat .u8 (if (!ar.2.2.1) then 49 else 48))), io 49 _, io 50 _, io 51 (lf (.dat .u8 (if ar.2.2.1 then 49 else 48))), ⟨some 14, lP 7 0, [(7, some (.box 5 [.dat .u8 0]))]⟩, ⟨some 15, lP 8 0, [(8, some (.box 5 [.dat .u8 0]))]⟩, ⟨none, lf (.val undef), [(7, some (.box 5 [.dat .u8 (if (!ar.2.2.1) then 49 else 48)]))]⟩, ⟨none, lf (.val undef), [(8, some (.box 5 [.dat .u8 (if ar.2.2.1 then 49 else 48)]))]⟩] [0, 0, 0, 0, 15, 15, 0, 127, 255, 0, 0]
    iterate 3 refine z_ ?_
    refine zz (fun _ h_ => ac (dK (fc_impl_bit (!ar.2.2.1)) enters_175) rfl) ?_
    iterate 2 refine z_ ?_
    refine zz (fun _ h_ => ac (dK (fc_impl_bit ar.2.2.1) enters_175) rfl) ?_
    refine zz (fun _ h_ => ac (Does.alloc 7 .u8 zer_5 rfl rfl (h_.fr 7 rfl) (nlr rfl)) rfl) <| zz (fun _ h_ => ac (Does.alloc 8 .u8 zer_5 rfl rfl (h_.fr 8 rfl) (nlr rfl)) rfl) ?_
    iterate 2 refine z_ ?_
    exact zN
    iterate 2 refine w_ ?_
    refine lc (dP 9 [(0, 7), (1, 3)] (fc_impl_agreed_eb (if (!ar.2.2.1) then 49 else 48) vs2 ((ar.1).toNat) (by omega) (bit_ned _)) enters_292) ?_
    iterate 8 refine w_ ?_
    refine lc (dP 11 [(0, 8), (1, 3)] (fc_impl_agreed_eb (if ar.2.2.1 then 49 else 48) ((agb vs2 ((ar.1).toNat) (if (!ar.2.2.1) then 49 else 48)).1) ((ar.2.2.2).toNat) (by rw [agb_len]; omega) (bit_ned _)) enters_292) ?_
    iterate 11 refine w_ ?_
    cases hb24 : ((agb vs2 ((ar.1).toNat) (if (!ar.2.2.1) then 49 else 48)).2.1)
    ·iterate 9 refine w_ ?_
     refine AC.wk (Wk.nilS 13 6 5 .u8 rfl (Fresh.of rfl) (nlr rfl)) <| AC.ret ?_
     subst hO
     have e25 : (false : Bool) = ((valsV n.toNat arcs sig).2) := by
      (rw [valsV_no (by rw [hA2, passV_bad hx18 (by first | exact stepV_lab1 (by assumption) (by assumption) | exact stepV_lab2 (by assumption) (by assumption) | exact stepV_un1 (by assumption) (by assumption))]; rfl)]; done)
     exact fin_is _ _ [(0, 13)] (Res.two rfl (Rs.tmp rfl) (Rs.tmp rfl)) ((congrArg (fun z_ => PV.tup [(false, [.ref 13]), (false, [dB z_])]) e25)) ⟨(entE (by (rw [valsV_no (by rw [hA2, passV_bad hx18 (by first | exact stepV_lab1 (by assumption) (by assumption) | exact stepV_lab2 (by assumption) (by assumption) | exact stepV_un1 (by assumption) (by assumption))]; rfl)]; done))), trivial⟩ rfl rfl
    ·iterate 4 refine w_ ?_
     cases hb26 : ((agb ((agb vs2 ((ar.1).toNat) (if (!ar.2.2.1) then 49 else 48)).1) ((ar.2.2.2).toNat) (if ar.2.2.1 then 49 else 48)).2.1)
     ·iterate 5 refine w_ ?_
      refine AC.wk (Wk.nilS 14 6 5 .u8 rfl (Fresh.of rfl) (nlr rfl)) <| AC.ret ?_
      subst hO
      have e27 : (false : Bool) = ((valsV n.toNat arcs sig).2) := by
       (rw [valsV_no (by rw [hA2, passV_bad hx18 (by first | exact stepV_lab1 (by assumption) (by assumption) | exact stepV_lab2 (by assumption) (by assumption) | exact stepV_un1 (by assumption) (by assumption))]; rfl)]; done)
      exact fin_is _ _ [(0, 14)] (Res.two rfl (Rs.tmp rfl) (Rs.tmp rfl)) ((congrArg (fun z_ => PV.tup [(false, [.ref 14]), (false, [dB z_])]) e27)) ⟨(entE (by (rw [valsV_no (by rw [hA2, passV_bad hx18 (by first | exact stepV_lab1 (by assumption) (by assumption) | exact stepV_lab2 (by assumption) (by assumption) | exact stepV_un1 (by assumption) (by assumption))]; rfl)]; done))), trivial⟩ rfl rfl
     ·iterate 5 refine w_ ?_
      cases hb28 : (ch2)
      ·iterate 3 refine w_ ?_
       cases hb29 : ((agb vs2 ((ar.1).toNat) (if (!ar.2.2.1) then 49 else 48)).2.2)
       ·iterate 4 refine w_ ?_
        refine AC.exit ?_
        refine (?_ : AC _ _ _ _ _)
        iterate 3 refine w_ ?_
        refine AL.nil <| lend ⟨i + 1, ((agb ((agb vs2 ((ar.1).toNat) (if (!ar.2.2.1) then 49 else 48)).1) ((ar.2.2.2).toNat) (if ar.2.2.1 then 49 else 48)).1), ((agb ((agb vs2 ((ar.1).toNat) (if (!ar.2.2.1) then 49 else 48)).1) ((ar.2.2.2).toNat) (if ar.2.2.1 then 49 else 48)).2.2), by omega, rfl, hA2.trans (congrArg (contV sig arcs (cnt0 vs)) (passV_ok hx18 (by first | exact stepV_lab (by assumption) (by assumption) (by assumption) | exact stepV_un (by assumption) (by assumption)) (by first | exact or_a (by assumption) | exact or_b (by assumption) (by assumption) | exact or_c (by assumption) (by assumption) | exact or_d (by assumption)))), (by (rw [agb_len, agb_len]; exact hL2)), (cnt_next hC (stepV_fine (by rw [hL2]; exact ⟨⟨hr1, hr2⟩, hr3, hr4⟩) (by first | exact stepV_lab (by assumption) (by assumption) (by assumption) | exact stepV_un (by assumption) (by assumption))) (by first | exact or_a (by assumption) | exact or_b (by assumption) (by assumption) | exact or_c (by assumption) (by assumption) | exact or_d (by assumption))), rfl⟩ (by omega) ?_
        exact Wk.of [] rfl ⟨rfl, rfl, rfl, rfl, rfl, rfl, rfl, rfl, trivial⟩ ⟨rfl, trivial⟩ rfl rfl
       ·iterate 4 refine w_ ?_
        refine AC.exit ?_
        refine (?_ : AC _ _ _ _ _)
        iterate 3 refine w_ ?_
        refine AL.nil <| lend ⟨i + 1, ((agb ((agb vs2 ((ar.1).toNat) (if (!ar.2.2.1) then 49 else 48)).1) ((ar.2.2.2).toNat) (if ar.2.2.1 then 49 else 48)).1), true, by omega, rfl, hA2.trans (congrArg (contV sig arcs (cnt0 vs)) (passV_ok hx18 (by first | exact stepV_lab (by assumption) (by assumption) (by assumption) | exact stepV_un (by assumption) (by assumption)) (by first | exact or_a (by assumption) | exact or_b (by assumption) (by assumption) | exact or_c (by assumption) (by assumption) | exact or_d (by assumption)))), (by (rw [agb_len, agb_len]; exact hL2)), (cnt_next hC (stepV_fine (by rw [hL2]; exact ⟨⟨hr1, hr2⟩, hr3, hr4⟩) (by first | exact stepV_lab (by assumption) (by assumption) (by assumption) | exact stepV_un (by assumption) (by assumption))) (by first | exact or_a (by assumption) | exact or_b (by assumption) (by assumption) | exact or_c (by assumption) (by assumption) | exact or_d (by assumption))), rfl⟩ (by omega) ?_
        exact Wk.of [] rfl ⟨rfl, rfl, rfl, rfl, rfl, rfl, rfl, rfl, trivial⟩ ⟨rfl, trivial⟩ rfl rfl
      ·iterate 7 refine w_ ?_
       refine AC.exit ?_
       refine (?_ : AC _ _ _ _ _)
       iterate 3 refine w_ ?_
       refine AL.nil <| lend ⟨i + 1, ((agb ((agb vs2 ((ar.1).toNat) (if (!ar.2.2.1) then 49 else 48)).1) ((ar.2.2.2).toNat) (if ar.2.2.1 then 49 else 48)).1), true, by omega, rfl, hA2.trans (congrArg (contV sig arcs (cnt0 vs)) (passV_ok hx18 (by first | exact stepV_lab (by assumption) (by assumption) (by assumption) | exact stepV_un (by assumption) (by assumption)) (by first | exact or_a (by assumption) | exact or_b (by assumption) (by assumption) | exact or_c (by assumption) (by assumption) | exact or_d (by assumption)))), (by (rw [agb_len, agb_len]; exact hL2)), (cnt_next hC (stepV_fine (by rw [hL2]; exact ⟨⟨hr1, hr2⟩, hr3, hr4⟩) (by first | exact stepV_lab (by assumption) (by assumption) (by assumption) | exact stepV_un (by assumption) (by assumption))) (by first | exact or_a (by assumption) | exact or_b (by assumption) (by assumption) | exact or_c (by assumption) (by assumption) | exact or_d (by assumption))), rfl⟩ (by omega) ?_
       exact Wk.of [] rfl ⟨rfl, rfl, rfl, rfl, rfl, rfl, rfl, rfl, trivial⟩ ⟨rfl, trivial⟩ rfl rfl

end Go.Proofs.YtjaadeknhofhpaaGreat
