/- Walks over abstract states: distances. -/
import Derived.Test.YtjaadeknhofhpaaGreatWz
import Derived.Test.YtjaadeknhofhpaaGreatAv
import Derived.DeepKeys3
set_option linter.unusedSimpArgs false
set_option linter.unusedVariables false
set_option linter.unusedSectionVars false
namespace Go.Proofs.YtjaadeknhofhpaaGreat
open Go.RowKit
set_option maxRecDepth 100000
set_option maxHeartbeats 4000000

def addN (l : List (List Int)) (e : Int × Int) : List (List Int) := l.modify e.1.toNat (· ++ [e.2])
/-- For each state, the states that come next. -/
def nextV (n : Nat) (es : List (Int × Int)) : List (List Int) := es.foldl addN (List.replicate n [])
def bfT (o : Int) : List Int → List Int × List Int → List Int × List Int
  | [], st => st
  | t :: ts, st => if (st.1[t.toNat]?).getD 0 < 0 then bfT o ts (st.1.set t.toNat ((st.1[o.toNat]?).getD 0 + 1), st.2 ++ [t]) else bfT o ts st
def bfK (nx : List (List Int)) : Nat → Nat → List Int × List Int → List Int
  | 0, _, st => st.1
  | f + 1, k, st => match st.2[k]? with
    | none => st.1
    | some o => bfK nx f (k + 1) (bfT o ((nx[o.toNat]?).getD []) st)
def distV (n : Nat) (es : List (Int × Int)) : List Int := bfK (nextV n es) (n + 1) 0 ((List.replicate n (-1)).set 0 0, [0])
def cntN (l : List Int) : Nat := (l.filter (· < 0)).length
structure BI (n : Nat) (es : List (Int × Int)) (st : List Int × List Int) : Prop where
  len : st.1.length = n
  cnt : cntN st.1 + st.2.length = n
  q : ∀ x ∈ st.2, (0 ≤ x ∧ x < n) ∧ Rch es x ∧ ∃ v, st.1[x.toNat]? = some v ∧ 0 ≤ v
  nn : ∀ (i : Nat) v, st.1[i]? = some v → 0 ≤ v → (i : Int) ∈ st.2
  rng : ∀ v ∈ st.1, -1 ≤ v ∧ v ≤ (st.2.length : Int)
section
variable {n k i f : Nat} {es : List (Int × Int)} {e : Int × Int} {l ts ys q out : List Int} {o t c w : Int} {nx : List (List Int)} {st : List Int × List Int}
theorem modify_set {α : Type _} {l : List α} {i : Nat} {x : α} {g : α → α} (h : l[i]? = some x) : l.set i (g x) = l.modify i g := by
  apply List.ext_getElem?
  intro j
  rw [List.getElem?_modify]
  by_cases e : i = j
  · subst e; rw [List.getElem?_set_self (List.getElem?_eq_some_iff.1 h).1, h]; simp
  · rw [List.getElem?_set_ne e]; simp [e]
theorem foldN_len {l : List (List Int)} : (es.foldl addN l).length = l.length := by
  induction es generalizing l with
  | nil => rfl
  | cons e es ih => rw [List.foldl_cons, ih]; simp [addN]
theorem nextV_len : (nextV n es).length = n := by unfold nextV; rw [foldN_len]; simp
theorem nextV_step (hx : es[k]? = some e) (hy : (nextV n (es.take k))[e.1.toNat]? = some ys) : (nextV n (es.take k)).set e.1.toNat (ys ++ [e.2]) = nextV n (es.take (k + 1)) := by
  rw [modify_set (g := (· ++ [e.2])) hy, take_snoc hx]
  simp [nextV, List.foldl_append, addN]
theorem foldN_mem {l : List (List Int)} {i : Nat} {t : Int} (hr : ∀ e ∈ es, 0 ≤ e.1) : t ∈ ((es.foldl addN l)[i]?).getD [] ↔ t ∈ (l[i]?).getD [] ∨ (i < l.length ∧ ((i : Int), t) ∈ es) := by
  induction es generalizing l with
  | nil => simp
  | cons e es ih =>
    rw [List.foldl_cons, ih (fun e he => hr e (List.mem_cons_of_mem _ he))]
    have h0 := hr e (List.mem_cons_self ..)
    have hl : (addN l e).length = l.length := by simp [addN]
    rw [hl]
    have h1 : t ∈ ((addN l e)[i]?).getD [] ↔ t ∈ (l[i]?).getD [] ∨ (i < l.length ∧ ((i : Int), t) = e) := by
      unfold addN
      rw [List.getElem?_modify]
      by_cases e2 : e.1.toNat = i
      · cases h : l[i]? with
        | none =>
          have := List.getElem?_eq_none_iff.1 h
          simp [e2]
          intro h3; omega
        | some x =>
          have := (List.getElem?_eq_some_iff.1 h).1
          simp [e2, this]
          have : ((i : Int), t) = e ↔ t = e.2 := ⟨fun h => by rw [← h], fun h => Prod.ext (by show (i : Int) = e.1; omega) h⟩
          rw [this]
      · simp [e2]
        intro _ h3
        exact absurd (show e.1.toNat = i by rw [← h3]; rfl) e2
    rw [h1, List.mem_cons]
    constructor
    · rintro ((h | ⟨h, h2⟩) | ⟨h, h2⟩)
      · exact .inl h
      · exact .inr ⟨h, .inl h2⟩
      · exact .inr ⟨h, .inr h2⟩
    · rintro (h | ⟨h, h2 | h2⟩)
      · exact .inl (.inl h)
      · exact .inl (.inr ⟨h, h2⟩)
      · exact .inr ⟨h, h2⟩
theorem nextV_mem {i : Nat} (hr : ∀ e ∈ es, InE n e) (hy : (nextV n es)[i]? = some ys) : t ∈ ys ↔ ((i : Int), t) ∈ es := by
  have h := foldN_mem (l := List.replicate n []) (i := i) (t := t) (es := es) (fun e he => (hr e he).1.1)
  have hi : i < n := by have := (List.getElem?_eq_some_iff.1 hy).1; rwa [nextV_len] at this
  change t ∈ ((nextV n es)[i]?).getD [] ↔ _ at h
  rw [hy] at h
  simpa [hi] using h
theorem nextV_few {i : Nat} (hy : (nextV n es)[i]? = some ys) : ys.length ≤ es.length := by
  have : ∀ (l : List (List Int)) (i : Nat) (ys : List Int), (es.foldl addN l)[i]? = some ys → ys.length ≤ ((l[i]?).getD []).length + es.length := by
    clear hy
    induction es with
    | nil => intro l i ys h; simp at h; simp [h]
    | cons e es ih =>
      intro l i ys h
      rw [List.foldl_cons] at h
      have := ih _ _ _ h
      have h2 : (((addN l e)[i]?).getD []).length ≤ ((l[i]?).getD []).length + 1 := by
        unfold addN
        rw [List.getElem?_modify]
        cases hl : l[i]? with
        | none => simp
        | some x => by_cases e2 : e.1.toNat = i <;> simp [e2]
      rw [List.length_cons]; omega
  have h := this _ _ _ hy
  have h0 : (((List.replicate n ([] : List Int))[i]?).getD []).length = 0 := by
    rw [List.getElem?_replicate]; split <;> rfl
  omega
theorem bfT_hit (hx : ts[i]? = some t) (hc : out[t.toNat]? = some c) (hn : c < 0) (ho : out[o.toNat]? = some w) : bfT o (ts.drop i) (out, q) = bfT o (ts.drop (i + 1)) (out.set t.toNat (w + 1), q ++ [t]) := by
  rw [drop_cons hx, bfT]
  simp [hc, ho, hn]
theorem bfT_skip (hx : ts[i]? = some t) (hc : out[t.toNat]? = some c) (hn : ¬ c < 0) : bfT o (ts.drop i) (out, q) = bfT o (ts.drop (i + 1)) (out, q) := by
  rw [drop_cons hx, bfT]
  simp only [hc, Option.getD_some, if_neg hn]
theorem bfT_end (h : ts.length ≤ i) : bfT o (ts.drop i) st = st := by rw [List.drop_eq_nil_of_le h, bfT]
theorem bfK_in (hq : q[k]? = some o) (hy : nx[o.toNat]? = some ts) (hk : k < n + 1) : bfK nx (n + 1 - k) k (out, q) = bfK nx (n + 1 - (k + 1)) (k + 1) (bfT o (ts.drop 0) (out, q)) := by
  rw [show n + 1 - k = (n + 1 - (k + 1)) + 1 by omega, bfK]
  simp [hq, hy]
theorem bfK_out (h : q.length ≤ k) : bfK nx f k (out, q) = out := by
  cases f with
  | zero => rfl
  | succ f => rw [bfK]; simp [List.getElem?_eq_none h]
theorem cntN_set {l : List Int} (h : l[i]? = some c) (hc : c < 0) (hw : 0 ≤ w) : cntN (l.set i w) + 1 = cntN l := by
  induction l generalizing i with
  | nil => simp at h
  | cons x l ih =>
    cases i with
    | zero =>
      simp only [List.getElem?_cons_zero, Option.some.injEq] at h
      subst h
      simp [cntN, hc, show ¬ w < 0 by omega]
    | succ i =>
      have := ih (i := i) (by simpa using h)
      simp only [cntN, List.set_cons_succ, List.filter_cons] at this ⊢
      split <;> simp_all
theorem BI.step (h : BI n es (out, q)) (hr : ∀ e ∈ es, InE n e) (ho : o ∈ q) (he : (o, t) ∈ es) (hc : out[t.toNat]? = some c) (hn : c < 0) (hw : out[o.toNat]? = some w) : BI n es (out.set t.toNat (w + 1), q ++ [t]) := by
  obtain ⟨h1, h2, h3, h4, h5⟩ := h
  have hw0 : 0 ≤ w := by
    obtain ⟨_, _, v, h6, h7⟩ := h3 o ho
    have h6 : out[o.toNat]? = some v := h6
    rw [hw] at h6; cases h6; exact h7
  have hw1 := h5 w (List.mem_of_getElem? hw)
  have htl := (List.getElem?_eq_some_iff.1 hc).1
  obtain ⟨_, ht0, ht1⟩ := hr _ he
  have ht0 : 0 ≤ t := ht0
  have ht1 : t < (n : Int) := ht1
  refine ⟨by simpa using h1, ?_, ?_, ?_, ?_⟩
  · have h6 := cntN_set hc hn (show 0 ≤ w + 1 by omega)
    have h2 : cntN out + q.length = n := h2
    show cntN (out.set t.toNat (w + 1)) + (q ++ [t]).length = n
    rw [List.length_append, List.length_singleton]; omega
  · intro x hx
    show (0 ≤ x ∧ x < n) ∧ Rch es x ∧ ∃ v, (out.set t.toNat (w + 1))[x.toNat]? = some v ∧ 0 ≤ v
    rcases List.mem_append.1 hx with hx | hx
    · obtain ⟨h6, h7, v, h8, h9⟩ := h3 x hx
      refine ⟨h6, h7, ?_⟩
      by_cases e2 : t.toNat = x.toNat
      · exact ⟨w + 1, by rw [← e2, List.getElem?_set_self htl], by omega⟩
      · exact ⟨v, by rw [List.getElem?_set_ne e2]; exact h8, h9⟩
    · rw [List.mem_singleton] at hx
      subst hx
      exact ⟨⟨ht0, ht1⟩, .step (h3 o ho).2.1 he, w + 1, List.getElem?_set_self htl, by omega⟩
  · intro i v hv h0
    have hv : (out.set t.toNat (w + 1))[i]? = some v := hv
    show (i : Int) ∈ q ++ [t]
    by_cases e2 : t.toNat = i
    · exact List.mem_append.2 (.inr (by rw [List.mem_singleton]; omega))
    · rw [List.getElem?_set_ne e2] at hv
      exact List.mem_append.2 (.inl (h4 i v hv h0))
  · intro v hv
    show -1 ≤ v ∧ v ≤ ((q ++ [t]).length : Int)
    rw [List.length_append, List.length_singleton]
    have hw1' : w ≤ (q.length : Int) := hw1.2
    rcases List.mem_or_eq_of_mem_set hv with h6 | h6
    · have h7 := h5 v h6
      have h8 : v ≤ (q.length : Int) := h7.2
      omega
    · omega
theorem BI.q_le (h : BI n es (out, q)) : q.length ≤ n := by have := h.cnt; simp only at this; omega
theorem BI.at_ (h : BI n es (out, q)) (hq : q[k]? = some o) : (0 ≤ o ∧ o < n) ∧ o ∈ q := ⟨(h.q o (List.mem_of_getElem? hq)).1, List.mem_of_getElem? hq⟩
theorem bfT_inv (hr : ∀ e ∈ es, InE n e) : ∀ (ts : List Int) (st : List Int × List Int), BI n es st → o ∈ st.2 → (∀ t ∈ ts, (o, t) ∈ es) → BI n es (bfT o ts st) ∧ (∃ r, (bfT o ts st).2 = st.2 ++ r) ∧ ∀ t ∈ ts, t ∈ (bfT o ts st).2
  | [], st, h, _, _ => ⟨h, ⟨[], by simp [bfT]⟩, fun t ht => by cases ht⟩
  | t :: ts, st, h, ho, he => by
    have he1 := he t (List.mem_cons_self ..)
    obtain ⟨_, ht0, ht1⟩ := hr _ he1
    have ht0 : 0 ≤ t := ht0
    have ht1 : t < (n : Int) := ht1
    obtain ⟨c, hc⟩ : ∃ c, st.1[t.toNat]? = some c := ⟨_, List.getElem?_eq_getElem (by rw [h.len]; omega)⟩
    obtain ⟨w, hw, _⟩ := (h.q o ho).2.2
    rw [bfT, hc, hw]
    simp only [Option.getD_some]
    split
    · rename_i hn
      have h2 := BI.step (out := st.1) (q := st.2) h hr ho he1 hc hn hw
      obtain ⟨g1, ⟨r, g2⟩, g3⟩ := bfT_inv hr ts _ h2 (List.mem_append.2 (.inl ho)) (fun t ht => he t (List.mem_cons_of_mem _ ht))
      refine ⟨g1, ⟨[t] ++ r, by rw [g2]; simp⟩, fun x hx => ?_⟩
      rcases List.mem_cons.1 hx with rfl | hx
      · rw [g2]; simp
      · exact g3 x hx
    · rename_i hn
      obtain ⟨g1, ⟨r, g2⟩, g3⟩ := bfT_inv hr ts st h ho (fun t ht => he t (List.mem_cons_of_mem _ ht))
      refine ⟨g1, ⟨r, g2⟩, fun x hx => ?_⟩
      rcases List.mem_cons.1 hx with rfl | hx
      · have := h.nn _ _ hc (by omega)
        rw [show ((x.toNat : Nat) : Int) = x by omega] at this
        rw [g2]; exact List.mem_append.2 (.inl this)
      · exact g3 x hx
theorem bfK_inv (hr : ∀ e ∈ es, InE n e) : ∀ (f k : Nat) (st : List Int × List Int), BI n es st → n + 1 ≤ f + k → k ≤ st.2.length → (∀ j o, j < k → st.2[j]? = some o → ∀ t, (o, t) ∈ es → t ∈ st.2) →
    ∃ r, BI n es (bfK (nextV n es) f k st, st.2 ++ r) ∧ ∀ o ∈ st.2 ++ r, ∀ t, (o, t) ∈ es → t ∈ st.2 ++ r
  | 0, k, st, h, hf, hk, _ => by have := BI.q_le (out := st.1) (q := st.2) h; omega
  | f + 1, k, st, h, hf, hk, hcl => by
    rw [bfK]
    cases hq : st.2[k]? with
    | none =>
      refine ⟨[], by simpa using h, fun o ho t ht => ?_⟩
      rw [List.append_nil] at ho ⊢
      obtain ⟨j, hj⟩ := List.mem_iff_getElem?.1 ho
      have h1 := (List.getElem?_eq_some_iff.1 hj).1
      have h2 := List.getElem?_eq_none_iff.1 hq
      exact hcl j o (by omega) hj t ht
    | some o =>
      simp only
      have ho := List.mem_of_getElem? hq
      obtain ⟨ho0, ho1⟩ := (h.q o ho).1
      obtain ⟨ys, hy⟩ : ∃ ys, (nextV n es)[o.toNat]? = some ys := ⟨_, List.getElem?_eq_getElem (by rw [nextV_len]; omega)⟩
      rw [hy, Option.getD_some]
      have hm : ∀ t, t ∈ ys ↔ (o, t) ∈ es := fun t => by
        have := nextV_mem (t := t) hr hy
        rwa [show ((o.toNat : Nat) : Int) = o by omega] at this
      obtain ⟨g1, ⟨r, g2⟩, g3⟩ := bfT_inv hr ys st h ho (fun t ht => (hm t).1 ht)
      have hkl := (List.getElem?_eq_some_iff.1 hq).1
      obtain ⟨r2, k1, k2⟩ := bfK_inv hr f (k + 1) (bfT o ys st) g1 (by omega) (by rw [g2, List.length_append]; omega) (fun j o' hj hjo t ht => by
        rw [g2] at hjo ⊢
        rw [List.getElem?_append_left (by omega)] at hjo
        by_cases e2 : j = k
        · subst e2
          rw [hq] at hjo; cases hjo
          rw [← g2]; exact g3 t ((hm t).2 ht)
        · exact List.mem_append.2 (.inl (hcl j o' (by omega) hjo t ht)))
      rw [g2, List.append_assoc] at k1 k2
      exact ⟨r ++ r2, k1, k2⟩
theorem BI.start (hn : 1 ≤ n) : BI n es ((List.replicate n (-1)).set 0 0, [0]) := by
  have h0 : (List.replicate n (-1 : Int))[0]? = some (-1) := by rw [List.getElem?_replicate, if_pos (by omega)]
  refine ⟨by simp, ?_, ?_, ?_, ?_⟩
  · have h1 := cntN_set (w := 0) h0 (by decide) (by decide)
    have h2 : cntN (List.replicate n (-1 : Int)) = n := by simp [cntN]
    show cntN ((List.replicate n (-1)).set 0 0) + 1 = n
    omega
  · intro x hx
    rw [List.mem_singleton.1 hx]
    exact ⟨⟨by omega, by omega⟩, .zero, 0, List.getElem?_set_self (by simp; omega), by decide⟩
  · intro i v hv h1
    have hv : ((List.replicate n (-1 : Int)).set 0 0)[i]? = some v := hv
    by_cases e2 : 0 = i
    · subst e2; simp
    · rw [List.getElem?_set_ne e2, List.getElem?_replicate] at hv
      split at hv
      · cases hv; omega
      · cases hv
  · intro v hv
    show -1 ≤ v ∧ v ≤ 1
    rcases List.mem_or_eq_of_mem_set hv with h | h
    · rw [List.eq_of_mem_replicate h]; omega
    · omega
theorem distV_inv (hn : 1 ≤ n) (hr : ∀ e ∈ es, InE n e) : ∃ r, BI n es (distV n es, [0] ++ r) ∧ ∀ o ∈ [0] ++ r, ∀ t, (o, t) ∈ es → t ∈ [0] ++ r :=
  bfK_inv hr (n + 1) 0 _ (BI.start hn) (by omega) (Nat.zero_le _) (fun j o hj => absurd hj (Nat.not_lt_zero j))
theorem dist_all [Decidable (AllR n es)] (hn : 1 ≤ n) (hr : ∀ e ∈ es, InE n e) : (!((distV n es).any fun y => decide (-1 = y))) = decide (AllR n es) := by
  obtain ⟨r, h, hc⟩ := distV_inv hn hr
  have hq : ∀ u, Rch es u → u ∈ [0] ++ r := fun u hu => by
    induction hu with
    | zero => simp
    | step _ he ih => exact hc _ ih _ he
  rw [Bool.eq_iff_iff, decide_eq_true_eq, Bool.not_eq_true', List.any_eq_false]
  constructor
  · intro g k hk
    have hl : k < (distV n es).length := by have := h.len; simp only at this; omega
    have h1 := List.getElem_mem hl
    have h2 := g _ h1
    have h3 := (h.rng _ h1).1
    have h4 := h.nn k _ (List.getElem?_eq_getElem hl) (by simp only [decide_eq_true_eq] at h2; omega)
    exact (h.q _ h4).2.1
  · intro g x hx
    obtain ⟨k, hk⟩ := List.mem_iff_getElem?.1 hx
    have hl := (List.getElem?_eq_some_iff.1 hk).1
    have hl2 : k < n := by have := h.len; simp only at this; omega
    obtain ⟨_, _, v, h5, h6⟩ := h.q _ (hq _ (g k hl2))
    have h5 : (distV n es)[((k : Int)).toNat]? = some v := h5
    rw [show ((k : Int)).toNat = k by omega, hk] at h5
    cases h5
    simp only [decide_eq_true_eq]; omega
end
theorem cellsS {xs : List (List Int)} {i : Nat} {ys : List Int} (h : xs[i]? = some ys) : (cellsL (.sl 3 .int) xs)[i * 1 + 0]? = some (.dat (.sl 3 .int) ys) := cellsL_get (e := .sl 3 .int) (j := 0) h rfl
theorem cellsS_set {xs : List (List Int)} {i : Nat} {x ys : List Int} (h : xs[i]? = some x) : (cellsL (.sl 3 .int) xs).set (i * 1 + 0) (.dat (.sl 3 .int) ys) = cellsL (.sl 3 .int) (xs.set i ys) :=
  (cellsL_set (e := .sl 3 .int) (j := 0) (x' := ys) h rfl (by decide)).symm

theorem fc_impl_distances (n : Int) (l : List (Int × Int)) (start : Int) (hn : 1 ≤ n ∧ n ≤ 300) (hl : ∀ e ∈ l, InE n.toNat e) (hll : l.length ≤ 4000) (hst : start = 0) : FC Tryz.prog 179 [(false, [dI n]), (false, [.dat (.sl 289 (.pr .int .int)) l]), (false, [dI start])] [] 0 (Own1 3 .int (distV n.toNat l)) := by
 refine FC.go Tryz.func179 rfl rfl Tryz.ntmps179 fun O_ hO w0_ N0_ X_ h0_ f0_ => ?_
 refine AC.fact (fact_int (x := .tmp 0) (Evl.tmp rfl)) fun hi1 => AC.fact (fact_int (x := .tmp 2) (Evl.tmp rfl)) fun hi2 => ?_
 iterate 3 refine w_ ?_
 apply dW [⟨some 15, lR 0, [(0, some (.arr 3 .int ([(-1)])))]⟩, io 16 (lI n), ⟨some 17, lR 1, [(1, some (.arr 3 .int (List.replicate n.toNat (-1))))]⟩, io 18 (lI n), ⟨some 19, lR 2, [(2, some (.arr 95 (.sl 3 .int) (List.replicate (n).toNat (Ty.zero (.sl 3 .int)))))]⟩, io 7 (lR 1), io 8 _] [0, 1, 0, 7, 7, 24, 0]
 refine zz (fun _ h_ => ac (dBs 0 (e := .int) zer_3) rfl) ?_
 refine z_ ?_
 refine zz (fun _ h_ => ac (dOB 1 (fc_slices_Repeat_int_int ([(-1)]) n (-1) rfl (by omega)) enters_270) rfl) ?_
 refine z_ ?_
 refine zz (fun _ h_ => ac (Does.makeI 2 (e := (.sl 3 .int)) (n := n) (h_.v rfl) (h_.v rfl) und_79 mki_95 rfl (by omega) (by omega) (by omega) rfl (h_.fr 2 rfl) (nlr rfl)) rfl) ?_
 iterate 2 refine z_ ?_
 exact zN
 iterate 3 refine w_ ?_
 refine AL.fact (fact_len (x := .tmp 20) (Evl.tmp rfl)) fun hl3 => ?_
 iterate 4 refine w_ ?_
 refine AC.loopW (fun m_ s_ => ∃ (k : Nat), k ≤ l.length ∧ m_ = l.length - k ∧ s_ = ⟨[(2, lI start), (6, lf (.val (.slice none 0 0))), (7, lR 1), (8, lR 3), (20, lf (.dat (.sl 289 (.pr .int .int)) l)), (21, lI (l.length : Int)), (22, lI (k : Int))], [(1, some (.arr 3 .int (List.replicate n.toNat (-1)))), (3, some (.arr 95 (.sl 3 .int) (nextV n.toNat (l.take k))))]⟩) ⟨0, Nat.zero_le _, rfl, rfl⟩ ?_ ?_
 · exact Wk.of [(3, 2)] rfl ⟨rfl, rfl, rfl, rfl, rfl, rfl, rfl, trivial⟩ ⟨rfl, (entE (by simp only [List.take_zero]; rfl)), trivial⟩ rfl rfl
 rintro m_ s_ ⟨k, hk4, hm5, rfl⟩
 iterate 4 refine w_ ?_
 cases hb6 : (decide ((k : Int) < (l.length : Int)))
 ·have hb6' := of_decide_eq_false hb6
  refine w_ ?_
  refine AC.exit ?_
  refine (?_ : AC _ _ _ _ _)
  refine AC.seq ?_
  have hke : nextV n.toNat (l.take k) = nextV n.toNat l := by rw [take_end (by omega)]
  refine AC.wk (Wk.freezeS 8 (q := 3) (e := (.sl 3 .int)) (xs := nextV n.toNat (l.take k)) rfl rfl) ?_
  rw [hke]
  have hrl : (List.replicate n.toNat (-1 : Int)).length = n.toNat := List.length_replicate ..
  have hnl := nextV_len (n := n.toNat) (es := l)
  iterate 4 refine w_ ?_
  obtain ⟨x7, hx8⟩ : ∃ z, (List.replicate n.toNat (-1))[(start).toNat]? = some z := ⟨_, List.getElem?_eq_getElem (by omega)⟩
  refine lc (Does.storeI (e := .int) (z' := 0) (Evl.tmp rfl) rfl hx8 rfl (Evl.ev (Evl.int rfl)) rfl tsh_3 rfl rfl) ?_
  iterate 3 refine w_ ?_
  refine lc (dBs 4 (e := .int) zer_3) ?_
  iterate 7 refine w_ ?_
  refine AC.loopW (fun m_ s_ => ∃ (k : Nat) (out : List Int) (q : List Int), k ≤ n.toNat ∧ m_ = n.toNat - k ∧ (distV n.toNat l = bfK (nextV n.toNat l) (n.toNat + 1 - k) k (out, q)) ∧ (BI n.toNat l (out, q)) ∧ s_ = ⟨[(6, lf (.val (.slice none 0 0))), (7, lR 5), (8, lf (.dat (.sl 95 (.sl 3 .int)) (nextV n.toNat l))), (11, lR 6), (12, lI (k : Int))], [(5, some (.arr 3 .int out)), (6, some (.arr 3 .int q))]⟩) ⟨0, (List.replicate n.toNat (-1)).set ((start).toNat) 0, [start], Nat.zero_le _, rfl, (by rw [hst]; rfl), (by rw [hst]; exact BI.start (by omega)), rfl⟩ ?_ ?_
  · exact Wk.of [(5, 1), (6, 4)] rfl ⟨rfl, rfl, rfl, rfl, rfl, trivial⟩ ⟨(entE (by first | rfl | simp)), (entE (by first | rfl | simp)), trivial⟩ rfl rfl
  rintro m_ s_ ⟨k, out, q, hk9, hm10, hA, hI, rfl⟩
  have hqn := hI.q_le
  have hql : out.length = n.toNat := hI.len
  iterate 7 refine w_ ?_
  cases hb11 : (decide ((k : Int) < (q.length : Int)))
  ·have hb11' := of_decide_eq_false hb11
   refine w_ ?_
   refine AC.exit ?_
   refine (?_ : AC _ _ _ _ _)
   iterate 4 refine w_ ?_
   refine AC.ret ?_
   subst hO
   refine fin_own (e := .int) (xs := out) (Res.one rfl (Rs.tmp rfl)) rfl ?_
   rw [hA, bfK_out (by omega)]
  ·have hb11' := of_decide_eq_true hb11
   iterate 9 refine w_ ?_
   obtain ⟨o, hx13⟩ : ∃ z, q[k]? = some z := ⟨_, List.getElem?_eq_getElem (by omega)⟩
   have hok0 := hI.at_ hx13
   refine w_ ?_
   refine AL.fact (fact_int (x := .tmp 55) (Evl.tmp rfl)) fun hi14 => ?_
   obtain ⟨ts, hx16⟩ : ∃ z, (nextV n.toNat l)[(o).toNat]? = some z := ⟨_, List.getElem?_eq_getElem (by omega)⟩
   have htm := nextV_few hx16
   have hmem : ∀ t ∈ ts, (o, t) ∈ l := fun t ht => by have := (nextV_mem hl hx16).1 ht; rwa [show ((o.toNat : Nat) : Int) = o by omega] at this
   iterate 2 refine w_ ?_
   refine AL.fact (fact_len (x := .tmp 57) (Evl.tmp rfl)) fun hl17 => ?_
   iterate 4 refine w_ ?_
   refine AC.loopW (fun m_ s_ => ∃ (i : Nat) (out2 : List Int) (q2 : List Int), i ≤ ts.length ∧ m_ = ts.length - i ∧ (distV n.toNat l = bfK (nextV n.toNat l) (n.toNat + 1 - (k + 1)) (k + 1) (bfT o (ts.drop i) (out2, q2))) ∧ (BI n.toNat l (out2, q2)) ∧ (q2[k]? = some o) ∧ s_ = ⟨[(6, lf (.val (.slice none 0 0))), (7, lR 7), (8, lf (.dat (.sl 95 (.sl 3 .int)) (nextV n.toNat l))), (11, lR 8), (12, lI (k : Int)), (45, lI (k : Int)), (47, lI (q.length : Int)), (48, lB true), (51, lf (.dat (.sl 95 (.sl 3 .int)) (nextV n.toNat l))), (53, lI (k : Int)), (55, lI o), (56, lf (.elt (.sl 3 .int) ts 0)), (57, lf (.dat (.sl 3 .int) ts)), (58, lI (ts.length : Int)), (59, lI (i : Int))], [(7, some (.arr 3 .int out2)), (8, some (.arr 3 .int q2))]⟩) ⟨0, out, q, Nat.zero_le _, rfl, (hA.trans (bfK_in hx13 hx16 (by omega))), hI, hx13, rfl⟩ ?_ ?_
   · exact Wk.of [(7, 5), (8, 6)] rfl ⟨rfl, rfl, rfl, rfl, rfl, rfl, rfl, rfl, rfl, rfl, rfl, rfl, rfl, rfl, rfl, trivial⟩ ⟨rfl, rfl, trivial⟩ rfl rfl
   rintro m_ s_ ⟨i, out2, q2, hk18, hm19, hA2, hI2, hQ2, rfl⟩
   have hqn2 := hI2.q_le
   have hql2 : out2.length = n.toNat := hI2.len
   have hok := hI2.at_ hQ2
   have hkl := (List.getElem?_eq_some_iff.1 hQ2).1
   iterate 4 refine w_ ?_
   cases hb20 : (decide ((i : Int) < (ts.length : Int)))
   ·have hb20' := of_decide_eq_false hb20
    refine w_ ?_
    refine AC.exit ?_
    refine (?_ : AC _ _ _ _ _)
    iterate 4 refine w_ ?_
    refine AL.nil <| lend ⟨k + 1, out2, q2, by omega, rfl, (by rw [hA2, bfT_end (by omega)]), hI2, rfl⟩ (by omega) ?_
    exact Wk.of [(5, 7), (6, 8)] rfl ⟨rfl, rfl, rfl, rfl, rfl, trivial⟩ ⟨rfl, rfl, trivial⟩ rfl rfl
   ·have hb20' := of_decide_eq_true hb20
    iterate 5 refine w_ ?_
    obtain ⟨x21, hx22⟩ : ∃ z, ts[i]? = some z := ⟨_, List.getElem?_eq_getElem (by omega)⟩
    obtain ⟨_, ht0x21, ht1x21⟩ := hl _ (hmem _ (List.mem_of_getElem? hx22))
    have ht0x21 : 0 ≤ x21 := ht0x21
    have ht1x21 : x21 < (n.toNat : Int) := ht1x21
    iterate 2 refine w_ ?_
    refine AL.fact (fact_int (x := .tmp 62) (Evl.tmp rfl)) fun hi23 => ?_
    iterate 6 refine w_ ?_
    obtain ⟨x24, hx25⟩ : ∃ z, out2[(x21).toNat]? = some z := ⟨_, List.getElem?_eq_getElem (by omega)⟩
    have hrgx24 : -1 ≤ x24 ∧ x24 ≤ (q2.length : Int) := hI2.rng _ (List.mem_of_getElem? hx25)
    refine w_ ?_
    refine AL.fact (fact_int (x := .tmp 66) (Evl.tmp rfl)) fun hi26 => ?_
    iterate 2 refine w_ ?_
    cases hb27 : (decide (x24 < 0))
    ·have hb27' := of_decide_eq_false hb27
     refine w_ ?_
     refine AC.skip ?_
     refine (?_ : AC _ _ _ _ _)
     iterate 3 refine w_ ?_
     refine AL.nil <| lend ⟨i + 1, out2, q2, by omega, rfl, (by (rw [hA2, bfT_skip hx22 (by assumption) (by assumption)]; done)), (by exact hI2), (by exact hQ2), rfl⟩ (by omega) ?_
     exact Wk.of [] rfl ⟨rfl, rfl, rfl, rfl, rfl, rfl, rfl, rfl, rfl, rfl, rfl, rfl, rfl, rfl, rfl, trivial⟩ ⟨rfl, rfl, trivial⟩ rfl rfl
    ·have hb27' := of_decide_eq_true hb27
     iterate 10 refine w_ ?_
     obtain ⟨x28, hx29⟩ : ∃ z, out2[(o).toNat]? = some z := ⟨_, List.getElem?_eq_getElem (by omega)⟩
     have hrgx28 : -1 ≤ x28 ∧ x28 ≤ (q2.length : Int) := hI2.rng _ (List.mem_of_getElem? hx29)
     refine w_ ?_
     refine AL.fact (fact_int (x := .tmp 76) (Evl.tmp rfl)) fun hi30 => ?_
     iterate 2 refine w_ ?_
     refine lc (Does.storeI (e := .int) (z' := x28 + 1) (Evl.tmp rfl) rfl hx25 rfl (Ev.tmp rfl) rfl tsh_3 rfl rfl) ?_
     iterate 4 refine w_ ?_
     refine lc (dBs 9 (e := .int) zer_3) ?_
     refine lc (dA 10 elb_3) ?_
     refine w_ ?_
     refine AL.nil ?_
     refine (?_ : AC _ _ _ _ _)
     iterate 3 refine w_ ?_
     refine AL.nil ?_
     refine lend ⟨i + 1, (out2.set ((x21).toNat) (x28 + 1)), (q2 ++ ([x21])), by omega, rfl, (by (rw [hA2, bfT_hit hx22 (by assumption) (by assumption) (by assumption)]; done)), (by exact hI2.step hl hok.2 (hmem _ (List.mem_of_getElem? hx22)) (by assumption) (by assumption) (by assumption)), (by (rw [List.getElem?_append_left hkl]; exact hQ2)), rfl⟩ (by omega) ?_
     exact Wk.of [(8, 10)] rfl ⟨rfl, rfl, rfl, rfl, rfl, rfl, rfl, rfl, rfl, rfl, rfl, rfl, rfl, rfl, rfl, trivial⟩ ⟨(entE (by first | rfl | simp)), (entE (by first | rfl | simp)), trivial⟩ rfl rfl
 ·have hb6' := of_decide_eq_true hb6
  iterate 5 refine w_ ?_
  obtain ⟨e, hx32⟩ : ∃ z, l[k]? = some z := ⟨_, List.getElem?_eq_getElem (by omega)⟩
  iterate 2 refine w_ ?_
  refine lc (xal 11 (.pr .int .int) zer_289) ?_
  iterate 2 refine w_ ?_
  have hin := hl _ (List.mem_of_getElem? hx32)
  have hn1 := nextV_len (n := n.toNat) (es := l.take k)
  obtain ⟨⟨he1, he2⟩, he3, he4⟩ := hin
  obtain ⟨ys, hys⟩ : ∃ z, (nextV n.toNat (l.take k))[e.1.toNat]? = some z := ⟨_, List.getElem?_eq_getElem (by omega)⟩
  have hyf := nextV_few hys
  have hltk : (l.take k).length ≤ l.length := by simp only [List.length_take]; omega
  have hcA := cellsS hys
  have hpA : e.1.toNat * 1 + 0 < (cellsL (.sl 3 .int) (nextV n.toNat (l.take k))).length := by rw [cellsL_len]; show e.1.toNat * 1 + 0 < (nextV n.toNat (l.take k)).length * 1; omega
  refine AC.wk (Wk.open (q := 3) rfl (by omega)) <| AC.wk (Wk.splitX 12 (q := 3) (p := e.1.toNat * 1 + 0) (E' := 3) (e' := .int) (ys := ys) rfl (hcA) (Fresh.of rfl) (Nat.le_of_ble_eq_true rfl)) ?_
  apply dV [io 26 _, io 27 _, io 28 _, io 29 _, io 30 _, io 31 _, io 32 (lf (.ept 3 1 ((e.1).toNat) 0)), io 33 (lR 12), io 34 _, io 35 _, ⟨some 36, lR 13, [(13, some (.arr 3 .int ([e.2])))]⟩, ⟨some 37, lR 14, [(14, some (.arr 3 .int (ys ++ ([e.2])))), (12, none), (13, none)]⟩, io 38 (lf (.ept 3 1 ((e.1).toNat) 0)), ⟨none, lf (.val undef), [(3, some (.obx 95 1 ((nextV n.toNat (l.take k)).length) (cellsL (.sl 3 .int) (nextV n.toNat (l.take k))) [((e.1).toNat * 1 + 0, .ref 14), (e.1.toNat * 1 + 0, .ref 12)]))]⟩] [0, 1, 1, 7, 15, 15, 7, 7, 255, 255, 255, 7, 0, 0]
  iterate 6 refine z_ ?_
  refine zz (fun _ h_ => ac (Does.indexX (h_.v rfl) (h_.en 3 rfl) (h_.v rfl) und_79 tsh_95 rfl (by omega) (by omega)) rfl) ?_
  refine zz (fun _ h_ => ac (Does.loadX (h_.v rfl) (h_.n 3 rfl) (show (ovr _ _)[e.1.toNat * 1 + 0]? = some (.ref 12) from by simp only [ovr, List.getElem?_set, List.length_set, hpA, hcA, eq_self, if_true, if_false, ↓reduceIte]) (h_.n 12 rfl) tsh_95 rfl) rfl) ?_
  iterate 2 refine z_ ?_
  refine zz (fun _ h_ => ac (dBs 13 (e := .int) zer_3) rfl) ?_
  refine zz (fun _ h_ => ac (dA 14 elb_3) rfl) ?_
  refine zz (fun _ h_ => ac (Does.indexX (h_.v rfl) (h_.en 3 rfl) (h_.v rfl) und_79 tsh_95 rfl (by omega) (by omega)) rfl) ?_
  refine zz (fun _ h_ => ac (Does.storeX (t := 12) (h_.v rfl) (h_.n 3 rfl) (show (ovr _ _)[e.1.toNat * 1 + 0]? = some (.ref 12) from by simp only [ovr, List.getElem?_set, List.length_set, hpA, hcA, eq_self, if_true, if_false, ↓reduceIte]) (h_.v rfl) (h_.n 14 rfl) tsh_95) rfl) ?_
  exact zN
  refine (?_ : AC _ _ _ _ _)
  refine AC.wk (Wk.joinX (q := 3) (t := 14) (p := e.1.toNat * 1 + 0) rfl (by simp only [ovr, List.getElem?_set, List.length_set, hpA, hcA, eq_self, if_true, if_false, ↓reduceIte]) rfl) ?_
  refine AC.wk (Wk.close (q := 3) (e := (.sl 3 .int)) ((nextV n.toNat (l.take k)).set e.1.toNat (ys ++ [e.2])) rfl (by simp only [List.length_set]) (by simp only [ovr, List.set_set]; exact cellsS_set hys)) ?_
  iterate 3 refine w_ ?_
  refine AL.nil <| lend ⟨k + 1, by omega, rfl, rfl⟩ (by omega) ?_
  exact Wk.of [] rfl ⟨rfl, rfl, rfl, rfl, rfl, rfl, rfl, trivial⟩ ⟨rfl, (entE (nextV_step hx32 hys)), trivial⟩ rfl rfl

end Go.Proofs.YtjaadeknhofhpaaGreat

/- Walks over abstract states: valid state graphs, the program. -/
namespace Go.Proofs.YtjaadeknhofhpaaGreat
open Go.RowKit
set_option maxRecDepth 100000
set_option maxHeartbeats 4000000

section
variable {c : DSg} {a : DAr} {x y : ByteArray} {k : Nat}
theorem arcn1 (h : ¬ (0 ≤ a.1 ∧ a.1 ≤ (c.2.1.length : Int) - 1)) : ¬ ArcOk c a := fun g => h g.1
theorem arcn2 (h : ¬ (0 ≤ a.2.2.2 ∧ a.2.2.2 ≤ (c.2.1.length : Int) - 1)) : ¬ ArcOk c a := fun g => h g.2.1
theorem arcn3 (h : ¬ LabI (c.1.length : Int) (a.2.1, a.2.2.1)) : ¬ ArcOk c a := fun g => h g.2.2.1
theorem arcn4 (hx : c.2.1[a.1.toNat]? = some x) (hy : c.2.1[a.2.2.2.toNat]? = some y) (h : ¬ Fit a x y) : ¬ ArcOk c a := fun g => h (by have := g.2.2.2; rwa [code_get hx, code_get hy] at this)
theorem arc_ok (h1 : 0 ≤ a.1 ∧ a.1 ≤ (c.2.1.length : Int) - 1) (h2 : 0 ≤ a.2.2.2 ∧ a.2.2.2 ≤ (c.2.1.length : Int) - 1) (h3 : LabI (c.1.length : Int) (a.2.1, a.2.2.1)) (hx : c.2.1[a.1.toNat]? = some x) (hy : c.2.1[a.2.2.2.toNat]? = some y) (h : Fit a x y) : ArcOk c a :=
  ⟨h1, h2, h3, by rw [code_get hx, code_get hy]; exact h⟩
end

theorem fc_impl_IsValidStateGraph (c : (List (ByteArray × Int)) × List ByteArray × (List (Int × Int × Bool × Int))) [∀ c, Decidable (SgOk c)]  : FC Tryz.prog 88 [(true, [.dat (.sl 90 (.pr .str .int)) c.1, .dat (.sl 9 .str) c.2.1, .dat (.sl 106 (.pr .int (.pr .int (.pr .bool .int)))) c.2.2])] [] 0 (Pure (lB (decide (SgOk c)))) := by
 classical
 refine FC.go Tryz.func88 rfl rfl Tryz.ntmps88 fun O_ hO w0_ N0_ X_ h0_ f0_ => ?_
 refine w_ ?_
 refine xbx 0 ?_
 iterate 6 refine w_ ?_
 refine lc (dK (fc_impl_areSignals c.1) enters_164) ?_
 iterate 2 refine w_ ?_
 cases hb1 : (decide (SigsOk c.1))
 ·have hb1' := of_decide_eq_false hb1
  iterate 17 refine w_ ?_
  refine AC.ret ?_
  subst hO
  have e2 : (false : Bool) = (decide (SgOk c)) := by
   exact sg_no1 (by assumption)
  exact fin_pure (Res.one rfl (Rs.tmp rfl)) ((congrArg (fun z_ => lB z_) e2)) rfl
 ·have hb1' := of_decide_eq_true hb1
  iterate 2 refine w_ ?_
  refine AL.fact (fact_len (x := .tmp 14) (Evl.tmp rfl)) fun hl3 => ?_
  refine w_ ?_
  refine lgy rfl rfl (dK (fc_impl_within (c.2.1.length : Int) 1 300) enters_84) ?_
  iterate 3 refine w_ ?_
  cases hb4 : (decide (1 ≤ (c.2.1.length : Int) ∧ (c.2.1.length : Int) ≤ 300))
  ·have hb4' := of_decide_eq_false hb4
   iterate 10 refine w_ ?_
   refine AC.ret ?_
   subst hO
   have e5 : (false : Bool) = (decide (SgOk c)) := by
    exact sg_no2 (by assumption)
   exact fin_pure (Res.one rfl (Rs.tmp rfl)) ((congrArg (fun z_ => lB z_) e5)) rfl
  ·have hb4' := of_decide_eq_true hb4
   iterate 2 refine w_ ?_
   refine AL.fact (fact_len (x := .tmp 21) (Evl.tmp rfl)) fun hl6 => ?_
   iterate 4 refine w_ ?_
   cases hb7 : (decide (4000 < (c.2.2.length : Int)))
   ·have hb7' := of_decide_eq_false hb7
    iterate 5 refine w_ ?_
    refine AL.fact (fact_len (x := .tmp 26) (Evl.tmp rfl)) fun hl8 => ?_
    iterate 8 refine w_ ?_
    refine AL.fact (fact_len (x := .tmp 30) (Evl.tmp rfl)) fun hl9 => ?_
    iterate 4 refine w_ ?_
    refine AC.loopW (fun m_ s_ => ∃ (k : Nat), k ≤ c.2.1.length ∧ m_ = c.2.1.length - k ∧ (∀ j, j < k → ∀ x, c.2.1[j]? = some x → BitsL x (c.1.length : Int)) ∧ s_ = ⟨[(1, lP 0 0), (3, lI ((c.2.1.length : Int) - 1)), (30, lf (.dat (.sl 9 .str) c.2.1)), (31, lI (c.2.1.length : Int)), (32, lI (k : Int))], [(0, some (.box 52 [.dat (.sl 90 (.pr .str .int)) c.1, .dat (.sl 9 .str) c.2.1, .dat (.sl 106 (.pr .int (.pr .int (.pr .bool .int)))) c.2.2]))]⟩) ⟨0, Nat.zero_le _, rfl, (fun j hj => absurd hj (Nat.not_lt_zero j)), rfl⟩ ?_ ?_
    · exact Wk.of [] rfl ⟨rfl, rfl, rfl, rfl, rfl, trivial⟩ ⟨rfl, trivial⟩ rfl rfl
    rintro m_ s_ ⟨k, hk10, hm11, hB, rfl⟩
    iterate 4 refine w_ ?_
    cases hb12 : (decide ((k : Int) < (c.2.1.length : Int)))
    ·have hb12' := of_decide_eq_false hb12
     refine w_ ?_
     refine AC.exit ?_
     refine (?_ : AC _ _ _ _ _)
     iterate 4 refine w_ ?_
     refine AL.fact (fact_len (x := .tmp 44) (Evl.tmp rfl)) fun hl13 => ?_
     iterate 4 refine w_ ?_
     refine AC.loopW (fun m_ s_ => ∃ (i : Nat), i ≤ c.2.2.length ∧ m_ = c.2.2.length - i ∧ (∀ j, j < i → ∀ a, c.2.2[j]? = some a → ArcOk c a) ∧ s_ = ⟨[(1, lP 0 0), (3, lI ((c.2.1.length : Int) - 1)), (44, lf (.dat (.sl 106 (.pr .int (.pr .int (.pr .bool .int)))) c.2.2)), (45, lI (c.2.2.length : Int)), (46, lI (i : Int))], [(0, some (.box 52 [.dat (.sl 90 (.pr .str .int)) c.1, .dat (.sl 9 .str) c.2.1, .dat (.sl 106 (.pr .int (.pr .int (.pr .bool .int)))) c.2.2]))]⟩) ⟨0, Nat.zero_le _, rfl, (fun j hj => absurd hj (Nat.not_lt_zero j)), rfl⟩ ?_ ?_
     · exact Wk.of [] rfl ⟨rfl, rfl, rfl, rfl, rfl, trivial⟩ ⟨rfl, trivial⟩ rfl rfl
     rintro m_ s_ ⟨i, hk14, hm15, hR, rfl⟩
     iterate 4 refine w_ ?_
     cases hb16 : (decide ((i : Int) < (c.2.2.length : Int)))
     ·have hb16' := of_decide_eq_false hb16
      refine w_ ?_
      refine AC.exit ?_
      refine (?_ : AC _ _ _ _ _)
      apply dW [io 92 _, io 93 _, io 94 _, io 95 _, io 96 _, io 97 (lf (.dat (.sl 289 (.pr .int .int)) (stepsA c.2.2))), io 98 (lf (.dat (.sl 3 .int) (distV (c.2.1.length : Int).toNat (stepsA c.2.2)))), io 99 (lB ((distV (c.2.1.length : Int).toNat (stepsA c.2.2)).any (fun y => decide ((-1) = y)))), io 100 _, io 2 _] [0, 0, 0, 7, 7, 7, 0, 0, 0, 0]
      iterate 5 refine z_ ?_
      refine zz (fun _ h_ => ac (dK (fc_impl_arcSteps c.2.2 (by omega)).frozen enters_180) rfl) ?_
      refine zz (fun _ h_ => ac (dK (fc_impl_distances (c.2.1.length : Int) (stepsA c.2.2) 0 (by omega) (steps_in (fun a ha => arc_inr (each_all hR (by omega) a ha))) (by simp only [stepsA, List.length_map]; omega) rfl).frozen enters_179) rfl) ?_
      refine zz (fun _ h_ => ac (dK (fc_slices_Contains_int_int (distV (c.2.1.length : Int).toNat (stepsA c.2.2)) (-1)) enters_178) rfl) ?_
      iterate 2 refine z_ ?_
      exact zN
      refine AC.ret ?_
      subst hO
      have e17 : (!((distV (c.2.1.length : Int).toNat (stepsA c.2.2)).any (fun y => decide ((-1) = y))) : Bool) = (decide (SgOk c)) := by
       exact (dist_all (by omega) (steps_in (fun a ha => arc_inr (each_all hR (by omega) a ha)))).trans (sg_fin (by assumption) (by assumption) (by assumption) (each_all hB (by omega)) (each_all hR (by omega)))
      exact fin_pure (Res.one rfl (Rs.tmp rfl)) ((congrArg (fun z_ => lB z_) e17)) rfl
     ·have hb16' := of_decide_eq_true hb16
      iterate 5 refine w_ ?_
      obtain ⟨ar, hx19⟩ : ∃ z, c.2.2[i]? = some z := ⟨_, List.getElem?_eq_getElem (by omega)⟩
      iterate 2 refine w_ ?_
      refine lc (xal 1 (.pr .int (.pr .int (.pr .bool .int))) zer_106) ?_
      iterate 2 refine w_ ?_
      cases hb20 : (decide (0 ≤ ar.1 ∧ ar.1 ≤ ((c.2.1.length : Int) - 1)))
      ·have hb20' := of_decide_eq_false hb20
       apply dW [io 50 _, io 51 _, io 52 _, io 53 (lB false), io 54 _, io 55 _, io 56 _, io 57 _, io 58 _, io 59 _, io 60 _, io 61 _, io 62 _, io 63 _, io 64 _, io 65 _, io 66 _, io 67 _, io 68 _, io 69 _, io 70 _, io 71 _, io 72 _, io 73 _, io 74 _, io 75 _, io 76 _, io 77 _, io 78 _, io 79 _, io 80 _, io 81 _, io 82 _, io 83 _, io 84 _, io 85 _, io 86 _, io 87 _, io 88 _, io 89 _, io 90 _] [0, 0, 3, 0, 0, 0, 0, 0, 192, 0, 0, 0, 0, 0, 0, 24576, 24576, 0, 253952, 253952, 253952, 0, 0, 0, 0, 0, 33554432, 33554432, 234881024, 234881024, 33554432, 33554432, 4261412864, 4261412864, 17146314752, 17146314752, 4261412864, 4261412864, 0, 0, 0]
       iterate 3 refine z_ ?_
       refine zz (fun _ h_ => ac (Does.asB (hb20) (dK (fc_impl_within ar.1 0 ((c.2.1.length : Int) - 1)) enters_84)) rfl) ?_
       iterate 37 refine z_ ?_
       exact zN
       iterate 4 refine w_ ?_
       refine AC.ret ?_
       subst hO
       have e21 : (false : Bool) = (decide (SgOk c)) := by
        exact sg_no5 hx19 (by first | exact arcn1 (by assumption) | exact arcn2 (by assumption) | exact arcn3 (by assumption) | exact arcn4 (x := cx) (y := cy) (by assumption) (by assumption) (by assumption))
       exact fin_pure (Res.one rfl (Rs.tmp rfl)) ((congrArg (fun z_ => lB z_) e21)) rfl
      ·have hb20' := of_decide_eq_true hb20
       cases hb22 : (decide (0 ≤ ar.2.2.2 ∧ ar.2.2.2 ≤ ((c.2.1.length : Int) - 1)))
       ·have hb22' := of_decide_eq_false hb22
        apply dW [io 50 _, io 51 _, io 52 _, io 53 (lB true), io 54 _, io 55 _, io 56 _, io 57 _, io 58 _, io 59 (lB false), io 60 _, io 61 _, io 62 _, io 63 _, io 64 _, io 65 _, io 66 _, io 67 _, io 68 _, io 69 _, io 70 _, io 71 _, io 72 _, io 73 _, io 74 _, io 75 _, io 76 _, io 77 _, io 78 _, io 79 _, io 80 _, io 81 _, io 82 _, io 83 _, io 84 _, io 85 _, io 86 _, io 87 _, io 88 _, io 89 _, io 90 _] [0, 0, 3, 0, 0, 0, 0, 0, 192, 0, 0, 0, 0, 0, 0, 24576, 24576, 0, 253952, 253952, 253952, 0, 0, 0, 0, 0, 33554432, 33554432, 234881024, 234881024, 33554432, 33554432, 4261412864, 4261412864, 17146314752, 17146314752, 4261412864, 4261412864, 0, 0, 0]
        iterate 3 refine z_ ?_
        refine zz (fun _ h_ => ac (Does.asB (hb20) (dK (fc_impl_within ar.1 0 ((c.2.1.length : Int) - 1)) enters_84)) rfl) ?_
        iterate 5 refine z_ ?_
        refine zz (fun _ h_ => day rfl (h_.k rfl) (Does.asB (hb22) (dK (fc_impl_within ar.2.2.2 0 ((c.2.1.length : Int) - 1)) enters_84)) rfl) ?_
        iterate 31 refine z_ ?_
        exact zN
        iterate 4 refine w_ ?_
        refine AC.ret ?_
        subst hO
        have e23 : (false : Bool) = (decide (SgOk c)) := by
         exact sg_no5 hx19 (by first | exact arcn1 (by assumption) | exact arcn2 (by assumption) | exact arcn3 (by assumption) | exact arcn4 (x := cx) (y := cy) (by assumption) (by assumption) (by assumption))
        exact fin_pure (Res.one rfl (Rs.tmp rfl)) ((congrArg (fun z_ => lB z_) e23)) rfl
       ·have hb22' := of_decide_eq_true hb22
        cases hb24 : (decide (LabI (c.1.length : Int) (ar.2.1, ar.2.2.1)))
        ·have hb24' := of_decide_eq_false hb24
         apply dW [io 50 _, io 51 _, io 52 _, io 53 (lB true), io 54 _, io 55 _, io 56 _, io 57 _, io 58 _, io 59 (lB true), io 60 _, io 61 _, io 62 _, io 63 _, io 64 _, io 65 _, io 66 _, io 67 (ag [dI ar.2.1, dB ar.2.2.1]), io 68 _, io 69 _, io 70 _, io 71 (lB false), io 72 _, io 73 _, io 74 _, io 75 _, io 76 _, io 77 _, io 78 _, io 79 _, io 80 _, io 81 _, io 82 _, io 83 _, io 84 _, io 85 _, io 86 _, io 87 _, io 88 _, io 89 _, io 90 _] [0, 0, 3, 0, 0, 0, 0, 0, 192, 0, 0, 0, 0, 0, 0, 24576, 24576, 0, 253952, 253952, 253952, 0, 0, 0, 0, 0, 33554432, 33554432, 234881024, 234881024, 33554432, 33554432, 4261412864, 4261412864, 17146314752, 17146314752, 4261412864, 4261412864, 0, 0, 0]
         iterate 3 refine z_ ?_
         refine zz (fun _ h_ => ac (Does.asB (hb20) (dK (fc_impl_within ar.1 0 ((c.2.1.length : Int) - 1)) enters_84)) rfl) ?_
         iterate 5 refine z_ ?_
         refine zz (fun _ h_ => day rfl (h_.k rfl) (Does.asB (hb22) (dK (fc_impl_within ar.2.2.2 0 ((c.2.1.length : Int) - 1)) enters_84)) rfl) ?_
         iterate 7 refine z_ ?_
         refine zz (fun _ h_ => day rfl (h_.k rfl) (Does.build bld_55 ⟨_, _, rfl, (h_.w rfl), ⟨_, _, rfl, (h_.w rfl), rfl⟩⟩ (List.all_eq_true.1 rfl) rfl rfl) rfl) ?_
         iterate 3 refine z_ ?_
         refine zz (fun _ h_ => day rfl (h_.k rfl) (Does.asB (hb24) (dK (fc_impl_isEdge (ar.2.1, ar.2.2.1) (c.1.length : Int) (by have := (‹SigsOk c.1›).2.2; omega)) enters_167)) rfl) ?_
         iterate 19 refine z_ ?_
         exact zN
         iterate 4 refine w_ ?_
         refine AC.ret ?_
         subst hO
         have e25 : (false : Bool) = (decide (SgOk c)) := by
          exact sg_no5 hx19 (by first | exact arcn1 (by assumption) | exact arcn2 (by assumption) | exact arcn3 (by assumption) | exact arcn4 (x := cx) (y := cy) (by assumption) (by assumption) (by assumption))
         exact fin_pure (Res.one rfl (Rs.tmp rfl)) ((congrArg (fun z_ => lB z_) e25)) rfl
        ·have hb24' := of_decide_eq_true hb24
         obtain ⟨cx, hx27⟩ : ∃ z, c.2.1[(ar.1).toNat]? = some z := ⟨_, List.getElem?_eq_getElem (by omega)⟩
         have hzcx : BitsL cx (c.1.length : Int) → cx.size = c.1.length := fun h => by have := h.2; omega
         have hwcx : c.2.1.length ≤ k → cx.size = c.1.length := fun h => hzcx (each_all hB h _ (List.mem_of_getElem? hx27))
         obtain ⟨cy, hx29⟩ : ∃ z, c.2.1[(ar.2.2.2).toNat]? = some z := ⟨_, List.getElem?_eq_getElem (by omega)⟩
         have hzcy : BitsL cy (c.1.length : Int) → cy.size = c.1.length := fun h => by have := h.2; omega
         have hwcy : c.2.1.length ≤ k → cy.size = c.1.length := fun h => hzcy (each_all hB h _ (List.mem_of_getElem? hx29))
         apply dW [io 50 _, io 51 _, io 52 _, io 53 (lB true), io 54 _, io 55 _, io 56 _, io 57 _, io 58 _, io 59 (lB true), io 60 _, io 61 _, io 62 _, io 63 _, io 64 _, io 65 _, io 66 _, io 67 (ag [dI ar.2.1, dB ar.2.2.1]), io 68 _, io 69 _, io 70 _, io 71 (lB true), io 72 _, io 73 _, io 74 _, io 75 _, io 76 _, io 77 _, io 78 _, io 79 _, io 80 _, io 81 _, io 82 _, io 83 _, io 84 _, io 85 _, io 86 _, io 87 _, io 88 (lB (decide (Fit ar cx cy))), io 89 _, io 90 _] [0, 0, 3, 0, 0, 0, 0, 0, 192, 0, 0, 0, 0, 0, 0, 24576, 24576, 0, 253952, 253952, 253952, 0, 0, 0, 0, 0, 33554432, 33554432, 234881024, 234881024, 33554432, 33554432, 4261412864, 4261412864, 17146314752, 17146314752, 4261412864, 4261412864, 0, 0, 0]
         iterate 3 refine z_ ?_
         refine zz (fun _ h_ => ac (Does.asB (hb20) (dK (fc_impl_within ar.1 0 ((c.2.1.length : Int) - 1)) enters_84)) rfl) ?_
         iterate 5 refine z_ ?_
         refine zz (fun _ h_ => day rfl (h_.k rfl) (Does.asB (hb22) (dK (fc_impl_within ar.2.2.2 0 ((c.2.1.length : Int) - 1)) enters_84)) rfl) ?_
         iterate 7 refine z_ ?_
         refine zz (fun _ h_ => day rfl (h_.k rfl) (Does.build bld_55 ⟨_, _, rfl, (h_.w rfl), ⟨_, _, rfl, (h_.w rfl), rfl⟩⟩ (List.all_eq_true.1 rfl) rfl rfl) rfl) ?_
         iterate 3 refine z_ ?_
         refine zz (fun _ h_ => day rfl (h_.k rfl) (Does.asB (hb24) (dK (fc_impl_isEdge (ar.2.1, ar.2.2.1) (c.1.length : Int) (by have := (‹SigsOk c.1›).2.2; omega)) enters_167)) rfl) ?_
         iterate 16 refine z_ ?_
         refine zz (fun _ h_ => day rfl (h_.k rfl) (dK (fc_impl_fitsCodes ar cx cy (by have := hwcx (by omega); have := hwcy (by omega); omega)) enters_177) rfl) ?_
         iterate 2 refine z_ ?_
         exact zN
         cases hb30 : (decide (Fit ar cx cy))
         ·have hb30' := of_decide_eq_false hb30
          iterate 4 refine w_ ?_
          refine AC.ret ?_
          subst hO
          have e31 : (false : Bool) = (decide (SgOk c)) := by
           exact sg_no5 hx19 (by first | exact arcn1 (by assumption) | exact arcn2 (by assumption) | exact arcn3 (by assumption) | exact arcn4 (x := cx) (y := cy) (by assumption) (by assumption) (by assumption))
          exact fin_pure (Res.one rfl (Rs.tmp rfl)) ((congrArg (fun z_ => lB z_) e31)) rfl
         ·have hb30' := of_decide_eq_true hb30
          refine w_ ?_
          refine AC.skip ?_
          refine (?_ : AC _ _ _ _ _)
          iterate 3 refine w_ ?_
          refine AL.nil <| lend ⟨i + 1, by omega, rfl, (each_step hR hx19 (arc_ok (by assumption) (by assumption) (by assumption) (x := cx) (y := cy) (by assumption) (by assumption) (by assumption))), rfl⟩ (by omega) ?_
          exact Wk.of [] rfl ⟨rfl, rfl, rfl, rfl, rfl, trivial⟩ ⟨rfl, trivial⟩ rfl rfl
    ·have hb12' := of_decide_eq_true hb12
     iterate 5 refine w_ ?_
     obtain ⟨x32, hx33⟩ : ∃ z, c.2.1[k]? = some z := ⟨_, List.getElem?_eq_getElem (by omega)⟩
     have hzx32 : BitsL x32 (c.1.length : Int) → x32.size = c.1.length := fun h => by have := h.2; omega
     have hwx32 : c.2.1.length ≤ k → x32.size = c.1.length := fun h => hzx32 (each_all hB h _ (List.mem_of_getElem? hx33))
     iterate 8 refine w_ ?_
     refine AL.fact (fact_len (x := .tmp 38) (Evl.tmp rfl)) fun hl34 => ?_
     refine w_ ?_
     refine lc (dK (fc_impl_isBits x32 (c.1.length : Int)) enters_176) ?_
     iterate 2 refine w_ ?_
     cases hb35 : (decide (BitsL x32 (c.1.length : Int)))
     ·have hb35' := of_decide_eq_false hb35
      iterate 4 refine w_ ?_
      refine AC.ret ?_
      subst hO
      have e36 : (false : Bool) = (decide (SgOk c)) := by
       exact sg_no4 hx33 (by assumption)
      exact fin_pure (Res.one rfl (Rs.tmp rfl)) ((congrArg (fun z_ => lB z_) e36)) rfl
     ·have hb35' := of_decide_eq_true hb35
      refine w_ ?_
      refine AC.skip ?_
      refine (?_ : AC _ _ _ _ _)
      iterate 3 refine w_ ?_
      refine AL.nil <| lend ⟨k + 1, by omega, rfl, (each_step hB hx33 (by assumption)), rfl⟩ (by omega) ?_
      exact Wk.of [] rfl ⟨rfl, rfl, rfl, rfl, rfl, trivial⟩ ⟨rfl, trivial⟩ rfl rfl
   ·have hb7' := of_decide_eq_true hb7
    iterate 4 refine w_ ?_
    refine AC.ret ?_
    subst hO
    have e37 : (false : Bool) = (decide (SgOk c)) := by
     exact sg_no3 (by assumption)
    exact fin_pure (Res.one rfl (Rs.tmp rfl)) ((congrArg (fun z_ => lB z_) e37)) rfl

end Go.Proofs.YtjaadeknhofhpaaGreat

/- Walks over abstract states: partitions of state graphs. -/
namespace Go.Proofs.YtjaadeknhofhpaaGreat
open Go.RowKit
set_option maxRecDepth 100000
set_option maxHeartbeats 4000000

/-- The signs that may follow one another. -/
def mayF (a b : UInt8) : Bool := decide (a = b) || (decide (a = 48) && decide (b = 43)) || (decide (a = 43) && decide (b = 49)) || (decide (a = 49) && decide (b = 45)) || (decide (a = 45) && decide (b = 48)) || (decide (a = 43) && decide (b = 45)) || (decide (a = 45) && decide (b = 43))
def SignL (s : ByteArray) : Prop := ∀ x ∈ s.toList, x = 48 ∨ x = 43 ∨ x = 49 ∨ x = 45
instance (s : ByteArray) : Decidable (SignL s) := inferInstanceAs (Decidable (∀ x ∈ s.toList, x = 48 ∨ x = 43 ∨ x = 49 ∨ x = 45))
def SignsOk (c : DSg) (s : ByteArray) : Prop := SignL s ∧ s.size = c.2.1.length ∧ SgOk c
instance (c : DSg) (s : ByteArray) [Decidable (SgOk c)] : Decidable (SignsOk c s) := inferInstanceAs (Decidable (_ ∧ _))
def partV (c : DSg) (s : ByteArray) : Bool := c.2.2.all fun a => mayF (bAt s a.1) (bAt s a.2.2.2)
def delV (s : ByteArray) (a : DAr) : Bool := (decide (bAt s a.1 = 43) && (decide (bAt s a.2.2.2 = 49) || decide (bAt s a.2.2.2 = 45))) || (decide (bAt s a.1 = 45) && (decide (bAt s a.2.2.2 = 48) || decide (bAt s a.2.2.2 = 43)))
def okP (c : DSg) (s : ByteArray) [Decidable (SgOk c)] : Bool := decide (SignsOk c s) && partV c s
def fromA (as_ : List DAr) (q : Int) : List DAr := as_.filter fun a => decide (a.1 = q)
def roundS : ByteArray := ⟨#[48, 43, 49, 45, 48]⟩
section
variable {a b x : UInt8} {k i : Nat} {s : ByteArray} {c : DSg} {l : List DAr} {e : DAr} {q : Int}
section
variable [Decidable (SignsOk c s)]
end
theorem SignsOk.at_ (h : SignsOk c s) (ha : e ∈ c.2.2) : (0 ≤ e.1 ∧ e.1 < (s.size : Int)) ∧ 0 ≤ e.2.2.2 ∧ e.2.2.2 < (s.size : Int) := by
  have h1 := arc_inr (h.2.2.arcs e ha)
  rw [h.2.1]
  exact h1
end

theorem fc_impl_labelOfArc (a : Int × Int × Bool × Int)  : FC Tryz.prog 254 [(true, [dI a.1, dI a.2.1, dB a.2.2.1, dI a.2.2.2])] [] 0 (Pure (ag [dI a.2.1, dB a.2.2.1])) := by
 refine FC.go Tryz.func254 rfl rfl Tryz.ntmps254 fun O_ hO w0_ N0_ X_ h0_ f0_ => ?_
 refine AC.fact (fact_ag (x := .tmp 0) (i := 0) (Ev.tmp rfl) rfl) fun hi1 => AC.fact (fact_ag (x := .tmp 0) (i := 1) (Ev.tmp rfl) rfl) fun hi2 => AC.fact (fact_ag (x := .tmp 0) (i := 3) (Ev.tmp rfl) rfl) fun hi3 => ?_
 refine w_ ?_
 refine xbx 0 ?_
 refine lc (xal 1 (.pr .int .bool) zer_55) ?_
 iterate 6 refine w_ ?_
 refine lc (Does.build bld_55 ⟨_, _, rfl, (Ev.tmp rfl), ⟨_, _, rfl, (Ev.tmp rfl), rfl⟩⟩ (List.all_eq_true.1 rfl) rfl rfl) ?_
 iterate 2 refine w_ ?_
 refine AC.ret ?_
 subst hO
 exact fin_pure (Res.one rfl (Rs.cell rfl rfl tsh_55 rfl)) rfl rfl

end Go.Proofs.YtjaadeknhofhpaaGreat

/- Walks over abstract states: the arcs that leave a state; the place of a name. -/
namespace Go.Proofs.YtjaadeknhofhpaaGreat
open Go.RowKit
set_option maxRecDepth 100000
set_option maxHeartbeats 4000000

/-- Inside a deletion: i are kept of the first j. -/
def DelI {α : Type _} (p : α → Bool) (l0 l : List α) (i j : Int) : Prop := (0 ≤ i ∧ i < j ∧ j ≤ (l.length : Int)) ∧ l.length = l0.length ∧ l.take i.toNat = (l0.take j.toNat).filter p ∧ l.drop j.toNat = l0.drop j.toNat
section
variable {α : Type _} {p f : α → Bool} {l0 l : List α} {i j : Int} {x : α}
theorem idxF_cases (f : α → Bool) (l : List α) : (idxF f l = -1 ∧ ∀ x ∈ l, f x = false) ∨ ∃ (k : Nat) (x : α), idxF f l = (k : Int) ∧ l[k]? = some x ∧ f x = true ∧ NoneTo f l k := by
  unfold idxF
  cases h : l.findIdx? f with
  | none => exact .inl ⟨rfl, fun x hx => by simpa using List.findIdx?_eq_none_iff.1 h x hx⟩
  | some k =>
    obtain ⟨h1, h2, h3⟩ := List.findIdx?_eq_some_iff_getElem.1 h
    exact .inr ⟨k, l[k], rfl, List.getElem?_eq_getElem h1, h2, fun j hj y hy => by
      obtain ⟨h4, h5⟩ := List.getElem?_eq_some_iff.1 hy
      have := h3 j hj
      rw [h5] at this
      simpa using this⟩
theorem DelI.start (h : ¬ idxF f l = -1) : DelI (fun x => !f x) l l (idxF f l) (idxF f l + 1) := by
  rcases idxF_cases f l with ⟨h2, _⟩ | ⟨k, x, h2, h3, h4, h5⟩
  · exact absurd h2 h
  · have hk := (List.getElem?_eq_some_iff.1 h3).1
    rw [h2]
    refine ⟨by omega, rfl, ?_, rfl⟩
    rw [show ((k : Int) + 1).toNat = k + 1 by omega, show ((k : Int)).toNat = k by omega, take_snoc h3, List.filter_append]
    have : ([x].filter fun x => !f x) = [] := by simp [h4]
    rw [this, List.append_nil]
    refine (List.filter_eq_self.2 fun y hy => ?_).symm
    obtain ⟨n, hn⟩ := List.mem_iff_getElem?.1 hy
    have hn2 := (List.getElem?_eq_some_iff.1 hn).1
    rw [List.length_take] at hn2
    rw [List.getElem?_take_of_lt (by omega)] at hn
    rw [h5 n (by omega) y hn]; rfl
theorem DelI.at_ (h : DelI p l0 l i j) (hx : l[j.toNat]? = some x) : l0[j.toNat]? = some x := by
  obtain ⟨h1, h2, h3, h4⟩ := h
  have := congrArg (fun l : List α => l[0]?) h4
  simpa [hx] using this.symm
theorem DelI.lt (h : DelI p l0 l i j) (hx : l[j.toNat]? = some x) : j < (l.length : Int) := by
  have := (List.getElem?_eq_some_iff.1 hx).1
  obtain ⟨h1, _⟩ := h
  omega
theorem DelI.keep (h : DelI p l0 l i j) (hx : l[j.toNat]? = some x) (hp : p x = true) : DelI p l0 (l.set i.toNat x) (i + 1) (j + 1) := by
  have h0 := h.at_ hx
  have hl := h.lt hx
  obtain ⟨h1, h2, h3, h4⟩ := h
  refine ⟨by rw [List.length_set]; omega, by rw [List.length_set]; exact h2, ?_, ?_⟩
  · have hg : (l.set i.toNat x)[i.toNat]? = some x := List.getElem?_set_self (by omega)
    rw [show (j + 1).toNat = j.toNat + 1 by omega, show (i + 1).toNat = i.toNat + 1 by omega, take_snoc hg, take_snoc h0, List.filter_append, List.take_set_of_le (Nat.le_refl _), h3]
    simp [hp]
  · have := congrArg (List.drop 1) h4
    rw [List.drop_drop, List.drop_drop] at this
    rw [show (j + 1).toNat = j.toNat + 1 by omega, List.drop_set_of_lt (by omega)]
    exact this
theorem DelI.end_ {z : List α} (h : DelI p l0 l i j) (hj : ¬ j < (l.length : Int)) (n : Nat) (hn : n = i.toNat) : (l.take i.toNat ++ z).take n = l0.filter p := by
  obtain ⟨h1, h2, h3, h4⟩ := h
  subst hn
  rw [List.take_left' (by rw [List.length_take]; omega), h3, List.take_of_length_le (by omega)]
end
end Go.Proofs.YtjaadeknhofhpaaGreat

/- Walks over abstract states: a signal is put in, states are numbered. -/
namespace Go.Proofs.YtjaadeknhofhpaaGreat
open Go.RowKit
set_option maxRecDepth 100000
set_option maxHeartbeats 4000000

abbrev PSt := Int × Bool
/-- The number of a state of the new graph. -/
def ixP (ps : List PSt) (p : PSt) : Int := (ps.idxOf p : Nat)
def psP (ps : List PSt) (p : PSt) : List PSt := if p ∈ ps then ps else ps ++ [p]
def cdP (c : DSg) (ps : List PSt) (cs : List ByteArray) (p : PSt) : List ByteArray := if p ∈ ps then cs else cs ++ [codeAt c p.1 ++ ⟨#[if p.2 then 49 else 48]⟩]
def idxG : Nat → List PSt → List (PSt × Int)
  | _, [] => []
  | n, p :: ps => (p, (n : Int)) :: idxG (n + 1) ps
def idxM (ps : List PSt) : List (PSt × Int) := idxG 0 ps
section
variable {c : DSg} {ps : List PSt} {p : PSt} {cs : List ByteArray} {n : Nat} {code : ByteArray}
end

end Go.Proofs.YtjaadeknhofhpaaGreat

/- Walks over abstract states: the arcs that leave a state of the new graph. -/
namespace Go.Proofs.YtjaadeknhofhpaaGreat
open Go.RowKit
set_option maxRecDepth 100000
set_option maxHeartbeats 4000000

abbrev Ins := List PSt × List ByteArray × List DAr
def waitsP (s : ByteArray) (p : PSt) : Bool := (decide (bAt s p.1 = 43) && !p.2) || (decide (bAt s p.1 = 45) && p.2)
def skipP (s : ByteArray) (p : PSt) (a : DAr) : Bool := (decide (bAt s a.2.2.2 = 48) && p.2) || (decide (bAt s a.2.2.2 = 49) && !p.2) || (waitsP s p && delV s a)
def arcP (c : DSg) (st : Ins) (k : Int) (l : DLabel) (p : PSt) : Ins := (psP st.1 p, cdP c st.1 st.2.1 p, st.2.2 ++ [(k, l.1, l.2, ixP st.1 p)])
def stepP (c : DSg) (s : ByteArray) (k : Int) (p : PSt) (st : Ins) (a : DAr) : Ins := if skipP s p a = true then st else arcP c st k (a.2.1, a.2.2.1) (a.2.2.2, p.2)
def preP (c : DSg) (s : ByteArray) (st : Ins) (k : Int) (p : PSt) : Ins := if waitsP s p = true then arcP c st k ((c.1.length : Int), decide (bAt s p.1 = 43)) (p.1, !p.2) else st
def expP (c : DSg) (s : ByteArray) (st : Ins) (k : Int) : Ins := match st.1[k.toNat]? with
  | none => st
  | some p => (fromA c.2.2 p.1).foldl (stepP c s k p) (preP c s st k p)
section
variable {c : DSg} {s : ByteArray} {st : Ins} {k : Int} {p : PSt} {a : DAr} {i : Nat} {x : UInt8} {l : List DAr}
end

end Go.Proofs.YtjaadeknhofhpaaGreat

/- Walks over abstract states: the reference puts a signal in. -/
namespace Go.Proofs.YtjaadeknhofhpaaGreat
open Go.RowKit
set_option maxRecDepth 100000
set_option maxHeartbeats 4000000

def vB (b : Bool) : Int := if b then 1 else 0
def keyP (p : PSt) : Int := 2 * p.1 + vB p.2
def mayV (x : UInt8) (v : Int) : Bool := if x = 48 then decide (v = 0) else if x = 49 then decide (v = 1) else true
section
variable {c : DSg} {s : ByteArray} {ps : List PSt} {p : PSt} {cs : List ByteArray} {i : Nat} {k v z q : Int} {code : ByteArray} {a : DAr}
theorem vB_rng (b : Bool) : vB b = 0 ∨ vB b = 1 := by cases b <;> simp [vB]
theorem vB_one (b : Bool) : decide (vB b = 1) = b := by cases b <;> rfl
abbrev keyQ (k v : Int) : Int → Bool := fun z => decide (z = 2 * k + v)
end

end Go.Proofs.YtjaadeknhofhpaaGreat

/- Walks over abstract states: the graph with one signal more, both sides. -/
namespace Go.Proofs.YtjaadeknhofhpaaGreat
open Go.RowKit
set_option maxRecDepth 100000
set_option maxHeartbeats 4000000

def startB (s : ByteArray) : Bool := decide (bAt s 0 = 49) || decide (bAt s 0 = 45)
def startP (c : DSg) (s : ByteArray) : Ins := (psP [] (0, startB s), cdP c [] [] (0, startB s), [])
def runP (c : DSg) (s : ByteArray) : Nat → Nat → Ins → Ins
  | 0, _, st => st
  | f + 1, k, st => if k < st.1.length then runP c s f (k + 1) (expP c s st (k : Int)) else st
def buildP (c : DSg) (s : ByteArray) : Ins := runP c s 601 0 (startP c s)
def outP (c : DSg) (name : ByteArray) (st : Ins) : DSg := (c.1 ++ [(name, 3)], st.2.1, st.2.2)
/-- What holds of the graph while it is built. -/
structure InsI (c : DSg) (st : Ins) : Prop where
  rng : ∀ p ∈ st.1, 0 ≤ p.1 ∧ p.1 < (c.2.1.length : Int)
  nd : st.1.Nodup
  len : st.2.1.length = st.1.length
section
variable {c : DSg} {s name : ByteArray} {st : Ins} {ps : List PSt} {cs : List ByteArray} {as_ : List DAr} {p : PSt} {k : Int} {l : DLabel} {i j n : Nat} {b : Bool} {z : Int}
theorem nodup_lt : ∀ (n : Nat) (l : List Nat), l.Nodup → (∀ x ∈ l, x < n) → l.length ≤ n
  | 0, [], _, _ => Nat.le_refl _
  | 0, x :: l, _, h => absurd (h x (List.mem_cons_self ..)) (Nat.not_lt_zero x)
  | n + 1, l, hd, h => by
    have h1 := nodup_lt n (l.erase n) (hd.erase n) fun x hx => by
      have h2 := h x (List.mem_of_mem_erase hx)
      have h3 : x ≠ n := fun e => by subst e; exact (List.Nodup.not_mem_erase hd) hx
      omega
    have h2 := List.length_erase (a := n) (l := l)
    split at h2 <;> omega
theorem InsI.few (h : InsI c st) (hn : c.2.1.length ≤ 300) : st.1.length ≤ 600 := by
  have h1 := nodup_lt 600 (st.1.map fun p => (keyP p).toNat) ?_ ?_
  · simpa using h1
  · rw [List.Nodup, List.pairwise_map]
    refine List.Pairwise.imp_of_mem ?_ h.nd
    intro a b ha hb hne e
    apply hne
    have h2 := h.rng a ha
    have h3 := h.rng b hb
    have h4 := vB_rng a.2
    have h5 := vB_rng b.2
    unfold keyP at e
    have h6 : a.1 = b.1 ∧ vB a.2 = vB b.2 := by omega
    refine Prod.ext h6.1 ?_
    rw [← vB_one a.2, h6.2, vB_one]
  · intro x hx
    obtain ⟨p, hp, rfl⟩ := List.mem_map.1 hx
    have h2 := h.rng p hp
    have h4 := vB_rng p.2
    unfold keyP
    omega
end
abbrev hasName (name : ByteArray) : DSignal → Bool := fun x => decide (x.1 = name)
section
variable [∀ c, Decidable (SgOk c)] [∀ s, Decidable (NameOk s)] {c : DSg} {s name : ByteArray} {st : Ins}
def insB (c : DSg) (name s : ByteArray) : Bool := okP c s && decide (NameOk name) && !(c.1.any (hasName name)) && !decide (c.1.length = 8)
def insZ : DSg × List Int := (zeroSG, [])
def insV (c : DSg) (name s : ByteArray) : (DSg × List Int) × Bool :=
  if insB c name s = true ∧ SgOk (outP c name (buildP c s)) then ((outP c name (buildP c s), (buildP c s).1.map fun p => p.1), true) else (insZ, false)
def ins2V (c : DSg) (name s : ByteArray) : (DSg × List Int) × Bool :=
  if insB c name s = true then ((outP c name (buildP c s), (buildP c s).1.map fun p => p.1), decide (SgOk (outP c name (buildP c s)))) else (insZ, false)
end

end Go.Proofs.YtjaadeknhofhpaaGreat
