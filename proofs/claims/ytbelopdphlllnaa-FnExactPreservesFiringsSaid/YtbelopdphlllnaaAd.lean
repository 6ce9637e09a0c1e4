/- Abstract states: regions that draw their order: their head's operations in whatever order, each by what it does to the state; then the tail in order. No program is named here. -/
import Derived.Test.YtbelopdphlllnaaAr
namespace Go.Proofs.Ytbelopdphlllnaa
open Go.RowKit

structure Item where
  d : Option Nat
  pv : PV
  T : Tab
@[reducible] def putO (tm : List (Nat × PV)) : Option Nat → PV → List (Nat × PV)
  | some d, pv => (d, pv) :: tm
  | none, _ => tm
/-- The state in which the operations of D have been carried out. -/
def pTm : List Item → (Nat → Bool) → Nat → List (Nat × PV) → List (Nat × PV)
  | [], _, _, acc => acc
  | it :: l, D, k, acc => pTm l D (k + 1) (match D k with
    | true => putO acc it.d it.pv
    | false => acc)
def pTb : List Item → (Nat → Bool) → Nat → Tab → Tab
  | [], _, _, acc => acc
  | it :: l, D, k, acc => pTb l D (k + 1) (match D k with
    | true => it.T ++ acc
    | false => acc)
@[reducible] def stD (plan : List Item) (s0 : St) (D : Nat → Bool) : St := ⟨pTm plan D 0 s0.tm, pTb plan D 0 s0.tab⟩

/-! ### Look-ups -/
theorem lk_putO (tm : List (Nat × PV)) (o : Option Nat) (pv : PV) (t : Nat) : lk (putO tm o pv) t = if o = some t then some pv else lk tm t := by
  cases o with
  | none => simp [putO]
  | some d =>
    simp only [putO, lk_cons, Option.some.injEq]
    by_cases h : t = d
    · simp [h]
    · rw [if_neg h, if_neg (fun e => h e.symm)]
theorem pTm_same {D D' : Nat → Bool} {t : Nat} : ∀ {l : List Item} {k : Nat} {acc acc' : List (Nat × PV)}, (∀ j it, l[j]? = some it → it.d = some t → D (k + j) = D' (k + j)) → lk acc t = lk acc' t → lk (pTm l D k acc) t = lk (pTm l D' k acc') t
  | [], _, _, _, _, h => h
  | it :: l, k, acc, acc', hw, h => by
    refine pTm_same (l := l) (k := k + 1) (fun j it' hj ht => ?_) ?_
    · have := hw (j + 1) it' (by simpa using hj) ht
      rwa [show k + 1 + j = k + (j + 1) by omega]
    · by_cases hd : it.d = some t
      · have := hw 0 it rfl hd
        rw [Nat.add_zero] at this
        rw [this]
        cases D' k with
        | true => show lk (putO acc it.d it.pv) t = lk (putO acc' it.d it.pv) t; rw [lk_putO, lk_putO, if_pos hd, if_pos hd]
        | false => exact h
      · have e1 : ∀ (b : Bool) (a : List (Nat × PV)), lk (match b with | true => putO a it.d it.pv | false => a) t = lk a t := by
          intro b a; cases b
          · rfl
          · simp only [lk_putO, if_neg hd]
        rw [e1, e1]; exact h
/-- Eqv: two tables tell the same. -/
def Eqv (T T' : Tab) : Prop := ∀ q, T.ent q = T'.ent q
def keyB (q : Nat) (T : Tab) : Bool := inB q (T.map (·.1))
theorem ent_app (U T : Tab) (q : Nat) : Tab.ent (U ++ T) q = if q ∈ U.map (·.1) then U.ent q else T.ent q := by
  induction U with
  | nil => simp
  | cons x U ih =>
    obtain ⟨j, o⟩ := x
    rw [List.cons_append, Tab.ent_cons, Tab.ent_cons, ih]
    by_cases h : q = j
    · simp [h]
    · have hm : (q ∈ ((j, o) :: U).map (·.1)) ↔ q ∈ U.map (·.1) := by simp [h]
      rw [if_neg h, if_neg h]
      by_cases h2 : q ∈ U.map (·.1)
      · rw [if_pos h2, if_pos (hm.2 h2)]
      · rw [if_neg h2, if_neg (fun h3 => h2 (hm.1 h3))]
theorem pTb_same {D D' : Nat → Bool} {q : Nat} : ∀ {l : List Item} {k : Nat} {acc acc' : Tab}, (∀ j it, l[j]? = some it → q ∈ it.T.map (·.1) → D (k + j) = D' (k + j)) → acc.ent q = acc'.ent q → (pTb l D k acc).ent q = (pTb l D' k acc').ent q
  | [], _, _, _, _, h => h
  | it :: l, k, acc, acc', hw, h => by
    refine pTb_same (l := l) (k := k + 1) (fun j it' hj ht => ?_) ?_
    · have := hw (j + 1) it' (by simpa using hj) ht
      rwa [show k + 1 + j = k + (j + 1) by omega]
    · by_cases hd : q ∈ it.T.map (·.1)
      · have := hw 0 it rfl hd
        rw [Nat.add_zero] at this
        rw [this]
        cases D' k with
        | true => simp only [ent_app, if_pos hd]
        | false => exact h
      · have e1 : ∀ (b : Bool) (a : Tab), Tab.ent (match b with | true => it.T ++ a | false => a) q = a.ent q := by
          intro b a; cases b
          · rfl
          · simp only [ent_app, if_neg hd]
        rw [e1, e1]; exact h
/-- One operation more. -/
def addD (D : Nat → Bool) (i : Nat) : Nat → Bool := fun k => match Nat.beq k i with
  | true => true
  | false => D k
theorem addD_eq (D : Nat → Bool) (i : Nat) : addD D i i = true := by simp [addD]
theorem addD_ne (D : Nat → Bool) {i k : Nat} (h : k ≠ i) : addD D i k = D k := by
  have : Nat.beq k i = false := by
    cases h' : Nat.beq k i with
    | true => exact absurd (Nat.eq_of_beq_eq_true h') h
    | false => rfl
  simp [addD, this]
theorem pTm_add {D : Nat → Bool} {t : Nat} : ∀ {l : List Item} {k i : Nat} {it : Item} {acc : List (Nat × PV)}, l[i]? = some it → D (k + i) = false → (∀ j jt, l[j]? = some jt → j ≠ i → D (k + j) = true → jt.d ≠ none → jt.d ≠ it.d) →
    lk (pTm l (addD D (k + i)) k acc) t = lk (putO (pTm l D k acc) it.d it.pv) t
  | [], _, _, _, _, h, _, _ => by simp at h
  | x :: l, k, 0, it, acc, h, hD, hd => by
    have hx : x = it := by simpa using h
    subst hx
    have hD : D k = false := hD
    show lk (pTm l (addD D k) (k + 1) (match addD D k k with | true => putO acc x.d x.pv | false => acc)) t = lk (putO (pTm l D (k + 1) (match D k with | true => putO acc x.d x.pv | false => acc)) x.d x.pv) t
    rw [addD_eq, hD]
    show lk (pTm l (addD D k) (k + 1) (putO acc x.d x.pv)) t = lk (putO (pTm l D (k + 1) acc) x.d x.pv) t
    rw [lk_putO]
    by_cases hxt : x.d = some t
    · rw [if_pos hxt]
      have key : ∀ (l : List Item) (m : Nat) (acc : List (Nat × PV)), (∀ j jt, l[j]? = some jt → D (m + j) = true → jt.d ≠ some t) → k < m → lk acc t = some x.pv → lk (pTm l (addD D k) m acc) t = some x.pv := by
        intro l
        induction l with
        | nil => intro m acc _ _ h; exact h
        | cons y l ih =>
          intro m acc hn hm h
          refine ih (m + 1) _ (fun j jt hj hDj => hn (j + 1) jt (by simpa using hj) (by rwa [show m + (j + 1) = m + 1 + j by omega])) (by omega) ?_
          rw [addD_ne D (show m ≠ k by omega)]
          cases hDm : D m with
          | false => exact h
          | true =>
            have := hn 0 y rfl hDm
            simp only [lk_putO, if_neg this]
            exact h
      exact key l (k + 1) _ (fun j jt hj hDj hjt => hd (j + 1) jt (by simpa using hj) (by omega) (by rwa [show k + (j + 1) = k + 1 + j by omega]) (by rw [hjt]; simp) (by rw [hjt, hxt])) (by omega) (by rw [lk_putO, if_pos hxt])
    · rw [if_neg hxt]
      refine pTm_same (fun j jt hj ht => addD_ne D (by omega)) ?_
      simp [lk_putO, hxt]
  | x :: l, k, i + 1, it, acc, h, hD, hd => by
    have := pTm_add (D := D) (t := t) (l := l) (k := k + 1) (i := i) (it := it) (acc := match D k with | true => putO acc x.d x.pv | false => acc) (by simpa using h) (by rwa [show k + 1 + i = k + (i + 1) by omega]) fun j jt hj hne hDj => hd (j + 1) jt (by simpa using hj) (by omega) (by rwa [show k + (j + 1) = k + 1 + j by omega])
    rw [show k + 1 + i = k + (i + 1) by omega] at this
    show lk (pTm l (addD D (k + (i + 1))) (k + 1) (match addD D (k + (i + 1)) k with | true => putO acc x.d x.pv | false => acc)) t = _
    rw [addD_ne D (show k ≠ k + (i + 1) by omega)]
    exact this
theorem pTb_add {D : Nat → Bool} {q : Nat} : ∀ {l : List Item} {k i : Nat} {it : Item} {acc : Tab}, l[i]? = some it → D (k + i) = false → (∀ j jt, l[j]? = some jt → i < j → D (k + j) = true → q ∈ it.T.map (·.1) → q ∉ jt.T.map (·.1)) →
    (pTb l (addD D (k + i)) k acc).ent q = Tab.ent (it.T ++ pTb l D k acc) q
  | [], _, _, _, _, h, _, _ => by simp at h
  | x :: l, k, 0, it, acc, h, hD, hd => by
    have hx : x = it := by simpa using h
    subst hx
    have hD : D k = false := hD
    show (pTb l (addD D k) (k + 1) (match addD D k k with | true => x.T ++ acc | false => acc)).ent q = Tab.ent (x.T ++ pTb l D (k + 1) (match D k with | true => x.T ++ acc | false => acc)) q
    rw [addD_eq, hD]
    show (pTb l (addD D k) (k + 1) (x.T ++ acc)).ent q = Tab.ent (x.T ++ pTb l D (k + 1) acc) q
    rw [ent_app]
    by_cases hxt : q ∈ x.T.map (·.1)
    · rw [if_pos hxt]
      have key : ∀ (l : List Item) (m : Nat) (acc : Tab), (∀ j jt, l[j]? = some jt → D (m + j) = true → q ∉ jt.T.map (·.1)) → k < m → acc.ent q = x.T.ent q → (pTb l (addD D k) m acc).ent q = x.T.ent q := by
        intro l
        induction l with
        | nil => intro m acc _ _ h; exact h
        | cons y l ih =>
          intro m acc hn hm h
          refine ih (m + 1) _ (fun j jt hj hDj => hn (j + 1) jt (by simpa using hj) (by rwa [show m + (j + 1) = m + 1 + j by omega])) (by omega) ?_
          rw [addD_ne D (show m ≠ k by omega)]
          cases hDm : D m with
          | false => exact h
          | true =>
            have := hn 0 y rfl hDm
            simp only [ent_app, if_neg this]
            exact h
      exact key l (k + 1) _ (fun j jt hj hDj => hd (j + 1) jt (by simpa using hj) (by omega) (by rwa [show k + (j + 1) = k + 1 + j by omega]) hxt) (by omega) (by rw [ent_app, if_pos hxt])
    · rw [if_neg hxt]
      refine pTb_same (fun j jt hj ht => addD_ne D (by omega)) ?_
      rw [ent_app, if_neg hxt]
  | x :: l, k, i + 1, it, acc, h, hD, hd => by
    have := pTb_add (D := D) (q := q) (l := l) (k := k + 1) (i := i) (it := it) (acc := match D k with | true => x.T ++ acc | false => acc) (by simpa using h) (by rwa [show k + 1 + i = k + (i + 1) by omega]) fun j jt hj hlt hDj => hd (j + 1) jt (by simpa using hj) (by omega) (by rwa [show k + (j + 1) = k + 1 + j by omega])
    rw [show k + 1 + i = k + (i + 1) by omega] at this
    show (pTb l (addD D (k + (i + 1))) (k + 1) (match addD D (k + (i + 1)) k with | true => x.T ++ acc | false => acc)).ent q = _
    rw [addD_ne D (show k ≠ k + (i + 1) by omega)]
    exact this
theorem pTm_mem {D : Nat → Bool} {t : Nat} {pv : PV} : ∀ {l : List Item} {k : Nat} {acc : List (Nat × PV)}, lk (pTm l D k acc) t = some pv → (∃ j it, l[j]? = some it ∧ D (k + j) = true ∧ it.pv = pv) ∨ lk acc t = some pv
  | [], _, _, h => .inr h
  | x :: l, k, acc, h => by
    rcases pTm_mem (l := l) h with ⟨j, it, h1, h2, h3⟩ | h1
    · exact .inl ⟨j + 1, it, by simpa using h1, by rwa [show k + (j + 1) = k + 1 + j by omega], h3⟩
    · cases hD : D k with
      | false => rw [hD] at h1; exact .inr h1
      | true =>
        rw [hD] at h1
        simp only [lk_putO] at h1
        by_cases hx : x.d = some t
        · rw [if_pos hx] at h1
          cases h1
          exact .inl ⟨0, x, rfl, hD, rfl⟩
        · rw [if_neg hx] at h1; exact .inr h1
theorem pTb_mem {D : Nat → Bool} {q : Nat} {e : Ent} : ∀ {l : List Item} {k : Nat} {acc : Tab}, (pTb l D k acc).ent q = some e → (∃ j it, l[j]? = some it ∧ D (k + j) = true ∧ it.T.ent q = some e) ∨ acc.ent q = some e
  | [], _, _, h => .inr h
  | x :: l, k, acc, h => by
    rcases pTb_mem (l := l) h with ⟨j, it, h1, h2, h3⟩ | h1
    · exact .inl ⟨j + 1, it, by simpa using h1, by rwa [show k + (j + 1) = k + 1 + j by omega], h3⟩
    · cases hD : D k with
      | false => rw [hD] at h1; exact .inr h1
      | true =>
        rw [hD] at h1
        simp only [ent_app] at h1
        by_cases hx : q ∈ x.T.map (·.1)
        · rw [if_pos hx] at h1
          exact .inl ⟨0, x, rfl, hD, h1⟩
        · rw [if_neg hx] at h1; exact .inr h1
/-- Only what is told counts. -/
theorem Rg.ext {A : Amb} {s s' : St} {gh : Gh} {a : Act} {w : World} (r : Rg A s gh a w) (ht : ∀ i, lk s'.tm i = lk s.tm i) (he : ∀ q, s'.tab.ent q = s.tab.ent q) : Rg A s' gh a w := by
  have hal : ∀ q, s'.tab.al q ↔ s.tab.al q := fun q => by unfold Tab.al; rw [he]
  have hal' : s'.tab.al = s.tab.al := funext fun q => propext (hal q)
  exact ⟨⟨fun q e h => by rw [hal']; exact r.cx.en q e (by rw [← he]; exact h), fun q q' h1 h2 => r.cx.dj q q' ((hal q).1 h1) ((hal q').1 h2), fun q h => r.cx.nd q ((hal q).1 h), fun q h => r.cx.no q ((hal q).1 h), r.cx.nl⟩,
    r.sz, r.df, fun i pv h => by rw [hal']; exact r.tm i pv (by rw [← ht]; exact h), r.gw, r.kp, r.fr, fun q h => r.ox q ((hal q).1 h), fun q hq h => r.hh q hq ((hal q).1 h), r.xn⟩

/-! ### An operation, guarded or not -/
def Acts (A : Amb) (P : Program) (ops : Array Oper) (o : Oper) (s s' : St) : Prop := ∀ a w K Q, R A s a w → (∀ a' w', R A s' a' w' → K a' w') → if Region.wanted o (yielded ops a.tmps) = true then o.wp P a w K Q else K (a.put o.dst undef) w
section
variable {A : Amb} {P : Program} {ops : Array Oper} {o : Oper} {s s' : St}
theorem Acts.of (hg : o.guard = none) (h : Does A P o s s') : Acts A P ops o s s' := fun a w K Q r hK => by
  rw [if_pos (by simp [Region.wanted, hg])]
  exact h a w K Q r hK
theorem Acts.yes {j d : Nat} {b : Bool} (hg : o.guard = some (j, b)) (hd : (ops[j]?).bind (·.dst) = some d) (hb : lk s.tm d = some (lf (dB b))) (h : Does A P o s s') : Acts A P ops o s s' := fun a w K Q r hK => by
  obtain ⟨gh, r'⟩ := r
  rw [if_pos (by simp [Region.wanted, hg, yielded_of hd hb r'])]
  exact h a w K Q ⟨gh, r'⟩ hK
theorem Acts.no {j d d' : Nat} {b : Bool} (hg : o.guard = some (j, b)) (hd : (ops[j]?).bind (·.dst) = some d) (hb : lk s.tm d = some (lf (dB (!b)))) (ho : o.dst = some d') (hn : Nat.blt d' A.n = true) : Acts A P ops o s (s.put d' (lf (.val undef))) := fun a w K Q r hK => by
  obtain ⟨gh, r'⟩ := r
  rw [if_neg (by simp [Region.wanted, hg, yielded_of hd hb r']), ho]
  exact hK _ _ ⟨gh, r'.put (Nat.le_of_ble_eq_true hn) (pv := lf (.val undef)) ⟨_, rfl, rfl⟩⟩
end

/-! ### The region -/
@[reducible] def depD (deps : List (List Nat)) (i : Nat) : Nat → Bool := fun k => inB k (deps.getD i [])
/-- The given dependencies follow from the edges. -/
def depsB (ops : Array Oper) (deps : List (List Nat)) (n : Nat) : Bool := (List.range n).all fun i => match ops[i]? with
  | some o => (deps.getD i []).all fun k => o.after.toList.any fun e => Region.binds .any e && (Nat.beq e.on k || inB k (deps.getD e.on []))
  | none => false
/-- No two operations write one slot; an entry is not taken up ahead of its making. -/
def planB (plan : List Item) (deps : List (List Nat)) : Bool := (List.range plan.length).all fun i => (List.range plan.length).all fun j => match plan[i]?, plan[j]? with
  | some a, some b => (Nat.beq i j || (match a.d, b.d with
      | some x, some y => !(Nat.beq x y)
      | _, _ => true)) && (!(Nat.blt i j) || inB i (deps.getD j []) || (a.T.map (·.1)).all fun q => !(keyB q b.T))
  | _, _ => false
def slotB (plan : List Item) (deps : List (List Nat)) (i t : Nat) : Bool := (List.range plan.length).all fun j => match plan[j]? with
  | some it => (match it.d with
      | some d => !(Nat.beq d t)
      | none => true) || inB j (deps.getD i [])
  | none => false
def entB (plan : List Item) (deps : List (List Nat)) (i q : Nat) : Bool := (List.range plan.length).all fun j => match plan[j]? with
  | some it => !(keyB q it.T) || inB j (deps.getD i []) || Nat.beq j i || inB i (deps.getD j [])
  | none => false
def newB (plan : List Item) (deps : List (List Nat)) (s0 : St) (i q : Nat) : Bool := freshB s0 q && (List.range plan.length).all fun j => match plan[j]? with
  | some it => Nat.beq j i || inB i (deps.getD j []) || !(inB q (it.pv.tags ++ tabTags it.T))
  | none => false
/-- What is known of the state in which operation i is carried out. -/
structure At (plan : List Item) (deps : List (List Nat)) (s0 : St) (i : Nat) (s : St) : Prop where
  tm : ∀ t, slotB plan deps i t = true → lk s.tm t = lk (pTm plan (depD deps i) 0 s0.tm) t
  en : ∀ q, entB plan deps i q = true → s.tab.ent q = (pTb plan (depD deps i) 0 s0.tab).ent q
  fr : ∀ q, newB plan deps s0 i q = true → Fresh s q
section
variable {A : Amb} {P : Program} {plan : List Item} {deps : List (List Nat)} {s0 : St}
theorem inB_mem {q : Nat} {l : List Nat} : inB q l = true ↔ q ∈ l := by
  induction l with
  | nil => simp [inB]
  | cons r rs ih =>
    unfold inB
    cases e : Nat.beq q r with
    | true => simp [Nat.eq_of_beq_eq_true e]
    | false =>
      have : q ≠ r := fun h => by rw [h, Nat.beq_refl] at e; cases e
      simp [ih, this]
theorem keyB_mem {q : Nat} {T : Tab} : keyB q T = true ↔ q ∈ T.map (·.1) := inB_mem
theorem all_range {n i : Nat} {f : Nat → Bool} (h : (List.range n).all f = true) (hi : i < n) : f i = true := List.all_eq_true.1 h i (List.mem_range.2 hi)
theorem at_of {D : Nat → Bool} (hdown : ∀ k, k < plan.length → D k = true → ∀ j, inB j (deps.getD k []) = true → D j = true) {i : Nat} (hi : i < plan.length) (hDi : D i = false) (hdi : ∀ j, inB j (deps.getD i []) = true → D j = true) : At plan deps s0 i (stD plan s0 D) := by
  refine ⟨fun t ht => pTm_same (fun j it hj hit => ?_) rfl, fun q hq => pTb_same (fun j it hj hit => ?_) rfl, fun q hq => ?_⟩
  · have hj' : j < plan.length := (List.getElem?_eq_some_iff.1 hj).1
    have h1 := all_range ht hj'
    simp only [hj, hit, Nat.beq_refl, Bool.not_true, Bool.false_or] at h1
    rw [Nat.zero_add]
    exact (hdi j h1).trans h1.symm
  · have hj' : j < plan.length := (List.getElem?_eq_some_iff.1 hj).1
    have h1 := all_range hq hj'
    simp only [hj, keyB_mem.2 hit, Bool.not_true, Bool.false_or, Bool.or_eq_true] at h1
    rw [Nat.zero_add]
    rcases h1 with (h1 | h1) | h1
    · exact (hdi j h1).trans h1.symm
    · have h1 := Nat.eq_of_beq_eq_true h1
      subst h1
      show D j = inB j (deps.getD j [])
      cases h2 : inB j (deps.getD j []) with
      | true => rw [hdi j h2]
      | false => exact hDi
    · have hDj : D j = false := by
        cases h2 : D j with
        | true => have := hdown j hj' h2 i h1; rw [hDi] at this; cases this
        | false => rfl
      show D j = inB j (deps.getD i [])
      rw [hDj]
      cases h2 : inB j (deps.getD i []) with
      | true => have := hdi j h2; rw [hDj] at this; cases this
      | false => rfl
  · simp only [newB, Bool.and_eq_true] at hq
    have hF := Fresh.of hq.1
    have hk : ∀ j it, plan[j]? = some it → D j = true → q ∉ it.pv.tags ++ tabTags it.T := fun j it hj hDj hm => by
      have hj' : j < plan.length := (List.getElem?_eq_some_iff.1 hj).1
      have h1 := all_range hq.2 hj'
      simp only [hj, Bool.or_eq_true, Bool.not_eq_true'] at h1
      rcases h1 with (h1 | h1) | h1
      · rw [Nat.eq_of_beq_eq_true h1, hDi] at hDj; cases hDj
      · have := hdown j hj' hDj i h1; rw [hDi] at this; cases this
      · exact inB_spec h1 hm
    refine ⟨fun t pv h hm => ?_, fun r e h hm => ?_, fun ⟨e, h⟩ => ?_⟩
    · rcases pTm_mem h with ⟨j, it, h1, h2, rfl⟩ | h1
      · exact hk j it h1 (by simpa using h2) (List.mem_append_left _ hm)
      · exact hF.tm t pv h1 hm
    · rcases pTb_mem h with ⟨j, it, h1, h2, h3⟩ | h1
      · exact hk j it h1 (by simpa using h2) (List.mem_append_right _ ((tabTags_spec h3).2 q hm))
      · exact hF.en r e h1 hm
    · rcases pTb_mem h with ⟨j, it, h1, h2, h3⟩ | h1
      · exact hk j it h1 (by simpa using h2) (List.mem_append_right _ (tabTags_spec h3).1)
      · exact hF.al ⟨e, h1⟩
@[reducible] def actS (s : St) (it : Item) : St := ⟨putO s.tm it.d it.pv, it.T ++ s.tab⟩
theorem wpAnyH_plan {ops : Array Oper} {Q : Exit → Act → World → Prop} (hn : ops.size = plan.length) (hd : depsB ops deps plan.length = true) (hp : planB plan deps = true) (hH : headB ops plan.length = true)
    (H : ∀ i o it, ops[i]? = some o → plan[i]? = some it → ∀ s, At plan deps s0 i s → Acts A P ops o s (actS s it))
    (hQ : ∀ a w, R A (stD plan s0 fun _ => true) a w → Q .normal a w) : ∀ (f : Nat) (listed : Array Bool) (a : Act) (w : World), listed.size = plan.length → ((List.range plan.length).filter fun i => !(listed.getD i true)).length ≤ f →
      (∀ k, k < plan.length → listed.getD k false = true → ∀ j, inB j (deps.getD k []) = true → listed.getD j false = true) → R A (stD plan s0 fun k => listed.getD k false) a w → wpAnyH P .any ops Q (fun _ => True) f listed a w := by
  have hnone : ∀ (listed : Array Bool) (a : Act) (w : World), listed.size = plan.length → Region.ready .any ops listed = [] → R A (stD plan s0 fun k => listed.getD k false) a w → Q .normal a w := fun listed a w hs hr r => by
    have hall := all_listed (ops := ops) (n := plan.length) hH hs (fun i hi h => by
      rw [hn, Nat.sub_self, Array.replicate_zero, Array.append_empty] at h
      rw [hr] at h; cases h) (by omega)
    refine hQ a w ?_
    obtain ⟨gh, r⟩ := r
    have e : ∀ k, k < plan.length → listed.getD k false = true := fun k hk => by
      have := hall k hk
      have h2 : k < listed.size := by omega
      simpa [h2] using this
    refine ⟨gh, r.ext (fun t => pTm_same (fun j it hj _ => ?_) rfl) fun q => pTb_same (fun j it hj _ => ?_) rfl⟩
    · rw [Nat.zero_add, e j (List.getElem?_eq_some_iff.1 hj).1]
    · rw [Nat.zero_add, e j (List.getElem?_eq_some_iff.1 hj).1]
  have step : ∀ (listed : Array Bool) (a : Act) (w : World) (i : Nat) (K : Act → World → Prop), listed.size = plan.length →
      (∀ k, k < plan.length → listed.getD k false = true → ∀ j, inB j (deps.getD k []) = true → listed.getD j false = true) → R A (stD plan s0 fun k => listed.getD k false) a w → i ∈ Region.ready .any ops listed →
      (∀ a' w', (∀ k, k < plan.length → (listed.setIfInBounds i true).getD k false = true → ∀ j, inB j (deps.getD k []) = true → (listed.setIfInBounds i true).getD j false = true) → R A (stD plan s0 fun k => (listed.setIfInBounds i true).getD k false) a' w' → K a' w') → wpOp P ops Q i K a w := fun listed a w i K hs hdown r hi hK => by
    obtain ⟨hun, o, ho, hedge⟩ := mem_ready.1 hi
    have hio : i < ops.size := (Array.getElem?_eq_some_iff.1 ho).1
    have hip : i < plan.length := by omega
    have hDi : listed.getD i false = false := by
      have : i < listed.size := by omega
      simpa [this] using hun
    have hdi : ∀ j, inB j (deps.getD i []) = true → listed.getD j false = true := fun j hj => by
      have h1 := all_range hd hip
      simp only [ho] at h1
      have h2 := List.all_eq_true.1 h1 j (inB_mem.1 hj)
      obtain ⟨e, he, h3⟩ := List.any_eq_true.1 h2
      simp only [Bool.and_eq_true, Bool.or_eq_true] at h3
      have h4 := hedge e (by simpa using he) h3.1
      rcases h3.2 with h5 | h5
      · rw [← Nat.eq_of_beq_eq_true h5]; exact h4
      · have h6 : e.on < plan.length := by
          have h7 := all_range hH hip
          simp only [ho, Bool.and_eq_true, Array.all_eq_true_iff_forall_mem, Bool.or_eq_true, Bool.not_eq_true', decide_eq_true_eq] at h7
          have := h7.1 e (by simpa using he)
          rw [h3.1] at this
          have h8 : e.on < i := by simpa using this
          omega
        exact hdown e.on h6 h4 j h5
    have hit : plan[i]? = some plan[i] := List.getElem?_eq_getElem hip
    have hat := at_of (s0 := s0) (D := fun k => listed.getD k false) hdown hip hDi hdi
    have hact := H i o plan[i] ho hit _ hat
    have hset : ∀ k, (listed.setIfInBounds i true).getD k false = addD (fun k => listed.getD k false) i k := fun k => by
      by_cases e : k = i
      · subst e
        rw [addD_eq]
        have : k < listed.size := by omega
        simp [this]
      · rw [addD_ne _ e]
        simp only [Array.getD_eq_getD_getElem?]
        rw [Array.getElem?_setIfInBounds_ne (fun h => e h.symm)]
    unfold wpOp
    simp only [ho]
    have hmain := hact a w K Q r fun a' w' r' => by
      refine hK a' w' (fun k hk h j hj => ?_) ?_
      · rw [hset] at h ⊢
        by_cases e : k = i
        · subst e
          have := hdi j hj
          by_cases e2 : j = k
          · rw [e2, addD_eq]
          · rw [addD_ne _ e2]; exact this
        · rw [addD_ne _ e] at h
          have := hdown k hk h j hj
          by_cases e2 : j = i
          · rw [e2, addD_eq]
          · rw [addD_ne _ e2]; exact this
      · obtain ⟨gh, r'⟩ := r'
        have hfun : (fun k => (listed.setIfInBounds i true).getD k false) = addD (fun k => listed.getD k false) i := funext hset
        rw [hfun]
        refine ⟨gh, r'.ext (fun t => ?_) fun q => ?_⟩
        · have := pTm_add (D := fun k => listed.getD k false) (t := t) (l := plan) (k := 0) (i := i) (acc := s0.tm) hit (by simpa using hDi) fun j jt hj hne _ hjn hje => by
            have hj' : j < plan.length := (List.getElem?_eq_some_iff.1 hj).1
            have h1 := all_range (all_range hp hip) hj'
            simp only [hit, hj, Bool.and_eq_true, Bool.or_eq_true] at h1
            rcases h1.1 with h2 | h2
            · exact hne (Nat.eq_of_beq_eq_true h2).symm
            · cases hd1 : plan[i].d with
              | none => rw [hje, hd1] at hjn; exact hjn rfl
              | some x =>
                rw [hje, hd1] at h2
                simp at h2
          rw [Nat.zero_add] at this
          exact this
        · have := pTb_add (D := fun k => listed.getD k false) (q := q) (l := plan) (k := 0) (i := i) (acc := s0.tab) hit (by simpa using hDi) fun j jt hj hlt hDj hm hm2 => by
            have hj' : j < plan.length := (List.getElem?_eq_some_iff.1 hj).1
            have h1 := all_range (all_range hp hip) hj'
            simp only [hit, hj, Bool.and_eq_true, Bool.or_eq_true, Bool.not_eq_true'] at h1
            rcases h1.2 with (h2 | h2) | h2
            · have h3 : Nat.blt i j = true := Nat.ble_eq_true_of_le hlt
              rw [h3] at h2; cases h2
            · have := hdown j hj' (by simpa using hDj) i h2
              rw [hDi] at this; cases this
            · have := List.all_eq_true.1 h2 q hm
              rw [keyB_mem.2 hm2] at this
              cases this
          rw [Nat.zero_add] at this
          exact this
    by_cases hw : Region.wanted o (yielded ops a.tmps) = true
    · rw [if_pos hw] at hmain ⊢
      exact .inl hmain
    · rw [if_neg hw] at hmain ⊢
      exact hmain
  intro f
  induction f with
  | zero =>
    intro listed a w hs hc hdown r
    have hr : Region.ready .any ops listed = [] := by
      refine List.eq_nil_iff_forall_not_mem.2 fun i hi => ?_
      obtain ⟨h1, o, ho, _⟩ := mem_ready.1 hi
      have hio : i < ops.size := (Array.getElem?_eq_some_iff.1 ho).1
      have hm : i ∈ (List.range plan.length).filter fun i => !(listed.getD i true) := List.mem_filter.2 ⟨List.mem_range.2 (by omega), by rw [h1]; rfl⟩
      rw [List.eq_nil_of_length_eq_zero (by omega : ((List.range plan.length).filter fun i => !(listed.getD i true)).length = 0)] at hm
      cases hm
    exact ⟨hr, hnone listed a w hs hr r⟩
  | succ f ih =>
    intro listed a w hs hc hdown r
    refine ⟨fun hr => hnone listed a w hs hr r, fun i hi => ?_⟩
    refine step listed a w i _ hs hdown r hi fun a' w' hdown' r' => ⟨trivial, ih _ a' w' (by simpa using hs) ?_ hdown' r'⟩
    obtain ⟨h1, o, ho, _⟩ := mem_ready.1 hi
    have hio : i < ops.size := (Array.getElem?_eq_some_iff.1 ho).1
    have hlt : i < listed.size := by omega
    have hsub : ((List.range plan.length).filter fun k => !((listed.setIfInBounds i true).getD k true)) = ((List.range plan.length).filter fun k => !(listed.getD k true)).filter fun k => decide (k ≠ i) := by
      rw [List.filter_filter]
      refine List.filter_congr fun k hk => ?_
      by_cases e : k = i
      · subst e; simp [hlt]
      · simp only [Array.getD_eq_getD_getElem?]
        rw [Array.getElem?_setIfInBounds_ne (fun h => e h.symm)]
        simp [e]
    have hm : i ∈ (List.range plan.length).filter fun k => !(listed.getD k true) := List.mem_filter.2 ⟨List.mem_range.2 (by omega), by rw [h1]; rfl⟩
    have hlen : (((List.range plan.length).filter fun k => !(listed.getD k true)).filter fun k => decide (k ≠ i)).length < ((List.range plan.length).filter fun k => !(listed.getD k true)).length := by
      refine Nat.lt_of_le_of_ne (List.length_filter_le _ _) fun heq => ?_
      have := List.length_filter_eq_length_iff.1 heq i hm
      simp at this
    rw [hsub]
    omega
theorem R.drew {s : St} {a : Act} {w : World} (r : R A s a w) : R A s a w.drew := by
  obtain ⟨gh, r⟩ := r
  exact ⟨gh, by
    have h := r.step (T := s.tab) (gh' := gh) (w' := w.drew) ⟨fun q e h => (r.cx.en q e h).mono (fun _ _ h => ⟨h, rfl⟩) (fun g hg => ⟨hg, rfl⟩) rfl rfl fun _ _ => rfl, r.cx.dj, r.cx.nd, r.cx.no, r.cx.nl⟩ (fun q h => .inl ⟨h, rfl, fun _ => rfl⟩) (fun g hg => ⟨hg, rfl⟩) ⟨rfl, rfl, rfl, Nat.le_refl _⟩ (fun _ _ _ => rfl) (fun g hg => .inl hg) fun q hq g hg => .inr ⟨q, hq, hg⟩
    exact h⟩
/-- A region that draws its order: all of it in whatever order. -/
theorem AC.draw {id : Nat} {l : List Oper} {Q : Exit → St → Prop} (plan : List Item) (deps : List (List Nat)) (hm : P.follows .mixedOrders = true) (hn : l.length = plan.length) (hB : (depsB l.toArray deps plan.length && planB plan deps && headB l.toArray plan.length) = true)
    (H : ∀ i o it, l[i]? = some o → plan[i]? = some it → ∀ s, At plan deps s0 i s → Acts A P l.toArray o s (actS s it)) (k : Q .normal (stD plan s0 fun _ => true)) : AC A P (.region id l.toArray true) Q s0 := fun a w r => by
  simp only [Bool.and_eq_true] at hB
  refine wp_region_held (S := fun _ => True) hm (wpAnyH_plan (s0 := s0) (by simpa using hn) hB.1.1 hB.1.2 hB.2 (fun i o it ho hit => H i o it (by simpa using ho) hit) (fun a w r => ⟨_, k, r⟩) _ _ a _ (by simpa using hn) ?_ ?_ ?_)
  · refine Nat.le_trans (List.length_filter_le _ _) ?_
    simp [hn]
  · intro j hj h
    simp [Array.getD_eq_getD_getElem?, Array.getElem?_replicate] at h
    split at h <;> simp at h
  · have r2 := r.drew
    obtain ⟨gh, r2⟩ := r2
    have e : ∀ j, (Array.replicate l.toArray.size false).getD j false = false := fun j => by
      simp only [Array.getD_eq_getD_getElem?, Array.getElem?_replicate]
      split <;> rfl
    refine ⟨gh, r2.ext (fun t => ?_) fun q => ?_⟩
    · show lk (pTm plan _ 0 s0.tm) t = lk s0.tm t
      have : ∀ (l : List Item) (k : Nat) (acc : List (Nat × PV)) (D : Nat → Bool), (∀ j, D j = false) → pTm l D k acc = acc := by
        intro l
        induction l with
        | nil => intro k acc D _; rfl
        | cons x l ih => intro k acc D hD; show pTm l D (k + 1) _ = acc; rw [hD k]; exact ih _ _ _ hD
      rw [this _ _ _ _ e]
    · show (pTb plan _ 0 s0.tab).ent q = s0.tab.ent q
      have : ∀ (l : List Item) (k : Nat) (acc : Tab) (D : Nat → Bool), (∀ j, D j = false) → pTb l D k acc = acc := by
        intro l
        induction l with
        | nil => intro k acc D _; rfl
        | cons x l ih => intro k acc D hD; show pTb l D (k + 1) _ = acc; rw [hD k]; exact ih _ _ _ hD
      rw [this _ _ _ _ e]
end
end Go.Proofs.Ytbelopdphlllnaa
