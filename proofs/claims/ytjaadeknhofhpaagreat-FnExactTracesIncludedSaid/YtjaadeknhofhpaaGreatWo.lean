/- Walks over abstract states: the values of a signal as the reference finds them, and the plain law that they are the same. -/
import Derived.Test.YtjaadeknhofhpaaGreatWm
set_option linter.unusedSimpArgs false
set_option linter.unusedVariables false
set_option linter.unusedSectionVars false
namespace Go.Proofs.YtjaadeknhofhpaaGreat
open Go.RowKit
set_option maxRecDepth 100000
set_option maxHeartbeats 4000000

/-- One move; one pass; passes. -/
def stepS (sig : Int) (a : DAr) (us : List UInt8) : Option (List UInt8) :=
  if a.2.1 = sig then
    (if (bv us a.1.toNat ≠ 63 ∧ bv us a.1.toNat ≠ (if (!a.2.2.1) = true then 49 else 48)) ∨ (bv us a.2.2.2.toNat ≠ 63 ∧ bv us a.2.2.2.toNat ≠ (if a.2.2.1 = true then 49 else 48)) then none
    else some ((us.set a.1.toNat (if (!a.2.2.1) = true then 49 else 48)).set a.2.2.2.toNat (if a.2.2.1 = true then 49 else 48)))
  else if bv us a.1.toNat = 63 then some ((us.set a.1.toNat (bv us a.2.2.2.toNat)).set a.2.2.2.toNat (bv us a.2.2.2.toNat))
  else if bv us a.2.2.2.toNat ≠ 63 ∧ bv us a.2.2.2.toNat ≠ bv us a.1.toNat then none
  else some ((us.set a.1.toNat (bv us a.1.toNat)).set a.2.2.2.toNat (bv us a.1.toNat))
def passS (sig : Int) : List DAr → List UInt8 → Option (List UInt8)
  | [], us => some us
  | a :: rs, us => match stepS sig a us with
    | none => none
    | some us' => passS sig rs us'
def iterS (sig : Int) (arcs : List DAr) : Nat → List UInt8 → Option (List UInt8)
  | 0, us => some us
  | f + 1, us => match passS sig arcs us with
    | none => none
    | some us' => iterS sig arcs f us'
def contS (sig : Int) (arcs : List DAr) (f : Nat) : Option (List UInt8) → Option (List UInt8)
  | none => none
  | some us' => iterS sig arcs f us'
def l5V (n : Nat) (arcs : List DAr) (sig : Int) : ByteArray × Bool := match iterS sig arcs (n + 1) (List.replicate n 63) with
  | none => (⟨#[]⟩, false)
  | some us => (⟨us.toArray⟩, true)
section
variable {sig : Int} {a : DAr} {us us' vs vs' : List UInt8} {arcs rs : List DAr} {f k m : Nat} {cf ct x : UInt8} {ch ch' : Bool} {i j : Nat}
theorem passS_ok (hx : arcs[k]? = some a) (h : stepS sig a us = some us') : passS sig (arcs.drop k) us = passS sig (arcs.drop (k + 1)) us' := by rw [drop_cons hx, passS, h]
theorem passS_bad (hx : arcs[k]? = some a) (h : stepS sig a us = none) : passS sig (arcs.drop k) us = none := by rw [drop_cons hx, passS, h]
theorem passS_end (hk : arcs.length ≤ k) : passS sig (arcs.drop k) us = some us := by rw [List.drop_eq_nil_of_le hk, passS]
theorem iterS_in (f : Nat) (us : List UInt8) : iterS sig arcs (f + 1) us = contS sig arcs f (passS sig arcs us) := by
  rw [iterS]; cases passS sig arcs us <;> rfl
theorem l5V_no {n : Nat} (h : iterS sig arcs (n + 1) (List.replicate n 63) = none) : l5V n arcs sig = (⟨#[]⟩, false) := by unfold l5V; rw [h]
theorem l5V_yes {n : Nat} (h : iterS sig arcs (n + 1) (List.replicate n 63) = some us) : l5V n arcs sig = (⟨us.toArray⟩, true) := by unfold l5V; rw [h]
/-! The two ways of writing 'not known'. -/
def qm (c : UInt8) : UInt8 := if c = 0 then 63 else c
def Kn (vs : List UInt8) : Prop := ∀ c ∈ vs, c = 0 ∨ c = 48 ∨ c = 49
theorem Kn.set (h : Kn vs) {c : UInt8} (hc : c = 0 ∨ c = 48 ∨ c = 49) (i : Nat) : Kn (vs.set i c) := fun d hd => by
  rcases List.mem_or_eq_of_mem_set hd with h1 | h1
  · exact h d h1
  · rw [h1]; exact hc
theorem Kn.at (h : Kn vs) (hi : i < vs.length) : ∃ c, vs[i]? = some c ∧ (c = 0 ∨ c = 48 ∨ c = 49) := ⟨_, List.getElem?_eq_getElem hi, h _ (List.getElem_mem hi)⟩
theorem set_same {c : UInt8} (h : vs[i]? = some c) : vs.set i c = vs := by
  apply List.ext_getElem?
  intro j
  by_cases e : i = j
  · subst e; rw [List.getElem?_set_self (List.getElem?_eq_some_iff.1 h).1, h]
  · rw [List.getElem?_set_ne e]
theorem bv_map (hi : vs[i]? = some cf) : bv (vs.map qm) i = qm cf := bv_get (by rw [List.getElem?_map, hi]; rfl)
theorem bitB (b : Bool) : ((if b = true then (49 : UInt8) else 48) = 49 ∧ (if (!b) = true then (49 : UInt8) else 48) = 48) ∨ ((if b = true then (49 : UInt8) else 48) = 48 ∧ (if (!b) = true then (49 : UInt8) else 48) = 49) := by cases b <;> simp
theorem agb_get (hne : i ≠ j) (c : UInt8) (h : vs[j]? = some ct) : (agb vs i c).1[j]? = some ct := by
  unfold agb
  split
  · exact h
  · split
    · show (vs.set i c)[j]? = _
      rw [List.getElem?_set_ne hne]; exact h
    · exact h
/-- A step on the one side is a step on the other, but for an edge of the signal that stays. -/
theorem step_same (hk : Kn vs) (hr : InR vs.length a) (hself : a.2.1 = sig → a.1 ≠ a.2.2.2) : stepS sig a (vs.map qm) = (stepV sig a vs).map (fun r => r.1.map qm) ∧ ∀ vs' c, stepV sig a vs = some (vs', c) → Kn vs' := by
  obtain ⟨⟨r1, r2⟩, r3, r4⟩ := hr
  obtain ⟨cf, hf, kf⟩ := hk.at (i := a.1.toNat) (by omega)
  obtain ⟨ct, ht, kt⟩ := hk.at (i := a.2.2.2.toNat) (by omega)
  unfold stepS stepV
  rw [bv_map hf, bv_map ht]
  by_cases hl : a.2.1 = sig
  · rw [if_pos hl, if_pos hl]
    have hne : a.1.toNat ≠ a.2.2.2.toNat := by have := hself hl; omega
    have hg := fun c => agb_get (vs := vs) hne c ht
    rw [agb_eq (hg _), agb_eq hf]
    have hset : ∀ c d : UInt8, ((vs.map qm).set a.1.toNat c).set a.2.2.2.toNat d = ((vs.map qm).set a.2.2.2.toNat d).set a.1.toNat c := fun c d => List.set_comm _ _ hne
    have hf2 : ∀ d, (vs.set a.2.2.2.toNat d)[a.1.toNat]? = some cf := fun d => by rw [List.getElem?_set_ne (Ne.symm hne)]; exact hf
    have mf : (vs.map qm)[a.1.toNat]? = some (qm cf) := by rw [List.getElem?_map, hf]; rfl
    have mt : (vs.map qm)[a.2.2.2.toNat]? = some (qm ct) := by rw [List.getElem?_map, ht]; rfl
    have mt2 : ∀ d, ((vs.map qm).set a.1.toNat d)[a.2.2.2.toNat]? = some (qm ct) := fun d => by rw [List.getElem?_set_ne hne]; exact mt
    have s1 := set_same mf
    have s2 := set_same mt
    have s3 := fun d => set_same (mt2 d)
    rcases bitB a.2.2.1 with ⟨e1, e2⟩ | ⟨e1, e2⟩ <;> rw [e1, e2] <;> rcases kf with rfl | rfl | rfl <;> rcases kt with rfl | rfl | rfl <;> simp only [qm] at s1 s2 s3 ⊢ <;> simp [List.map_set, qm, s1, s2, s3] at * <;> first | done | (refine ⟨?_, ?_⟩ <;> first | (simp_all; done) | (intros; subst_vars; first | exact (hk.set (.inr (.inl rfl)) _).set (.inr (.inr rfl)) _ | exact (hk.set (.inr (.inr rfl)) _).set (.inr (.inl rfl)) _ | exact hk.set (.inr (.inl rfl)) _ | exact hk.set (.inr (.inr rfl)) _ | exact hk)) | (intros; subst_vars; first | exact (hk.set (.inr (.inl rfl)) _).set (.inr (.inr rfl)) _ | exact (hk.set (.inr (.inr rfl)) _).set (.inr (.inl rfl)) _ | exact hk.set (.inr (.inl rfl)) _ | exact hk.set (.inr (.inr rfl)) _ | exact hk) | (simp_all; done)
  · rw [if_neg hl, if_neg hl, agr_eq hf ht]
    have mf : (vs.map qm)[a.1.toNat]? = some (qm cf) := by rw [List.getElem?_map, hf]; rfl
    have mt : (vs.map qm)[a.2.2.2.toNat]? = some (qm ct) := by rw [List.getElem?_map, ht]; rfl
    have s1 := set_same mf
    have s2 := set_same mt
    have s3 : ((vs.map qm).set a.1.toNat (qm ct)).set a.2.2.2.toNat (qm ct) = (vs.map qm).set a.1.toNat (qm ct) := by
      by_cases e : a.1.toNat = a.2.2.2.toNat
      · rw [e, List.set_set]
      · exact set_same (by rw [List.getElem?_set_ne e]; exact mt)
    rcases kf with rfl | rfl | rfl <;> rcases kt with rfl | rfl | rfl <;> simp only [qm] at s1 s2 s3 ⊢ <;> simp [List.map_set, qm, s1, s2, s3] at * <;> first | done | (refine ⟨?_, ?_⟩ <;> first | (simp_all; done) | (intros; subst_vars; first | exact hk.set (.inr (.inl rfl)) _ | exact hk.set (.inr (.inr rfl)) _ | exact hk)) | (intros; subst_vars; first | exact hk.set (.inr (.inl rfl)) _ | exact hk.set (.inr (.inr rfl)) _ | exact hk) | (simp_all; done)
theorem pass_same (hr : ∀ a ∈ rs, InR m a) (hs : ∀ a ∈ rs, a.2.1 = sig → a.1 ≠ a.2.2.2) (hk : Kn vs) (hl : vs.length = m) : passS sig rs (vs.map qm) = (passV sig rs vs ch).map (fun r => r.1.map qm) ∧ ∀ vs' c, passV sig rs vs ch = some (vs', c) → Kn vs' := by
  induction rs generalizing vs ch with
  | nil => exact ⟨rfl, fun vs' c h => by rw [passV] at h; cases h; exact hk⟩
  | cons a rs ih =>
    obtain ⟨h1, h2⟩ := step_same hk (by rw [hl]; exact hr a (List.mem_cons_self ..)) (hs a (List.mem_cons_self ..))
    rw [passS, passV, h1]
    cases hst : stepV sig a vs with
    | none => exact ⟨rfl, fun vs' c h => by cases h⟩
    | some r =>
      obtain ⟨v1, c1⟩ := r
      exact ih (fun b hb => hr b (List.mem_cons_of_mem _ hb)) (fun b hb => hs b (List.mem_cons_of_mem _ hb)) (h2 _ _ hst) ((stepV_fine (by rw [hl]; exact hr a (List.mem_cons_self ..)) hst).1.trans hl)
theorem iterS_fix (h : passS sig arcs us = some us) : ∀ f, iterS sig arcs f us = some us
  | 0 => rfl
  | f + 1 => by rw [iterS, h]; exact iterS_fix h f
theorem run_same (hr : ∀ a ∈ arcs, InR m a) (hs : ∀ a ∈ arcs, a.2.1 = sig → a.1 ≠ a.2.2.2) : ∀ {f : Nat} {vs : List UInt8}, Kn vs → vs.length = m → cnt0 vs < f → iterS sig arcs f (vs.map qm) = (runV sig arcs f vs).map (List.map qm) ∧ ∀ vs', runV sig arcs f vs = some vs' → Kn vs'
  | 0, _, _, _, h => by omega
  | f + 1, vs, hk, hl, h => by
    obtain ⟨h1, h2⟩ := pass_same (ch := false) hr hs hk hl
    rw [iterS, runV, h1]
    cases hp : passV sig arcs vs false with
    | none => exact ⟨rfl, fun vs' h => by cases h⟩
    | some r =>
      obtain ⟨v1, c1⟩ := r
      obtain ⟨k1, k2, k3, k4⟩ := passV_fine hr hl hp
      cases c1 with
      | true =>
        rcases k3 rfl with h3 | h3
        · cases h3
        · have h3 : cnt0 v1 < cnt0 vs := h3
          exact run_same hr hs (h2 _ _ hp) k1 (show cnt0 v1 < f by omega)
      | false =>
        obtain ⟨rfl, _⟩ := k4 rfl
        rw [hp] at h1
        exact ⟨iterS_fix h1 f, fun vs' h => by cases h; exact hk⟩
/-! An edge of the signal that stays at a state: no values, on both sides. -/
theorem agb_def (vs : List UInt8) (i : Nat) (c : UInt8) : agb vs i c = if bv vs i = c then (vs, true, false) else if bv vs i = 0 then (vs.set i c, true, true) else (vs, false, false) := rfl
theorem stepV_self (hl : a.2.1 = sig) (he : a.1 = a.2.2.2) (hi : a.1.toNat < vs.length) : stepV sig a vs = none := by
  unfold stepV
  rw [if_pos hl, ← he]
  have h0 := bit_ne a.2.2.1
  have h1 := bit_ne (!a.2.2.1)
  have h2 : (if (!a.2.2.1) = true then (49 : UInt8) else 48) ≠ (if a.2.2.1 = true then 49 else 48) := by cases a.2.2.1 <;> decide
  generalize (if (!a.2.2.1) = true then (49 : UInt8) else 48) = f0 at h1 h2 ⊢
  generalize (if a.2.2.1 = true then (49 : UInt8) else 48) = t0 at h0 h2 ⊢
  rw [if_neg]
  rintro ⟨k1, k2⟩
  have k3 : bv (agb vs a.1.toNat f0).1 a.1.toNat = f0 := by
    rw [agb_def] at k1 ⊢
    split
    · assumption
    · rename_i h3
      rw [if_neg h3] at k1
      split
      · exact bv_get (List.getElem?_set_self hi)
      · rename_i h4
        rw [if_neg h4] at k1
        cases k1
  rw [agb_def (agb vs a.1.toNat f0).1, k3, if_neg h2, if_neg h1] at k2
  cases k2
theorem passV_self {b : DAr} (hr : ∀ a ∈ rs, InR m a) (hlen : vs.length = m) (hm : b ∈ rs) (hl : b.2.1 = sig) (he : b.1 = b.2.2.2) : passV sig rs vs ch = none := by
  induction rs generalizing vs ch with
  | nil => cases hm
  | cons a rs ih =>
    have ha := hr a (List.mem_cons_self ..)
    rw [passV]
    cases hst : stepV sig a vs with
    | none => rfl
    | some r =>
      obtain ⟨v1, c1⟩ := r
      rcases List.mem_cons.1 hm with rfl | hm
      · have := ha.1
        rw [stepV_self hl he (by omega)] at hst
        cases hst
      · exact ih (fun b hb => hr b (List.mem_cons_of_mem _ hb)) ((stepV_fine (by rw [hlen]; exact ha) hst).1.trans hlen) hm
theorem stepS_len (h : stepS sig a us = some us') : us'.length = us.length := by
  unfold stepS at h
  generalize (if (!a.2.2.1) = true then (49 : UInt8) else 48) = f0 at h
  generalize (if a.2.2.1 = true then (49 : UInt8) else 48) = t0 at h
  split at h
  · split at h
    · cases h
    · cases h; simp
  · split at h
    · cases h; simp
    · split at h
      · cases h
      · cases h; simp
theorem stepS_keep {c : UInt8} (h : stepS sig a us = some us') (hc : us[i]? = some c) (h0 : c ≠ 63) : us'[i]? = some c := by
  have hi := (List.getElem?_eq_some_iff.1 hc).1
  have hset : ∀ x y : UInt8, (i = a.2.2.2.toNat → y = c) → (i = a.1.toNat → x = c) → ((us.set a.1.toNat x).set a.2.2.2.toNat y)[i]? = some c := fun x y h1 h2 => by
    by_cases e1 : a.2.2.2.toNat = i
    · rw [e1, List.getElem?_set_self (by simpa using hi), h1 e1.symm]
    · rw [List.getElem?_set_ne e1]
      by_cases e2 : a.1.toNat = i
      · rw [e2, List.getElem?_set_self hi, h2 e2.symm]
      · rw [List.getElem?_set_ne e2]; exact hc
  unfold stepS at h
  generalize (if (!a.2.2.1) = true then (49 : UInt8) else 48) = f0 at h
  generalize (if a.2.2.1 = true then (49 : UInt8) else 48) = t0 at h
  split at h
  · split at h
    · cases h
    · rename_i h2
      cases h
      refine hset _ _ (fun e => ?_) (fun e => ?_)
      · rw [← e, bv_get hc] at h2
        exact Classical.byContradiction fun h3 => h2 (.inr ⟨h0, fun e => h3 e.symm⟩)
      · rw [← e, bv_get hc] at h2
        exact Classical.byContradiction fun h3 => h2 (.inl ⟨h0, fun e => h3 e.symm⟩)
  · split at h
    · rename_i h2
      cases h
      refine hset _ _ (fun e => ?_) (fun e => ?_)
      · rw [← e, bv_get hc]
      · rw [← e, bv_get hc] at h2; exact absurd h2 h0
    · split at h
      · cases h
      · rename_i h2 h3
        cases h
        refine hset _ _ (fun e => ?_) (fun e => ?_)
        · rw [← e, bv_get hc] at h3
          exact Classical.byContradiction fun h4 => h3 ⟨h0, fun e => h4 e.symm⟩
        · rw [← e, bv_get hc]
theorem passS_keep {c : UInt8} (h : passS sig rs us = some us') (hc : us[i]? = some c) (h0 : c ≠ 63) : us'[i]? = some c := by
  induction rs generalizing us with
  | nil => rw [passS] at h; cases h; exact hc
  | cons a rs ih =>
    rw [passS] at h
    cases hst : stepS sig a us with
    | none => rw [hst] at h; cases h
    | some u1 => rw [hst] at h; exact ih h (stepS_keep hst hc h0)
theorem passS_self {b : DAr} (hm : b ∈ rs) (hl : b.2.1 = sig) (he : b.1 = b.2.2.2) (hi : b.1.toNat < us.length) (h : passS sig rs us = some us') : ∃ c, us'[b.1.toNat]? = some c ∧ c ≠ 63 := by
  induction rs generalizing us with
  | nil => cases hm
  | cons a rs ih =>
    rw [passS] at h
    cases hst : stepS sig a us with
    | none => rw [hst] at h; cases h
    | some u1 =>
      rw [hst] at h
      rcases List.mem_cons.1 hm with rfl | hm
      · have h2 : u1[b.1.toNat]? = some (if b.2.2.1 = true then 49 else 48) := by
          unfold stepS at hst
          rw [if_pos hl] at hst
          generalize (if (!b.2.2.1) = true then (49 : UInt8) else 48) = f0 at hst
          generalize (if b.2.2.1 = true then (49 : UInt8) else 48) = t0 at hst ⊢
          split at hst
          · cases hst
          · cases hst
            rw [← he, List.getElem?_set_self (by simpa using hi)]
        have h3 : (if b.2.2.1 = true then (49 : UInt8) else 48) ≠ 63 := by cases b.2.2.1 <;> decide
        exact ⟨_, passS_keep h h2 h3, h3⟩
      · exact ih hm (by rw [stepS_len hst]; exact hi) h
theorem passS_none {b : DAr} {c : UInt8} (hm : b ∈ rs) (hl : b.2.1 = sig) (he : b.1 = b.2.2.2) (hc : us[b.1.toNat]? = some c) (h0 : c ≠ 63) : passS sig rs us = none := by
  induction rs generalizing us with
  | nil => cases hm
  | cons a rs ih =>
    rw [passS]
    rcases List.mem_cons.1 hm with rfl | hm
    · have : stepS sig b us = none := by
        unfold stepS
        rw [if_pos hl, ← he, bv_get hc, if_pos]
        have h2 : (if (!b.2.2.1) = true then (49 : UInt8) else 48) ≠ (if b.2.2.1 = true then 49 else 48) := by cases b.2.2.1 <;> decide
        by_cases e : c = (if (!b.2.2.1) = true then (49 : UInt8) else 48)
        · exact .inr ⟨h0, fun e2 => h2 (e.symm.trans e2)⟩
        · exact .inl ⟨h0, e⟩
      rw [this]
    · cases hst : stepS sig a us with
      | none => rfl
      | some u1 => exact ih hm (stepS_keep hst hc h0)
def q0 (c : UInt8) : UInt8 := if c = 63 then 48 else c
theorem q0_qm (hk : Kn vs) : (vs.map qm).map q0 = vs.map fz := by
  rw [List.map_map]
  refine List.map_congr_left fun c hc => ?_
  rcases hk c hc with rfl | rfl | rfl <;> rfl
/-- The plain law. -/
theorem l5V_vals {n : Nat} (hr : ∀ a ∈ arcs, InR n a) : ((l5V n arcs sig).2 = false ∧ (valsV n arcs sig).2 = false ∧ l5V n arcs sig = (⟨#[]⟩, false) ∧ valsV n arcs sig = ([], false)) ∨ ∃ us : List UInt8, l5V n arcs sig = (⟨us.toArray⟩, true) ∧ us.length = n ∧ valsV n arcs sig = (us.map q0, true) := by
  by_cases hself : ∃ b ∈ arcs, b.2.1 = sig ∧ b.1 = b.2.2.2
  · obtain ⟨b, hb, hl, he⟩ := hself
    have hV : runV sig arcs (n + 1) (List.replicate n 0) = none := by rw [runV, passV_self hr (by simp) hb hl he]
    obtain ⟨⟨r1, r2⟩, _, _⟩ := hr b hb
    have hS : iterS sig arcs (n + 1) (List.replicate n 63) = none := by
      obtain ⟨n', rfl⟩ : ∃ n', n = n' + 1 := ⟨n - 1, by omega⟩
      rw [iterS]
      cases hp : passS sig arcs (List.replicate (n' + 1) 63) with
      | none => rfl
      | some u1 =>
        obtain ⟨c, h1, h2⟩ := passS_self hb hl he (by simp; omega) hp
        show iterS sig arcs (n' + 1) u1 = none
        rw [iterS, passS_none hb hl he h1 h2]
    exact .inl ⟨by rw [l5V_no hS], by rw [valsV_no hV], l5V_no hS, valsV_no hV⟩
  · have hs : ∀ a ∈ arcs, a.2.1 = sig → a.1 ≠ a.2.2.2 := fun a ha h1 h2 => hself ⟨a, ha, h1, h2⟩
    obtain ⟨h1, h2⟩ := run_same (f := n + 1) (vs := List.replicate n 0) hr hs (fun c hc => .inl (List.eq_of_mem_replicate hc)) (by simp) (by rw [cnt0_rep]; omega)
    have e : (List.replicate n (0 : UInt8)).map qm = List.replicate n 63 := by rw [List.map_replicate]; rfl
    rw [e] at h1
    cases hv : runV sig arcs (n + 1) (List.replicate n 0) with
    | none =>
      rw [hv] at h1
      exact .inl ⟨by rw [l5V_no h1], by rw [valsV_no hv], l5V_no h1, valsV_no hv⟩
    | some vs =>
      rw [hv] at h1
      refine .inr ⟨vs.map qm, l5V_yes h1, ?_, ?_⟩
      · have : ∀ {f : Nat} {v v' : List UInt8}, v.length = n → runV sig arcs f v = some v' → v'.length = n := fun {f} => by
          induction f with
          | zero => intro v v' hl h; rw [runV] at h; cases h; exact hl
          | succ f ih =>
            intro v v' hl h
            rw [runV] at h
            cases hp : passV sig arcs v false with
            | none => rw [hp] at h; cases h
            | some r =>
              obtain ⟨v1, c1⟩ := r
              rw [hp] at h
              have k1 := (passV_fine hr hl hp).1
              cases c1 with
              | true => exact ih k1 h
              | false => cases h; exact k1
        rw [List.length_map]
        exact this (by simp) hv
      · rw [valsV_yes hv, q0_qm (h2 _ hv)]
end

end Go.Proofs.YtjaadeknhofhpaaGreat

/- Walks over abstract states: the values of a signal, the reference. -/
namespace Go.Proofs.YtjaadeknhofhpaaGreat
open Go.RowKit
set_option maxRecDepth 100000
set_option maxHeartbeats 4000000

section
variable {sig : Int} {us us' : List UInt8} {arcs : List DAr} {f k n : Nat} {cf ct b1 b2 : UInt8} {mv : DMv} {lb : DLabel} {ls : List DLabel} {ms : List DMv}
theorem arcs_len (ls : List DLabel) (ms : List DMv) : (arcsOf ls ms).length = ms.length := by simp [arcsOf]
theorem arcs_get (hx : ms[k]? = some mv) (hla : labAt ls mv.2.1 = lb) : (arcsOf ls ms)[k]? = some (mv.1, lb.1, lb.2, mv.2.2) := by
  unfold arcsOf
  rw [List.getElem?_map, hx]
  simp [arcOf, hla]
def ar4 (mv : DMv) (lb : DLabel) : DAr := (mv.1, lb.1, lb.2, mv.2.2)
theorem stepS_un1 (hl : ¬ lb.1 = sig) (hf : us[mv.1.toNat]? = some cf) (hq : decide (cf = 63) = true) (ht : us[mv.2.2.toNat]? = some ct) : stepS sig (mv.1, lb.1, lb.2, mv.2.2) us = some ((us.set mv.1.toNat ct).set mv.2.2.toNat ct) := by
  unfold stepS
  simp only
  rw [if_neg hl, bv_get hf, bv_get ht, if_pos (of_decide_eq_true hq)]
theorem stepS_un2 (hl : ¬ lb.1 = sig) (hf : us[mv.1.toNat]? = some cf) (hq : decide (cf = 63) = false) (ht : us[mv.2.2.toNat]? = some ct) (h2 : ct = 63 ∨ ct = cf) : stepS sig (mv.1, lb.1, lb.2, mv.2.2) us = some ((us.set mv.1.toNat cf).set mv.2.2.toNat cf) := by
  unfold stepS
  simp only
  rw [if_neg hl, bv_get hf, bv_get ht, if_neg (of_decide_eq_false hq), if_neg]
  rintro ⟨h3, h4⟩
  rcases h2 with h | h
  · exact h3 h
  · exact h4 h
theorem stepS_un3 (hl : ¬ lb.1 = sig) (hf : us[mv.1.toNat]? = some cf) (hq : decide (cf = 63) = false) (ht : us[mv.2.2.toNat]? = some ct) (h1 : ¬ ct = 63) (h2 : ¬ ct = cf) : stepS sig (mv.1, lb.1, lb.2, mv.2.2) us = none := by
  unfold stepS
  simp only
  rw [if_neg hl, bv_get hf, bv_get ht, if_neg (of_decide_eq_false hq), if_pos ⟨h1, h2⟩]
theorem bitS_at {b : Bool} {c : UInt8} (h : (bitS b)[((0 : Int)).toNat]? = some c) : (if b = true then 49 else 48) = c := by
  have : (bitS b)[((0 : Int)).toNat]? = some (if b = true then 49 else 48) := by cases b <;> rfl
  rw [this] at h
  exact Option.some.inj h
theorem stepS_lab (hl : lb.1 = sig) (h1 : (bitS (!lb.2))[((0 : Int)).toNat]? = some b1) (h2 : (bitS lb.2)[((0 : Int)).toNat]? = some b2) (hf : cf = 63 ∨ cf = b1) (ht : ct = 63 ∨ ct = b2) (hcf : us[mv.1.toNat]? = some cf) (hct : us[mv.2.2.toNat]? = some ct) :
    stepS sig (mv.1, lb.1, lb.2, mv.2.2) us = some ((us.set mv.1.toNat b1).set mv.2.2.toNat b2) := by
  unfold stepS
  simp only
  rw [if_pos hl, bitS_at h1, bitS_at h2, bv_get hcf, bv_get hct, if_neg]
  rintro (⟨h3, h4⟩ | ⟨h3, h4⟩)
  · rcases hf with h | h
    · exact h3 h
    · exact h4 h
  · rcases ht with h | h
    · exact h3 h
    · exact h4 h
theorem stepS_lab1 (hl : lb.1 = sig) (h1 : (bitS (!lb.2))[((0 : Int)).toNat]? = some b1) (hcf : us[mv.1.toNat]? = some cf) (h3 : ¬ cf = 63) (h4 : ¬ cf = b1) : stepS sig (mv.1, lb.1, lb.2, mv.2.2) us = none := by
  unfold stepS
  simp only
  rw [if_pos hl, bitS_at h1, bv_get hcf, if_pos (.inl ⟨h3, h4⟩)]
theorem stepS_lab2 (hl : lb.1 = sig) (h1 : (bitS lb.2)[((0 : Int)).toNat]? = some b2) (hct : us[mv.2.2.toNat]? = some ct) (h3 : ¬ ct = 63) (h4 : ¬ ct = b2) : stepS sig (mv.1, lb.1, lb.2, mv.2.2) us = none := by
  unfold stepS
  simp only
  rw [if_pos hl, bitS_at h1, bv_get hct, if_pos (.inr ⟨h3, h4⟩)]
/-- The places below k filled with '?'. -/
def fillQ (n k : Nat) : List UInt8 := List.replicate k 63 ++ List.replicate (n - k) 0
theorem fillQ_len (n k : Nat) (h : k ≤ n) : (fillQ n k).length = n := by simp [fillQ]; omega
theorem fillQ_end (h : n ≤ k) (h2 : k ≤ n) : fillQ n k = List.replicate n 63 := by
  obtain rfl : k = n := by omega
  simp [fillQ]
theorem fillQ_set (h : k < n) : (fillQ n k).set k 63 = fillQ n (k + 1) := by
  unfold fillQ
  rw [List.set_append_right _ _ (by simp), List.length_replicate, Nat.sub_self, show n - k = (n - (k + 1)) + 1 by omega, List.replicate_succ, List.set_cons_zero, List.replicate_succ']
  simp
def clash (n : Nat) (arcs : List DAr) : Nat → List Int
  | 0 => []
  | k + 1 => clash n arcs k ++ (if (l5V n arcs (k : Int)).2 = true then [] else [(k : Int)])
theorem clash_len (n : Nat) (arcs : List DAr) (k : Nat) : (clash n arcs k).length ≤ k := by
  induction k with
  | zero => simp [clash]
  | succ k ih => simp only [clash, List.length_append]; split <;> simp <;> omega
theorem clash_yes (h : (l5V n arcs (k : Int)).2 = true) : clash n arcs k = clash n arcs (k + 1) := by simp [clash, h]
theorem clash_no (h : (l5V n arcs (k : Int)).2 = false) : clash n arcs k ++ [(k : Int)] = clash n arcs (k + 1) := by simp [clash, h]
end
def MvOk (n m : Nat) (v : DMv) : Prop := (0 ≤ v.1 ∧ v.1 < (n : Int)) ∧ (0 ≤ v.2.1 ∧ v.2.1 < (m : Int)) ∧ 0 ≤ v.2.2 ∧ v.2.2 < (n : Int)

theorem fc_spec_l5Bit (up : Bool)  : FC Tryz.prog 272 [(false, [dB up])] [] 0 (Pure (lf (dS (bitS up)))) := by
 refine FC.go Tryz.func272 rfl rfl Tryz.ntmps272 fun O_ hO w0_ N0_ X_ h0_ f0_ => ?_
 iterate 7 refine w_ ?_
 cases hb1 : (up)
 ·iterate 5 refine w_ ?_
  refine AC.ret ?_
  subst hO
  have e2 : ((⟨#[48]⟩ : ByteArray) : ByteArray) = (bitS up) := by
   simp [bitS, *]
  exact fin_pure (Res.one rfl (Rs.tmp rfl)) ((congrArg (fun z_ => lf (dS z_)) e2)) rfl
 ·iterate 4 refine w_ ?_
  refine AC.ret ?_
  subst hO
  have e3 : ((⟨#[49]⟩ : ByteArray) : ByteArray) = (bitS up) := by
   simp [bitS, *]
  exact fin_pure (Res.one rfl (Rs.tmp rfl)) ((congrArg (fun z_ => lf (dS z_)) e3)) rfl

theorem fc_spec_l5Values (s : (Int × (List (List Int × List Int))) × (List (ByteArray × Int)) × (List (Int × Bool)) × ByteArray) (r : List ByteArray × (List (Int × Int × Int))) (sig : Int) (hm : ∀ m ∈ r.2, MvOk r.1.length s.2.2.1.length m) (hl1 : r.1.length ≤ 1000000) : FC Tryz.prog 208 [(true, [dI s.1.1, .dat (.sl 198 (.pr (.sl 3 .int) (.sl 3 .int))) s.1.2, .dat (.sl 90 (.pr .str .int)) s.2.1, .dat (.sl 55 (.pr .int .bool)) s.2.2.1, dS s.2.2.2]), (true, [.dat (.sl 9 .str) r.1, .dat (.sl 229 (.pr .int (.pr .int .int))) r.2]), (false, [dI sig])] [] 0 (Pure (PV.tup [(false, [dS ((l5V r.1.length (arcsOf s.2.2.1 r.2) sig).1)]), (false, [dB ((l5V r.1.length (arcsOf s.2.2.1 r.2) sig).2)])])) := by
 have hrl : (List.replicate r.1.length (Ty.zero .u8)).length = r.1.length := List.length_replicate ..
 refine FC.go Tryz.func208 rfl rfl Tryz.ntmps208 fun O_ hO w0_ N0_ X_ h0_ f0_ => ?_
 refine AC.fact (fact_ag (x := .tmp 0) (i := 0) (Ev.tmp rfl) rfl) fun hi1 => AC.fact (fact_int (x := .tmp 2) (Evl.tmp rfl)) fun hi2 => ?_
 refine w_ ?_
 refine xbx 0 ?_
 refine xbx 1 ?_
 iterate 6 refine w_ ?_
 refine AL.fact (fact_len (x := .tmp 18) (Evl.tmp rfl)) fun hl3 => ?_
 refine w_ ?_
 refine lc (Does.make 2 (e := .u8) (n := r.1.length) (Evl.tmp rfl) (Evl.tmp rfl) und_22 mki_5 rfl (by omega) (by omega) rfl (Fresh.of rfl) (nlr rfl)) ?_
 iterate 9 refine w_ ?_
 refine AC.loopW (fun m_ s_ => ∃ (k : Nat), k ≤ r.1.length ∧ m_ = r.1.length - k ∧ s_ = ⟨[(2, lI sig), (3, lP 0 0), (4, lP 1 0), (6, lf (dS (⟨#[]⟩ : ByteArray))), (7, lB false), (8, lR 3), (22, lI ((List.replicate r.1.length (Ty.zero .u8)).length : Int)), (23, lI (k : Int))], [(0, some (.box 29 [dI s.1.1, .dat (.sl 198 (.pr (.sl 3 .int) (.sl 3 .int))) s.1.2, .dat (.sl 90 (.pr .str .int)) s.2.1, .dat (.sl 55 (.pr .int .bool)) s.2.2.1, dS s.2.2.2])), (1, some (.box 164 [.dat (.sl 9 .str) r.1, .dat (.sl 229 (.pr .int (.pr .int .int))) r.2])), (3, some (.arr 5 .u8 (fillQ r.1.length k)))]⟩) ⟨0, Nat.zero_le _, rfl, rfl⟩ ?_ ?_
 · exact Wk.of [(3, 2)] rfl ⟨rfl, rfl, rfl, rfl, rfl, rfl, rfl, rfl, trivial⟩ ⟨rfl, rfl, (entE (rfl)), trivial⟩ rfl rfl
 rintro m_ s_ ⟨k, hk4, hm5, rfl⟩
 have hfq := fillQ_len r.1.length k (by omega)
 iterate 4 refine w_ ?_
 cases hb6 : (decide ((k : Int) < ((List.replicate r.1.length (Ty.zero .u8)).length : Int)))
 ·have hb6' := of_decide_eq_false hb6
  refine w_ ?_
  refine AC.exit ?_
  refine (?_ : AC _ _ _ _ _)
  iterate 5 refine w_ ?_
  refine AC.loopW (fun m_ s_ => ∃ (p : Nat) (us : List UInt8), p ≤ (r.1.length + 1) ∧ m_ = (r.1.length + 1) - p ∧ (iterS sig (arcsOf s.2.2.1 r.2) (r.1.length + 1) (List.replicate r.1.length 63) = iterS sig (arcsOf s.2.2.1 r.2) (r.1.length + 1 - p) us) ∧ (us.length = r.1.length) ∧ s_ = ⟨[(2, lI sig), (3, lP 0 0), (4, lP 1 0), (8, lR 4), (10, lI (p : Int))], [(0, some (.box 29 [dI s.1.1, .dat (.sl 198 (.pr (.sl 3 .int) (.sl 3 .int))) s.1.2, .dat (.sl 90 (.pr .str .int)) s.2.1, .dat (.sl 55 (.pr .int .bool)) s.2.2.1, dS s.2.2.2])), (1, some (.box 164 [.dat (.sl 9 .str) r.1, .dat (.sl 229 (.pr .int (.pr .int .int))) r.2])), (4, some (.arr 5 .u8 us))]⟩) ⟨0, fillQ r.1.length k, Nat.zero_le _, rfl, (by rw [fillQ_end (by omega) (by omega)]; rfl), (fillQ_len _ _ (by omega)), rfl⟩ ?_ ?_
  · exact Wk.of [(4, 3)] rfl ⟨rfl, rfl, rfl, rfl, rfl, trivial⟩ ⟨rfl, rfl, (entE (by first | rfl | simp)), trivial⟩ rfl rfl
  rintro m_ s_ ⟨p, us, hk7, hm8, hA, hL, rfl⟩
  iterate 5 refine w_ ?_
  refine AL.fact (fact_len (x := .tmp 32) (Evl.tmp rfl)) fun hl9 => ?_
  iterate 3 refine w_ ?_
  cases hb10 : (decide ((p : Int) ≤ (r.1.length : Int)))
  ·have hb10' := of_decide_eq_false hb10
   refine w_ ?_
   refine AC.exit ?_
   refine (?_ : AC _ _ _ _ _)
   iterate 2 refine w_ ?_
   refine lc (Does.ofBytes (ys := us) (Evl.repO (Evl.tmp rfl) rfl) und_22 und_5 und_9 rfl) ?_
   iterate 3 refine w_ ?_
   refine AC.ret ?_
   subst hO
   have e11 : ((⟨(us).toArray⟩ : ByteArray) : ByteArray) = ((l5V r.1.length (arcsOf s.2.2.1 r.2) sig).1) := by
    first | (rw [l5V_yes (us := us) (by rw [hA, show r.1.length + 1 - p = 0 by omega]; rfl)]; done)
   have e12 : (true : Bool) = ((l5V r.1.length (arcsOf s.2.2.1 r.2) sig).2) := by
    first | (rw [l5V_yes (us := us) (by rw [hA, show r.1.length + 1 - p = 0 by omega]; rfl)]; done)
   exact fin_pure (Res.two rfl (Rs.tmp rfl) (Rs.tmp rfl)) (((congrArg (fun z_ => PV.tup [(false, [dS z_]), (false, [dB true])]) e11)).trans (congrArg (fun z_ => PV.tup [(false, [dS ((l5V r.1.length (arcsOf s.2.2.1 r.2) sig).1)]), (false, [dB z_])]) e12)) rfl
  ·have hb10' := of_decide_eq_true hb10
   iterate 7 refine w_ ?_
   refine AL.fact (fact_len (x := .tmp 38) (Evl.tmp rfl)) fun hl13 => ?_
   iterate 4 refine w_ ?_
   refine AC.loopW (fun m_ s_ => ∃ (i : Nat) (us2 : List UInt8), i ≤ r.2.length ∧ m_ = r.2.length - i ∧ (iterS sig (arcsOf s.2.2.1 r.2) (r.1.length + 1) (List.replicate r.1.length 63) = contS sig (arcsOf s.2.2.1 r.2) (r.1.length - p) (passS sig ((arcsOf s.2.2.1 r.2).drop i) us2)) ∧ (us2.length = r.1.length) ∧ s_ = ⟨[(2, lI sig), (3, lP 0 0), (4, lP 1 0), (8, lR 5), (10, lI (p : Int)), (30, lI (p : Int)), (31, lP 1 0), (32, lf (.dat (.sl 9 .str) r.1)), (33, lI (r.1.length : Int)), (34, lB true), (37, lP 1 1), (38, lf (.dat (.sl 229 (.pr .int (.pr .int .int))) r.2)), (39, lI (r.2.length : Int)), (40, lI (i : Int))], [(0, some (.box 29 [dI s.1.1, .dat (.sl 198 (.pr (.sl 3 .int) (.sl 3 .int))) s.1.2, .dat (.sl 90 (.pr .str .int)) s.2.1, .dat (.sl 55 (.pr .int .bool)) s.2.2.1, dS s.2.2.2])), (1, some (.box 164 [.dat (.sl 9 .str) r.1, .dat (.sl 229 (.pr .int (.pr .int .int))) r.2])), (5, some (.arr 5 .u8 us2))]⟩) ⟨0, us, Nat.zero_le _, rfl, (by rw [hA, show r.1.length + 1 - p = (r.1.length - p) + 1 by omega]; exact iterS_in _ _), hL, rfl⟩ ?_ ?_
   · exact Wk.of [(5, 4)] rfl ⟨rfl, rfl, rfl, rfl, rfl, rfl, rfl, rfl, rfl, rfl, rfl, rfl, rfl, rfl, trivial⟩ ⟨rfl, rfl, rfl, trivial⟩ rfl rfl
   rintro m_ s_ ⟨i, us2, hk14, hm15, hA2, hL2, rfl⟩
   iterate 4 refine w_ ?_
   cases hb16 : (decide ((i : Int) < (r.2.length : Int)))
   ·have hb16' := of_decide_eq_false hb16
    refine w_ ?_
    refine AC.exit ?_
    refine (?_ : AC _ _ _ _ _)
    iterate 4 refine w_ ?_
    refine AL.nil <| lend ⟨p + 1, us2, by omega, rfl, (by rw [hA2, passS_end (by rw [arcs_len]; omega), show r.1.length + 1 - (p + 1) = r.1.length - p by omega]; rfl), hL2, rfl⟩ (by omega) ?_
    exact Wk.of [(4, 5)] rfl ⟨rfl, rfl, rfl, rfl, rfl, trivial⟩ ⟨rfl, rfl, rfl, trivial⟩ rfl rfl
   ·have hb16' := of_decide_eq_true hb16
    iterate 5 refine w_ ?_
    obtain ⟨mv, hx18⟩ : ∃ z, r.2[i]? = some z := ⟨_, List.getElem?_eq_getElem (by omega)⟩
    obtain ⟨⟨hm1, hm2⟩, ⟨hm3, hm4⟩, hm5, hm6⟩ := hm _ (List.mem_of_getElem? hx18)
    iterate 2 refine w_ ?_
    refine lc (xal 6 (.pr .int (.pr .int .int)) zer_229) ?_
    iterate 7 refine w_ ?_
    refine AL.fact (fact_int (x := .tmp 47) (Evl.tmp rfl)) fun hi19 => ?_
    obtain ⟨lb, hx21⟩ : ∃ z, s.2.2.1[(mv.2.1).toNat]? = some z := ⟨_, List.getElem?_eq_getElem (by omega)⟩
    have hla := lab_get hx21
    iterate 2 refine w_ ?_
    refine lc (xal 7 (.pr .int .bool) zer_55) ?_
    iterate 6 refine w_ ?_
    refine AL.fact (fact_int (x := .tmp 51) (Evl.tmp rfl)) fun hi22 => ?_
    iterate 3 refine w_ ?_
    cases hb23 : (!decide (lb.1 = sig))
    ·have hb23' : (lb.1 = sig) := nd_false hb23
     iterate 2 refine w_ ?_
     obtain ⟨c24, hc25⟩ : ∃ z, (bitS (!lb.2))[(0 : Int).toNat]? = some z := by first | exact ⟨_, getElem?_pos _ _ (by omega)⟩ | exact ⟨_, rfl⟩
     obtain ⟨c26, hc27⟩ : ∃ z, (bitS lb.2)[(0 : Int).toNat]? = some z := by first | exact ⟨_, getElem?_pos _ _ (by omega)⟩ | exact ⟨_, rfl⟩
     apply dW [io 95 _, io 96 _, io 97 _, io 98 (lf (dS (bitS (!lb.2)))), io 99 _, io 100 _, io 101 _, io 102 (lf (dS (bitS lb.2))), io 103 _, io 15 _, io 16 _] [0, 0, 0, 0, 0, 31, 31, 16, 16, 256, 0]
     iterate 3 refine z_ ?_
     refine zz (fun _ h_ => ac (dK (fc_spec_l5Bit (!lb.2)) enters_272) rfl) ?_
     iterate 3 refine z_ ?_
     refine zz (fun _ h_ => ac (dK (fc_spec_l5Bit lb.2) enters_272) rfl) ?_
     iterate 3 refine z_ ?_
     exact zN
     iterate 5 refine w_ ?_
     refine AL.fact (fact_int (x := .tmp 106) (Evl.tmp rfl)) fun hi28 => ?_
     refine w_ ?_
     obtain ⟨cf, hx30⟩ : ∃ z, us2[(mv.1).toNat]? = some z := ⟨_, List.getElem?_eq_getElem (by omega)⟩
     refine w_ ?_
     refine lc (Does.neqU (Evl.tmp rfl) (Evl.u8 63 rfl) rfl) ?_
     refine w_ ?_
     cases hb31 : (!decide (cf = 63))
     ·have hb31' : (cf = 63) := nd_false hb31
      iterate 13 refine w_ ?_
      obtain ⟨ct, hx33⟩ : ∃ z, us2[(mv.2.2).toNat]? = some z := ⟨_, List.getElem?_eq_getElem (by omega)⟩
      refine w_ ?_
      refine lgy rfl rfl (Does.neqU (Evl.tmp rfl) (Evl.u8 63 rfl) rfl) ?_
      refine w_ ?_
      cases hb34 : (!decide (ct = 63))
      ·have hb34' : (ct = 63) := nd_false hb34
       iterate 18 refine w_ ?_
       refine lc (Does.storeI (e := .u8) (z' := c24) (Evl.tmp rfl) rfl hx30 rfl (Ev.tmp rfl) rfl tsh_5 rfl rfl) ?_
       iterate 5 refine w_ ?_
       refine AL.fact (fact_int (x := .tmp 143) (Evl.tmp rfl)) fun hi35 => ?_
       iterate 2 refine w_ ?_
       obtain ⟨x36, hx37⟩ : ∃ z, (us2.set ((mv.1).toNat) c24)[(mv.2.2).toNat]? = some z := ⟨_, List.getElem?_eq_getElem (by first | omega | (simp only [List.length_set]; omega))⟩
       refine lc (Does.storeI (e := .u8) (z' := c26) (Evl.tmp rfl) rfl hx37 rfl (Ev.tmp rfl) rfl tsh_5 rfl rfl) <| AL.nil ?_
       refine (?_ : AC _ _ _ _ _)
       iterate 3 refine w_ ?_
       refine AL.nil <| lend ⟨i + 1, ((us2.set ((mv.1).toNat) c24).set ((mv.2.2).toNat) c26), by omega, rfl, hA2.trans (congrArg (contS sig (arcsOf s.2.2.1 r.2) (r.1.length - p)) (passS_ok (arcs_get hx18 hla) (by first | exact stepS_un1 (cf := cf) (ct := ct) (by assumption) (by assumption) (by assumption) (by assumption) | exact stepS_un2 (cf := cf) (ct := ct) (by assumption) (by assumption) (by assumption) (by assumption) (by first | exact .inl (by assumption) | exact .inr (by assumption)) | exact stepS_lab (cf := cf) (ct := ct) (by assumption) (by assumption) (by assumption) (by first | exact .inl (by assumption) | exact .inr (by assumption)) (by first | exact .inl (by assumption) | exact .inr (by assumption)) (by assumption) (by assumption)))), (by simp only [List.length_set]; exact hL2), rfl⟩ (by omega) ?_
       exact Wk.of [] rfl ⟨rfl, rfl, rfl, rfl, rfl, rfl, rfl, rfl, rfl, rfl, rfl, rfl, rfl, rfl, trivial⟩ ⟨rfl, rfl, (entE (by first | rfl | simp)), trivial⟩ rfl rfl
      ·have hb34' : ¬ (ct = 63) := nd_true hb34
       iterate 10 refine w_ ?_
       cases hb38 : (!decide (ct = c26))
       ·have hb38' : (ct = c26) := nd_false hb38
        iterate 8 refine w_ ?_
        refine lc (Does.storeI (e := .u8) (z' := c24) (Evl.tmp rfl) rfl hx30 rfl (Ev.tmp rfl) rfl tsh_5 rfl rfl) ?_
        iterate 5 refine w_ ?_
        refine AL.fact (fact_int (x := .tmp 143) (Evl.tmp rfl)) fun hi39 => ?_
        iterate 2 refine w_ ?_
        obtain ⟨x40, hx41⟩ : ∃ z, (us2.set ((mv.1).toNat) c24)[(mv.2.2).toNat]? = some z := ⟨_, List.getElem?_eq_getElem (by first | omega | (simp only [List.length_set]; omega))⟩
        refine lc (Does.storeI (e := .u8) (z' := c26) (Evl.tmp rfl) rfl hx41 rfl (Ev.tmp rfl) rfl tsh_5 rfl rfl) <| AL.nil ?_
        refine (?_ : AC _ _ _ _ _)
        iterate 3 refine w_ ?_
        refine AL.nil <| lend ⟨i + 1, ((us2.set ((mv.1).toNat) c24).set ((mv.2.2).toNat) c26), by omega, rfl, hA2.trans (congrArg (contS sig (arcsOf s.2.2.1 r.2) (r.1.length - p)) (passS_ok (arcs_get hx18 hla) (by first | exact stepS_un1 (cf := cf) (ct := ct) (by assumption) (by assumption) (by assumption) (by assumption) | exact stepS_un2 (cf := cf) (ct := ct) (by assumption) (by assumption) (by assumption) (by assumption) (by first | exact .inl (by assumption) | exact .inr (by assumption)) | exact stepS_lab (cf := cf) (ct := ct) (by assumption) (by assumption) (by assumption) (by first | exact .inl (by assumption) | exact .inr (by assumption)) (by first | exact .inl (by assumption) | exact .inr (by assumption)) (by assumption) (by assumption)))), (by simp only [List.length_set]; exact hL2), rfl⟩ (by omega) ?_
        exact Wk.of [] rfl ⟨rfl, rfl, rfl, rfl, rfl, rfl, rfl, rfl, rfl, rfl, rfl, rfl, rfl, rfl, trivial⟩ ⟨rfl, rfl, (entE (by first | rfl | simp)), trivial⟩ rfl rfl
       ·have hb38' : ¬ (ct = c26) := nd_true hb38
        iterate 5 refine w_ ?_
        refine AC.ret ?_
        subst hO
        have e42 : ((⟨#[]⟩ : ByteArray) : ByteArray) = ((l5V r.1.length (arcsOf s.2.2.1 r.2) sig).1) := by
         (rw [l5V_no (by rw [hA2, passS_bad (arcs_get hx18 hla) (by first | exact stepS_un3 (cf := cf) (ct := ct) (by assumption) (by assumption) (by assumption) (by assumption) (by assumption) (by assumption) | exact stepS_lab1 (cf := cf) (by assumption) (by assumption) (by assumption) (by assumption) (by assumption) | exact stepS_lab2 (ct := ct) (by assumption) (by assumption) (by assumption) (by assumption) (by assumption))]; rfl)]; done)
        have e43 : (false : Bool) = ((l5V r.1.length (arcsOf s.2.2.1 r.2) sig).2) := by
         (rw [l5V_no (by rw [hA2, passS_bad (arcs_get hx18 hla) (by first | exact stepS_un3 (cf := cf) (ct := ct) (by assumption) (by assumption) (by assumption) (by assumption) (by assumption) (by assumption) | exact stepS_lab1 (cf := cf) (by assumption) (by assumption) (by assumption) (by assumption) (by assumption) | exact stepS_lab2 (ct := ct) (by assumption) (by assumption) (by assumption) (by assumption) (by assumption))]; rfl)]; done)
        exact fin_pure (Res.two rfl (Rs.tmp rfl) (Rs.tmp rfl)) (((congrArg (fun z_ => PV.tup [(false, [dS z_]), (false, [dB false])]) e42)).trans (congrArg (fun z_ => PV.tup [(false, [dS ((l5V r.1.length (arcsOf s.2.2.1 r.2) sig).1)]), (false, [dB z_])]) e43)) rfl
     ·have hb31' : ¬ (cf = 63) := nd_true hb31
      iterate 9 refine w_ ?_
      cases hb44 : (!decide (cf = c24))
      ·have hb44' : (cf = c24) := nd_false hb44
       iterate 4 refine w_ ?_
       obtain ⟨ct, hx46⟩ : ∃ z, us2[(mv.2.2).toNat]? = some z := ⟨_, List.getElem?_eq_getElem (by omega)⟩
       refine w_ ?_
       refine lgy rfl rfl (Does.neqU (Evl.tmp rfl) (Evl.u8 63 rfl) rfl) ?_
       refine w_ ?_
       cases hb47 : (!decide (ct = 63))
       ·have hb47' : (ct = 63) := nd_false hb47
        iterate 18 refine w_ ?_
        refine lc (Does.storeI (e := .u8) (z' := c24) (Evl.tmp rfl) rfl hx30 rfl (Ev.tmp rfl) rfl tsh_5 rfl rfl) ?_
        iterate 5 refine w_ ?_
        refine AL.fact (fact_int (x := .tmp 143) (Evl.tmp rfl)) fun hi48 => ?_
        iterate 2 refine w_ ?_
        obtain ⟨x49, hx50⟩ : ∃ z, (us2.set ((mv.1).toNat) c24)[(mv.2.2).toNat]? = some z := ⟨_, List.getElem?_eq_getElem (by first | omega | (simp only [List.length_set]; omega))⟩
        refine lc (Does.storeI (e := .u8) (z' := c26) (Evl.tmp rfl) rfl hx50 rfl (Ev.tmp rfl) rfl tsh_5 rfl rfl) <| AL.nil ?_
        refine (?_ : AC _ _ _ _ _)
        iterate 3 refine w_ ?_
        refine AL.nil <| lend ⟨i + 1, ((us2.set ((mv.1).toNat) c24).set ((mv.2.2).toNat) c26), by omega, rfl, hA2.trans (congrArg (contS sig (arcsOf s.2.2.1 r.2) (r.1.length - p)) (passS_ok (arcs_get hx18 hla) (by first | exact stepS_un1 (cf := cf) (ct := ct) (by assumption) (by assumption) (by assumption) (by assumption) | exact stepS_un2 (cf := cf) (ct := ct) (by assumption) (by assumption) (by assumption) (by assumption) (by first | exact .inl (by assumption) | exact .inr (by assumption)) | exact stepS_lab (cf := cf) (ct := ct) (by assumption) (by assumption) (by assumption) (by first | exact .inl (by assumption) | exact .inr (by assumption)) (by first | exact .inl (by assumption) | exact .inr (by assumption)) (by assumption) (by assumption)))), (by simp only [List.length_set]; exact hL2), rfl⟩ (by omega) ?_
        exact Wk.of [] rfl ⟨rfl, rfl, rfl, rfl, rfl, rfl, rfl, rfl, rfl, rfl, rfl, rfl, rfl, rfl, trivial⟩ ⟨rfl, rfl, (entE (by first | rfl | simp)), trivial⟩ rfl rfl
       ·have hb47' : ¬ (ct = 63) := nd_true hb47
        iterate 10 refine w_ ?_
        cases hb51 : (!decide (ct = c26))
        ·have hb51' : (ct = c26) := nd_false hb51
         iterate 8 refine w_ ?_
         refine lc (Does.storeI (e := .u8) (z' := c24) (Evl.tmp rfl) rfl hx30 rfl (Ev.tmp rfl) rfl tsh_5 rfl rfl) ?_
         iterate 5 refine w_ ?_
         refine AL.fact (fact_int (x := .tmp 143) (Evl.tmp rfl)) fun hi52 => ?_
         iterate 2 refine w_ ?_
         obtain ⟨x53, hx54⟩ : ∃ z, (us2.set ((mv.1).toNat) c24)[(mv.2.2).toNat]? = some z := ⟨_, List.getElem?_eq_getElem (by first | omega | (simp only [List.length_set]; omega))⟩
         refine lc (Does.storeI (e := .u8) (z' := c26) (Evl.tmp rfl) rfl hx54 rfl (Ev.tmp rfl) rfl tsh_5 rfl rfl) <| AL.nil ?_
         refine (?_ : AC _ _ _ _ _)
         iterate 3 refine w_ ?_
         refine AL.nil <| lend ⟨i + 1, ((us2.set ((mv.1).toNat) c24).set ((mv.2.2).toNat) c26), by omega, rfl, hA2.trans (congrArg (contS sig (arcsOf s.2.2.1 r.2) (r.1.length - p)) (passS_ok (arcs_get hx18 hla) (by first | exact stepS_un1 (cf := cf) (ct := ct) (by assumption) (by assumption) (by assumption) (by assumption) | exact stepS_un2 (cf := cf) (ct := ct) (by assumption) (by assumption) (by assumption) (by assumption) (by first | exact .inl (by assumption) | exact .inr (by assumption)) | exact stepS_lab (cf := cf) (ct := ct) (by assumption) (by assumption) (by assumption) (by first | exact .inl (by assumption) | exact .inr (by assumption)) (by first | exact .inl (by assumption) | exact .inr (by assumption)) (by assumption) (by assumption)))), (by simp only [List.length_set]; exact hL2), rfl⟩ (by omega) ?_
         exact Wk.of [] rfl ⟨rfl, rfl, rfl, rfl, rfl, rfl, rfl, rfl, rfl, rfl, rfl, rfl, rfl, rfl, trivial⟩ ⟨rfl, rfl, (entE (by first | rfl | simp)), trivial⟩ rfl rfl
        ·have hb51' : ¬ (ct = c26) := nd_true hb51
         iterate 5 refine w_ ?_
         refine AC.ret ?_
         subst hO
         have e55 : ((⟨#[]⟩ : ByteArray) : ByteArray) = ((l5V r.1.length (arcsOf s.2.2.1 r.2) sig).1) := by
          (rw [l5V_no (by rw [hA2, passS_bad (arcs_get hx18 hla) (by first | exact stepS_un3 (cf := cf) (ct := ct) (by assumption) (by assumption) (by assumption) (by assumption) (by assumption) (by assumption) | exact stepS_lab1 (cf := cf) (by assumption) (by assumption) (by assumption) (by assumption) (by assumption) | exact stepS_lab2 (ct := ct) (by assumption) (by assumption) (by assumption) (by assumption) (by assumption))]; rfl)]; done)
         have e56 : (false : Bool) = ((l5V r.1.length (arcsOf s.2.2.1 r.2) sig).2) := by
          (rw [l5V_no (by rw [hA2, passS_bad (arcs_get hx18 hla) (by first | exact stepS_un3 (cf := cf) (ct := ct) (by assumption) (by assumption) (by assumption) (by assumption) (by assumption) (by assumption) | exact stepS_lab1 (cf := cf) (by assumption) (by assumption) (by assumption) (by assumption) (by assumption) | exact stepS_lab2 (ct := ct) (by assumption) (by assumption) (by assumption) (by assumption) (by assumption))]; rfl)]; done)
         exact fin_pure (Res.two rfl (Rs.tmp rfl) (Rs.tmp rfl)) (((congrArg (fun z_ => PV.tup [(false, [dS z_]), (false, [dB false])]) e55)).trans (congrArg (fun z_ => PV.tup [(false, [dS ((l5V r.1.length (arcsOf s.2.2.1 r.2) sig).1)]), (false, [dB z_])]) e56)) rfl
      ·have hb44' : ¬ (cf = c24) := nd_true hb44
       iterate 7 refine w_ ?_
       refine AL.guard_un rfl rfl rfl ?_ rfl
       refine AL.guard_un rfl rfl rfl ?_ rfl
       refine AL.guard_un rfl rfl rfl ?_ rfl
       refine AL.guard_un rfl rfl rfl ?_ rfl
       refine AL.guard_un rfl rfl rfl ?_ rfl
       refine AL.guard_un rfl rfl rfl ?_ rfl
       refine AL.guard_un rfl rfl rfl ?_ rfl
       iterate 8 refine w_ ?_
       refine AC.ret ?_
       subst hO
       have e57 : ((⟨#[]⟩ : ByteArray) : ByteArray) = ((l5V r.1.length (arcsOf s.2.2.1 r.2) sig).1) := by
        (rw [l5V_no (by rw [hA2, passS_bad (arcs_get hx18 hla) (by first | exact stepS_un3 (cf := cf) (ct := ct) (by assumption) (by assumption) (by assumption) (by assumption) (by assumption) (by assumption) | exact stepS_lab1 (cf := cf) (by assumption) (by assumption) (by assumption) (by assumption) (by assumption) | exact stepS_lab2 (ct := ct) (by assumption) (by assumption) (by assumption) (by assumption) (by assumption))]; rfl)]; done)
       have e58 : (false : Bool) = ((l5V r.1.length (arcsOf s.2.2.1 r.2) sig).2) := by
        (rw [l5V_no (by rw [hA2, passS_bad (arcs_get hx18 hla) (by first | exact stepS_un3 (cf := cf) (ct := ct) (by assumption) (by assumption) (by assumption) (by assumption) (by assumption) (by assumption) | exact stepS_lab1 (cf := cf) (by assumption) (by assumption) (by assumption) (by assumption) (by assumption) | exact stepS_lab2 (ct := ct) (by assumption) (by assumption) (by assumption) (by assumption) (by assumption))]; rfl)]; done)
       exact fin_pure (Res.two rfl (Rs.tmp rfl) (Rs.tmp rfl)) (((congrArg (fun z_ => PV.tup [(false, [dS z_]), (false, [dB false])]) e57)).trans (congrArg (fun z_ => PV.tup [(false, [dS ((l5V r.1.length (arcsOf s.2.2.1 r.2) sig).1)]), (false, [dB z_])]) e58)) rfl
    ·have hb23' : ¬ (lb.1 = sig) := nd_true hb23
     iterate 5 refine w_ ?_
     refine AL.fact (fact_int (x := .tmp 56) (Evl.tmp rfl)) fun hi59 => ?_
     refine w_ ?_
     obtain ⟨cf, hx61⟩ : ∃ z, us2[(mv.1).toNat]? = some z := ⟨_, List.getElem?_eq_getElem (by omega)⟩
     iterate 6 refine w_ ?_
     refine lc (Does.eqlU (Evl.tmp rfl) (Evl.u8 63 rfl) rfl) ?_
     refine w_ ?_
     cases hb62 : (decide (cf = 63))
     ·have hb62' := of_decide_eq_false hb62
      iterate 5 refine w_ ?_
      refine lc (Does.neqU (Evl.tmp rfl) (Evl.u8 63 rfl) rfl) ?_
      refine w_ ?_
      have hb63 : (!decide (cf = 63)) = true := nb_to (hb62)
      try rw [hb63]
      iterate 4 refine w_ ?_
      obtain ⟨ct, hx65⟩ : ∃ z, us2[(mv.2.2).toNat]? = some z := ⟨_, List.getElem?_eq_getElem (by omega)⟩
      refine w_ ?_
      refine lgy rfl rfl (Does.neqU (Evl.tmp rfl) (Evl.u8 63 rfl) rfl) ?_
      iterate 2 refine w_ ?_
      cases hb66 : (!decide (ct = 63))
      ·have hb66' : (ct = 63) := nd_false hb66
       iterate 17 refine w_ ?_
       refine lc (Does.storeI (e := .u8) (z' := cf) (Evl.tmp rfl) rfl hx61 rfl (Ev.tmp rfl) rfl tsh_5 rfl rfl) ?_
       iterate 5 refine w_ ?_
       refine AL.fact (fact_int (x := .tmp 92) (Evl.tmp rfl)) fun hi67 => ?_
       iterate 2 refine w_ ?_
       obtain ⟨x68, hx69⟩ : ∃ z, (us2.set ((mv.1).toNat) cf)[(mv.2.2).toNat]? = some z := ⟨_, List.getElem?_eq_getElem (by first | omega | (simp only [List.length_set]; omega))⟩
       refine lc (Does.storeI (e := .u8) (z' := cf) (Evl.tmp rfl) rfl hx69 rfl (Ev.tmp rfl) rfl tsh_5 rfl rfl) ?_
       refine w_ ?_
       refine AC.exit ?_
       refine (?_ : AC _ _ _ _ _)
       iterate 3 refine w_ ?_
       refine AL.nil <| lend ⟨i + 1, ((us2.set ((mv.1).toNat) cf).set ((mv.2.2).toNat) cf), by omega, rfl, hA2.trans (congrArg (contS sig (arcsOf s.2.2.1 r.2) (r.1.length - p)) (passS_ok (arcs_get hx18 hla) (by first | exact stepS_un1 (cf := cf) (ct := ct) (by assumption) (by assumption) (by assumption) (by assumption) | exact stepS_un2 (cf := cf) (ct := ct) (by assumption) (by assumption) (by assumption) (by assumption) (by first | exact .inl (by assumption) | exact .inr (by assumption)) | exact stepS_lab (cf := cf) (ct := ct) (by assumption) (by assumption) (by assumption) (by first | exact .inl (by assumption) | exact .inr (by assumption)) (by first | exact .inl (by assumption) | exact .inr (by assumption)) (by assumption) (by assumption)))), (by simp only [List.length_set]; exact hL2), rfl⟩ (by omega) ?_
       exact Wk.of [] rfl ⟨rfl, rfl, rfl, rfl, rfl, rfl, rfl, rfl, rfl, rfl, rfl, rfl, rfl, rfl, trivial⟩ ⟨rfl, rfl, (entE (by first | rfl | simp)), trivial⟩ rfl rfl
      ·have hb66' : ¬ (ct = 63) := nd_true hb66
       iterate 9 refine w_ ?_
       cases hb70 : (!decide (ct = cf))
       ·have hb70' : (ct = cf) := nd_false hb70
        iterate 8 refine w_ ?_
        refine lc (Does.storeI (e := .u8) (z' := cf) (Evl.tmp rfl) rfl hx61 rfl (Ev.tmp rfl) rfl tsh_5 rfl rfl) ?_
        iterate 5 refine w_ ?_
        refine AL.fact (fact_int (x := .tmp 92) (Evl.tmp rfl)) fun hi71 => ?_
        iterate 2 refine w_ ?_
        obtain ⟨x72, hx73⟩ : ∃ z, (us2.set ((mv.1).toNat) cf)[(mv.2.2).toNat]? = some z := ⟨_, List.getElem?_eq_getElem (by first | omega | (simp only [List.length_set]; omega))⟩
        refine lc (Does.storeI (e := .u8) (z' := cf) (Evl.tmp rfl) rfl hx73 rfl (Ev.tmp rfl) rfl tsh_5 rfl rfl) ?_
        refine w_ ?_
        refine AC.exit ?_
        refine (?_ : AC _ _ _ _ _)
        iterate 3 refine w_ ?_
        refine AL.nil <| lend ⟨i + 1, ((us2.set ((mv.1).toNat) cf).set ((mv.2.2).toNat) cf), by omega, rfl, hA2.trans (congrArg (contS sig (arcsOf s.2.2.1 r.2) (r.1.length - p)) (passS_ok (arcs_get hx18 hla) (by first | exact stepS_un1 (cf := cf) (ct := ct) (by assumption) (by assumption) (by assumption) (by assumption) | exact stepS_un2 (cf := cf) (ct := ct) (by assumption) (by assumption) (by assumption) (by assumption) (by first | exact .inl (by assumption) | exact .inr (by assumption)) | exact stepS_lab (cf := cf) (ct := ct) (by assumption) (by assumption) (by assumption) (by first | exact .inl (by assumption) | exact .inr (by assumption)) (by first | exact .inl (by assumption) | exact .inr (by assumption)) (by assumption) (by assumption)))), (by simp only [List.length_set]; exact hL2), rfl⟩ (by omega) ?_
        exact Wk.of [] rfl ⟨rfl, rfl, rfl, rfl, rfl, rfl, rfl, rfl, rfl, rfl, rfl, rfl, rfl, rfl, trivial⟩ ⟨rfl, rfl, (entE (by first | rfl | simp)), trivial⟩ rfl rfl
       ·have hb70' : ¬ (ct = cf) := nd_true hb70
        iterate 5 refine w_ ?_
        refine AC.ret ?_
        subst hO
        have e74 : ((⟨#[]⟩ : ByteArray) : ByteArray) = ((l5V r.1.length (arcsOf s.2.2.1 r.2) sig).1) := by
         (rw [l5V_no (by rw [hA2, passS_bad (arcs_get hx18 hla) (by first | exact stepS_un3 (cf := cf) (ct := ct) (by assumption) (by assumption) (by assumption) (by assumption) (by assumption) (by assumption) | exact stepS_lab1 (cf := cf) (by assumption) (by assumption) (by assumption) (by assumption) (by assumption) | exact stepS_lab2 (ct := ct) (by assumption) (by assumption) (by assumption) (by assumption) (by assumption))]; rfl)]; done)
        have e75 : (false : Bool) = ((l5V r.1.length (arcsOf s.2.2.1 r.2) sig).2) := by
         (rw [l5V_no (by rw [hA2, passS_bad (arcs_get hx18 hla) (by first | exact stepS_un3 (cf := cf) (ct := ct) (by assumption) (by assumption) (by assumption) (by assumption) (by assumption) (by assumption) | exact stepS_lab1 (cf := cf) (by assumption) (by assumption) (by assumption) (by assumption) (by assumption) | exact stepS_lab2 (ct := ct) (by assumption) (by assumption) (by assumption) (by assumption) (by assumption))]; rfl)]; done)
        exact fin_pure (Res.two rfl (Rs.tmp rfl) (Rs.tmp rfl)) (((congrArg (fun z_ => PV.tup [(false, [dS z_]), (false, [dB false])]) e74)).trans (congrArg (fun z_ => PV.tup [(false, [dS ((l5V r.1.length (arcsOf s.2.2.1 r.2) sig).1)]), (false, [dB z_])]) e75)) rfl
     ·have hb62' := of_decide_eq_true hb62
      iterate 5 refine w_ ?_
      refine AL.fact (fact_int (x := .tmp 63) (Evl.tmp rfl)) fun hi76 => ?_
      refine w_ ?_
      obtain ⟨ct, hx78⟩ : ∃ z, us2[(mv.2.2).toNat]? = some z := ⟨_, List.getElem?_eq_getElem (by omega)⟩
      iterate 6 refine w_ ?_
      refine lc (Does.neqU (Evl.tmp rfl) (Evl.u8 63 rfl) rfl) ?_
      refine w_ ?_
      cases hb79 : (!decide (ct = 63))
      ·have hb79' : (ct = 63) := nd_false hb79
       iterate 25 refine w_ ?_
       refine lc (Does.storeI (e := .u8) (z' := ct) (Evl.tmp rfl) rfl hx61 rfl (Ev.tmp rfl) rfl tsh_5 rfl rfl) ?_
       iterate 7 refine w_ ?_
       obtain ⟨x80, hx81⟩ : ∃ z, (us2.set ((mv.1).toNat) ct)[(mv.2.2).toNat]? = some z := ⟨_, List.getElem?_eq_getElem (by first | omega | (simp only [List.length_set]; omega))⟩
       refine lc (Does.storeI (e := .u8) (z' := ct) (Evl.tmp rfl) rfl hx81 rfl (Ev.tmp rfl) rfl tsh_5 rfl rfl) ?_
       refine w_ ?_
       refine AC.exit ?_
       refine (?_ : AC _ _ _ _ _)
       iterate 3 refine w_ ?_
       refine AL.nil <| lend ⟨i + 1, ((us2.set ((mv.1).toNat) ct).set ((mv.2.2).toNat) ct), by omega, rfl, hA2.trans (congrArg (contS sig (arcsOf s.2.2.1 r.2) (r.1.length - p)) (passS_ok (arcs_get hx18 hla) (by first | exact stepS_un1 (cf := cf) (ct := ct) (by assumption) (by assumption) (by assumption) (by assumption) | exact stepS_un2 (cf := cf) (ct := ct) (by assumption) (by assumption) (by assumption) (by assumption) (by first | exact .inl (by assumption) | exact .inr (by assumption)) | exact stepS_lab (cf := cf) (ct := ct) (by assumption) (by assumption) (by assumption) (by first | exact .inl (by assumption) | exact .inr (by assumption)) (by first | exact .inl (by assumption) | exact .inr (by assumption)) (by assumption) (by assumption)))), (by simp only [List.length_set]; exact hL2), rfl⟩ (by omega) ?_
       exact Wk.of [] rfl ⟨rfl, rfl, rfl, rfl, rfl, rfl, rfl, rfl, rfl, rfl, rfl, rfl, rfl, rfl, trivial⟩ ⟨rfl, rfl, (entE (by first | rfl | simp)), trivial⟩ rfl rfl
      ·have hb79' : ¬ (ct = 63) := nd_true hb79
       iterate 5 refine w_ ?_
       refine lgy rfl rfl (Does.neqU (Evl.tmp rfl) (Evl.u8 63 rfl) rfl) ?_
       iterate 2 refine w_ ?_
       have hb82 : (!decide (ct = 63)) = true := nb_to (nb_of hb79)
       try rw [hb82]
       iterate 9 refine w_ ?_
       have hb83 : (!decide (ct = ct)) = false := nb_to (decide_eq_true rfl)
       have hb83' : (ct = ct) := nd_false hb83
       try rw [hb83]
       iterate 8 refine w_ ?_
       refine lc (Does.storeI (e := .u8) (z' := ct) (Evl.tmp rfl) rfl hx61 rfl (Ev.tmp rfl) rfl tsh_5 rfl rfl) ?_
       iterate 7 refine w_ ?_
       obtain ⟨x84, hx85⟩ : ∃ z, (us2.set ((mv.1).toNat) ct)[(mv.2.2).toNat]? = some z := ⟨_, List.getElem?_eq_getElem (by first | omega | (simp only [List.length_set]; omega))⟩
       refine lc (Does.storeI (e := .u8) (z' := ct) (Evl.tmp rfl) rfl hx85 rfl (Ev.tmp rfl) rfl tsh_5 rfl rfl) ?_
       refine w_ ?_
       refine AC.exit ?_
       refine (?_ : AC _ _ _ _ _)
       iterate 3 refine w_ ?_
       refine AL.nil <| lend ⟨i + 1, ((us2.set ((mv.1).toNat) ct).set ((mv.2.2).toNat) ct), by omega, rfl, hA2.trans (congrArg (contS sig (arcsOf s.2.2.1 r.2) (r.1.length - p)) (passS_ok (arcs_get hx18 hla) (by first | exact stepS_un1 (cf := cf) (ct := ct) (by assumption) (by assumption) (by assumption) (by assumption) | exact stepS_un2 (cf := cf) (ct := ct) (by assumption) (by assumption) (by assumption) (by assumption) (by first | exact .inl (by assumption) | exact .inr (by assumption)) | exact stepS_lab (cf := cf) (ct := ct) (by assumption) (by assumption) (by assumption) (by first | exact .inl (by assumption) | exact .inr (by assumption)) (by first | exact .inl (by assumption) | exact .inr (by assumption)) (by assumption) (by assumption)))), (by simp only [List.length_set]; exact hL2), rfl⟩ (by omega) ?_
       exact Wk.of [] rfl ⟨rfl, rfl, rfl, rfl, rfl, rfl, rfl, rfl, rfl, rfl, rfl, rfl, rfl, rfl, trivial⟩ ⟨rfl, rfl, (entE (by first | rfl | simp)), trivial⟩ rfl rfl
 ·have hb6' := of_decide_eq_true hb6
  iterate 12 refine w_ ?_
  obtain ⟨x86, hx87⟩ : ∃ z, (fillQ r.1.length k)[k]? = some z := ⟨_, List.getElem?_eq_getElem (by omega)⟩
  refine lc (Does.storeI (e := .u8) (z' := 63) (Evl.tmp rfl) rfl hx87 rfl (Evl.ev (Evl.u8 63 rfl)) rfl tsh_5 rfl rfl) <| AL.nil ?_
  refine (?_ : AC _ _ _ _ _)
  iterate 3 refine w_ ?_
  refine AL.nil <| lend ⟨k + 1, by omega, rfl, rfl⟩ (by omega) ?_
  exact Wk.of [] rfl ⟨rfl, rfl, rfl, rfl, rfl, rfl, rfl, rfl, trivial⟩ ⟨rfl, rfl, (entE (fillQ_set (by omega))), trivial⟩ rfl rfl

theorem fc_spec_l5Clash (s : (Int × (List (List Int × List Int))) × (List (ByteArray × Int)) × (List (Int × Bool)) × ByteArray) (r : List ByteArray × (List (Int × Int × Int))) (hm : ∀ m ∈ r.2, MvOk r.1.length s.2.2.1.length m) (hl1 : r.1.length ≤ 1000000) (hl2 : s.2.1.length ≤ 1000000) : FC Tryz.prog 207 [(true, [dI s.1.1, .dat (.sl 198 (.pr (.sl 3 .int) (.sl 3 .int))) s.1.2, .dat (.sl 90 (.pr .str .int)) s.2.1, .dat (.sl 55 (.pr .int .bool)) s.2.2.1, dS s.2.2.2]), (true, [.dat (.sl 9 .str) r.1, .dat (.sl 229 (.pr .int (.pr .int .int))) r.2])] [] 0 (Own1 3 .int (clash r.1.length (arcsOf s.2.2.1 r.2) s.2.1.length)) := by
 refine FC.go Tryz.func207 rfl rfl Tryz.ntmps207 fun O_ hO w0_ N0_ X_ h0_ f0_ => ?_
 refine AC.fact (fact_ag (x := .tmp 0) (i := 0) (Ev.tmp rfl) rfl) fun hi1 => ?_
 refine w_ ?_
 refine xbx 0 ?_
 refine xbx 1 ?_
 iterate 9 refine w_ ?_
 refine AL.fact (fact_len (x := .tmp 10) (Evl.tmp rfl)) fun hl2 => ?_
 iterate 4 refine w_ ?_
 refine AC.wk (Wk.nilS 2 5 3 .int rfl (Fresh.of rfl) (nlr rfl)) ?_
 refine AC.loopW (fun m_ s_ => ∃ (k : Nat), k ≤ s.2.1.length ∧ m_ = s.2.1.length - k ∧ s_ = ⟨[(2, lP 0 0), (3, lP 1 0), (4, lf (.val (.slice none 0 0))), (5, lR 3), (11, lI (s.2.1.length : Int)), (12, lI (k : Int))], [(0, some (.box 29 [dI s.1.1, .dat (.sl 198 (.pr (.sl 3 .int) (.sl 3 .int))) s.1.2, .dat (.sl 90 (.pr .str .int)) s.2.1, .dat (.sl 55 (.pr .int .bool)) s.2.2.1, dS s.2.2.2])), (1, some (.box 164 [.dat (.sl 9 .str) r.1, .dat (.sl 229 (.pr .int (.pr .int .int))) r.2])), (3, some (.arr 3 .int (clash r.1.length (arcsOf s.2.2.1 r.2) k)))]⟩) ⟨0, Nat.zero_le _, rfl, rfl⟩ ?_ ?_
 · exact Wk.of [(3, 2)] rfl ⟨rfl, rfl, rfl, rfl, rfl, rfl, trivial⟩ ⟨rfl, rfl, (entE (by first | rfl | simp)), trivial⟩ rfl rfl
 rintro m_ s_ ⟨k, hk3, hm4, rfl⟩
 have hcl := clash_len r.1.length (arcsOf s.2.2.1 r.2) k
 iterate 4 refine w_ ?_
 cases hb5 : (decide ((k : Int) < (s.2.1.length : Int)))
 ·have hb5' := of_decide_eq_false hb5
  refine w_ ?_
  refine AC.exit ?_
  refine (?_ : AC _ _ _ _ _)
  iterate 4 refine w_ ?_
  refine AC.ret ?_
  subst hO
  refine fin_own (e := .int) (xs := (clash r.1.length (arcsOf s.2.2.1 r.2) k)) (Res.one rfl (Rs.tmp rfl)) rfl ?_
  rw [show k = s.2.1.length by omega]
 ·have hb5' := of_decide_eq_true hb5
  iterate 12 refine w_ ?_
  refine lc (dK (fc_spec_l5Values s r (k : Int) hm hl1) enters_208) ?_
  iterate 10 refine w_ ?_
  cases hb6 : ((l5V r.1.length (arcsOf s.2.2.1 r.2) (k : Int)).2)
  ·iterate 4 refine w_ ?_
   refine lc (dBs 4 (e := .int) zer_3) ?_
   refine lc (dA 5 elb_3) ?_
   refine w_ ?_
   refine AL.nil ?_
   refine (?_ : AC _ _ _ _ _)
   iterate 3 refine w_ ?_
   refine AL.nil <| lend ⟨k + 1, by omega, rfl, rfl⟩ (by omega) ?_
   exact Wk.of [(3, 5)] rfl ⟨rfl, rfl, rfl, rfl, rfl, rfl, trivial⟩ ⟨rfl, rfl, (entE (by first | exact clash_yes (by assumption) | exact clash_no (by assumption))), trivial⟩ rfl rfl
  ·refine w_ ?_
   refine AC.skip ?_
   refine (?_ : AC _ _ _ _ _)
   iterate 3 refine w_ ?_
   refine AL.nil <| lend ⟨k + 1, by omega, rfl, rfl⟩ (by omega) ?_
   exact Wk.of [] rfl ⟨rfl, rfl, rfl, rfl, rfl, rfl, trivial⟩ ⟨rfl, rfl, (entE (by first | exact clash_yes (by assumption) | exact clash_no (by assumption))), trivial⟩ rfl rfl

end Go.Proofs.YtjaadeknhofhpaaGreat
