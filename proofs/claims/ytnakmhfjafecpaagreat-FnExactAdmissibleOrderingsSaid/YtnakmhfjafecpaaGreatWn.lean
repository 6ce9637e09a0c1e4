/- Walks over abstract states: the values of a signal as the reference finds them, and the plain law that they are the same. -/
import Derived.Test.YtnakmhfjafecpaaGreatWm
set_option linter.unusedSimpArgs false
set_option linter.unusedVariables false
set_option linter.unusedSectionVars false
namespace Go.Proofs.YtnakmhfjafecpaaGreat
open Go.RowKit
set_option maxRecDepth 100000
set_option maxHeartbeats 4000000

/-- One move; one pass; passes. -/
def stepS (sig : Int) (a : DAr) (us : List UInt8) : Option (List UInt8) :=
  if a.2.1 = sig then
    (if (bv us a.1.toNat ≠ 63 ∧ bv us a.1.toNat ≠ (if (!a.2.2.1) = true then 49 else 48)) ∨ (bv us a.2.2.2.toNat ≠ 63 ∧ bv us a.2.2.2.toNat ≠ (if a.2.2.1 = true then 49 else 48)) then none
    else some ((us.set a.1.toNat (if (!a.2.2.1) = true then 49 else 48)).set a.2.2.2.toNat (if a.2.2.1 = true then 49 else 48)))
  else if bv us a.1.toNat = 63 then some ((us.set a.1.toNat (bv us a.2.2.2.toNat)).set a.2.2.2.toNat (bv us a.2.2.2.toNat))
  else if bv us a.2.2.2.toNat ≠ 63 ∧ bv us a.2.2.2.toNat ≠ bv us a.1.toNat then none
  else some ((us.set a.1.toNat (bv us a.1.toNat)).set a.2.2.2.toNat (bv us a.1.toNat))
def passS (sig : Int) : List DAr → List UInt8 → Option (List UInt8)
  | [], us => some us
  | a :: rs, us => match stepS sig a us with
    | none => none
    | some us' => passS sig rs us'
def iterS (sig : Int) (arcs : List DAr) : Nat → List UInt8 → Option (List UInt8)
  | 0, us => some us
  | f + 1, us => match passS sig arcs us with
    | none => none
    | some us' => iterS sig arcs f us'
def contS (sig : Int) (arcs : List DAr) (f : Nat) : Option (List UInt8) → Option (List UInt8)
  | none => none
  | some us' => iterS sig arcs f us'
def l5V (n : Nat) (arcs : List DAr) (sig : Int) : ByteArray × Bool := match iterS sig arcs (n + 1) (List.replicate n 63) with
  | none => (⟨#[]⟩, false)
  | some us => (⟨us.toArray⟩, true)
section
variable {sig : Int} {a : DAr} {us us' vs vs' : List UInt8} {arcs rs : List DAr} {f k m : Nat} {cf ct x : UInt8} {ch ch' : Bool} {i j : Nat}
theorem passS_ok (hx : arcs[k]? = some a) (h : stepS sig a us = some us') : passS sig (arcs.drop k) us = passS sig (arcs.drop (k + 1)) us' := by rw [drop_cons hx, passS, h]
theorem passS_bad (hx : arcs[k]? = some a) (h : stepS sig a us = none) : passS sig (arcs.drop k) us = none := by rw [drop_cons hx, passS, h]
theorem passS_end (hk : arcs.length ≤ k) : passS sig (arcs.drop k) us = some us := by rw [List.drop_eq_nil_of_le hk, passS]
theorem iterS_in (f : Nat) (us : List UInt8) : iterS sig arcs (f + 1) us = contS sig arcs f (passS sig arcs us) := by
  rw [iterS]; cases passS sig arcs us <;> rfl
theorem l5V_no {n : Nat} (h : iterS sig arcs (n + 1) (List.replicate n 63) = none) : l5V n arcs sig = (⟨#[]⟩, false) := by unfold l5V; rw [h]
theorem l5V_yes {n : Nat} (h : iterS sig arcs (n + 1) (List.replicate n 63) = some us) : l5V n arcs sig = (⟨us.toArray⟩, true) := by unfold l5V; rw [h]
/-! The two ways of writing 'not known'. -/
def qm (c : UInt8) : UInt8 := if c = 0 then 63 else c
def Kn (vs : List UInt8) : Prop := ∀ c ∈ vs, c = 0 ∨ c = 48 ∨ c = 49
theorem Kn.set (h : Kn vs) {c : UInt8} (hc : c = 0 ∨ c = 48 ∨ c = 49) (i : Nat) : Kn (vs.set i c) := fun d hd => by
  rcases List.mem_or_eq_of_mem_set hd with h1 | h1
  · exact h d h1
  · rw [h1]; exact hc
theorem Kn.at (h : Kn vs) (hi : i < vs.length) : ∃ c, vs[i]? = some c ∧ (c = 0 ∨ c = 48 ∨ c = 49) := ⟨_, List.getElem?_eq_getElem hi, h _ (List.getElem_mem hi)⟩
theorem set_same {c : UInt8} (h : vs[i]? = some c) : vs.set i c = vs := by
  apply List.ext_getElem?
  intro j
  by_cases e : i = j
  · subst e; rw [List.getElem?_set_self (List.getElem?_eq_some_iff.1 h).1, h]
  · rw [List.getElem?_set_ne e]
theorem bv_map (hi : vs[i]? = some cf) : bv (vs.map qm) i = qm cf := bv_get (by rw [List.getElem?_map, hi]; rfl)
theorem bitB (b : Bool) : ((if b = true then (49 : UInt8) else 48) = 49 ∧ (if (!b) = true then (49 : UInt8) else 48) = 48) ∨ ((if b = true then (49 : UInt8) else 48) = 48 ∧ (if (!b) = true then (49 : UInt8) else 48) = 49) := by cases b <;> simp
theorem agb_get (hne : i ≠ j) (c : UInt8) (h : vs[j]? = some ct) : (agb vs i c).1[j]? = some ct := by
  unfold agb
  split
  · exact h
  · split
    · show (vs.set i c)[j]? = _
      rw [List.getElem?_set_ne hne]; exact h
    · exact h
/-- A step on the one side is a step on the other, but for an edge of the signal that stays. -/
theorem step_same (hk : Kn vs) (hr : InR vs.length a) (hself : a.2.1 = sig → a.1 ≠ a.2.2.2) : stepS sig a (vs.map qm) = (stepV sig a vs).map (fun r => r.1.map qm) ∧ ∀ vs' c, stepV sig a vs = some (vs', c) → Kn vs' := by
  obtain ⟨⟨r1, r2⟩, r3, r4⟩ := hr
  obtain ⟨cf, hf, kf⟩ := hk.at (i := a.1.toNat) (by omega)
  obtain ⟨ct, ht, kt⟩ := hk.at (i := a.2.2.2.toNat) (by omega)
  unfold stepS stepV
  rw [bv_map hf, bv_map ht]
  by_cases hl : a.2.1 = sig
  · rw [if_pos hl, if_pos hl]
    have hne : a.1.toNat ≠ a.2.2.2.toNat := by have := hself hl; omega
    have hg := fun c => agb_get (vs := vs) hne c ht
    rw [agb_eq (hg _), agb_eq hf]
    have hset : ∀ c d : UInt8, ((vs.map qm).set a.1.toNat c).set a.2.2.2.toNat d = ((vs.map qm).set a.2.2.2.toNat d).set a.1.toNat c := fun c d => List.set_comm _ _ hne
    have hf2 : ∀ d, (vs.set a.2.2.2.toNat d)[a.1.toNat]? = some cf := fun d => by rw [List.getElem?_set_ne (Ne.symm hne)]; exact hf
    have mf : (vs.map qm)[a.1.toNat]? = some (qm cf) := by rw [List.getElem?_map, hf]; rfl
    have mt : (vs.map qm)[a.2.2.2.toNat]? = some (qm ct) := by rw [List.getElem?_map, ht]; rfl
    have mt2 : ∀ d, ((vs.map qm).set a.1.toNat d)[a.2.2.2.toNat]? = some (qm ct) := fun d => by rw [List.getElem?_set_ne hne]; exact mt
    have s1 := set_same mf
    have s2 := set_same mt
    have s3 := fun d => set_same (mt2 d)
    rcases bitB a.2.2.1 with ⟨e1, e2⟩ | ⟨e1, e2⟩ <;> rw [e1, e2] <;> rcases kf with rfl | rfl | rfl <;> rcases kt with rfl | rfl | rfl <;> simp only [qm] at s1 s2 s3 ⊢ <;> simp [List.map_set, qm, s1, s2, s3] at * <;> first | done | (refine ⟨?_, ?_⟩ <;> first | (simp_all; done) | (intros; subst_vars; first | exact (hk.set (.inr (.inl rfl)) _).set (.inr (.inr rfl)) _ | exact (hk.set (.inr (.inr rfl)) _).set (.inr (.inl rfl)) _ | exact hk.set (.inr (.inl rfl)) _ | exact hk.set (.inr (.inr rfl)) _ | exact hk)) | (intros; subst_vars; first | exact (hk.set (.inr (.inl rfl)) _).set (.inr (.inr rfl)) _ | exact (hk.set (.inr (.inr rfl)) _).set (.inr (.inl rfl)) _ | exact hk.set (.inr (.inl rfl)) _ | exact hk.set (.inr (.inr rfl)) _ | exact hk) | (simp_all; done)
  · rw [if_neg hl, if_neg hl, agr_eq hf ht]
    have mf : (vs.map qm)[a.1.toNat]? = some (qm cf) := by rw [List.getElem?_map, hf]; rfl
    have mt : (vs.map qm)[a.2.2.2.toNat]? = some (qm ct) := by rw [List.getElem?_map, ht]; rfl
    have s1 := set_same mf
    have s2 := set_same mt
    have s3 : ((vs.map qm).set a.1.toNat (qm ct)).set a.2.2.2.toNat (qm ct) = (vs.map qm).set a.1.toNat (qm ct) := by
      by_cases e : a.1.toNat = a.2.2.2.toNat
      · rw [e, List.set_set]
      · exact set_same (by rw [List.getElem?_set_ne e]; exact mt)
    rcases kf with rfl | rfl | rfl <;> rcases kt with rfl | rfl | rfl <;> simp only [qm] at s1 s2 s3 ⊢ <;> simp [List.map_set, qm, s1, s2, s3] at * <;> first | done | (refine ⟨?_, ?_⟩ <;> first | (simp_all; done) | (intros; subst_vars; first | exact hk.set (.inr (.inl rfl)) _ | exact hk.set (.inr (.inr rfl)) _ | exact hk)) | (intros; subst_vars; first | exact hk.set (.inr (.inl rfl)) _ | exact hk.set (.inr (.inr rfl)) _ | exact hk) | (simp_all; done)
theorem pass_same (hr : ∀ a ∈ rs, InR m a) (hs : ∀ a ∈ rs, a.2.1 = sig → a.1 ≠ a.2.2.2) (hk : Kn vs) (hl : vs.length = m) : passS sig rs (vs.map qm) = (passV sig rs vs ch).map (fun r => r.1.map qm) ∧ ∀ vs' c, passV sig rs vs ch = some (vs', c) → Kn vs' := by
  induction rs generalizing vs ch with
  | nil => exact ⟨rfl, fun vs' c h => by rw [passV] at h; cases h; exact hk⟩
  | cons a rs ih =>
    obtain ⟨h1, h2⟩ := step_same hk (by rw [hl]; exact hr a (List.mem_cons_self ..)) (hs a (List.mem_cons_self ..))
    rw [passS, passV, h1]
    cases hst : stepV sig a vs with
    | none => exact ⟨rfl, fun vs' c h => by cases h⟩
    | some r =>
      obtain ⟨v1, c1⟩ := r
      exact ih (fun b hb => hr b (List.mem_cons_of_mem _ hb)) (fun b hb => hs b (List.mem_cons_of_mem _ hb)) (h2 _ _ hst) ((stepV_fine (by rw [hl]; exact hr a (List.mem_cons_self ..)) hst).1.trans hl)
theorem iterS_fix (h : passS sig arcs us = some us) : ∀ f, iterS sig arcs f us = some us
  | 0 => rfl
  | f + 1 => by rw [iterS, h]; exact iterS_fix h f
theorem run_same (hr : ∀ a ∈ arcs, InR m a) (hs : ∀ a ∈ arcs, a.2.1 = sig → a.1 ≠ a.2.2.2) : ∀ {f : Nat} {vs : List UInt8}, Kn vs → vs.length = m → cnt0 vs < f → iterS sig arcs f (vs.map qm) = (runV sig arcs f vs).map (List.map qm) ∧ ∀ vs', runV sig arcs f vs = some vs' → Kn vs'
  | 0, _, _, _, h => by omega
  | f + 1, vs, hk, hl, h => by
    obtain ⟨h1, h2⟩ := pass_same (ch := false) hr hs hk hl
    rw [iterS, runV, h1]
    cases hp : passV sig arcs vs false with
    | none => exact ⟨rfl, fun vs' h => by cases h⟩
    | some r =>
      obtain ⟨v1, c1⟩ := r
      obtain ⟨k1, k2, k3, k4⟩ := passV_fine hr hl hp
      cases c1 with
      | true =>
        rcases k3 rfl with h3 | h3
        · cases h3
        · have h3 : cnt0 v1 < cnt0 vs := h3
          exact run_same hr hs (h2 _ _ hp) k1 (show cnt0 v1 < f by omega)
      | false =>
        obtain ⟨rfl, _⟩ := k4 rfl
        rw [hp] at h1
        exact ⟨iterS_fix h1 f, fun vs' h => by cases h; exact hk⟩
/-! An edge of the signal that stays at a state: no values, on both sides. -/
theorem agb_def (vs : List UInt8) (i : Nat) (c : UInt8) : agb vs i c = if bv vs i = c then (vs, true, false) else if bv vs i = 0 then (vs.set i c, true, true) else (vs, false, false) := rfl
theorem stepV_self (hl : a.2.1 = sig) (he : a.1 = a.2.2.2) (hi : a.1.toNat < vs.length) : stepV sig a vs = none := by
  unfold stepV
  rw [if_pos hl, ← he]
  have h0 := bit_ne a.2.2.1
  have h1 := bit_ne (!a.2.2.1)
  have h2 : (if (!a.2.2.1) = true then (49 : UInt8) else 48) ≠ (if a.2.2.1 = true then 49 else 48) := by cases a.2.2.1 <;> decide
  generalize (if (!a.2.2.1) = true then (49 : UInt8) else 48) = f0 at h1 h2 ⊢
  generalize (if a.2.2.1 = true then (49 : UInt8) else 48) = t0 at h0 h2 ⊢
  rw [if_neg]
  rintro ⟨k1, k2⟩
  have k3 : bv (agb vs a.1.toNat f0).1 a.1.toNat = f0 := by
    rw [agb_def] at k1 ⊢
    split
    · assumption
    · rename_i h3
      rw [if_neg h3] at k1
      split
      · exact bv_get (List.getElem?_set_self hi)
      · rename_i h4
        rw [if_neg h4] at k1
        cases k1
  rw [agb_def (agb vs a.1.toNat f0).1, k3, if_neg h2, if_neg h1] at k2
  cases k2
theorem passV_self {b : DAr} (hr : ∀ a ∈ rs, InR m a) (hlen : vs.length = m) (hm : b ∈ rs) (hl : b.2.1 = sig) (he : b.1 = b.2.2.2) : passV sig rs vs ch = none := by
  induction rs generalizing vs ch with
  | nil => cases hm
  | cons a rs ih =>
    have ha := hr a (List.mem_cons_self ..)
    rw [passV]
    cases hst : stepV sig a vs with
    | none => rfl
    | some r =>
      obtain ⟨v1, c1⟩ := r
      rcases List.mem_cons.1 hm with rfl | hm
      · have := ha.1
        rw [stepV_self hl he (by omega)] at hst
        cases hst
      · exact ih (fun b hb => hr b (List.mem_cons_of_mem _ hb)) ((stepV_fine (by rw [hlen]; exact ha) hst).1.trans hlen) hm
theorem stepS_len (h : stepS sig a us = some us') : us'.length = us.length := by
  unfold stepS at h
  generalize (if (!a.2.2.1) = true then (49 : UInt8) else 48) = f0 at h
  generalize (if a.2.2.1 = true then (49 : UInt8) else 48) = t0 at h
  split at h
  · split at h
    · cases h
    · cases h; simp
  · split at h
    · cases h; simp
    · split at h
      · cases h
      · cases h; simp
theorem stepS_keep {c : UInt8} (h : stepS sig a us = some us') (hc : us[i]? = some c) (h0 : c ≠ 63) : us'[i]? = some c := by
  have hi := (List.getElem?_eq_some_iff.1 hc).1
  have hset : ∀ x y : UInt8, (i = a.2.2.2.toNat → y = c) → (i = a.1.toNat → x = c) → ((us.set a.1.toNat x).set a.2.2.2.toNat y)[i]? = some c := fun x y h1 h2 => by
    by_cases e1 : a.2.2.2.toNat = i
    · rw [e1, List.getElem?_set_self (by simpa using hi), h1 e1.symm]
    · rw [List.getElem?_set_ne e1]
      by_cases e2 : a.1.toNat = i
      · rw [e2, List.getElem?_set_self hi, h2 e2.symm]
      · rw [List.getElem?_set_ne e2]; exact hc
  unfold stepS at h
  generalize (if (!a.2.2.1) = true then (49 : UInt8) else 48) = f0 at h
  generalize (if a.2.2.1 = true then (49 : UInt8) else 48) = t0 at h
  split at h
  · split at h
    · cases h
    · rename_i h2
      cases h
      refine hset _ _ (fun e => ?_) (fun e => ?_)
      · rw [← e, bv_get hc] at h2
        exact Classical.byContradiction fun h3 => h2 (.inr ⟨h0, fun e => h3 e.symm⟩)
      · rw [← e, bv_get hc] at h2
        exact Classical.byContradiction fun h3 => h2 (.inl ⟨h0, fun e => h3 e.symm⟩)
  · split at h
    · rename_i h2
      cases h
      refine hset _ _ (fun e => ?_) (fun e => ?_)
      · rw [← e, bv_get hc]
      · rw [← e, bv_get hc] at h2; exact absurd h2 h0
    · split at h
      · cases h
      · rename_i h2 h3
        cases h
        refine hset _ _ (fun e => ?_) (fun e => ?_)
        · rw [← e, bv_get hc] at h3
          exact Classical.byContradiction fun h4 => h3 ⟨h0, fun e => h4 e.symm⟩
        · rw [← e, bv_get hc]
theorem passS_keep {c : UInt8} (h : passS sig rs us = some us') (hc : us[i]? = some c) (h0 : c ≠ 63) : us'[i]? = some c := by
  induction rs generalizing us with
  | nil => rw [passS] at h; cases h; exact hc
  | cons a rs ih =>
    rw [passS] at h
    cases hst : stepS sig a us with
    | none => rw [hst] at h; cases h
    | some u1 => rw [hst] at h; exact ih h (stepS_keep hst hc h0)
theorem passS_self {b : DAr} (hm : b ∈ rs) (hl : b.2.1 = sig) (he : b.1 = b.2.2.2) (hi : b.1.toNat < us.length) (h : passS sig rs us = some us') : ∃ c, us'[b.1.toNat]? = some c ∧ c ≠ 63 := by
  induction rs generalizing us with
  | nil => cases hm
  | cons a rs ih =>
    rw [passS] at h
    cases hst : stepS sig a us with
    | none => rw [hst] at h; cases h
    | some u1 =>
      rw [hst] at h
      rcases List.mem_cons.1 hm with rfl | hm
      · have h2 : u1[b.1.toNat]? = some (if b.2.2.1 = true then 49 else 48) := by
          unfold stepS at hst
          rw [if_pos hl] at hst
          generalize (if (!b.2.2.1) = true then (49 : UInt8) else 48) = f0 at hst
          generalize (if b.2.2.1 = true then (49 : UInt8) else 48) = t0 at hst ⊢
          split at hst
          · cases hst
          · cases hst
            rw [← he, List.getElem?_set_self (by simpa using hi)]
        have h3 : (if b.2.2.1 = true then (49 : UInt8) else 48) ≠ 63 := by cases b.2.2.1 <;> decide
        exact ⟨_, passS_keep h h2 h3, h3⟩
      · exact ih hm (by rw [stepS_len hst]; exact hi) h
theorem passS_none {b : DAr} {c : UInt8} (hm : b ∈ rs) (hl : b.2.1 = sig) (he : b.1 = b.2.2.2) (hc : us[b.1.toNat]? = some c) (h0 : c ≠ 63) : passS sig rs us = none := by
  induction rs generalizing us with
  | nil => cases hm
  | cons a rs ih =>
    rw [passS]
    rcases List.mem_cons.1 hm with rfl | hm
    · have : stepS sig b us = none := by
        unfold stepS
        rw [if_pos hl, ← he, bv_get hc, if_pos]
        have h2 : (if (!b.2.2.1) = true then (49 : UInt8) else 48) ≠ (if b.2.2.1 = true then 49 else 48) := by cases b.2.2.1 <;> decide
        by_cases e : c = (if (!b.2.2.1) = true then (49 : UInt8) else 48)
        · exact .inr ⟨h0, fun e2 => h2 (e.symm.trans e2)⟩
        · exact .inl ⟨h0, e⟩
      rw [this]
    · cases hst : stepS sig a us with
      | none => rfl
      | some u1 => exact ih hm (stepS_keep hst hc h0)
def q0 (c : UInt8) : UInt8 := if c = 63 then 48 else c
theorem q0_qm (hk : Kn vs) : (vs.map qm).map q0 = vs.map fz := by
  rw [List.map_map]
  refine List.map_congr_left fun c hc => ?_
  rcases hk c hc with rfl | rfl | rfl <;> rfl
/-- The plain law. -/
theorem l5V_vals {n : Nat} (hr : ∀ a ∈ arcs, InR n a) : ((l5V n arcs sig).2 = false ∧ (valsV n arcs sig).2 = false ∧ l5V n arcs sig = (⟨#[]⟩, false) ∧ valsV n arcs sig = ([], false)) ∨ ∃ us : List UInt8, l5V n arcs sig = (⟨us.toArray⟩, true) ∧ us.length = n ∧ valsV n arcs sig = (us.map q0, true) := by
  by_cases hself : ∃ b ∈ arcs, b.2.1 = sig ∧ b.1 = b.2.2.2
  · obtain ⟨b, hb, hl, he⟩ := hself
    have hV : runV sig arcs (n + 1) (List.replicate n 0) = none := by rw [runV, passV_self hr (by simp) hb hl he]
    obtain ⟨⟨r1, r2⟩, _, _⟩ := hr b hb
    have hS : iterS sig arcs (n + 1) (List.replicate n 63) = none := by
      obtain ⟨n', rfl⟩ : ∃ n', n = n' + 1 := ⟨n - 1, by omega⟩
      rw [iterS]
      cases hp : passS sig arcs (List.replicate (n' + 1) 63) with
      | none => rfl
      | some u1 =>
        obtain ⟨c, h1, h2⟩ := passS_self hb hl he (by simp; omega) hp
        show iterS sig arcs (n' + 1) u1 = none
        rw [iterS, passS_none hb hl he h1 h2]
    exact .inl ⟨by rw [l5V_no hS], by rw [valsV_no hV], l5V_no hS, valsV_no hV⟩
  · have hs : ∀ a ∈ arcs, a.2.1 = sig → a.1 ≠ a.2.2.2 := fun a ha h1 h2 => hself ⟨a, ha, h1, h2⟩
    obtain ⟨h1, h2⟩ := run_same (f := n + 1) (vs := List.replicate n 0) hr hs (fun c hc => .inl (List.eq_of_mem_replicate hc)) (by simp) (by rw [cnt0_rep]; omega)
    have e : (List.replicate n (0 : UInt8)).map qm = List.replicate n 63 := by rw [List.map_replicate]; rfl
    rw [e] at h1
    cases hv : runV sig arcs (n + 1) (List.replicate n 0) with
    | none =>
      rw [hv] at h1
      exact .inl ⟨by rw [l5V_no h1], by rw [valsV_no hv], l5V_no h1, valsV_no hv⟩
    | some vs =>
      rw [hv] at h1
      refine .inr ⟨vs.map qm, l5V_yes h1, ?_, ?_⟩
      · have : ∀ {f : Nat} {v v' : List UInt8}, v.length = n → runV sig arcs f v = some v' → v'.length = n := fun {f} => by
          induction f with
          | zero => intro v v' hl h; rw [runV] at h; cases h; exact hl
          | succ f ih =>
            intro v v' hl h
            rw [runV] at h
            cases hp : passV sig arcs v false with
            | none => rw [hp] at h; cases h
            | some r =>
              obtain ⟨v1, c1⟩ := r
              rw [hp] at h
              have k1 := (passV_fine hr hl hp).1
              cases c1 with
              | true => exact ih k1 h
              | false => cases h; exact k1
        rw [List.length_map]
        exact this (by simp) hv
      · rw [valsV_yes hv, q0_qm (h2 _ hv)]
end

end Go.Proofs.YtnakmhfjafecpaaGreat
