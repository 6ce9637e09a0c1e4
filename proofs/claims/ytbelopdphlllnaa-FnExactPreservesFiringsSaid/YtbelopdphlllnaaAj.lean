/- Abstract states: calls that are handed memory of one's own. No program is named here. -/
import Derived.Test.YtbelopdphlllnaaAi
namespace Go.Proofs.Ytbelopdphlllnaa
open Go.RowKit

/-- The tags behind a call: those below k stay what they were, the others are new from n on. -/
def sg (ρ : List (Nat × Nat)) (k n q : Nat) : Nat := match Nat.blt q k with
  | true => rn ρ q
  | false => n + q
theorem ent_ren_any {σ : Nat → Nat} {T T0 : Tab} {r : Nat} {e : Ent} (h : Tab.ent (T.ren σ ++ T0) r = some e) : (∃ q e', T.ent q = some e' ∧ r = σ q ∧ e = e'.ren σ) ∨ (T0.ent r = some e ∧ ∀ q, T.al q → σ q ≠ r) := by
  induction T with
  | nil => exact .inr ⟨h, fun q hq => absurd hq (al_nil q)⟩
  | cons x T ih =>
    obtain ⟨j, o⟩ := x
    have h : Tab.ent ((σ j, o.map (Ent.ren σ)) :: (Tab.ren σ T ++ T0)) r = some e := h
    rw [Tab.ent_cons] at h
    by_cases h2 : r = σ j
    · rw [if_pos h2] at h
      obtain ⟨e', rfl, rfl⟩ := Option.map_eq_some_iff.1 h
      exact .inl ⟨j, e', by rw [Tab.ent_cons, if_pos rfl], h2, rfl⟩
    · rw [if_neg h2] at h
      rcases ih h with ⟨q, e', h3, h4, h5⟩ | ⟨h3, h4⟩
      · have hq : q ≠ j := fun e => h2 (e ▸ h4)
        exact .inl ⟨q, e', by rw [Tab.ent_cons, if_neg hq]; exact h3, h4, h5⟩
      · refine .inr ⟨h3, fun q hq => ?_⟩
        by_cases hj : q = j
        · rw [hj]; exact fun e => h2 e.symm
        · obtain ⟨e2, hq⟩ := hq
          rw [Tab.ent_cons, if_neg hj] at hq
          exact h4 q ⟨e2, hq⟩
theorem al_key {σ : Nat → Nat} {T : Tab} {q : Nat} (h : T.al q) : σ q ∈ T.map fun p => σ p.1 := by
  obtain ⟨e, h⟩ := h
  refine List.mem_map.2 ?_
  induction T with
  | nil => cases h
  | cons x T ih =>
    obtain ⟨j, o⟩ := x
    rw [Tab.ent_cons] at h
    by_cases e2 : q = j
    · exact ⟨(j, o), List.mem_cons_self .., by rw [e2]⟩
    · rw [if_neg e2] at h
      obtain ⟨p, h1, h2⟩ := ih h
      exact ⟨p, List.mem_cons_of_mem _ h1, h2⟩
/-- Behind a call that was handed the tags 'used' and answers pv over T. -/
@[reducible] def St.backP (s : St) (d : Nat) (σ : Nat → Nat) (used : List Nat) (pv : PV) (T : Tab) : St := ⟨(d, pv.ren σ) :: s.tm, T.ren σ ++ (tombs used ++ s.tab)⟩
section
variable {A : Amb} {P : Program} {s : St} {f : FuncId} {xs : List Operand} {tys : Array TypeId} {args : List (Bool × List LV)} {d : Nat} {ty : TypeId} {pos : String} {af : Array Edge} {g : Option (Nat × Bool)} {pv : PV} {T T' : Tab} {k : Nat}
theorem Does.callV {o : Oper} {vals : Gh → Act → List Value} (n : Nat) (ρ : List (Nat × Nat)) (hod : o.dst = some d) (hc : FC P f args T k (Is pv T'))
    (hup : ∀ gh a w K Q, Rg A s gh a w → Calls P f (vals gh a).toArray w (fun e w' => match e with | .returned v => K (a.put o.dst v) w' | _ => False) → o.wp P a w K Q)
    (ha : ∀ gh a w, Rg A s gh a w → CmsR s.tab.al gh w (args.map fun c => (c.1, c.2.map (LV.ren (rn ρ)))) (vals gh a)) (hT : HasE s ρ T) (hi : dupB (T.map fun p => rn ρ p.1) = true)
    (hcl : closedB pv T' = true) (hi' : dupB (T'.map fun p => sg ρ k n p.1) = true) (hk : ∀ q, T'.al q → q < k → T.al q) (hfr : ∀ q, T'.al q → k ≤ q → Fresh s (n + q)) (hk0 : A.k0 ≤ n) (hn : Nat.blt d A.n = true) :
    Does A P o s (s.backP d (sg ρ k n) (T.map fun p => rn ρ p.1) pv T') := fun a w K Q r hK => by
  obtain ⟨gh, r⟩ := r
  have hal : ∀ q, T.al q → s.tab.al (rn ρ q) := fun q ⟨e, h⟩ => ⟨_, hT.get h⟩
  have hinj : ∀ q q', T.al q → T.al q' → rn ρ q = rn ρ q' → q = q' := fun q q' h1 h2 h => dupB_inj hi h1 h2 h
  have cx0 : Cx T (gh.via (rn ρ)) w := ⟨fun q e h => (EntR.ren.1 (r.cx.en _ _ (hT.get h))).mono (fun r' _ h' => ⟨hal r' h', rfl⟩) (fun g hg => ⟨hg, rfl⟩) rfl rfl fun _ _ => rfl,
    fun q q' h1 h2 hne => r.cx.dj _ _ (hal q h1) (hal q' h2) fun h => hne (hinj q q' h1 h2 h), fun q h => r.cx.nd _ (hal q h), fun q h => r.cx.no _ (hal q h), r.cx.nl⟩
  have hv := (CmsR.ren.1 (ha gh a w r)).mono (al' := T.al) (gh' := gh.via (rn ρ)) (w' := w) (fun q _ h => ⟨hal q h, rfl⟩) fun g hg => ⟨hg, rfl⟩
  refine hup gh a w K Q r (Calls.mono (hc _ w _ cx0 hv) fun e w' he => ?_)
  obtain ⟨v, pv', T2, gh', rfl, ⟨rfl, rfl⟩, cx, hp, fr, hkk⟩ := he
  obtain ⟨c1, c2⟩ := closed_pv hcl
  -- the tags behind
  have hσ : ∀ q, T2.al q → (q < k ∧ T.al q ∧ sg ρ k n q = rn ρ q) ∨ (Fresh s (sg ρ k n q) ∧ A.k0 ≤ sg ρ k n q) := fun q hq => by
    rcases Nat.lt_or_ge q k with h | h
    · exact .inl ⟨h, hk q hq h, by simp only [sg]; rw [show Nat.blt q k = true from Nat.ble_eq_true_of_le h]⟩
    · have e : sg ρ k n q = n + q := by
        simp only [sg]; rw [show Nat.blt q k = false from by
          cases hb : Nat.blt q k with
          | false => rfl
          | true => have := Nat.le_of_ble_eq_true hb; omega]
      rw [e]; exact .inr ⟨hfr q hq h, by omega⟩
  have hσi : ∀ q q', T2.al q → T2.al q' → sg ρ k n q = sg ρ k n q' → q = q' := fun q q' h1 h2 h => dupB_inj hi' h1 h2 h
  generalize hs : sg ρ k n = σ at hσ hσi hK hi' ⊢
  classical
  let G : Gh := ⟨fun r' => if h : ∃ q, T2.al q ∧ σ q = r' then gh'.h h.choose else gh.h r', fun r' => if h : ∃ q, T2.al q ∧ σ q = r' then gh'.f h.choose else gh.f r', fun g => gh.N g ∨ gh'.N g⟩
  have hG : ∀ q, T2.al q → G.h (σ q) = gh'.h q ∧ G.f (σ q) = gh'.f q := fun q hq => by
    have hex : ∃ q', T2.al q' ∧ σ q' = σ q := ⟨q, hq, rfl⟩
    have e1 : hex.choose = q := hσi _ _ hex.choose_spec.1 hq hex.choose_spec.2
    simp only [G]
    rw [dif_pos hex, dif_pos hex, e1]
    exact ⟨rfl, rfl⟩
  have hG0 : ∀ r', (∀ q, T2.al q → σ q ≠ r') → G.h r' = gh.h r' ∧ G.f r' = gh.f r' := fun r' h => by
    have hnx : ¬ ∃ q, T2.al q ∧ σ q = r' := fun ⟨q, h1, h2⟩ => h q h1 h2
    simp only [G]
    rw [dif_neg hnx, dif_neg hnx]
    exact ⟨rfl, rfl⟩
  let U : Tab := Tab.ren σ T2 ++ (tombs (T.map fun p => rn ρ p.1) ++ s.tab)
  have hused : ∀ q, T.al q → rn ρ q ∈ T.map fun p => rn ρ p.1 := fun q hq => al_key hq
  have hU : ∀ r' e, U.ent r' = some e → (∃ q e', T2.ent q = some e' ∧ r' = σ q ∧ e = e'.ren σ) ∨ (s.tab.ent r' = some e ∧ (∀ q, T2.al q → σ q ≠ r') ∧ ∀ q, T.al q → rn ρ q ≠ r') := fun r' e h => by
    rcases ent_ren_any h with h1 | ⟨h1, h2⟩
    · exact .inl h1
    · rw [tombs_ent] at h1
      split at h1
      · cases h1
      · rename_i h3
        exact .inr ⟨h1, h2, fun q hq e => h3 (e ▸ hused q hq)⟩
  have hUa : ∀ r', U.al r' → (∃ q, T2.al q ∧ r' = σ q) ∨ (s.tab.al r' ∧ (∀ q, T2.al q → σ q ≠ r') ∧ ∀ q, T.al q → rn ρ q ≠ r') := fun r' ⟨e, h⟩ => by
    rcases hU r' e h with ⟨q, e', h1, h2, _⟩ | ⟨h1, h2, h3⟩
    · exact .inl ⟨q, ⟨e', h1⟩, h2⟩
    · exact .inr ⟨⟨e, h1⟩, h2, h3⟩
  have kp2 : ∀ r', s.tab.al r' → (∀ q, T.al q → rn ρ q ≠ r') → ∀ g ∈ gh.f r', w'.heap[g]? = w.heap[g]? := fun r' h1 h2 g hg =>
    fr.kp g (r.cx.lt h1 g hg) fun q hq hg' => r.cx.dj _ _ h1 (hal q hq) (fun e => h2 q hq e.symm) g hg hg'
  have kpN : ∀ g, gh.N g → w'.heap[g]? = w.heap[g]? := fun g hN => fr.kp g (r.cx.nl g hN) fun q hq hg => r.cx.no _ (hal q hq) g hg hN
  -- whose block it may be
  have own2 : ∀ q, T2.al q → ∀ g ∈ gh'.f q, w.heap.size ≤ g ∨ ∃ q', T.al q' ∧ g ∈ gh.f (rn ρ q') := fr.ox
  have r2 : Rg A ⟨s.tm, U⟩ G a w' := by
    refine r.step (gh' := G) ⟨fun r' e h => ?_, fun r1 r2 h1 h2 hne g hg hg' => ?_, fun r' h => ?_, fun r' h g hg hN => ?_, fun g hN => ?_⟩ (fun r' h => ?_) (fun g hN => ⟨.inl hN, kpN g hN⟩) fr.gw
      (fun g hg h => fr.kp g hg fun q hq => h _ (hal q hq)) (fun g hN => ?_) fun r' h g hg => ?_
    · rcases hU r' e h with ⟨q, e', h1, rfl, rfl⟩ | ⟨h1, h2, h3⟩
      · refine EntR.ren.2 ((cx.en q e' h1).mono (fun q' hq' _ => ?_) (fun g hg => ⟨.inr hg, rfl⟩) (hG q ⟨e', h1⟩).1 (hG q ⟨e', h1⟩).2 fun _ _ => rfl)
        have h4 := c2 q e' h1 q' hq'
        exact ⟨h4, (hG q' h4).1⟩
      · refine (r.cx.en r' e h1).mono (fun q' hq' hu => ?_) (fun g hN => ⟨.inl hN, kpN g hN⟩) (hG0 r' h2).1 (hG0 r' h2).2 fun g hg => kp2 r' ⟨e, h1⟩ h3 g hg
        rcases hUa q' hu with ⟨q, h4, rfl⟩ | ⟨h4, h5, _⟩
        · rcases hσ q h4 with ⟨h6, h7, h8⟩ | ⟨h6, _⟩
          · rw [(hG q h4).1, hkk q h6 h4]
            exact ⟨h8 ▸ hal q h7, by rw [h8]⟩
          · exact absurd hq' (h6.en r' e h1)
        · exact ⟨h4, (hG0 q' h5).1⟩
    · rcases hUa r1 h1 with ⟨q1, k1, rfl⟩ | ⟨k1, k2, k3⟩ <;> rcases hUa r2 h2 with ⟨q2, l1, rfl⟩ | ⟨l1, l2, l3⟩
      · rw [(hG q1 k1).2] at hg
        rw [(hG q2 l1).2] at hg'
        exact cx.dj q1 q2 k1 l1 (fun e => hne (e ▸ rfl)) g hg hg'
      · rw [(hG q1 k1).2] at hg
        rw [(hG0 r2 l2).2] at hg'
        rcases own2 q1 k1 g hg with h | ⟨q', h, h'⟩
        · have := r.cx.lt l1 g hg'; omega
        · exact r.cx.dj _ _ (hal q' h) l1 (l3 q' h) g h' hg'
      · rw [(hG0 r1 k2).2] at hg
        rw [(hG q2 l1).2] at hg'
        rcases own2 q2 l1 g hg' with h | ⟨q', h, h'⟩
        · have := r.cx.lt k1 g hg; omega
        · exact r.cx.dj _ _ (hal q' h) k1 (k3 q' h) g h' hg
      · rw [(hG0 r1 k2).2] at hg
        rw [(hG0 r2 l2).2] at hg'
        exact r.cx.dj r1 r2 k1 l1 hne g hg hg'
    · rcases hUa r' h with ⟨q1, k1, rfl⟩ | ⟨k1, k2, k3⟩
      · rw [(hG q1 k1).2]; exact cx.nd q1 k1
      · rw [(hG0 r' k2).2]; exact r.cx.nd r' k1
    · rcases hUa r' h with ⟨q1, k1, rfl⟩ | ⟨k1, k2, k3⟩
      · rw [(hG q1 k1).2] at hg
        rcases hN with hN | hN
        · rcases own2 q1 k1 g hg with h | ⟨q', h, h'⟩
          · have := r.cx.nl g hN; omega
          · exact r.cx.no _ (hal q' h) g h' hN
        · exact cx.no q1 k1 g hg hN
      · rw [(hG0 r' k2).2] at hg
        rcases hN with hN | hN
        · exact r.cx.no r' k1 g hg hN
        · rcases fr.nn g hN with h | h | ⟨q', h, h'⟩
          · exact r.cx.no r' k1 g hg h
          · have := r.cx.lt k1 g hg; omega
          · exact r.cx.dj _ _ (hal q' h) k1 (k3 q' h) g h' hg
    · rcases hN with hN | hN
      · exact Nat.lt_of_lt_of_le (r.cx.nl g hN) fr.gw.size
      · exact cx.nl g hN
    · rcases hUa r' h with ⟨q1, k1, rfl⟩ | ⟨k1, k2, k3⟩
      · rcases hσ q1 k1 with ⟨h6, h7, h8⟩ | ⟨h6, h7⟩
        · refine .inl ⟨h8 ▸ hal q1 h7, ?_, fun _ => rfl⟩
          rw [(hG q1 k1).1, hkk q1 h6 k1, h8]
        · exact .inr ⟨h6, h7⟩
      · exact .inl ⟨k1, (hG0 r' k2).1, fun _ => rfl⟩
    · rcases hN with hN | hN
      · exact .inl hN
      · rcases fr.nn g hN with h | h | ⟨q', h, h'⟩
        · exact .inl h
        · exact .inr (.inl h)
        · exact .inr (.inr ⟨_, hal q' h, h', fun hl => r.xn g hl (r.ox _ (hal q' h) g h' hl)⟩)
    · rcases hUa r' h with ⟨q1, k1, rfl⟩ | ⟨k1, k2, k3⟩
      · rw [(hG q1 k1).2] at hg
        rcases own2 q1 k1 g hg with h | ⟨q', h, h'⟩
        · exact .inl h
        · exact .inr ⟨_, hal q' h, h'⟩
      · rw [(hG0 r' k2).2] at hg
        exact .inr ⟨r', k1, hg⟩
  refine hK _ _ ⟨G, ?_⟩
  rw [hod]
  refine r2.put (Nat.le_of_ble_eq_true hn) (pv := pv'.ren σ) ?_
  exact PVR.ren.2 (hp.mono (fun q hq _ => ⟨c1 q hq, (hG q (c1 q hq)).1⟩) fun g hg => ⟨.inr hg, rfl⟩)
/-- The tags that are new behind a call. -/
def FrK (s : St) (n k : Nat) : List Nat → Prop
  | [] => True
  | q :: l => (match Nat.blt q k with
    | true => True
    | false => Fresh s (n + q)) ∧ FrK s n k l
theorem FrK.get {n k : Nat} {l : List Nat} (h : FrK s n k l) : ∀ q ∈ l, k ≤ q → Fresh s (n + q) := by
  induction l with
  | nil => simp
  | cons q l ih =>
    intro r hr hk
    rcases List.mem_cons.1 hr with rfl | hr
    · have h1 := h.1
      rw [show Nat.blt r k = false from by
        cases hb : Nat.blt r k with
        | false => rfl
        | true => have := Nat.le_of_ble_eq_true hb; omega] at h1
      exact h1
    · exact ih h.2 r hr hk
def keptB (T T' : Tab) (k : Nat) : Bool := (tabTags T').all fun q => !(Nat.blt q k) || (T.ent q).isSome
theorem Does.callPs (n : Nat) (ρ : List (Nat × Nat)) (hc : FC P f args T k (Is pv T')) (hE : Enters P f) (ha : EvL A s xs (args.map fun c => (c.1, c.2.map (LV.ren (rn ρ))))) (hT : HasE s ρ T) (hi : dupB (T.map fun p => rn ρ p.1) = true)
    (hcl : closedB pv T' = true) (hi' : dupB (T'.map fun p => sg ρ k n p.1) = true) (hk : ∀ q, T'.al q → q < k → T.al q) (hfr : ∀ q, T'.al q → k ≤ q → Fresh s (n + q)) (hk0 : A.k0 ≤ n) (hn : Nat.blt d A.n = true) :
    Does A P ⟨some d, .call ⟨.value (.func f), xs.toArray, tys⟩, ty, pos, af, g⟩ s (s.backP d (sg ρ k n) (T.map fun p => rn ρ p.1) pv T') :=
  Does.callV (vals := fun _ a => xs.map a.eval) n ρ rfl hc (fun _ _ _ _ _ _ h => upon_call hE rfl h) (fun _ _ _ r => ha.cms r) hT hi hcl hi' hk hfr hk0 hn
/-! Function values -/
theorem upon_callF {P : Program} {o : Oper} {f : FuncId} {x0 : Operand} {xs : List Operand} {tys : Array TypeId} {a : Act} {w : World} {K : Act → World → Prop} {Q : Exit → Act → World → Prop} {cs : List Value} (hE : Enters P f) (ho : o.op = .call ⟨.value x0, xs.toArray, tys⟩) (hx : a.eval x0 = .func (.func f) #[] cs.toArray)
    (h : Calls P f (xs.map a.eval ++ cs).toArray w fun e w' => match e with | .returned v => K (a.put o.dst v) w' | _ => False) : o.wp P a w K Q := by
  have e : (execOp a.eval o).run P w = .ok (.enter f (xs.map a.eval ++ cs).toArray) w := by
    unfold execOp
    simp only [ho, resolve, hx, Deferred.ofValue, Go.Sem.run_bind]
    have := hE (xs.map a.eval ++ cs).toArray w
    simpa [invoke] using this
  unfold Oper.wp
  rw [e, Oper.upon_enter]
  refine Calls.mono h fun e w' he => ?_
  cases e <;> first | exact he | exact he.elim
def boxB (T : Tab) (q : Nat) : Bool := match T.ent q with
  | some (.box _ _) => true
  | _ => false
theorem box_ptr {gh : Gh} {w : World} {T : Tab} (cx : Cx T gh w) {q : Nat} (h : boxB T q = true) : T.al q ∧ ∃ g, gh.h q = .pointer (some ⟨g, 0, none⟩) := by
  unfold boxB at h
  cases he : T.ent q with
  | none => rw [he] at h; cases h
  | some e =>
    rw [he] at h
    cases e with
    | box E cs => obtain ⟨g, cur, h1, _⟩ := cx.en q _ he; exact ⟨⟨_, he⟩, g, h1⟩
    | _ => cases h
/-- 'func' with what it captures: pointers to variables. -/
def EvCaps (A : Amb) (s : St) : List Operand → List Nat → Prop
  | [], qs => qs = []
  | x :: xs, qs => ∃ q qs', qs = q :: qs' ∧ Evl A s x (.ptr q 0) ∧ boxB s.tab q = true ∧ EvCaps A s xs qs'
theorem EvCaps.vals {xs : List Operand} {qs : List Nat} (h : EvCaps A s xs qs) {gh : Gh} {a : Act} {w : World} (r : Rg A s gh a w) : xs.map a.eval = qs.map gh.h := by
  induction xs generalizing qs with
  | nil => rw [show qs = [] from h]; rfl
  | cons x xs ih =>
    obtain ⟨q, qs', rfl, h1, h2, h3⟩ := h
    obtain ⟨h4, g, h5⟩ := box_ptr r.cx h2
    obtain ⟨g', h6, h7⟩ := h1 gh a w r h4
    rw [List.map_cons, List.map_cons, ih h3, h7, h6]
theorem Does.makeFunc {cs : List Operand} {qs : List Nat} (hc : EvCaps A s cs qs) (hn : Nat.blt d A.n = true) : Does A P ⟨some d, .makeFunc (.func f) #[] cs.toArray, ty, pos, af, g⟩ s (s.put d (lf (.clo f qs))) :=
  Does.yields rfl hn fun gh a w r => by
    refine ⟨.func (.func f) #[] (qs.map gh.h).toArray, ?_, _, rfl, fun _ => rfl⟩
    simp only [execOp, Instr.makeFunc]
    simp [hc.vals r]
/-- A call of a function value. -/
theorem Does.callF {x0 : Operand} {args0 : List (Bool × List LV)} {caps qs : List Nat} (n : Nat) (ρ : List (Nat × Nat)) (hc : FC P f args T k (Is pv T')) (hE : Enters P f) (h0 : args = args0 ++ caps.map fun q => (false, [.ptr q 0])) (hf : Evl A s x0 (.clo f qs)) (hq : qs = caps.map (rn ρ)) (hb : (caps.all fun q => boxB s.tab (rn ρ q)) = true)
    (ha : EvL A s xs (args0.map fun c => (c.1, c.2.map (LV.ren (rn ρ))))) (hT : HasE s ρ T)
    (hB : (dupB (T.map fun p => rn ρ p.1) && closedB pv T' && dupB (T'.map fun p => sg ρ k n p.1) && keptB T T' k && Nat.blt d A.n) = true) (hfr : FrK s n k (tabTags T')) (hk0 : A.k0 ≤ n) :
    Does A P ⟨some d, .call ⟨.value x0, xs.toArray, tys⟩, ty, pos, af, g⟩ s (s.backP d (sg ρ k n) (T.map fun p => rn ρ p.1) pv T') := by
  simp only [Bool.and_eq_true] at hB
  obtain ⟨⟨⟨⟨h1, h2⟩, h3⟩, h4⟩, h5⟩ := hB
  subst h0 hq
  have hbx : ∀ q ∈ caps, boxB s.tab (rn ρ q) = true := List.all_eq_true.1 hb
  refine Does.callV (vals := fun gh a => xs.map a.eval ++ (caps.map (rn ρ)).map gh.h) n ρ rfl hc (fun gh a w K Q r h => upon_callF hE rfl (hf gh a w r fun q hq => ?_) h) (fun gh a w r => ?_) hT h1 h2 h3 (fun q ⟨e, hq⟩ hk => ?_) (fun q ⟨e, hq⟩ hk => hfr.get q (tabTags_spec hq).1 hk) hk0 h5
  · obtain ⟨q', h6, rfl⟩ := List.mem_map.1 hq
    exact (box_ptr r.cx (hbx q' h6)).1
  · rw [List.map_append]
    have h6 := ha.cms r
    have h7 : CmsR s.tab.al gh w ((caps.map fun q => (false, [.ptr q 0])).map fun c : Bool × List LV => (c.1, c.2.map (LV.ren (rn ρ)))) ((caps.map (rn ρ)).map gh.h) := by
      clear h6 hc hb hf
      induction caps with
      | nil => exact rfl
      | cons q qs ih =>
        obtain ⟨h8, g, h9⟩ := box_ptr r.cx (hbx q (List.mem_cons_self ..))
        exact ⟨_, _, rfl, ⟨_, rfl, fun _ => ⟨g, h9, h9⟩⟩, ih fun q' hq' => hbx q' (List.mem_cons_of_mem _ hq')⟩
    clear hc
    generalize (args0.map fun c => (c.1, c.2.map (LV.ren (rn ρ)))) = L at h6 ⊢
    generalize xs.map a.eval = vs at h6 ⊢
    induction L generalizing vs with
    | nil => rw [show vs = [] from h6]; exact h7
    | cons c cs ih => obtain ⟨v, vs', rfl, h8, h9⟩ := h6; exact ⟨v, _, rfl, h8, ih _ h9⟩
  · have := List.all_eq_true.1 h4 q (tabTags_spec hq).1
    rw [show Nat.blt q k = true from Nat.ble_eq_true_of_le hk] at this
    exact Option.isSome_iff_exists.1 (by simpa using this)
theorem Does.callP (n : Nat) (ρ : List (Nat × Nat)) (hc : FC P f args T k (Is pv T')) (hE : Enters P f) (ha : EvL A s xs (args.map fun c => (c.1, c.2.map (LV.ren (rn ρ))))) (hT : HasE s ρ T)
    (hB : (dupB (T.map fun p => rn ρ p.1) && closedB pv T' && dupB (T'.map fun p => sg ρ k n p.1) && keptB T T' k && Nat.blt d A.n) = true) (hfr : FrK s n k (tabTags T')) (hk0 : A.k0 ≤ n) :
    Does A P ⟨some d, .call ⟨.value (.func f), xs.toArray, tys⟩, ty, pos, af, g⟩ s (s.backP d (sg ρ k n) (T.map fun p => rn ρ p.1) pv T') := by
  simp only [Bool.and_eq_true] at hB
  obtain ⟨⟨⟨⟨h1, h2⟩, h3⟩, h4⟩, h5⟩ := hB
  refine Does.callPs n ρ hc hE ha hT h1 h2 h3 (fun q ⟨e, hq⟩ hk => ?_) (fun q ⟨e, hq⟩ hk => hfr.get q (tabTags_spec hq).1 hk) hk0 h5
  have := List.all_eq_true.1 h4 q (tabTags_spec hq).1
  rw [show Nat.blt q k = true from Nat.ble_eq_true_of_le hk] at this
  exact Option.isSome_iff_exists.1 (by simpa using this)
/-- Own memory read as data. -/
def ThL (s : St) : List LV → List LV → Prop
  | [], ls' => ls' = []
  | l :: ls, ls' => ∃ l' r, ls' = l' :: r ∧ (l = l' ∨ ∃ q E e xs, l = .ref q ∧ s.tab.ent q = some (.arr E e xs) ∧ l' = .dat (.sl E e) xs) ∧ ThL s ls r
theorem LVs.th {gh : Gh} {a : Act} {w : World} (r : Rg A s gh a w) {ls ls' : List LV} {vs : List Value} (h : LVs s.tab.al gh w ls vs) (k : ThL s ls ls') : LVs (fun _ => False) ⟨gh.h, gh.f, fun g => g < w.heap.size⟩ w ls' vs := by
  induction ls generalizing ls' vs with
  | nil => rw [show ls' = [] from k]; exact h
  | cons l ls ih =>
    obtain ⟨v, vs', rfl, h1, h2⟩ := h
    obtain ⟨l', r', rfl, h3, h4⟩ := k
    refine ⟨v, vs', rfl, ?_, ih h2 h4⟩
    rcases h3 with rfl | ⟨q, E, e, xs, rfl, h5, rfl⟩
    · exact h1.mono (fun _ _ h => h.elim) fun g hg => ⟨r.cx.nl g hg, rfl⟩
    · have hv : v = gh.h q := h1 ⟨_, h5⟩
      have hO : Own (.sl E e) w (gh.f q) [gh.h q] xs := r.cx.en q _ h5
      rw [hv]
      exact hO.rd fun g hg => Own.lt hO g hg
theorem Ev.ob {x : Operand} {b : Bool} {ls ls' : List LV} (h : Ev A s x (b, ls)) (k : ThL s ls ls') : EvB A s x (b, ls') := fun gh a w r => by
  have h1 := h gh a w r
  cases b with
  | true => obtain ⟨vs, h2, h3⟩ := h1; exact ⟨vs, h2, h3.th r k⟩
  | false =>
    obtain ⟨l, rfl, h3⟩ := h1
    have h6 : LVs s.tab.al gh w [l] [a.eval x] := ⟨_, [], rfl, h3, rfl⟩
    obtain ⟨l', r', rfl, h4, h5⟩ := k
    have h5 : r' = [] := h5
    subst h5
    obtain ⟨v, vs, h7, h8, _⟩ := h6.th r (ls' := [l']) ⟨l', [], rfl, h4, rfl⟩
    simp only [List.cons.injEq] at h7
    exact ⟨l', rfl, h7.1 ▸ h8⟩
end
end Go.Proofs.Ytbelopdphlllnaa
