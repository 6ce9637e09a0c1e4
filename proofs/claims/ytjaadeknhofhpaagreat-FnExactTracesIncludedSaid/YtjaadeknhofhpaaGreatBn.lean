/- Abstract states: maps whose elements are slices of one's own; ranging over maps. No program is named here. -/
import Derived.Test.YtjaadeknhofhpaaGreatAl
import Derived.Maps.RangeRun
set_option linter.unusedSimpArgs false
set_option linter.unusedVariables false
set_option linter.unusedSectionVars false
namespace Go.Proofs.YtjaadeknhofhpaaGreat
open Go.RowKit
open Go.ChangeMaps (setBlock)

/-! ### Some entries anew -/
section
variable {A : Amb} {P : Program} {s : St}
theorem Rg.redo {gh gh' : Gh} {a : Act} {w w' : World} {T : Tab} (r : Rg A s gh a w) (C : Nat → Prop) (hN : gh'.N = gh.N)
    (hold : ∀ u, ¬ C u → T.ent u = s.tab.ent u ∧ gh'.h u = gh.h u ∧ gh'.f u = gh.f u)
    (hnew : ∀ u e, C u → T.ent u = some e → (∀ al, EntR al gh' w' u e) ∧ (gh'.f u).Nodup ∧ (∀ g ∈ gh'.f u, w.heap.size ≤ g ∨ ∃ v, C v ∧ s.tab.al v ∧ g ∈ gh.f v) ∧ ((s.tab.al u ∧ gh'.h u = gh.h u) ∨ (Fresh s u ∧ A.k0 ≤ u)))
    (hdis : ∀ u v, C u → C v → T.al u → T.al v → u ≠ v → ∀ g ∈ gh'.f u, g ∉ gh'.f v)
    (hg : Grw w w') (hb : ∀ g, g < w.heap.size → (∀ v, C v → s.tab.al v → g ∉ gh.f v) → w'.heap[g]? = w.heap[g]?) : Rg A ⟨s.tm, T⟩ gh' a w' := by
  have hNk : ∀ g, gh.N g → gh'.N g ∧ w'.heap[g]? = w.heap[g]? := fun g h => ⟨by rw [hN]; exact h, hb g (r.cx.nl g h) fun v _ hv hgv => r.cx.no v hv g hgv h⟩
  have hal : ∀ u, ¬ C u → (T.al u ↔ s.tab.al u) := fun u hu => by unfold Tab.al; rw [(hold u hu).1]
  have src : ∀ u, T.al u → ∀ g ∈ gh'.f u, w.heap.size ≤ g ∨ ∃ v, s.tab.al v ∧ g ∈ gh.f v ∧ (C u → C v) ∧ (¬ C u → v = u) := fun u ⟨e, he⟩ g hgu => by
    by_cases hu : C u
    · rcases (hnew u e hu he).2.2.1 g hgu with h | ⟨v, h1, h2, h3⟩
      · exact .inl h
      · exact .inr ⟨v, h2, h3, fun _ => h1, fun h => absurd hu h⟩
    · rw [(hold u hu).2.2] at hgu
      exact .inr ⟨u, (hal u hu).1 ⟨e, he⟩, hgu, fun h => absurd h hu, fun _ => rfl⟩
  have stay : ∀ u, T.al u → (s.tab.al u ∧ gh'.h u = gh.h u) ∨ (Fresh s u ∧ A.k0 ≤ u) := fun u ⟨e, he⟩ => by
    by_cases hu : C u
    · exact (hnew u e hu he).2.2.2
    · exact .inl ⟨(hal u hu).1 ⟨e, he⟩, (hold u hu).2.1⟩
  refine r.step ⟨fun u e he => ?_, fun u v hu hv hne g h1 h2 => ?_, fun u hu => ?_, fun u hu g h1 h2 => ?_, fun g h => ?_⟩ (fun u hu => (stay u hu).imp (fun h => ⟨h.1, h.2, fun _ => rfl⟩) id) hNk hg (fun g hl hx => hb g hl fun v _ hv => hx v hv)
    (fun g h => .inl (by rwa [hN] at h)) fun u hu g h1 => (src u hu g h1).imp id fun ⟨v, h2, h3, _⟩ => ⟨v, h2, h3⟩
  · by_cases hu : C u
    · exact (hnew u e hu he).1 _
    · obtain ⟨h1, h2, h3⟩ := hold u hu
      rw [h1] at he
      refine (r.cx.en u e he).mono (fun v hv hva => ?_) hNk h2 h3 fun g hgu => hb g (r.cx.lt ⟨e, he⟩ g hgu) fun v hv hva => r.cx.dj u v ⟨e, he⟩ hva (fun h => hu (h ▸ hv)) g hgu
      rcases stay v hva with h | h
      · exact h
      · exact absurd hv (h.1.en u e he)
  · rcases src u hu g h1 with h3 | ⟨a1, k1, k2, k3, k4⟩
    · rcases src v hv g h2 with h4 | ⟨a2, j1, j2, j3, j4⟩
      · by_cases hu2 : C u
        · by_cases hv2 : C v
          · exact hdis u v hu2 hv2 hu hv hne g h1 h2
          · rw [(hold v hv2).2.2] at h2
            have := r.cx.lt ((hal v hv2).1 hv) g h2; omega
        · rw [(hold u hu2).2.2] at h1
          have := r.cx.lt ((hal u hu2).1 hu) g h1; omega
      · have := r.cx.lt j1 g j2; omega
    · rcases src v hv g h2 with h4 | ⟨a2, j1, j2, j3, j4⟩
      · have := r.cx.lt k1 g k2; omega
      · by_cases hu2 : C u
        · by_cases hv2 : C v
          · exact hdis u v hu2 hv2 hu hv hne g h1 h2
          · exact r.cx.dj a1 a2 k1 j1 (fun h => hv2 (by rw [← j4 hv2, ← h]; exact k3 hu2)) g k2 j2
        · by_cases hv2 : C v
          · exact r.cx.dj a1 a2 k1 j1 (fun h => hu2 (by rw [← k4 hu2, h]; exact j3 hv2)) g k2 j2
          · exact r.cx.dj a1 a2 k1 j1 (fun h => hne (by rw [← k4 hu2, ← j4 hv2, h])) g k2 j2
  · by_cases hu2 : C u
    · obtain ⟨e, he⟩ := hu
      exact (hnew u e hu2 he).2.1
    · rw [(hold u hu2).2.2]; exact r.cx.nd u ((hal u hu2).1 hu)
  · rw [hN] at h2
    rcases src u hu g h1 with h3 | ⟨v, k1, k2, _⟩
    · have := r.cx.nl g h2; omega
    · exact r.cx.no v k1 g k2 h2
  · rw [hN] at h
    exact Nat.lt_of_lt_of_le (r.cx.nl g h) hg.size
end

/-! ### How the elements of a map are held -/
structure Vrl (X : Type) where
  rel : (Nat → Prop) → World → List Nat → Value → X → Prop
  fl : Bool
  keep : ∀ {N N' : Nat → Prop} {w w' : World} {f : List Nat} {v : Value} {x : X}, rel N w f v x → (∀ g ∈ f, w'.heap[g]? = w.heap[g]?) → (∀ g, N g → N' g ∧ w'.heap[g]? = w.heap[g]?) → rel N' w' f v x
  lt : ∀ {N : Nat → Prop} {w : World} {f : List Nat} {v : Value} {x : X}, rel N w f v x → ∀ g ∈ f, g < w.heap.size
  noN : fl = true → ∀ {N N' : Nat → Prop} {w : World} {f : List Nat} {v : Value} {x : X}, rel N w f v x → rel N' w f v x
def vFz (t : Ty) : Vrl t.Den where
  rel N w f v x := f = [] ∧ Rd N t w [v] x
  fl := t.flat
  keep := fun h _ hN => ⟨h.1, h.2.mono hN⟩
  lt := fun h g hg => by rw [h.1] at hg; cases hg
  noN := fun hf _ _ _ _ _ _ h => ⟨h.1, (Rd.rep h.2).rd0 hf⟩
def vOw (E : TypeId) (e : Ty) : Vrl (List e.Den) where
  rel _ w f v x := Own (.sl E e) w f [v] x
  fl := true
  keep := fun h hf _ => Own.keep h hf
  lt := fun h => Own.lt h
  noN := fun _ _ _ _ _ _ _ h => h
/-- Entries, those that are owned among them. -/
def ZR {X : Type} (V : Vrl X) (k : Ty) (N : Nat → Prop) (w : World) (own : MapEntry × k.Den × X → Bool) : List (MapEntry × k.Den × X) → List Nat → Prop
  | [], f => f = []
  | z :: zs, f => ∃ f1 f2, f = f1 ++ f2 ∧ KV false k z.1.key z.2.1 ∧ (if own z = true then V.rel N w f1 z.1.val z.2.2 else f1 = []) ∧ ZR V k N w own zs f2
section
variable {X : Type} {V : Vrl X} {k : Ty} {N N' : Nat → Prop} {w w' : World} {own own' : MapEntry × k.Den × X → Bool} {zs ys : List (MapEntry × k.Den × X)} {f : List Nat} {z : MapEntry × k.Den × X}
theorem ZR.keep (h : ZR V k N w own zs f) (hf : ∀ g ∈ f, w'.heap[g]? = w.heap[g]?) (hN : ∀ g, N g → N' g ∧ w'.heap[g]? = w.heap[g]?) : ZR V k N' w' own zs f := by
  induction zs generalizing f with
  | nil => exact h
  | cons z zs ih =>
    obtain ⟨f1, f2, rfl, h1, h2, h3⟩ := h
    refine ⟨f1, f2, rfl, h1, ?_, ih h3 fun g hg => hf g (List.mem_append_right _ hg)⟩
    split
    · rename_i hc; rw [if_pos hc] at h2; exact V.keep h2 (fun g hg => hf g (List.mem_append_left _ hg)) hN
    · rename_i hc; rw [if_neg hc] at h2; exact h2
theorem ZR.lt (h : ZR V k N w own zs f) : ∀ g ∈ f, g < w.heap.size := by
  induction zs generalizing f with
  | nil => intro g hg; rw [show f = [] from h] at hg; cases hg
  | cons z zs ih =>
    obtain ⟨f1, f2, rfl, h1, h2, h3⟩ := h
    intro g hg
    rcases List.mem_append.1 hg with hg | hg
    · split at h2
      · exact V.lt h2 g hg
      · rw [h2] at hg; cases hg
    · exact ih h3 g hg
theorem ZR.noN (hv : V.fl = true) (h : ZR V k N w own zs f) : ZR V k N' w own zs f := by
  induction zs generalizing f with
  | nil => exact h
  | cons z zs ih =>
    obtain ⟨f1, f2, rfl, h1, h2, h3⟩ := h
    refine ⟨f1, f2, rfl, h1, ?_, ih h3⟩
    split
    · rename_i hc; rw [if_pos hc] at h2; exact V.noN hv h2
    · rename_i hc; rw [if_neg hc] at h2; exact h2
theorem ZR.congr (h : ZR V k N w own zs f) (he : ∀ z ∈ zs, own z = own' z) : ZR V k N w own' zs f := by
  induction zs generalizing f with
  | nil => exact h
  | cons z zs ih =>
    obtain ⟨f1, f2, rfl, h1, h2, h3⟩ := h
    rw [he z (List.mem_cons_self ..)] at h2
    exact ⟨f1, f2, rfl, h1, h2, ih h3 fun z hz => he z (List.mem_cons_of_mem _ hz)⟩
theorem ZR.app (h : ZR V k N w own (ys ++ zs) f) : ∃ f1 f2, f = f1 ++ f2 ∧ ZR V k N w own ys f1 ∧ ZR V k N w own zs f2 := by
  induction ys generalizing f with
  | nil => exact ⟨[], f, rfl, rfl, h⟩
  | cons z ys ih =>
    obtain ⟨f1, f2, rfl, h1, h2, h3⟩ := h
    obtain ⟨f3, f4, rfl, h4, h5⟩ := ih h3
    exact ⟨f1 ++ f3, f4, (List.append_assoc ..).symm, ⟨f1, f3, rfl, h1, h2, h4⟩, h5⟩
theorem ZR.join {f1 f2 : List Nat} (h1 : ZR V k N w own ys f1) (h2 : ZR V k N w own zs f2) : ZR V k N w own (ys ++ zs) (f1 ++ f2) := by
  induction ys generalizing f1 with
  | nil => rw [show f1 = [] from h1]; exact h2
  | cons z ys ih =>
    obtain ⟨f3, f4, rfl, k1, k2, k3⟩ := h1
    exact ⟨f3, f4 ++ f2, by rw [List.append_assoc], k1, k2, ih k3⟩
end

section
variable {A : Amb} {P : Program} {s : St} {x y z : Operand} {d : Nat} {T T' ty : TypeId} {pos : String} {af : Array Edge} {g : Option (Nat × Bool)} {X : Type} {V : Vrl X} {k : Ty} {N N' : Nat → Prop} {w w' : World}
theorem ZR.at {own : MapEntry × k.Den × X → Bool} {zs : List (MapEntry × k.Den × X)} {f : List Nat} (h : ZR V k N w own zs f) : ∀ z ∈ zs, KV false k z.1.key z.2.1 := by
  induction zs generalizing f with
  | nil => intro z hz; cases hz
  | cons z zs ih =>
    obtain ⟨f1, f2, rfl, h1, h2, h3⟩ := h
    intro z' hz
    rcases List.mem_cons.1 hz with rfl | hz
    · exact h1
    · exact ih h3 z' hz
theorem ZR.find {own : MapEntry × k.Den × X → Bool} {zs : List (MapEntry × k.Den × X)} {f : List Nat} {kt : TypeId} (KL : KeyL P kt false k) (h : ZR V k N w own zs f) {key : Value} {q : k.Den} (hk : KV false k key q) :
    ((Instr.findKey kt key (zs.map (·.1))).run P w = .ok none w ∧ ∀ z ∈ zs, z.2.1 ≠ q) ∨ ∃ (ya yb : List (MapEntry × k.Den × X)) (z : MapEntry × k.Den × X), zs = ya ++ z :: yb ∧ (Instr.findKey kt key (zs.map (·.1))).run P w = .ok (some (ya.length, z.1.val)) w ∧ z.2.1 = q ∧ z.1.key = key := by
  obtain ⟨l, hl⟩ := KL.rd _ _ hk
  rcases KL.K.find w hl (zs.map (·.1)) fun e he => by
      obtain ⟨z, hz, rfl⟩ := List.mem_map.1 he
      exact KL.rd _ _ (h.at z hz) with ⟨h1, h2⟩ | ⟨j, e, h1, h2, h3⟩
  · refine .inl ⟨h1, fun z hz e1 => ?_⟩
    exact h2 _ (List.mem_map.2 ⟨z, hz, rfl⟩) ((KV.inj (h.at z hz) hk KL.flat).2 e1)
  · rw [List.getElem?_map] at h2
    cases hz : zs[j]? with
    | none => rw [hz] at h2; cases h2
    | some z =>
      rw [hz] at h2
      have h2 : z.1 = e := by simpa using h2
      subst h2
      obtain ⟨hl2, hz2⟩ := List.getElem?_eq_some_iff.1 hz
      refine .inr ⟨zs.take j, zs.drop (j + 1), z, ?_, ?_, (KV.inj (h.at z (List.mem_of_getElem? hz)) hk KL.flat).1 h3, h3⟩
      · rw [← hz2]; exact (List.take_append_drop j zs).symm.trans (by rw [List.drop_eq_getElem_cons hl2])
      · rw [List.length_take, Nat.min_eq_left (by omega)]; exact h1
def ownA (hl : Option k.Den) (z : MapEntry × k.Den × X) : Bool := match hl with
  | none => true
  | some p => !k.beq z.2.1 p
/-- A map whose elements are held as V says; the one at the key hl is left out. -/
def MoP (V : Vrl X) (k : Ty) (m : List (k.Den × X)) (hl : Option k.Den) (N : Nat → Prop) (w : World) (f : List Nat) (v : Value) : Prop :=
  ∃ g es clock zs fs, v = .map (some g) ∧ f = g :: fs ∧ w.heap[g]? = some (.map es clock) ∧ Born es.toList clock ∧ m.Pairwise (fun p q => p.1 ≠ q.1) ∧ es.toList = zs.map (·.1) ∧ m = zs.map (·.2) ∧ ZR V k N w (ownA hl) zs fs
theorem lt_of_some {o : Obj} {g : Nat} (h : w.heap[g]? = some o) : g < w.heap.size := (Array.getElem?_eq_some_iff.1 h).1
def moR (V : Vrl X) (k : Ty) (m : List (k.Den × X)) (hl : Option k.Den) : Rsc where
  rel := MoP V k m hl
  fl := V.fl
  keep := fun ⟨g, es, clock, zs, fs, h1, h2, h3, h4, h5, h6, h7, h8⟩ hf hN => ⟨g, es, clock, zs, fs, h1, h2, (hf g (by rw [h2]; exact List.mem_cons_self ..)).trans h3, h4, h5, h6, h7, h8.keep (fun g' hg => hf g' (by rw [h2]; exact List.mem_cons_of_mem _ hg)) hN⟩
  lt := fun ⟨g, es, clock, zs, fs, h1, h2, h3, h4, h5, h6, h7, h8⟩ g' hg => by
    rw [h2] at hg
    rcases List.mem_cons.1 hg with rfl | hg
    · exact lt_of_some h3
    · exact h8.lt g' hg
  one := fun ⟨g, es, clock, zs, fs, h1, h2⟩ => by rw [h1]; rfl
  noN := fun hv _ _ _ _ _ ⟨g, es, clock, zs, fs, h1, h2, h3, h4, h5, h6, h7, h8⟩ => ⟨g, es, clock, zs, fs, h1, h2, h3, h4, h5, h6, h7, h8.noN hv⟩
/-- Which entries an iterator still holds. -/
def ownI (cn b : Bool) (seen : Array Nat) (z : MapEntry × k.Den × X) : Bool := !cn || !seen.contains z.1.born || (b && seen.back? == some z.1.born)
def ItP (V : Vrl X) (k : Ty) (cn : Bool) (m left : List (k.Den × X)) (cur : Option (k.Den × X)) (p : Value) (N : Nat → Prop) (w : World) (f : List Nat) (v : Value) : Prop :=
  ∃ g gi es clock since seen c0 zs fs, (v = .map (some g) ∧ p = .pointer (some ⟨gi, 0, none⟩) ∧ f = gi :: g :: fs) ∧ (w.heap[gi]? = some (.mapIter (some g) since seen c0) ∧ w.heap[g]? = some (.map es clock)) ∧ (Born es.toList clock ∧ (∀ x ∈ es.toList, x.born < since) ∧ since ≤ c0 ∧ since ≤ clock) ∧
    m.Pairwise (fun p q => p.1 ≠ q.1) ∧ es.toList = zs.map (·.1) ∧ m = zs.map (·.2) ∧ left = (zs.filter fun z => !seen.contains z.1.born).map (·.2) ∧ (∀ c, cur = some c → ∃ z ∈ zs, z.2 = c ∧ (∃ s0 : Array Nat, seen = s0.push z.1.born) ∧ c0 = clock) ∧ ZR V k N w (ownI cn cur.isSome seen) zs fs
def itR (V : Vrl X) (k : Ty) (cn : Bool) (m left : List (k.Den × X)) (cur : Option (k.Den × X)) (p : Value) : Rsc where
  rel := ItP V k cn m left cur p
  fl := V.fl
  keep := fun ⟨g, gi, es, clock, since, seen, c0, zs, fs, ⟨h1, h2, h3⟩, ⟨h4, h5⟩, h6, h7, h8, h9, h10, h11, h12⟩ hf hN =>
    ⟨g, gi, es, clock, since, seen, c0, zs, fs, ⟨h1, h2, h3⟩, ⟨(hf gi (by rw [h3]; simp)).trans h4, (hf g (by rw [h3]; simp)).trans h5⟩, h6, h7, h8, h9, h10, h11, h12.keep (fun g' hg => hf g' (by rw [h3]; exact List.mem_cons_of_mem _ (List.mem_cons_of_mem _ hg))) hN⟩
  lt := fun ⟨g, gi, es, clock, since, seen, c0, zs, fs, ⟨h1, h2, h3⟩, ⟨h4, h5⟩, h6, h7, h8, h9, h10, h11, h12⟩ g' hg => by
    rw [h3] at hg
    rcases List.mem_cons.1 hg with rfl | hg
    · exact lt_of_some h4
    · rcases List.mem_cons.1 hg with rfl | hg
      · exact lt_of_some h5
      · exact h12.lt g' hg
  one := fun ⟨g, gi, es, clock, since, seen, c0, zs, fs, ⟨h1, h2, h3⟩, _⟩ => by rw [h1]; rfl
  noN := fun hv _ _ _ _ _ ⟨g, gi, es, clock, since, seen, c0, zs, fs, h1, h4, h6, h7, h8, h9, h10, h11, h12⟩ => ⟨g, gi, es, clock, since, seen, c0, zs, fs, h1, h4, h6, h7, h8, h9, h10, h11, h12.noN hv⟩
end

section
variable {A : Amb} {P : Program} {s : St} {x y z : Operand} {d : Nat} {T T' ty : TypeId} {pos : String} {af : Array Edge} {g : Option (Nat × Bool)} {X : Type} {V : Vrl X} {k : Ty} {N N' : Nat → Prop} {w w' : World}
theorem Does.makeT (V : Vrl X) (t : Nat) (hn : Nat.blt d A.n = true) (hfr : Fresh s t) (hk0 : A.k0 ≤ t) : Does A P ⟨some d, .makeMap T none, ty, pos, af, g⟩ s (s.new d t (.ref t) (.res (moR V k [] none))) :=
  fun a w K Q r hK => by
    obtain ⟨gh, r⟩ := r
    have e : (execOp a.eval ⟨some d, .makeMap T none, ty, pos, af, g⟩).run P w = .ok (.value (.map (some w.heap.size))) (w.alloc (.map #[] 0)) := by
      simp only [execOp, Option.map_none, Go.Sem.run_bind, run_makeMap, Result.andThen_ok]
      simp
    unfold Oper.wp
    rw [e, Oper.upon_value]
    refine hK _ _ ⟨_, (r.grow t hfr hk0 (.map #[] 0) (.map (some w.heap.size)) [w.heap.size] (.res (moR V k [] none)) (by simp) (by simp) (by simp [Ent.tags]) ?_).put (Nat.le_of_ble_eq_true hn) (pv := lf (.ref t)) ⟨_, rfl, fun _ => by simp⟩⟩
    exact ⟨w.heap.size, #[], 0, [], [], by simp, by simp, heap_alloc_new w _, Born.nil, List.Pairwise.nil, rfl, rfl, rfl⟩
/-- One element out of the map. -/
theorem MoP.take {E : TypeId} {e : Ty} {kt et : TypeId} {m : List (k.Den × List e.Den)} {f : List Nat} {v key : Value} {q : k.Den} (KL : KeyL P kt false k) (hT : P.underlying T = some (.map kt et)) (hz : zer P et = some (.slice none 0 0)) (h : MoP (vOw E e) k m none N w f v) (hk : KV false k key q) (hf : f.Nodup) :
    ∃ u fq ft, (Instr.lookup T v key false).run P w = .ok u w ∧ MoP (vOw E e) k m (some q) N w fq v ∧ Own (.sl E e) w ft [u] ((mget k m q).getD []) ∧ fq.Nodup ∧ ft.Nodup ∧ (∀ g ∈ fq, g ∈ f ∧ g ∉ ft) ∧ ∀ g ∈ ft, g ∈ f := by
  obtain ⟨g, es, clock, zs, fs, rfl, rfl, h3, h4, h5, h6, h7, h8⟩ := h
  obtain ⟨l, hl⟩ := KL.rd _ _ hk
  obtain ⟨hf1, hf2⟩ := List.nodup_cons.1 hf
  rcases h8.find (P := P) KL hk with ⟨h1, h2⟩ | ⟨ya, yb, z, h1, h2, h9, h10⟩
  · have hm : ∀ p ∈ m, p.1 ≠ q := fun p hp => by
      rw [h7] at hp
      obtain ⟨z, hz, rfl⟩ := List.mem_map.1 hp
      exact h2 z hz
    have hz' := run_zero (w := w) hz
    refine ⟨.slice none 0 0, g :: fs, [], ?_, ⟨g, es, clock, zs, fs, rfl, rfl, h3, h4, h5, h6, h7, h8.congr fun z hz => ?_⟩, ?_, hf, List.nodup_nil, fun g' hg => ⟨hg, by simp⟩, by simp⟩
    · rw [← h6] at h1
      simp [Instr.lookup, run_underlying hT, MapKept.run_getObj_map h3, KL.K.check w _ hl, h1, hz', Result.andThen]
    · simp only [ownA]
      have : k.beq z.2.1 q = false := Bool.eq_false_iff.2 fun e => h2 z hz ((k.beq_iff _ _).1 e)
      rw [this]; rfl
    · rw [mget_none hm]
      exact .inl ⟨rfl, rfl, rfl⟩
  · subst h1
    obtain ⟨fa, fb, rfl, k1, f1, fc, rfl, k2, k3, k4⟩ := h8.app
    have hd : ∀ z' ∈ ya ++ yb, z'.2.1 ≠ q := fun z' hz' e => by
      have h11 : ((ya ++ z :: yb).map (·.2)).Pairwise fun p q => p.1 ≠ q.1 := by rw [← h7]; exact h5
      rw [List.map_append, List.map_cons, List.pairwise_append] at h11
      obtain ⟨_, h12, h13⟩ := h11
      obtain ⟨h14, _⟩ := List.pairwise_cons.1 h12
      rcases List.mem_append.1 hz' with hz' | hz'
      · exact h13 _ (List.mem_map.2 ⟨z', hz', rfl⟩) z.2 (List.mem_cons_self ..) (e.trans h9.symm)
      · exact h14 _ (List.mem_map.2 ⟨z', hz', rfl⟩) (h9.trans e.symm)
    have cg : ∀ z' ∈ ya ++ yb, ownA (X := List e.Den) none z' = ownA (some q) z' := fun z' hz' => by
      simp only [ownA]
      have : k.beq z'.2.1 q = false := Bool.eq_false_iff.2 fun e => hd z' hz' ((k.beq_iff _ _).1 e)
      rw [this]; rfl
    have k3 : Own (.sl E e) w f1 [z.1.val] z.2.2 := k3
    have hmg : (mget k m q).getD [] = z.2.2 := by
      have : m[ya.length]? = some z.2 := by rw [h7, List.getElem?_map, List.getElem?_append_right (Nat.le_refl _)]; simp
      rw [mget_at h5 this h9]; rfl
    have hsub : List.Sublist (g :: (fa ++ fc)) (g :: (fa ++ (f1 ++ fc))) := (List.Sublist.append (List.Sublist.refl _) (List.sublist_append_right ..)).cons_cons g
    refine ⟨z.1.val, g :: (fa ++ fc), f1, ?_, ⟨g, es, clock, ya ++ z :: yb, fa ++ fc, rfl, rfl, h3, h4, h5, h6, h7, ?_⟩, by rw [hmg]; exact k3, hsub.nodup hf, ?_, fun g' hg => ⟨hsub.subset hg, fun hg' => ?_⟩, fun g' hg => ?_⟩
    · rw [← h6] at h2
      simp [Instr.lookup, run_underlying hT, MapKept.run_getObj_map h3, KL.K.check w _ hl, h2, Result.andThen]
    · refine (k1.congr fun z' hz' => cg z' (List.mem_append_left _ hz')).join ⟨[], fc, rfl, k2, ?_, k4.congr fun z' hz' => cg z' (List.mem_append_right _ hz')⟩
      simp [ownA, (k.beq_iff _ _).2 h9]
    · exact (List.nodup_append.1 (List.nodup_append.1 hf2).2.1).1
    · rcases List.mem_cons.1 hg with rfl | hg
      · exact hf1 (List.mem_append_right _ (List.mem_append_left _ hg'))
      · obtain ⟨_, n2, n3⟩ := List.nodup_append.1 hf2
        obtain ⟨_, _, n5⟩ := List.nodup_append.1 n2
        rcases List.mem_append.1 hg with hg | hg
        · exact n3 g' hg g' (List.mem_append_left _ hg') rfl
        · exact n5 g' hg' g' hg rfl
    · exact List.mem_cons_of_mem _ (List.mem_append_right _ (List.mem_append_left _ hg))
def upd {α : Type} (f : Nat → α) (q : Nat) (x : α) : Nat → α := fun u => if u = q then x else f u
theorem upd_at {α : Type} (f : Nat → α) (q : Nat) (x : α) : upd f q x q = x := if_pos rfl
theorem upd_ne {α : Type} (f : Nat → α) {q u : Nat} (x : α) (h : u ≠ q) : upd f q x u = f u := if_neg h
/-- A part of what a tag owns goes to a new tag. -/
theorem Rg.part {gh : Gh} {a : Act} {w w' : World} (r : Rg A s gh a w) {q t : Nat} {e0 : Ent} {R : Rsc} {E : TypeId} {e : Ty} {xs : List e.Den} {u : Value} {fq ft : List Nat} (he : s.tab.ent q = some e0) (hfr : Fresh s t) (hk : A.k0 ≤ t) (hg : Grw w w') (hb : ∀ g, g < w.heap.size → g ∉ gh.f q → w'.heap[g]? = w.heap[g]?)
    (h1 : R.rel gh.N w' fq (gh.h q)) (h2 : Own (.sl E e) w' ft [u] xs) (n1 : fq.Nodup) (n2 : ft.Nodup) (i1 : ∀ g ∈ fq, g ∈ gh.f q ∧ g ∉ ft) (i2 : ∀ g ∈ ft, g ∈ gh.f q) :
    Rg A ⟨s.tm, (q, some (.res R)) :: (t, some (.arr E e xs)) :: s.tab⟩ ⟨upd gh.h t u, upd (upd gh.f t ft) q fq, gh.N⟩ a w' := by
  have hq : s.tab.al q := ⟨e0, he⟩
  have hne : q ≠ t := fun h => hfr.al (h ▸ hq)
  refine r.redo (fun v => v = q ∨ v = t) rfl (fun v hv => ?_) (fun v e' hv he' => ?_) (fun v v' hv hv' _ _ hn g g1 g2 => ?_) hg fun g hl hx => hb g hl (hx q (.inl rfl) hq)
  · have h3 : v ≠ q := fun h => hv (.inl h)
    have h4 : v ≠ t := fun h => hv (.inr h)
    refine ⟨by rw [Tab.ent_cons, if_neg h3, Tab.ent_cons, if_neg h4], upd_ne _ _ h4, ?_⟩
    show upd (upd gh.f t ft) q fq v = _
    rw [upd_ne _ _ h3, upd_ne _ _ h4]
  · rw [Tab.ent_cons] at he'
    by_cases h3 : v = q
    · subst h3
      rw [if_pos rfl] at he'
      cases he'
      refine ⟨fun al => ?_, ?_, fun g hg => .inr ⟨v, .inl rfl, hq, ?_⟩, .inl ⟨hq, upd_ne _ _ hne⟩⟩
      · show R.rel gh.N w' (upd (upd gh.f t ft) v fq v) (upd gh.h t u v)
        rw [upd_at, upd_ne _ _ hne]; exact h1
      · show (upd (upd gh.f t ft) v fq v).Nodup
        rw [upd_at]; exact n1
      · have hg : g ∈ upd (upd gh.f t ft) v fq v := hg
        rw [upd_at] at hg
        exact (i1 g hg).1
    · have h4 : v = t := hv.resolve_left h3
      subst h4
      rw [if_neg h3, Tab.ent_cons, if_pos rfl] at he'
      cases he'
      have e1 : upd (upd gh.f v ft) q fq v = ft := by rw [upd_ne _ _ h3, upd_at]
      refine ⟨fun al => ?_, ?_, fun g hg => .inr ⟨q, .inl rfl, hq, ?_⟩, .inr ⟨hfr, hk⟩⟩
      · show Own (.sl E e) w' (upd (upd gh.f v ft) q fq v) [upd gh.h v u v] xs
        rw [e1, upd_at]; exact h2
      · show (upd (upd gh.f v ft) q fq v).Nodup
        rw [e1]; exact n2
      · have hg : g ∈ upd (upd gh.f v ft) q fq v := hg
        rw [e1] at hg
        exact i2 g hg
  · have e1 : upd (upd gh.f t ft) q fq t = ft := by rw [upd_ne _ _ hne.symm, upd_at]
    have e2 : upd (upd gh.f t ft) q fq q = fq := upd_at ..
    have g1 : g ∈ upd (upd gh.f t ft) q fq v := g1
    have g2 : g ∈ upd (upd gh.f t ft) q fq v' := g2
    rcases hv with rfl | rfl <;> rcases hv' with rfl | rfl
    · exact hn rfl
    · rw [e2] at g1; rw [e1] at g2; exact (i1 g g1).2 g2
    · rw [e1] at g1; rw [e2] at g2; exact (i1 g g2).2 g1
    · exact hn rfl
theorem Does.lookT (t : Nat) {q : Nat} {E : TypeId} {e : Ty} {kt et : TypeId} {m : List (k.Den × List e.Den)} {p : k.Den} {kls : List LV} (KL : KeyL P kt false k) (hT : P.underlying T = some (.map kt et)) (hz : zer P et = some (.slice none 0 0))
    (hx : Evl A s x (.ref q)) (he : s.tab.ent q = some (.res (moR (vOw E e) k m none))) (hy : Ev A s y (false, kls)) (hkl : kls = leaves k p) (hn : Nat.blt d A.n = true) (hfr : Fresh s t) (hk0 : A.k0 ≤ t) :
    Does A P ⟨some d, .lookup T x y false, ty, pos, af, g⟩ s ⟨(d, lf (.ref t)) :: s.tm, (q, some (.res (moR (vOw E e) k m (some p)))) :: (t, some (.arr E e ((mget k m p).getD []))) :: s.tab⟩ := fun a w K Q r hK => by
  subst hkl
  obtain ⟨gh, r⟩ := r
  have hv : a.eval x = gh.h q := hx gh a w r ⟨_, he⟩
  obtain ⟨u, fq, ft, h1, h2, h3, h4, h5, h6, h7⟩ := MoP.take KL hT hz (r.cx.en q _ he) (hy gh a w r).mv.kv (r.cx.nd q ⟨_, he⟩)
  have e1 : (execOp a.eval ⟨some d, .lookup T x y false, ty, pos, af, g⟩).run P w = .ok (.value u) w := by
    simp only [execOp, hv, Go.Sem.run_bind, h1]
    simp
  unfold Oper.wp
  rw [e1, Oper.upon_value]
  exact hK _ _ ⟨_, (r.part he hfr hk0 (Grw.refl w) (fun _ _ _ => rfl) (R := moR (vOw E e) k m (some p)) h2 h3 h4 h5 h6 h7).put (Nat.le_of_ble_eq_true hn) (pv := lf (.ref t)) ⟨_, rfl, fun _ => (upd_at ..).symm⟩⟩
end

section
variable {A : Amb} {P : Program} {s : St} {x y z : Operand} {d : Nat} {T T' ty : TypeId} {pos : String} {af : Array Edge} {g : Option (Nat × Bool)} {X : Type} {V : Vrl X} {k : Ty} {N N' : Nat → Prop} {w w' : World}
/-- .. and into it. -/
theorem MoP.give {E : TypeId} {e : Ty} {kt et : TypeId} {m : List (k.Den × List e.Den)} {f ft : List Nat} {v key u : Value} {q : k.Den} {ys : List e.Den} (KL : KeyL P kt false k) (hT : P.underlying T = some (.map kt et)) (h : MoP (vOw E e) k m (some q) N w f v) (hk : KV false k key q) (hf : f.Nodup)
    (ho : Own (.sl E e) w ft [u] ys) (hft : ft.Nodup) (hd : ∀ g ∈ f, g ∉ ft) (hNf : ∀ g ∈ f, ¬ N g) :
    ∃ g es clock, (Instr.mapUpdate T v key u).run P w = .ok () { w with heap := w.heap.setIfInBounds g (.map es clock) } ∧ g ∈ f ∧ ∃ fq, MoP (vOw E e) k (mset k m q ys) none N { w with heap := w.heap.setIfInBounds g (.map es clock) } fq v ∧ fq.Nodup ∧ ∀ g ∈ fq, g ∈ f ∨ g ∈ ft := by
  obtain ⟨g, es, clock, zs, fs, rfl, rfl, h3, h4, h5, h6, h7, h8⟩ := h
  obtain ⟨l, hl⟩ := KL.rd _ _ hk
  obtain ⟨hf1, hf2⟩ := List.nodup_cons.1 hf
  have hlt := lt_of_some h3
  have hgt : g ∉ ft := hd g (List.mem_cons_self ..)
  have oth : ∀ es' clock' g', g' ≠ g → ({ w with heap := w.heap.setIfInBounds g (.map es' clock') } : World).heap[g']? = w.heap[g']? := fun es' clock' g' hg => Array.getElem?_setIfInBounds_ne fun e => hg e.symm
  have hNk : ∀ es' clock' g', N g' → N g' ∧ ({ w with heap := w.heap.setIfInBounds g (.map es' clock') } : World).heap[g']? = w.heap[g']? := fun es' clock' g' hg => ⟨hg, oth _ _ _ fun e => hNf g (List.mem_cons_self ..) (e ▸ hg)⟩
  have hfs : ∀ g' ∈ fs, g' ≠ g := fun g' hg e => hf1 (e ▸ hg)
  have ho' : ∀ es' clock', Own (.sl E e) { w with heap := w.heap.setIfInBounds g (.map es' clock') } ft [u] ys := fun es' clock' => Own.keep ho fun g' hg => oth _ _ _ fun e => hgt (e ▸ hg)
  rcases h8.find (P := P) KL hk with ⟨h1, h2⟩ | ⟨ya, yb, z, h1, h2, h9, h10⟩
  · have hm : ∀ p ∈ m, p.1 ≠ q := fun p hp => by
      rw [h7] at hp
      obtain ⟨z, hz, rfl⟩ := List.mem_map.1 hp
      exact h2 z hz
    rw [← h6] at h1
    refine ⟨g, es.push ⟨key, u, clock⟩, clock + 1, ?_, List.mem_cons_self .., g :: (fs ++ ft), ⟨g, es.push ⟨key, u, clock⟩, clock + 1, zs ++ [((⟨key, u, clock⟩ : MapEntry), q, ys)], fs ++ ft, rfl, rfl, by simp [hlt], ?_, mset_pw h5, by rw [Array.toList_push, h6]; simp, by rw [mset_none hm, h7]; simp, ?_⟩, ?_, fun g' hg => ?_⟩
    · simp [Instr.mapUpdate, run_underlying hT, MapKept.run_getObj_map h3, KL.K.check w _ hl, h1, MapKept.run_setObj_map _ h3, Result.andThen]
    · rw [Array.toList_push]; exact h4.push _ _
    · refine ((h8.keep (fun g' hg => oth _ _ _ (hfs g' hg)) (hNk _ _)).congr fun z hz => ?_).join ⟨ft, [], (List.append_nil _).symm, hk, ho' _ _, rfl⟩
      simp only [ownA]
      have : k.beq z.2.1 q = false := Bool.eq_false_iff.2 fun e => h2 z hz ((k.beq_iff _ _).1 e)
      rw [this]; rfl
    · exact List.nodup_cons.2 ⟨fun hg => (List.mem_append.1 hg).elim hf1 hgt, List.nodup_append.2 ⟨hf2, hft, fun a ha b hb e => hd a (List.mem_cons_of_mem _ ha) (e ▸ hb)⟩⟩
    · rcases List.mem_cons.1 hg with rfl | hg
      · exact .inl (List.mem_cons_self ..)
      · exact (List.mem_append.1 hg).imp (List.mem_cons_of_mem _) id
  · subst h1
    obtain ⟨fa, fb, rfl, k1, f1, fc, rfl, k2, k3, k4⟩ := h8.app
    have k3 : f1 = [] := by
      rw [if_neg] at k3
      · exact k3
      · simp [ownA, (k.beq_iff _ _).2 h9]
    subst k3
    have hd2 : ∀ z' ∈ ya ++ yb, z'.2.1 ≠ q := fun z' hz' e => by
      have h11 : ((ya ++ z :: yb).map (·.2)).Pairwise fun p q => p.1 ≠ q.1 := by rw [← h7]; exact h5
      rw [List.map_append, List.map_cons, List.pairwise_append] at h11
      obtain ⟨_, h12, h13⟩ := h11
      obtain ⟨h14, _⟩ := List.pairwise_cons.1 h12
      rcases List.mem_append.1 hz' with hz' | hz'
      · exact h13 _ (List.mem_map.2 ⟨z', hz', rfl⟩) z.2 (List.mem_cons_self ..) (e.trans h9.symm)
      · exact h14 _ (List.mem_map.2 ⟨z', hz', rfl⟩) (h9.trans e.symm)
    have cg : ∀ z' ∈ ya ++ yb, ownA (X := List e.Den) (some q) z' = ownA none z' := fun z' hz' => by
      simp only [ownA]
      have : k.beq z'.2.1 q = false := Bool.eq_false_iff.2 fun e => hd2 z' hz' ((k.beq_iff _ _).1 e)
      rw [this]; rfl
    have hz : es.toList[ya.length]? = some z.1 := by rw [h6, List.getElem?_map, List.getElem?_append_right (Nat.le_refl _)]; simp
    have hj : es[ya.length]? = some z.1 := by simpa using hz
    have hmj : m[ya.length]? = some z.2 := by rw [h7, List.getElem?_map, List.getElem?_append_right (Nat.le_refl _)]; simp
    rw [← h6] at h2
    have hkp := fun g' (hg : g' ∈ fa ++ fc) => hfs g' (by rw [List.nil_append]; exact hg)
    refine ⟨g, es.modify ya.length (fun e' => { e' with key := key, val := u }), clock, ?_, List.mem_cons_self .., g :: (fa ++ (ft ++ fc)), ⟨g, es.modify ya.length (fun e' => { e' with key := key, val := u }), clock, ya ++ (({ z.1 with key := key, val := u } : MapEntry), q, ys) :: yb, fa ++ (ft ++ fc), rfl, rfl, by simp [hlt], ?_, mset_pw h5, ?_, ?_, ?_⟩, ?_, fun g' hg => ?_⟩
    · simp [Instr.mapUpdate, run_underlying hT, MapKept.run_getObj_map h3, KL.K.check w _ hl, h2, hj, h10, KL.K.stays w hl, MapKept.run_setObj_map _ h3, Result.andThen]
    · rw [Array.toList_modify, ChangeMaps.modify_eq_set _ _ _ _ hz]; exact h4.set hz rfl
    · rw [Array.toList_modify, ChangeMaps.modify_eq_set _ _ _ _ hz, h6]
      simp
    · rw [mset_at h5 hmj h9, h7]
      simp
    · exact ((k1.keep (fun g' hg => oth _ _ _ (hkp g' (List.mem_append_left _ hg))) (hNk _ _)).congr fun z' hz' => cg z' (List.mem_append_left _ hz')).join ⟨ft, fc, rfl, hk, ho' _ _, (k4.keep (fun g' hg => oth _ _ _ (hkp g' (List.mem_append_right _ hg))) (hNk _ _)).congr fun z' hz' => cg z' (List.mem_append_right _ hz')⟩
    · rw [List.nil_append] at hf1 hf2
      obtain ⟨n1, n2, n3⟩ := List.nodup_append.1 hf2
      refine List.nodup_cons.2 ⟨fun hg => ?_, List.nodup_append.2 ⟨n1, List.nodup_append.2 ⟨hft, n2, fun a ha b hb e => hd b (List.mem_cons_of_mem _ (by simp [hb])) (e ▸ ha)⟩, fun a ha b hb e => ?_⟩⟩
      · rcases List.mem_append.1 hg with hg | hg
        · exact hf1 (List.mem_append_left _ hg)
        · rcases List.mem_append.1 hg with hg | hg
          · exact hgt hg
          · exact hf1 (List.mem_append_right _ hg)
      · rcases List.mem_append.1 hb with hb | hb
        · exact hd a (List.mem_cons_of_mem _ (List.mem_append_left _ ha)) (e ▸ hb)
        · exact n3 a ha b hb e
    · rcases List.mem_cons.1 hg with rfl | hg
      · exact .inl (List.mem_cons_self ..)
      · rcases List.mem_append.1 hg with hg | hg
        · exact .inl (List.mem_cons_of_mem _ (List.mem_append_left _ hg))
        · rcases List.mem_append.1 hg with hg | hg
          · exact .inr hg
          · exact .inl (List.mem_cons_of_mem _ (by simp [hg]))
/-- What two tags own goes to one of them. -/
theorem Rg.join2 {gh : Gh} {a : Act} {w w' : World} (r : Rg A s gh a w) {q t : Nat} {e0 e1 : Ent} {R : Rsc} {fq : List Nat} (he : s.tab.ent q = some e0) (ht : s.tab.ent t = some e1) (hne : q ≠ t) (hg : Grw w w') (hb : ∀ g, g < w.heap.size → g ∉ gh.f q → w'.heap[g]? = w.heap[g]?)
    (h1 : R.rel gh.N w' fq (gh.h q)) (n1 : fq.Nodup) (i1 : ∀ g ∈ fq, g ∈ gh.f q ∨ g ∈ gh.f t) : Rg A ⟨s.tm, (q, some (.res R)) :: (t, none) :: s.tab⟩ ⟨gh.h, upd gh.f q fq, gh.N⟩ a w' := by
  have hq : s.tab.al q := ⟨e0, he⟩
  have hta : s.tab.al t := ⟨e1, ht⟩
  have dead : ∀ v, Tab.al ((q, some (.res R)) :: (t, none) :: s.tab) v → v ≠ t := fun v ⟨x, hx⟩ e => by
    subst e
    rw [Tab.ent_cons, if_neg (fun e => hne e.symm), Tab.ent_cons, if_pos rfl] at hx; cases hx
  refine r.redo (fun v => v = q ∨ v = t) rfl (fun v hv => ?_) (fun v e' hv he' => ?_) (fun v v' hv hv' av av' hn g g1 g2 => ?_) hg fun g hl hx => hb g hl (hx q (.inl rfl) hq)
  · have h3 : v ≠ q := fun h => hv (.inl h)
    have h4 : v ≠ t := fun h => hv (.inr h)
    exact ⟨by rw [Tab.ent_cons, if_neg h3, Tab.ent_cons, if_neg h4], rfl, upd_ne _ _ h3⟩
  · have h3 : v = q := hv.resolve_right (dead v ⟨_, he'⟩)
    subst h3
    rw [Tab.ent_cons, if_pos rfl] at he'
    cases he'
    refine ⟨fun al => ?_, ?_, fun g hg => .inr ?_, .inl ⟨hq, rfl⟩⟩
    · show R.rel gh.N w' (upd gh.f v fq v) (gh.h v)
      rw [upd_at]; exact h1
    · show (upd gh.f v fq v).Nodup
      rw [upd_at]; exact n1
    · have hg : g ∈ upd gh.f v fq v := hg
      rw [upd_at] at hg
      rcases i1 g hg with h | h
      · exact ⟨v, .inl rfl, hq, h⟩
      · exact ⟨t, .inr rfl, hta, h⟩
  · exact hn ((hv.resolve_right (dead v av)).trans (hv'.resolve_right (dead v' av')).symm)
theorem Does.updT {q t : Nat} {E : TypeId} {e : Ty} {kt et : TypeId} {m : List (k.Den × List e.Den)} {p : k.Den} {ys : List e.Den} {kls : List LV} (KL : KeyL P kt false k) (hT : P.underlying T = some (.map kt et))
    (hx : Evl A s x (.ref q)) (he : s.tab.ent q = some (.res (moR (vOw E e) k m (some p)))) (hy : Ev A s y (false, kls)) (hkl : kls = leaves k p) (hz : Evl A s z (.ref t)) (ht : s.tab.ent t = some (.arr E e ys)) :
    Does A P ⟨none, .mapUpdate T x y z, ty, pos, af, g⟩ s ⟨s.tm, (q, some (.res (moR (vOw E e) k (mset k m p ys) none))) :: (t, none) :: s.tab⟩ := fun a w K Q r hK => by
  subst hkl
  obtain ⟨gh, r⟩ := r
  have hv : a.eval x = gh.h q := hx gh a w r ⟨_, he⟩
  have hu : a.eval z = gh.h t := hz gh a w r ⟨_, ht⟩
  have hne : q ≠ t := fun h => by rw [h, ht] at he; cases he
  obtain ⟨g, es, clock, h1, h2, fq, h3, h4, h5⟩ := MoP.give KL hT (r.cx.en q _ he) (hy gh a w r).mv.kv (r.cx.nd q ⟨_, he⟩) (r.cx.en t _ ht) (r.cx.nd t ⟨_, ht⟩) (fun g hg => r.cx.dj q t ⟨_, he⟩ ⟨_, ht⟩ hne g hg) fun g hg hN => r.cx.no q ⟨_, he⟩ g hg hN
  have e1 : (execOp a.eval ⟨none, .mapUpdate T x y z, ty, pos, af, ‹_›⟩).run P w = .ok .skip { w with heap := w.heap.setIfInBounds g (.map es clock) } := by
    simp only [execOp, hv, hu, Go.Sem.run_bind, h1]
    simp
  unfold Oper.wp
  rw [e1, Oper.upon_skip]
  refine hK _ _ ⟨_, (r.join2 (w' := { w with heap := w.heap.setIfInBounds g (.map es clock) }) he ht hne ⟨rfl, rfl, rfl, by simp⟩ (fun g' _ hg => Array.getElem?_setIfInBounds_ne fun e => hg (by rw [← e]; exact h2)) (R := moR (vOw E e) k (mset k m p ys) none) h3 h4 h5).puto⟩
end

section
variable {A : Amb} {P : Program} {s : St} {x y z : Operand} {d : Nat} {T T' ty : TypeId} {pos : String} {af : Array Edge} {g : Option (Nat × Bool)} {X : Type} {V : Vrl X} {k : Ty} {N N' : Nat → Prop} {w w' : World} {ops : Array Oper} {l : List Oper} {Q : Exit → St → Prop}
theorem Rg.turn {gh : Gh} {a : Act} {w w' : World} (r : Rg A s gh a w) {q : Nat} {e0 e : Ent} {fq : List Nat} (he : s.tab.ent q = some e0) (hg : Grw w w') (hb : ∀ g, g < w.heap.size → g ∉ gh.f q → w'.heap[g]? = w.heap[g]?)
    (h1 : ∀ al, EntR al ⟨gh.h, upd gh.f q fq, gh.N⟩ w' q e) (n1 : fq.Nodup) (i1 : ∀ g ∈ fq, w.heap.size ≤ g ∨ g ∈ gh.f q) : Rg A ⟨s.tm, (q, some e) :: s.tab⟩ ⟨gh.h, upd gh.f q fq, gh.N⟩ a w' := by
  have hq : s.tab.al q := ⟨e0, he⟩
  refine r.redo (fun v => v = q) rfl (fun v hv => ⟨by rw [Tab.ent_cons, if_neg hv], rfl, upd_ne _ _ hv⟩) (fun v e' hv he' => ?_) (fun v v' hv hv' av av' hn => absurd (hv.trans hv'.symm) hn) hg fun g hl hx => hb g hl (hx q rfl hq)
  subst hv
  rw [Tab.ent_cons, if_pos rfl] at he'
  cases he'
  refine ⟨h1, ?_, fun g hg => ?_, .inl ⟨hq, rfl⟩⟩
  · show (upd gh.f v fq v).Nodup
    rw [upd_at]; exact n1
  · have hg : g ∈ upd gh.f v fq v := hg
    rw [upd_at] at hg
    exact (i1 g hg).imp id fun h => ⟨v, rfl, hq, h⟩
/-! ### Frozen elements: there and back -/
theorem Wk.toMo {q : Nat} {k v : Ty} {m : List (k.Den × v.Den)} (he : s.tab.ent q = some (.mp false k false v m)) (hf : k.flat = true) : Wk A s ⟨s.tm, (q, some (.res (moR (vFz v) k m none))) :: s.tab⟩ := fun a w r => by
  obtain ⟨gh, r⟩ := r
  obtain ⟨g, es, clock, h1, h2, h3, hB, h4, h5⟩ := r.cx.en q _ he
  refine ⟨_, r.mod he (Grw.refl w) (fun _ _ _ => rfl) ?_⟩
  have h6 : ∀ (es : List MapEntry) (m : List (k.Den × v.Den)), MpL gh w false k false v es m → ∃ zs : List (MapEntry × k.Den × v.Den), es = zs.map (·.1) ∧ m = zs.map (·.2) ∧ ZR (vFz v) k gh.N w (ownA none) zs [] := fun es => by
    induction es with
    | nil => intro m h; rw [show m = [] from h]; exact ⟨[], rfl, rfl, rfl⟩
    | cons e es ih =>
      rintro m ⟨x, y, m', rfl, k1, k2, k3⟩
      obtain ⟨zs, rfl, rfl, j3⟩ := ih m' k3
      exact ⟨(e, x, y) :: zs, rfl, rfl, [], [], rfl, k1.kv, ⟨rfl, k2⟩, j3⟩
  obtain ⟨zs, e1, e2, e3⟩ := h6 _ _ h5
  exact ⟨g, es, clock, zs, [], h1, h2, h3, hB, h4, e1, e2, e3⟩
theorem zr_fz {v : Ty} {zs : List (MapEntry × k.Den × v.Den)} {fs : List Nat} (h : ZR (vFz v) k N w (ownA none) zs fs) : fs = [] := by
  induction zs generalizing fs with
  | nil => exact h
  | cons z zs ih => obtain ⟨f1, f2, rfl, h1, h2, h3⟩ := h; rw [ih h3, show f1 = [] from h2.1]; rfl
theorem Wk.ofMo {q : Nat} {k v : Ty} {m : List (k.Den × v.Den)} (he : s.tab.ent q = some (.res (moR (vFz v) k m none))) (hf : k.flat = true) : Wk A s ⟨s.tm, (q, some (.mp false k false v m)) :: s.tab⟩ := fun a w r => by
  obtain ⟨gh, r⟩ := r
  obtain ⟨g, es, clock, zs, fs, h1, h2, h3, hB, h4, h5, h6, h7⟩ := r.cx.en q _ he
  refine ⟨_, r.mod he (Grw.refl w) (fun _ _ _ => rfl) ⟨g, es, clock, h1, by rw [h2, zr_fz h7], h3, hB, h4, ?_⟩⟩
  rw [h5, h6]
  clear h2 h5 h6
  induction zs generalizing fs with
  | nil => rfl
  | cons z zs ih =>
    obtain ⟨f1, f2, rfl, k1, k2, k3⟩ := h7
    obtain ⟨w0, k1⟩ := k1
    exact ⟨z.2.1, z.2.2, _, rfl, k1.rd0 hf, k2.2, ih _ k3⟩
theorem Wk.endI {q : Nat} {m left : List (k.Den × X)} {cur : Option (k.Den × X)} {p : Value} (he : s.tab.ent q = some (.res (itR V k false m left cur p))) : Wk A s ⟨s.tm, (q, some (.res (moR V k m none))) :: s.tab⟩ := fun a w r => by
  obtain ⟨gh, r⟩ := r
  obtain ⟨g, gi, es, clock, since, seen, c0, zs, fs, ⟨h1, h2, h3⟩, ⟨h4, h5⟩, ⟨h6, _, _, _⟩, h7, h8, h9, h10, h11, h12⟩ := r.cx.en q _ he
  have hnd := r.cx.nd q ⟨_, he⟩
  rw [h3] at hnd
  refine ⟨_, r.turn (fq := g :: fs) he (Grw.refl w) (fun _ _ _ => rfl) (fun al => ⟨g, es, clock, zs, fs, h1, upd_at .., h5, h6, h7, h8, h9, h12.congr fun z _ => rfl⟩) (List.nodup_cons.1 hnd).2 fun g' hg => .inr (by rw [h3]; exact List.mem_cons_of_mem _ hg)⟩
theorem Wk.curN {q : Nat} {cn : Bool} {m left : List (k.Den × X)} {cur : Option (k.Den × X)} {p : Value} (hc : cn = false) (he : s.tab.ent q = some (.res (itR V k cn m left cur p))) : Wk A s ⟨s.tm, (q, some (.res (itR V k cn m left none p))) :: s.tab⟩ := fun a w r => by
  subst hc
  obtain ⟨gh, r⟩ := r
  obtain ⟨g, gi, es, clock, since, seen, c0, zs, fs, h1, h4, h6, h7, h8, h9, h10, h11, h12⟩ := r.cx.en q _ he
  exact ⟨_, r.mod he (Grw.refl w) (fun _ _ _ => rfl) ⟨g, gi, es, clock, since, seen, c0, zs, fs, h1, h4, h6, h7, h8, h9, h10, (fun c hc => by cases hc), h12.congr fun z _ => rfl⟩⟩
theorem entM {hl : Option k.Den} {m m' : List (k.Den × X)} (h : m = m') : some (Ent.res (moR V k m hl)) = some (.res (moR V k m' hl)) := by rw [h]
theorem entI {cn : Bool} {m left left' : List (k.Den × X)} {cur : Option (k.Den × X)} {p : Value} (h : left = left') : some (Ent.res (itR V k cn m left cur p)) = some (.res (itR V k cn m left' cur p)) := by rw [h]
/-! ### The iterator -/
theorem AL.range (cn : Bool) {q : Nat} {m : List (k.Den × X)} {kt et : TypeId} (hT : P.underlying T = some (.map kt et)) (hx : Evl A s x (.ref q)) (he : s.tab.ent q = some (.res (moR V k m none))) (hn : Nat.blt d A.n = true)
    (k1 : ∀ p : Value, AL A P ops l Q ⟨(d, lf (.val p)) :: s.tm, (q, some (.res (itR V k cn m m none p))) :: s.tab⟩) : AL A P ops (⟨some d, .range T x, ty, pos, af, none⟩ :: l) Q s := fun a w r => wpList_plain rfl fun _ hK => by
  obtain ⟨gh, r⟩ := r
  have hv : a.eval x = gh.h q := hx gh a w r ⟨_, he⟩
  obtain ⟨g, es, clock, zs, fs, h1, h2, h3, hB, h4, h5, h6, h7⟩ := r.cx.en q _ he
  have e1 : (execOp a.eval ⟨some d, .range T x, ty, pos, af, none⟩).run P w = .ok (.value (.pointer (some ⟨w.heap.size, 0, none⟩))) (w.alloc (.mapIter (some g) clock #[] clock)) := by
    simp only [execOp, hv, h1, Go.Sem.run_bind, run_range_map w T kt et g es clock hT h3]
    simp
  unfold Oper.wp
  rw [e1, Oper.upon_value]
  have hlt := lt_of_some h3
  have hfl : ∀ g' ∈ gh.f q, g' < w.heap.size := r.cx.lt ⟨_, he⟩
  have hbl : ∀ g', g' < w.heap.size → (w.alloc (.mapIter (some g) clock #[] clock)).heap[g']? = w.heap[g']? := fun g' hg => Below.heap_alloc w _ g' hg
  refine hK _ _ (k1 _ _ _ ⟨_, (r.turn (w' := w.alloc (.mapIter (some g) clock #[] clock)) (fq := w.heap.size :: gh.f q) (e := .res (itR V k cn m m none (.pointer (some ⟨w.heap.size, 0, none⟩)))) he ⟨rfl, rfl, rfl, by simp⟩ (fun g' hg _ => hbl g' hg) (fun al => ?_) (List.nodup_cons.2 ⟨fun h => Nat.lt_irrefl _ (hfl _ h), r.cx.nd q ⟨_, he⟩⟩) (fun g' hg => ?_)).put (Nat.le_of_ble_eq_true hn) (pv := lf (.val _)) ⟨_, rfl, rfl⟩⟩)
  · refine ⟨g, w.heap.size, es, clock, clock, #[], clock, zs, fs, ⟨h1, rfl, (upd_at ..).trans (by rw [h2])⟩, ⟨heap_alloc_new w _, (hbl g hlt).trans h3⟩, ⟨hB, hB.1, Nat.le_refl _, Nat.le_refl _⟩, h4, h5, h6, ?_, (fun c hc => by cases hc), (h7.keep (fun g' hg => hbl g' (hfl g' (by rw [h2]; exact List.mem_cons_of_mem _ hg))) fun g' hg => ⟨hg, hbl g' (r.cx.nl g' hg)⟩).congr fun z _ => ?_⟩
    · rw [h6]; refine congrArg _ (List.filter_eq_self.2 fun z _ => ?_).symm; simp
    · simp [ownA, ownI]
  · rcases List.mem_cons.1 hg with rfl | hg
    · exact .inl (Nat.le_refl _)
    · exact .inr hg
end

section
variable {A : Amb} {P : Program} {s : St} {x y z : Operand} {d : Nat} {T T' ty : TypeId} {pos : String} {af : Array Edge} {g : Option (Nat × Bool)} {X : Type} {V : Vrl X} {k : Ty} {N N' : Nat → Prop} {w w' : World} {ops : Array Oper} {l : List Oper} {Q : Exit → St → Prop}
theorem seen_push {seen : Array Nat} {b c : Nat} : (seen.push b).contains c = (seen.contains c || b == c) := by
  have h : (c == b) = (b == c) := by
    by_cases e : b = c
    · rw [e]
    · rw [beq_eq_false_iff_ne.2 e, beq_eq_false_iff_ne.2 (Ne.symm e)]
  rw [Array.contains_push, h]
/-- What is left behind a step. -/
theorem left_step {zs : List (MapEntry × k.Den × X)} {seen : Array Nat} {e : MapEntry} (hn : ((zs.map (·.1)).map (·.born)).Nodup) (he : e ∈ (zs.map (·.1)).filter fun e => !seen.contains e.born) :
    ∃ z l1 l2, z ∈ zs ∧ z.1 = e ∧ seen.contains e.born = false ∧ (zs.filter fun z => !seen.contains z.1.born).map (·.2) = l1 ++ z.2 :: l2 ∧ (zs.filter fun z => !(seen.push e.born).contains z.1.born).map (·.2) = l1 ++ l2 := by
  obtain ⟨h1, h2⟩ := List.mem_filter.1 he
  obtain ⟨z, hz, rfl⟩ := List.mem_map.1 h1
  have h2 : seen.contains z.1.born = false := by simpa using h2
  have hf : z ∈ zs.filter fun z => !seen.contains z.1.born := List.mem_filter.2 ⟨hz, by rw [h2]; rfl⟩
  obtain ⟨ya, yb, hs⟩ := List.append_of_mem hf
  refine ⟨z, ya.map (·.2), yb.map (·.2), hz, rfl, h2, by rw [hs]; simp, ?_⟩
  have e1 : (zs.filter fun z' => !(seen.push z.1.born).contains z'.1.born) = (zs.filter fun z => !seen.contains z.1.born).filter fun z' => !(z.1.born == z'.1.born) := by
    rw [List.filter_filter]
    congr 1
    funext z'
    rw [seen_push, Bool.not_or, Bool.and_comm]
  have hn2 : (((ya ++ z :: yb).map (·.1)).map (·.born)).Nodup := by
    rw [← hs]
    exact (((List.filter_sublist).map _).map _).nodup hn
  rw [List.map_append, List.map_append, List.map_cons, List.map_cons, List.nodup_append] at hn2
  obtain ⟨_, h4, h5⟩ := hn2
  obtain ⟨h6, _⟩ := List.nodup_cons.1 h4
  rw [e1, hs, List.filter_append, List.filter_cons]
  have e2 : (!(z.1.born == z.1.born)) = false := by simp
  rw [e2]
  rw [List.filter_eq_self.2 fun z' hz' => ?_, if_neg (by decide), List.filter_eq_self.2 fun z' hz' => ?_, List.map_append]
  · have : z.1.born ≠ z'.1.born := fun e => h6 (by rw [e]; exact List.mem_map.2 ⟨z'.1, List.mem_map.2 ⟨z', hz', rfl⟩, rfl⟩)
    simpa using this
  · have : z'.1.born ≠ z.1.born := h5 _ (List.mem_map.2 ⟨z'.1, List.mem_map.2 ⟨z', hz', rfl⟩, rfl⟩) _ (List.mem_cons_self ..)
    simpa using fun e => this e.symm
theorem AL.next {q : Nat} {cn : Bool} {m left : List (k.Den × X)} {cur : Option (k.Den × X)} {p : Value} (hx : Evl A s x (.val p)) (he : s.tab.ent q = some (.res (itR V k cn m left cur p))) (hc : cn = false ∨ cur = none) (hn : Nat.blt d A.n = true)
    (k0 : left = [] → AL A P ops l Q (s.put d (.tup [(false, [dB false])])))
    (k1 : ∀ (ky vl : Value) (l1 : List (k.Den × X)) (c : k.Den × X) (l2 : List (k.Den × X)), left = l1 ++ c :: l2 → AL A P ops l Q ⟨(d, .tup [(false, [dB true]), (false, [.val ky]), (false, [.val vl])]) :: s.tm, (q, some (.res (itR V k cn m (l1 ++ l2) (some c) p))) :: s.tab⟩) : AL A P ops (⟨some d, .next x false, ty, pos, af, none⟩ :: l) Q s := fun a w r => wpList_plain rfl fun _ hK => by
  obtain ⟨gh, r⟩ := r
  have hv : a.eval x = p := hx gh a w r
  obtain ⟨g, gi, es, clock, since, seen, c0, zs, fs, ⟨h1, h2, h3⟩, ⟨h4, h5⟩, ⟨h6, hsi, hsc, hsl⟩, h7, h8, h9, h10, h11, h12⟩ := r.cx.en q _ he
  have hlf : (leftOf es seen).toList = (zs.map (·.1)).filter fun e => !seen.contains e.born := by rw [← h8]; simp [leftOf]
  rcases run_next_at (P := P) w ty gi g since c0 seen es clock h4 h5 hsi hsc with ⟨j1, j2⟩ | ⟨e, j1, w1, j2, j3⟩
  · have e1 : (execOp a.eval ⟨some d, .next x false, ty, pos, af, none⟩).run P w = .ok (.value (.tuple #[.bool false])) w := by
      simp only [execOp, hv, h2, Go.Sem.run_bind, j2]
      simp
    unfold Oper.wp
    rw [e1, Oper.upon_value]
    refine hK _ _ (k0 ?_ _ _ ⟨gh, r.put (Nat.le_of_ble_eq_true hn) (pv := .tup [(false, [dB false])]) ⟨_, rfl, _, _, rfl, ⟨_, rfl, LVR.mkB⟩, rfl⟩⟩)
    have : ((zs.map (·.1)).filter fun e => !seen.contains e.born) = [] := by rw [← hlf]; exact List.eq_nil_of_length_eq_zero (by simpa using j1)
    rw [h10]
    rw [List.filter_map, List.map_eq_nil_iff] at this
    rw [List.map_eq_nil_iff]
    exact this
  · rw [hlf] at j1
    obtain ⟨z, l1, l2, hz, e2, e3, e4, e5⟩ := left_step (by rw [← h8]; exact h6.2) j1
    have e1 : (execOp a.eval ⟨some d, .next x false, ty, pos, af, none⟩).run P w = .ok (.value (.tuple #[.bool true, e.key, e.val])) (setBlock w1 gi (.mapIter (some g) since (seen.push e.born) clock)) := by
      simp only [execOp, hv, h2, Go.Sem.run_bind, j3]
      simp
    unfold Oper.wp
    rw [e1, Oper.upon_value]
    have hh : w1.heap = w.heap := by rcases j2 with rfl | rfl <;> rfl
    have hgw : Grw w (setBlock w1 gi (.mapIter (some g) since (seen.push e.born) clock)) := by
      have hs : w.heap.size ≤ (w1.heap.setIfInBounds gi (.mapIter (some g) since (seen.push e.born) clock)).size := by rw [Array.size_setIfInBounds, hh]; exact Nat.le_refl _
      rcases j2 with rfl | rfl <;> exact ⟨rfl, rfl, rfl, hs⟩
    have hgi : ∀ g', g' ≠ gi → (setBlock w1 gi (.mapIter (some g) since (seen.push e.born) clock)).heap[g']? = w.heap[g']? := fun g' hne => by
      show (w1.heap.setIfInBounds gi _)[g']? = _
      rw [hh]; exact Array.getElem?_setIfInBounds_ne fun e => hne e.symm
    have hnd := r.cx.nd q ⟨_, he⟩
    have hgq : gi ∈ gh.f q := by rw [h3]; exact List.mem_cons_self ..
    rw [h3] at hnd
    have hgg : g ≠ gi := fun e => (List.nodup_cons.1 hnd).1 (by rw [e]; exact List.mem_cons_self ..)
    refine hK _ _ (k1 e.key e.val l1 z.2 l2 (h10.trans e4) _ _ ⟨_, (r.turn (fq := gh.f q) (e := .res (itR V k cn m (l1 ++ l2) (some z.2) p)) he hgw (fun g' _ hg => hgi g' fun e => hg (e ▸ hgq)) (fun al => ?_) (r.cx.nd q ⟨_, he⟩) (fun g' hg => .inr hg)).put (Nat.le_of_ble_eq_true hn) (pv := .tup [(false, [dB true]), (false, [.val e.key]), (false, [.val e.val])]) ⟨_, rfl, _, _, rfl, ⟨_, rfl, LVR.mkB⟩, _, _, rfl, ⟨_, rfl, rfl⟩, _, _, rfl, ⟨_, rfl, rfl⟩, rfl⟩⟩)
    refine ⟨g, gi, es, clock, since, seen.push e.born, clock, zs, fs, ⟨h1, h2, (upd_at ..).trans h3⟩, ⟨?_, (hgi g hgg).trans h5⟩, ⟨h6, hsi, hsl, hsl⟩, h7, h8, h9, e5.symm, fun c hc => ?_, (h12.keep (fun g' hg => hgi g' fun e => ?_) fun g' hg => ⟨hg, hgi g' fun e => r.cx.no q ⟨_, he⟩ gi hgq (e ▸ hg)⟩).congr fun z' hz' => ?_⟩
    · show (w1.heap.setIfInBounds gi _)[gi]? = _
      rw [hh]; simp [lt_of_some h4]
    · cases hc; exact ⟨z, hz, rfl, ⟨seen, by rw [e2]⟩, rfl⟩
    · exact (List.nodup_cons.1 hnd).1 (e ▸ List.mem_cons_of_mem _ hg)
    · simp only [ownI, Option.isSome_some, Bool.true_and, Array.back?_push]
      rcases hc with rfl | rfl
      · rfl
      · simp only [Option.isSome_none, Bool.false_and, Bool.or_false, seen_push]
        by_cases e6 : e.born = z'.1.born
        · rw [← e6, e3]; simp
        · have : (e.born == z'.1.born) = false := by simpa using e6
          simp [this, e6]
end

section
variable {A : Amb} {P : Program} {s : St} {x y z : Operand} {d : Nat} {T T' ty : TypeId} {pos : String} {af : Array Edge} {g : Option (Nat × Bool)} {X : Type} {V : Vrl X} {k : Ty} {N N' : Nat → Prop} {w w' : World}
theorem entry_run {gi g since c0 clock : Nat} {seen : Array Nat} {es : Array MapEntry} {e : MapEntry} (h4 : w.heap[gi]? = some (.mapIter (some g) since seen c0)) (h5 : w.heap[g]? = some (.map es clock)) (hB : Born es.toList clock) (he : e ∈ es.toList) (hs : ∃ s0 : Array Nat, seen = s0.push e.born) (hc : c0 = clock) :
    (Instr.entry (.pointer (some ⟨gi, 0, none⟩))).run P w = .ok (.tuple #[e.key, e.val]) w := by
  obtain ⟨s0, rfl⟩ := hs
  subst hc
  exact run_entry_at w gi g since s0 es c0 e h4 h5 he hB.2
/-- The step's key and element, the element frozen. -/
theorem Does.entryF {q : Nat} {t : Ty} {m left : List (k.Den × t.Den)} {c : k.Den × t.Den} {p : Value} {l1 l2 : List LV} (hf : k.flat = true) (hx : Evl A s x (.val p)) (he : s.tab.ent q = some (.res (itR (vFz t) k false m left (some c) p))) (h1 : leaves k c.1 = l1) (h2 : leaves t c.2 = l2) (hn : Nat.blt d A.n = true) :
    Does A P ⟨some d, .entry x, ty, pos, af, g⟩ s (s.put d (.tup [(false, l1), (false, l2)])) :=
  Does.yields rfl hn fun gh a w r => by
    subst h1 h2
    have hv : a.eval x = p := hx gh a w r
    obtain ⟨g, gi, es, clock, since, seen, c0, zs, fs, ⟨h1, h2, h3⟩, ⟨h4, h5⟩, ⟨h6, hsi, hsc, hsl⟩, h7, h8, h9, h10, h11, h12⟩ := r.cx.en q _ he
    obtain ⟨z, hz, rfl, hs, hc⟩ := h11 c rfl
    obtain ⟨ya, yb, rfl⟩ := List.append_of_mem hz
    obtain ⟨fa, fb, rfl, k1, f1, fc, rfl, k2, k3, k4⟩ := h12.app
    have k3 : f1 = [] ∧ Rd gh.N t w [z.1.val] z.2.2 := by
      rw [if_pos (by simp [ownI])] at k3
      exact k3
    obtain ⟨w0, k2⟩ := k2
    refine ⟨.tuple #[z.1.key, z.1.val], ?_, [z.1.key, z.1.val], rfl, _, _, rfl, MV.cm (b := false) (k2.rd0 hf), _, _, rfl, MV.cm (b := false) k3.2, rfl⟩
    simp only [execOp, hv, h2, Go.Sem.run_bind, entry_run h4 h5 h6 (by rw [h8]; exact List.mem_map.2 ⟨z, hz, rfl⟩) hs hc]
    simp
/-- .. the element as one's own. -/
theorem Does.entryT (t : Nat) {q : Nat} {E : TypeId} {e : Ty} {m left : List (k.Den × List e.Den)} {c : k.Den × List e.Den} {p : Value} {l1 : List LV} (hf : k.flat = true) (hx : Evl A s x (.val p)) (he : s.tab.ent q = some (.res (itR (vOw E e) k true m left (some c) p))) (h1 : leaves k c.1 = l1) (hn : Nat.blt d A.n = true) (hfr : Fresh s t) (hk0 : A.k0 ≤ t) :
    Does A P ⟨some d, .entry x, ty, pos, af, g⟩ s ⟨(d, .tup [(false, l1), (false, [.ref t])]) :: s.tm, (q, some (.res (itR (vOw E e) k true m left none p))) :: (t, some (.arr E e c.2)) :: s.tab⟩ := fun a w K Q r hK => by
  subst h1
  obtain ⟨gh, r⟩ := r
  have hv : a.eval x = p := hx gh a w r
  obtain ⟨g, gi, es, clock, since, seen, c0, zs, fs, ⟨h1, h2, h3⟩, ⟨h4, h5⟩, ⟨h6, hsi, hsc, hsl⟩, h7, h8, h9, h10, h11, h12⟩ := r.cx.en q _ he
  obtain ⟨z, hz, rfl, hs, hc⟩ := h11 c rfl
  have hmem : z.1 ∈ es.toList := by rw [h8]; exact List.mem_map.2 ⟨z, hz, rfl⟩
  have hrun := entry_run (P := P) h4 h5 h6 hmem hs hc
  have hbn := h6.2
  obtain ⟨ya, yb, rfl⟩ := List.append_of_mem hz
  obtain ⟨fa, fb, rfl, k1, f1, fc, rfl, k2, k3, k4⟩ := h12.app
  have hbk : seen.back? = some z.1.born := by obtain ⟨s0, rfl⟩ := hs; simp
  have hsn : seen.contains z.1.born = true := by obtain ⟨s0, rfl⟩ := hs; simp
  have k3 : Own (.sl E e) w f1 [z.1.val] z.2.2 := by
    rw [if_pos (by simp [ownI, hbk])] at k3
    exact k3
  have hd : ∀ z' ∈ ya ++ yb, z'.1.born ≠ z.1.born := fun z' hz' e => by
    rw [h8, List.map_append, List.map_append, List.map_cons, List.map_cons, List.nodup_append] at hbn
    obtain ⟨_, n2, n3⟩ := hbn
    rcases List.mem_append.1 hz' with hz' | hz'
    · exact n3 _ (List.mem_map.2 ⟨z'.1, List.mem_map.2 ⟨z', hz', rfl⟩, rfl⟩) _ (List.mem_cons_self ..) e
    · exact (List.nodup_cons.1 n2).1 (by rw [← e]; exact List.mem_map.2 ⟨z'.1, List.mem_map.2 ⟨z', hz', rfl⟩, rfl⟩)
  have cg : ∀ z' ∈ ya ++ yb, ownI (k := k) (X := List e.Den) true (some z.2).isSome seen z' = ownI true (none : Option (k.Den × List e.Den)).isSome seen z' := fun z' hz' => by
    have := hd z' hz'
    simp only [ownI, hbk, Option.isSome_some, Option.isSome_none, Bool.true_and, Bool.false_and, Bool.not_true, Bool.false_or, Bool.or_false]
    have h : (some z.1.born == some z'.1.born) = false := by simpa using fun e => this e.symm
    rw [h, Bool.or_false]
  have e1 : (execOp a.eval ⟨some d, .entry x, ty, pos, af, ‹_›⟩).run P w = .ok (.value (.tuple #[z.1.key, z.1.val])) w := by
    simp only [execOp, hv, h2, Go.Sem.run_bind, hrun]
    simp
  unfold Oper.wp
  rw [e1, Oper.upon_value]
  have hnd := r.cx.nd q ⟨_, he⟩
  have hsub : List.Sublist (gi :: g :: (fa ++ fc)) (gi :: g :: (fa ++ (f1 ++ fc))) := ((List.Sublist.append (List.Sublist.refl _) (List.sublist_append_right ..)).cons_cons g).cons_cons gi
  rw [h3] at hnd
  obtain ⟨d1, d2⟩ := List.nodup_cons.1 hnd
  obtain ⟨d3, d4⟩ := List.nodup_cons.1 d2
  obtain ⟨d5, d6, d7⟩ := List.nodup_append.1 d4
  obtain ⟨d8, d9, d10⟩ := List.nodup_append.1 d6
  obtain ⟨w0, k2⟩ := k2
  have hq : q ≠ t := fun h => hfr.al (h ▸ ⟨_, he⟩)
  refine hK _ _ ⟨_, (r.part he hfr hk0 (Grw.refl w) (fun _ _ _ => rfl) (fq := gi :: g :: (fa ++ fc)) (ft := f1) (R := itR (vOw E e) k true m left none p) ?_ k3 (hsub.nodup hnd) d8 (fun g' hg => ?_) (fun g' hg => ?_)).put (Nat.le_of_ble_eq_true hn) (pv := .tup [(false, leaves k z.2.1), (false, [.ref t])]) ⟨_, rfl, _, _, rfl, MV.cm (b := false) (k2.rd0 hf), _, _, rfl, ⟨_, rfl, fun _ => (upd_at ..).symm⟩, rfl⟩⟩
  · refine ⟨g, gi, es, clock, since, seen, c0, ya ++ z :: yb, fa ++ fc, ⟨h1, h2, rfl⟩, ⟨h4, h5⟩, ⟨h6, hsi, hsc, hsl⟩, h7, h8, h9, h10, (fun c hc => by cases hc), (k1.congr fun z' hz' => cg z' (List.mem_append_left _ hz')).join ⟨[], fc, rfl, ⟨w0, k2⟩, ?_, k4.congr fun z' hz' => cg z' (List.mem_append_right _ hz')⟩⟩
    rw [if_neg]
    have hsn2 : z.1.born ∈ seen := by simpa using hsn
    simp [ownI, hsn2]
  · refine ⟨by rw [h3]; exact hsub.subset hg, fun hg' => ?_⟩
    rcases List.mem_cons.1 hg with rfl | hg
    · exact d1 (List.mem_cons_of_mem _ (by simp [hg']))
    · rcases List.mem_cons.1 hg with rfl | hg
      · exact d3 (by simp [hg'])
      · rcases List.mem_append.1 hg with hg | hg
        · exact d7 g' hg g' (List.mem_append_left _ hg') rfl
        · exact d10 g' hg' g' hg rfl
  · rw [h3]; simp [hg]
end
end Go.Proofs.YtjaadeknhofhpaaGreat

/- Abstract states: an answer of one's own, frozen at once, of a call that borrows. No program is named here. -/
namespace Go.Proofs.YtjaadeknhofhpaaGreat
open Go.RowKit

theorem Wk.same {A : Amb} {s s' : St} (ht : ∀ i pv, lk s'.tm i = some pv → lk s.tm i = some pv) (he : ∀ q, s'.tab.ent q = s.tab.ent q) : Wk A s s' := fun a w ⟨gh, r⟩ => by
  have hal : s'.tab.al = s.tab.al := funext fun q => by unfold Tab.al; rw [he]
  refine ⟨gh, ⟨fun q e h => ?_, fun q q' h1 h2 => ?_, fun q h => ?_, fun q h => ?_, r.cx.nl⟩, r.sz, r.df, fun i pv h => ?_, r.gw, r.kp, r.fr, fun q h => ?_, fun q hq h => ?_, r.xn⟩
  · rw [hal]; exact r.cx.en q e (by rw [← he]; exact h)
  · rw [hal] at h1 h2; exact r.cx.dj q q' h1 h2
  · rw [hal] at h; exact r.cx.nd q h
  · rw [hal] at h; exact r.cx.no q h
  · rw [hal]; exact r.tm i pv (ht i pv h)
  · rw [hal] at h; exact r.ox q h
  · rw [hal] at h; exact r.hh q hq h
theorem Does.callBF (t : Nat) {A : Amb} {P : Program} {s : St} {d : Nat} {f : FuncId} {args : List (Bool × List LV)} {xs : List Operand} {tys : Array TypeId} {ty : TypeId} {pos : String} {af : Array Edge} {g : Option (Nat × Bool)} {E : TypeId} {e : Ty} {zs : List e.Den} (hc : FC P f args [] 0 (Own1 E e zs)) (hE : Enters P f) (ha : EvLB A s xs args) (hn : Nat.blt d A.n = true) (hfr : Fresh s t) (hk0 : A.k0 ≤ t) :
    Does A P ⟨some d, .call ⟨.value (.func f), xs.toArray, tys⟩, ty, pos, af, g⟩ s (s.put d (lf (.dat (.sl E e) zs))) := by
  refine (Does.callOB t hc hE ha hn hfr hk0).wk ((Wk.freeze (i := d) (q := t) (E := E) (e := e) (xs := zs) (by show lk ((d, _) :: s.tm) d = _; rw [lk_cons, if_pos rfl]) (by show Tab.ent ((t, _) :: s.tab) t = _; rw [Tab.ent_cons, if_pos rfl])).trans (Wk.same (fun i pv h => ?_) fun q => ?_))
  · show lk ((d, _) :: (d, _) :: s.tm) i = some pv
    have h : lk ((d, lf (.dat (.sl E e) zs)) :: s.tm) i = some pv := h
    rw [lk_cons] at h ⊢
    by_cases e1 : i = d
    · rw [if_pos e1] at h ⊢; exact h
    · rw [if_neg e1] at h ⊢; rw [lk_cons, if_neg e1]; exact h
  · show s.tab.ent q = Tab.ent ((t, none) :: (t, _) :: s.tab) q
    rw [Tab.ent_cons]
    by_cases e1 : q = t
    · rw [if_pos e1, e1]
      cases k : s.tab.ent t with
      | none => rfl
      | some e => exact absurd ⟨e, k⟩ hfr.al
    · rw [if_neg e1, Tab.ent_cons, if_neg e1]
theorem Does.loadD {A : Amb} {P : Program} {s : St} {d : Nat} {x : Operand} {T ty : TypeId} {pos : String} {af : Array Edge} {g : Option (Nat × Bool)} {q i j n : Nat} {E : TypeId} {e t : Ty} {xs : List e.Den} {z : e.Den} {y' : t.Den} (hx : Evl A s x (.ept q e.wd i j)) (he : s.tab.ent q = some (.arr E e xs)) (hz : xs[i]? = some z) (hf : t.flat = true) (hT : tsh P T = some (false, n))
    (hl : (leaves e z)[j]? = some (.dat t y')) (hn : Nat.blt d A.n = true) : Does A P ⟨some d, .load T x, ty, pos, af, g⟩ s (s.put d (lf (.dat t y'))) :=
  Does.yields rfl hn fun gh a w r => by
    obtain ⟨g, m, c, h1, h2⟩ := hx gh a w r ⟨_, he⟩
    obtain ⟨cur, fpr, ds, k1, k2, k3, k4, k5⟩ := ept_cells r he hz h1
    obtain ⟨v, h5, h6⟩ := (Rd.leaves (al := s.tab.al) (gh := ⟨gh.h, gh.f, fun _ => True⟩) (w := w) (Rep.rd k4 fun _ _ => trivial)).nth hl
    have h7 : Rd _ t w [v] y' := h6
    refine ⟨v, ?_, _, rfl, (h7.rep.rd0 hf : Rd gh.N t w [v] y')⟩
    have hc := k5 j v h5
    simp only [execOp, h2, Instr.loadAt, Instr.sureAddr, Go.Sem.run_bind, Go.Sem.run_pure, Result.andThen_ok, run_loadVar_one hT _ v hc]
end Go.Proofs.YtjaadeknhofhpaaGreat
