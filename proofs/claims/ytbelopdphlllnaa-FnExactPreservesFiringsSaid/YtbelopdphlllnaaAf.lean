/- Abstract states: answers that own several slices. No program is named here. -/
import Derived.Test.YtbelopdphlllnaaAe
namespace Go.Proofs.Ytbelopdphlllnaa
open Go.RowKit

@[reducible] def Is (pv : PV) (T : Tab) : PV → Tab → Prop := fun p T' => p = pv ∧ T' = T
def FrL (s : St) (n : Nat) : List Nat → Prop
  | [] => True
  | q :: l => Fresh s (n + q) ∧ FrL s n l
theorem FrL.get {s : St} {n : Nat} {l : List Nat} (h : FrL s n l) : ∀ q ∈ l, Fresh s (n + q) := by
  induction l with
  | nil => simp
  | cons q l ih =>
    intro r hr
    rcases List.mem_cons.1 hr with rfl | hr
    · exact h.1
    · exact ih h.2 r hr
section
variable {A : Amb} {P : Program} {s : St}
variable {f : FuncId} {xs : List Operand} {tys : Array TypeId} {args : List (Bool × List LV)} {d : Nat} {ty : TypeId} {pos : String} {af : Array Edge} {g : Option (Nat × Bool)} {pv : PV} {T : Tab}
theorem Does.callG (n : Nat) (hc : FC P f args [] 0 (Is pv T)) (hE : Enters P f) (ha : EvL A s xs args) (hcl : closedB pv T = true) (hn : Nat.blt d A.n = true) (hfr : FrL s n (tabTags T)) (hk0 : A.k0 ≤ n) :
    Does A P ⟨some d, .call ⟨.value (.func f), xs.toArray, tys⟩, ty, pos, af, g⟩ s (s.back d n pv T) :=
  fun a w K Q r hK => DoesT.call n hc hE ha (by rintro _ _ ⟨rfl, rfl⟩; exact hcl) (by rintro _ _ ⟨rfl, rfl⟩ q ⟨e, hq⟩; exact hfr.get q (tabTags_spec hq).1) hk0 hn a w K Q r (by
    rintro s' a' w' ⟨_, _, ⟨rfl, rfl⟩, rfl⟩ r'
    exact hK _ _ r')
theorem Does.callGB (n : Nat) (hc : FC P f args [] 0 (Is pv T)) (hE : Enters P f) (ha : EvLB A s xs args) (hcl : closedB pv T = true) (hf : (pv.fl && T.fl) = true) (hn : Nat.blt d A.n = true) (hfr : FrL s n (tabTags T)) (hk0 : A.k0 ≤ n) :
    Does A P ⟨some d, .call ⟨.value (.func f), xs.toArray, tys⟩, ty, pos, af, g⟩ s (s.back d n pv T) :=
  fun a w K Q r hK => DoesT.callB n hc hE ha (by rintro _ _ ⟨rfl, rfl⟩; exact hcl) (by rintro _ _ ⟨rfl, rfl⟩; simpa using hf) (by rintro _ _ ⟨rfl, rfl⟩ q ⟨e, hq⟩; exact hfr.get q (tabTags_spec hq).1) hk0 hn a w K Q r (by
    rintro s' a' w' ⟨_, _, ⟨rfl, rfl⟩, rfl⟩ r'
    exact hK _ _ r')
theorem fin_is {fn : Func} {k : Nat} (pv : PV) (T' : Tab) (ρ : List (Nat × Nat)) {pv0 : PV} (h1 : Res A P fn s pv0) (h0 : pv0 = pv.ren (rn ρ)) (h2 : HasE ⟨[], s.tab⟩ ρ T') (h3 : dupB (T'.map fun x => rn ρ x.1) = true) (h4 : idB ρ k = true) : fin A P fn (RenO (Is pv T') k) .ret s :=
  fin_ret pv T' ρ (h0 ▸ h1) h2 h3 h4 ⟨rfl, rfl⟩
end
/-! Frozen answers -/
def LV.thaw (T : Tab) : LV → LV
  | .ref q => match T.ent q with
    | some (.arr E e xs) => .dat (.sl E e) xs
    | _ => .ref q
  | l => l
def PV.thaw (T : Tab) : PV → PV
  | .cm b ls => .cm b (ls.map (LV.thaw T))
  | .tup cs => .tup (cs.map fun c => (c.1, c.2.map (LV.thaw T)))
section
variable {T : Tab} {gh : Gh} {w : World}
theorem LVR.thaw (cx : Cx T gh w) {l : LV} {v : Value} (h : LVR T.al gh w l v) : LVR (Tab.al []) ⟨gh.h, gh.f, fun g => gh.N g ∨ ∃ q, T.al q ∧ g ∈ gh.f q⟩ w (l.thaw T) v := by
  have hm : ∀ l, LVR T.al gh w l v → LVR (Tab.al []) ⟨gh.h, gh.f, fun g => gh.N g ∨ ∃ q, T.al q ∧ g ∈ gh.f q⟩ w l v := fun l h => h.mono (fun q _ h => absurd h (al_nil q)) fun g hg => ⟨.inl hg, rfl⟩
  cases l with
  | ref q =>
    simp only [LV.thaw]
    split
    · rename_i E e xs he
      have hv : v = gh.h q := h ⟨_, he⟩
      have hO : Own (.sl E e) w (gh.f q) [gh.h q] xs := cx.en q _ he
      rw [hv]
      exact hO.rd fun g hg => .inr ⟨q, ⟨_, he⟩, hg⟩
    · exact hm _ h
  | _ => exact hm _ h
theorem LVs.thaw (cx : Cx T gh w) {ls : List LV} {vs : List Value} (h : LVs T.al gh w ls vs) : LVs (Tab.al []) ⟨gh.h, gh.f, fun g => gh.N g ∨ ∃ q, T.al q ∧ g ∈ gh.f q⟩ w (ls.map (LV.thaw T)) vs := by
  induction ls generalizing vs with
  | nil => exact h
  | cons l ls ih => obtain ⟨v, vs', rfl, h1, h2⟩ := h; exact ⟨v, _, rfl, h1.thaw cx, ih h2⟩
theorem CmR.thaw (cx : Cx T gh w) {c : Bool × List LV} {v : Value} (h : CmR T.al gh w c v) : CmR (Tab.al []) ⟨gh.h, gh.f, fun g => gh.N g ∨ ∃ q, T.al q ∧ g ∈ gh.f q⟩ w (c.1, c.2.map (LV.thaw T)) v := by
  obtain ⟨b, ls⟩ := c
  cases b with
  | true => obtain ⟨vs, rfl, h1⟩ := h; exact ⟨vs, rfl, h1.thaw cx⟩
  | false => obtain ⟨l, rfl, h1⟩ := h; exact ⟨_, rfl, h1.thaw cx⟩
theorem PVR.thaw (cx : Cx T gh w) {pv : PV} {v : Value} (h : PVR T.al gh w pv v) : PVR (Tab.al []) ⟨gh.h, gh.f, fun g => gh.N g ∨ ∃ q, T.al q ∧ g ∈ gh.f q⟩ w (pv.thaw T) v := by
  cases pv with
  | cm b ls => exact CmR.thaw cx (c := (b, ls)) h
  | tup cs =>
    obtain ⟨vs, rfl, h1⟩ := h
    refine ⟨vs, rfl, ?_⟩
    induction cs generalizing vs with
    | nil => exact h1
    | cons c cs ih => obtain ⟨v, vs', rfl, h2, h3⟩ := h1; exact ⟨v, _, rfl, h2.thaw cx, ih _ h3⟩
end
theorem FC.frozenG {P : Program} {f : FuncId} {args : List (Bool × List LV)} {pv : PV} {T : Tab} (h : FC P f args [] 0 (Is pv T)) : FC P f args [] 0 (Pure (pv.thaw T)) := fun gh w vs cx ha =>
  Calls.mono (h gh w vs cx ha) fun e' w' he => by
    obtain ⟨v, pv', T', gh', rfl, ⟨rfl, rfl⟩, cx', hp, fr, _⟩ := he
    refine ⟨v, _, [], _, rfl, ⟨rfl, rfl⟩, tombless al_nil _ _ fun g hg => ?_, hp.thaw cx', ⟨fr.gw, fr.kp, fun g hg => ?_, fun q hq => absurd hq (al_nil q)⟩, fun q hq => absurd hq (by omega)⟩
    · rcases hg with hg | ⟨q, hq, hg⟩
      · exact cx'.nl g hg
      · exact cx'.lt hq g hg
    · rcases hg with hg | ⟨q, hq, hg⟩
      · exact fr.nn g hg
      · rcases fr.ox q hq g hg with h | ⟨q', h, _⟩
        · exact .inr (.inl h)
        · exact absurd h (al_nil q')

theorem Acts.of1 {A : Amb} {P : Program} {ops : Array Oper} {o : Oper} {s s1 s' : St} (hg : o.guard = none) (h : Does A P o s s1) (e : s1 = s') : Acts A P ops o s s' := e ▸ Acts.of hg h
/-! A nil slice as one's own -/
section
variable {A : Amb} {s : St}
theorem Wk.nilS (t i : Nat) (E : TypeId) (e : Ty) (hi : lk s.tm i = some (lf (.val (.slice none 0 0)))) (hfr : Fresh s t) (hk0 : A.k0 ≤ t) : Wk A s ⟨(i, lf (.ref t)) :: s.tm, (t, some (.arr E e [])) :: s.tab⟩ := fun a w r => by
  obtain ⟨gh, r⟩ := r
  obtain ⟨v, h1, l, h2, h3⟩ := r.tm i _ hi
  simp only [List.cons.injEq, and_true] at h2
  subst h2
  have hv : v = .slice none 0 0 := h3
  have r2 := r.make t hfr hk0 [] (by simp) (Grw.refl w) (fun _ _ _ => rfl) (E := E) (e := e) (xs := []) (hv := .slice none 0 0) (fp := []) (.inl ⟨rfl, rfl, rfl⟩) List.nodup_nil (by simp)
  exact ⟨_, r2.know h1 (pv := lf (.ref t)) ⟨_, rfl, fun _ => by simp [hv]⟩⟩
theorem Wk.nilC (t : Nat) {p off : Nat} {E' : TypeId} {cs : List LV} (E : TypeId) (e : Ty) (hp : s.tab.ent p = some (.box E' cs)) (ho : cs[off]? = some (.val (.slice none 0 0))) (hfr : Fresh s t) (hk0 : A.k0 ≤ t) :
    Wk A s ⟨s.tm, (p, some (.box E' (splice cs off [.ref t]))) :: (t, some (.arr E e [])) :: s.tab⟩ := fun a w r => by
  obtain ⟨gh, r⟩ := r
  have hne : p ≠ t := fun h => hfr.al ⟨_, h ▸ hp⟩
  obtain ⟨g, cur, h1, h2, h3, h4⟩ := r.cx.en p _ hp
  obtain ⟨v, h5, h6⟩ := h4.nth ho
  have hv : v = .slice none 0 0 := h6
  have r2 := r.make t hfr hk0 [] (by simp) (Grw.refl w) (fun _ _ _ => rfl) (E := E) (e := e) (xs := []) (hv := .slice none 0 0) (fp := []) (.inl ⟨rfl, rfl, rfl⟩) List.nodup_nil (by simp)
  have hp' : Tab.ent ((t, some (.arr E e [])) :: (tombs [] ++ s.tab)) p = some (.box E' cs) := by rw [Tab.ent_cons, if_neg hne]; exact hp
  obtain ⟨g', cur', k1, k2, k3, k4⟩ := r2.cx.en p _ hp'
  simp only [if_neg hne] at k1 k2
  rw [h1] at k1
  cases k1
  rw [h3] at k3
  cases k3
  have hD : LVs (Tab.al ((t, some (.arr E e [])) :: (tombs [] ++ s.tab))) ⟨fun q => if q = t then .slice none 0 0 else gh.h q, fun q => if q = t then [] else gh.f q, gh.N⟩ w [.ref t] [v] := ⟨v, [], rfl, fun _ => by simp [hv], rfl⟩
  have hS := k4.splice hD (off := off)
  have hsame : cur.toList.take off ++ [v] ++ cur.toList.drop (off + [v].length) = cur.toList := by
    have hl := (List.getElem?_eq_some_iff.1 h5)
    obtain ⟨hl, hl2⟩ := hl
    conv => rhs; rw [← List.take_append_drop (off + 1) cur.toList, List.take_succ_eq_append_getElem hl, hl2]
    rfl
  rw [hsame] at hS
  exact ⟨_, r2.mod hp' (Grw.refl w) (fun _ _ _ => rfl) ⟨g, cur, by simp only [if_neg hne]; exact h1, by simp only [if_neg hne]; exact h2, h3, hS⟩⟩
end
end Go.Proofs.Ytbelopdphlllnaa
