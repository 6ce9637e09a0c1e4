/- Abstract states: bytes and strings turned into each other. No program is named here. -/
import Derived.Test.YtjaadeknhofhpaaGreatAh
import Derived.Test.YtjaadeknhofhpaaGreatTo
import Derived.Test.YtjaadeknhofhpaaGreatTrd
set_option linter.unusedSimpArgs false
set_option linter.unusedVariables false
set_option linter.unusedSectionVars false
namespace Go.Proofs.YtjaadeknhofhpaaGreat
open Go.RowKit

section
variable {A : Amb} {P : Program} {s : St} {x y : Operand} {d : Nat} {T T' ty : TypeId} {pos : String} {af : Array Edge} {g : Option (Nat × Bool)}
variable {T' E : TypeId}
theorem run_nil_string (w : World) (T T' E : TypeId) (c : Nat) (hs : P.underlying T = some (.slice E)) (he : P.underlying E = some (.int .u8)) (hd : P.underlying T' = some .string) :
    (convert T T' (.slice none 0 c)).run P w = .ok (.string ByteArray.empty) w := by
  rw [run_convert_bytes_string w T T' E none 0 c hs he hd]
  simp [Conv.bytesToString, Go.Sem.run_pure]
theorem bytes_string {ys : List UInt8} {a : Act} {w : World} (hy : Rep (.sl E .u8) w [a.eval x] ys) (hs : P.underlying T = some (.slice E)) (he : P.underlying E = some (.int .u8)) (hd : P.underlying T' = some .string) :
    (convert T T' (a.eval x)).run P w = .ok (.string ⟨ys.toArray⟩) w := by
  obtain ⟨B, c, hv, h1, h2⟩ := hy.slv
  rw [hv] at hy ⊢
  cases ys with
  | nil =>
    cases B with
    | none => exact run_nil_string w T T' E c hs he hd
    | some b => exact run_convert_bytes_back w T T' E b c [] hs he hd (by simp)
  | cons z zs =>
    obtain ⟨b, o, ds, rfl, _, _⟩ := hy.at_ (i := 0) (x := z) rfl
    refine run_convert_bytes_back w T T' E ⟨b, o, none⟩ c (z :: zs) hs he hd fun j hj => ?_
    obtain ⟨b', o', ds, e1, e2, e3⟩ := hy.at_ (List.getElem?_eq_getElem hj)
    simp only [Option.some.injEq, Addr.mk.injEq] at e1
    obtain ⟨rfl, rfl, _⟩ := e1
    have e4 : ds = _ := e2
    have := e3 0 _ (by rw [e4]; rfl)
    have e5 : (⟨b, o, none⟩ : Addr).add j = ⟨b, o + j * Ty.u8.wd + 0, none⟩ := by rw [Addr.add_lit]; simp [Ty.wd]
    rw [e5]; exact this
theorem Does.ofBytes {ys : List UInt8} (hy : RepEv A s x (.sl E .u8) ys) (hs : P.underlying T = some (.slice E)) (he : P.underlying E = some (.int .u8)) (hd : P.underlying T' = some .string) (hn : Nat.blt d A.n = true) :
    Does A P ⟨some d, .convert T T' x, ty, pos, af, g⟩ s (s.put d (lf (dS ⟨ys.toArray⟩))) :=
  Does.yields rfl hn fun gh a w r => by
    have h := hy gh a w r
    obtain ⟨B, c, hv, h1, h2⟩ := h.slv
    refine ⟨_, ?_, _, rfl, LVR.mkS (x := ⟨ys.toArray⟩) ?_⟩
    · simp only [execOp, Go.Sem.run_bind]
      rw [bytes_string h hs he hd]
      rfl
    · show ys.toArray.size ≤ maxLen
      simp; omega
/-! Byte rows of one's own -/
theorem Rg.drewR {gh : Gh} {a : Act} {w : World} (r : Rg A s gh a w) : Rg A s gh a w.drew :=
  r.step (T := s.tab) ⟨fun q e h => (r.cx.en q e h).mono (fun _ _ h => ⟨h, rfl⟩) (fun g hg => ⟨hg, rfl⟩) rfl rfl (fun _ _ => rfl), r.cx.dj, r.cx.nd, r.cx.no, r.cx.nl⟩ (fun q h => .inl ⟨h, rfl, fun _ => rfl⟩) (fun g h => ⟨h, rfl⟩) ⟨rfl, rfl, rfl, Nat.le_refl _⟩
    (fun _ _ _ => rfl) (fun g h => .inl h) (fun q h g hg => .inr ⟨q, h, hg⟩)
theorem Does.toBytes (t : Nat) {b : ByteArray} (hx : Evl A s x (dS b)) (hs : P.underlying T = some .string) (hd : P.underlying T' = some (.slice E)) (he : P.underlying E = some (.int .u8)) (hn : Nat.blt d A.n = true) (hfr : Fresh s t) (hk0 : A.k0 ≤ t) :
    Does A P ⟨some d, .convert T T' x, ty, pos, af, g⟩ s (s.new d t (.ref t) (.bys E b.toList)) := fun a w K Q r hK => by
  obtain ⟨gh, r⟩ := r
  have hv : Rep .str w [a.eval x] b := Rd.rep (hx gh a w r)
  obtain ⟨hv1, hv2⟩ := hv
  simp only [List.cons.injEq, and_true] at hv1
  have hbl : b.toList.length = b.size := by simp [ByteArray.toList_eq]
  have e : (execOp a.eval ⟨some d, .convert T T' x, ty, pos, af, g⟩).run P w = .ok (.value (.slice (some ⟨w.heap.size, 0, none⟩) b.size (grownCap w b.size 0 E))) (w.drew.alloc (.cells (bytesRow b (grownCap w b.size 0 E)) E ((bytesRow b (grownCap w b.size 0 E)).size, (bytesRow b (grownCap w b.size 0 E)).size + 1))) := by
    simp only [execOp, hv1, Go.Sem.run_bind, run_bytes_of_string w T T' E b hs hd he]
    simp
  unfold Oper.wp
  rw [e, Oper.upon_value]
  have hc1 := grownCap_ge w b.size 0 E
  have hc2 := grownCap_le_maxLen w b.size 0 E hv2
  refine hK _ _ ⟨_, (r.drewR.grow t hfr hk0 _ (.slice (some ⟨w.heap.size, 0, none⟩) b.size (grownCap w b.size 0 E)) [w.heap.size] (.bys E b.toList) (by simp) (by simp) (by simp [Ent.tags]) ?_).put (Nat.le_of_ble_eq_true hn) (pv := lf (.ref t)) ⟨_, rfl, fun _ => by simp⟩⟩
  refine ⟨w.heap.size, grownCap w b.size 0 E, bytesRow b (grownCap w b.size 0 E), by simp [hbl], by simp, ⟨_, heap_alloc_new w.drew _, .inr rfl⟩, by omega, hc2, ?_, ?_⟩
  · simp only [bytesRow, Array.size_append, Array.size_map, Array.size_replicate]
    show b.size + _ = _
    omega
  · simp only [bytesRow, Array.toList_append, Array.toList_map]
    rw [List.take_append_of_le_length (by simp [hbl]), List.take_of_length_le (by simp [hbl]), ByteArray.toList_eq]
theorem bys_row {gh : Gh} {a : Act} {w : World} (r : Rg A s gh a w) {q : Nat} {l : List UInt8} (he : s.tab.ent q = some (.bys E l)) : ∃ g cap cur, gh.h q = .slice (some ⟨g, 0, none⟩) l.length cap ∧ gh.f q = [g] ∧ Row w g cur E ∧ l.length ≤ cap ∧ cap ≤ maxLen ∧ cur.size = cap ∧ cur.toList.take l.length = l.map fun b => Value.int .u8 b.toNat :=
  r.cx.en q _ he
theorem bys_cell {cur : Array Value} {l : List UInt8} (h : cur.toList.take l.length = l.map fun b => Value.int .u8 b.toNat) {i : Nat} {z : UInt8} (hz : l[i]? = some z) : cur[i]? = some (.int .u8 z.toNat) := by
  have h1 : (cur.toList.take l.length)[i]? = some (.int .u8 z.toNat) := by rw [h, List.getElem?_map, hz]; rfl
  rw [List.getElem?_take] at h1
  split at h1
  · simpa using h1
  · cases h1
theorem Does.indexB {q : Nat} {l : List UInt8} {E' : TypeId} {i : Int} {bb : Bool} (hx : Evl A s x (.ref q)) (he : s.tab.ent q = some (.bys E l)) (hy : Evl A s y (dI i)) (hT : P.underlying T = some (.slice E')) (hE : tsh P E' = some (bb, 1)) (hn : Nat.blt d A.n = true)
    (h0 : 0 ≤ i) (h1 : i < l.length) : Does A P ⟨some d, .indexAddr T x y, ty, pos, af, g⟩ s (s.put d (lf (.ept q 1 i.toNat 0))) :=
  Does.yields rfl hn fun gh a w r => by
    have hi := hy.i r
    have hv : a.eval x = gh.h q := hx gh a w r ⟨_, he⟩
    obtain ⟨b, cap, cur, h2, h3, h4, h5, h6, h7, h8⟩ := bys_row r he
    refine ⟨.pointer (some ⟨b, 0 + i.toNat * 1, none⟩), ?_, _, rfl, fun _ => ⟨b, l.length, cap, h2, by simp⟩⟩
    simp only [execOp, hv, h2, hi, Go.Sem.run_bind, run_indexAt hT hE h0 h1]
    simp
theorem Does.loadB {q i n : Nat} {l : List UInt8} {z : UInt8} (hx : Evl A s x (.ept q 1 i 0)) (he : s.tab.ent q = some (.bys E l)) (hz : l[i]? = some z) (hT : tsh P T = some (false, n)) (hn : Nat.blt d A.n = true) :
    Does A P ⟨some d, .load T x, ty, pos, af, g⟩ s (s.put d (lf (.dat .u8 z))) :=
  Does.yields rfl hn fun gh a w r => by
    obtain ⟨g, m, c, h1, h2⟩ := hx gh a w r ⟨_, he⟩
    obtain ⟨b, cap, cur, k1, k2, k3, k4, k5, k6, k7⟩ := bys_row r he
    rw [h1] at k1
    simp only [Value.slice.injEq, Option.some.injEq, Addr.mk.injEq, and_true] at k1
    obtain ⟨rfl, rfl, rfl⟩ := k1
    refine ⟨.int .u8 z.toNat, ?_, _, rfl, Own.rd (w := w) (N := gh.N) (t := .u8) (fp := []) ⟨rfl, rfl⟩ (by simp)⟩
    have hc : w.cell? ⟨g, i * 1 + 0, none⟩ = some (.int .u8 z.toNat) := by rw [k3.cell, Nat.mul_one, Nat.add_zero]; exact bys_cell k7 hz
    simp only [execOp, h2, Instr.loadAt, Instr.sureAddr, Go.Sem.run_bind, Go.Sem.run_pure, Result.andThen_ok, run_loadVar_one hT _ _ hc]
theorem run_storeOne {w : World} {b o : Nat} {v u : Value} (hT : tsh P T = some (false, 1)) (hv : v.cells = #[v]) (h1 : v.oneCell' = true) (hc : w.cell? ⟨b, o, none⟩ = some u) (hf : w.frozen? ⟨b, o, none⟩ = false) :
    (storeVar T ⟨b, o, none⟩ v).run P w = .ok () (w.setCell ⟨b, o, none⟩ v) := by
  simp only [storeVar, Go.Sem.run_bind, run_sizeOf hT, Result.andThen_ok, hv]
  simp [storeCells, Go.Sem.run_bind, Addr.add_lit, run_store P w _ v .plain h1, stored, hc, hf, Result.andThen_ok]
theorem Does.storeB {q i : Nat} {l : List UInt8} {z : UInt8} (hx : Evl A s x (.ept q 1 i 0)) (he : s.tab.ent q = some (.bys E l)) (hi : i < l.length) (hy : Evl A s y (.dat .u8 z)) (hT : tsh P T = some (false, 1)) :
    Does A P ⟨none, .store T x y, ty, pos, af, g⟩ s ⟨s.tm, (q, some (.bys E (l.set i z))) :: s.tab⟩ := fun a w K Q r hK => by
  obtain ⟨gh, r⟩ := r
  obtain ⟨g, m, c, h1, h2⟩ := hx gh a w r ⟨_, he⟩
  obtain ⟨b, cap, cur, k1, k2, k3, k4, k5, k6, k7⟩ := bys_row r he
  rw [h1] at k1
  simp only [Value.slice.injEq, Option.some.injEq, Addr.mk.injEq, and_true] at k1
  obtain ⟨rfl, rfl, rfl⟩ := k1
  have hv : Rep .u8 w [a.eval y] z := Rd.rep (hy gh a w r)
  have hv : [a.eval y] = [.int .u8 z.toNat] := hv
  simp only [List.cons.injEq, and_true] at hv
  have hlt : i < cur.size := by omega
  have hc : w.cell? ⟨g, i, none⟩ = some cur[i] := by rw [k3.cell]; simp [hlt]
  have hf := k3.soft hlt
  have e0 : (execOp a.eval ⟨none, .store T x y, ty, pos, af, ‹_›⟩).run P w = .ok .skip (w.setCell ⟨g, i, none⟩ (.int .u8 z.toNat)) := by
    have h3 := run_storeOne (P := P) (w := w) (b := g) (o := i) (v := .int .u8 z.toNat) hT rfl rfl hc hf
    simp only [execOp, h2, hv, Instr.storeAt, Instr.sureAddr, Go.Sem.run_bind, Go.Sem.run_pure, Result.andThen_ok, Nat.mul_one, Nat.add_zero, h3]
  unfold Oper.wp
  rw [e0, Oper.upon_skip]
  obtain ⟨f, p1, p2⟩ := k3
  obtain ⟨cur', m1, m2, m3⟩ := puts_row g E f [.int .u8 z.toNat] w i cur p1 (by simp; omega)
  refine hK _ _ ⟨gh, r.mod he (puts_grw w g i [.int .u8 z.toNat]) (fun g0 _ hg0 => puts_other w g i [.int .u8 z.toNat] g0 fun h => hg0 (by rw [k2, h]; simp)) ⟨g, c, cur', by simpa using h1, k2, ⟨f, m1, by rw [m2]; exact p2⟩, by simpa using k4, k5, m2.trans k6, ?_⟩⟩
  rw [m3, List.length_set]
  have e1 : l.map (fun b => Value.int .u8 b.toNat) = cur.toList.take l.length := k7.symm
  rw [List.map_set, e1]
  apply List.ext_getElem?
  intro j
  have hcl : cur.toList.length = cur.size := by simp
  rw [List.getElem?_set, List.getElem?_take, List.length_take]
  by_cases hj : j < l.length
  · rw [if_pos hj]
    by_cases e2 : i = j
    · subst e2
      rw [if_pos rfl, if_pos (by omega), List.append_assoc, List.getElem?_append_right (by simp [List.length_take]; omega)]
      simp [List.length_take, Nat.min_eq_left (show i ≤ cur.size by omega)]
    · rw [if_neg e2, List.getElem?_take, if_pos hj]
      rcases Nat.lt_or_gt_of_ne e2 with h | h
      · rw [List.append_assoc, List.getElem?_append_right (by rw [List.length_take]; omega), List.length_take, List.getElem?_append_right (by simp; omega), List.getElem?_drop]
        congr 1
        simp
        omega
      · rw [List.append_assoc, List.getElem?_append_left (by rw [List.length_take]; omega), List.getElem?_take, if_pos h]
  · rw [if_neg hj, if_neg (by omega), List.getElem?_take, if_neg hj]
theorem Evl.repB {q : Nat} {l : List UInt8} (h : Evl A s x (.ref q)) (he : s.tab.ent q = some (.bys E l)) : RepEv A s x (.sl E .u8) l := fun gh a w r => by
  rw [show a.eval x = gh.h q from h gh a w r ⟨_, he⟩]
  obtain ⟨g, cap, cur, k1, k2, k3, k4, k5, k6, k7⟩ := bys_row r he
  rw [k1]
  refine ⟨_, cap, rfl, k4, k5, fun _ => ⟨g, 0, rfl, fun i z hz => ⟨[.int .u8 z.toNat], rfl, fun j u hu => ?_⟩⟩⟩
  cases j with
  | zero =>
    obtain rfl : Value.int .u8 z.toNat = u := by simpa using hu
    rw [k3.cell]
    simpa [Ty.wd] using bys_cell k7 hz
  | succ j => simp at hu
end
end Go.Proofs.YtjaadeknhofhpaaGreat

/- Abstract states: calls that are handed memory of one's own. No program is named here. -/
namespace Go.Proofs.YtjaadeknhofhpaaGreat
open Go.RowKit

/-- The tags behind a call: those below k stay what they were, the others are new from n on. -/
def sg (ρ : List (Nat × Nat)) (k n q : Nat) : Nat := match Nat.blt q k with
  | true => rn ρ q
  | false => n + q
theorem ent_ren_any {σ : Nat → Nat} {T T0 : Tab} {r : Nat} {e : Ent} (h : Tab.ent (T.ren σ ++ T0) r = some e) : (∃ q e', T.ent q = some e' ∧ r = σ q ∧ e = e'.ren σ) ∨ (T0.ent r = some e ∧ ∀ q, T.al q → σ q ≠ r) := by
  induction T with
  | nil => exact .inr ⟨h, fun q hq => absurd hq (al_nil q)⟩
  | cons x T ih =>
    obtain ⟨j, o⟩ := x
    have h : Tab.ent ((σ j, o.map (Ent.ren σ)) :: (Tab.ren σ T ++ T0)) r = some e := h
    rw [Tab.ent_cons] at h
    by_cases h2 : r = σ j
    · rw [if_pos h2] at h
      obtain ⟨e', rfl, rfl⟩ := Option.map_eq_some_iff.1 h
      exact .inl ⟨j, e', by rw [Tab.ent_cons, if_pos rfl], h2, rfl⟩
    · rw [if_neg h2] at h
      rcases ih h with ⟨q, e', h3, h4, h5⟩ | ⟨h3, h4⟩
      · have hq : q ≠ j := fun e => h2 (e ▸ h4)
        exact .inl ⟨q, e', by rw [Tab.ent_cons, if_neg hq]; exact h3, h4, h5⟩
      · refine .inr ⟨h3, fun q hq => ?_⟩
        by_cases hj : q = j
        · rw [hj]; exact fun e => h2 e.symm
        · obtain ⟨e2, hq⟩ := hq
          rw [Tab.ent_cons, if_neg hj] at hq
          exact h4 q ⟨e2, hq⟩
theorem al_key {σ : Nat → Nat} {T : Tab} {q : Nat} (h : T.al q) : σ q ∈ T.map fun p => σ p.1 := by
  obtain ⟨e, h⟩ := h
  refine List.mem_map.2 ?_
  induction T with
  | nil => cases h
  | cons x T ih =>
    obtain ⟨j, o⟩ := x
    rw [Tab.ent_cons] at h
    by_cases e2 : q = j
    · exact ⟨(j, o), List.mem_cons_self .., by rw [e2]⟩
    · rw [if_neg e2] at h
      obtain ⟨p, h1, h2⟩ := ih h
      exact ⟨p, List.mem_cons_of_mem _ h1, h2⟩
/-- Behind a call that was handed the tags 'used' and answers pv over T. -/
@[reducible] def St.backP (s : St) (d : Nat) (σ : Nat → Nat) (used : List Nat) (pv : PV) (T : Tab) : St := ⟨(d, pv.ren σ) :: s.tm, T.ren σ ++ (tombs used ++ s.tab)⟩
section
variable {A : Amb} {P : Program} {s : St} {f : FuncId} {xs : List Operand} {tys : Array TypeId} {args : List (Bool × List LV)} {d : Nat} {ty : TypeId} {pos : String} {af : Array Edge} {g : Option (Nat × Bool)} {pv : PV} {T T' : Tab} {k : Nat}
theorem Rg.backV (n : Nat) (ρ : List (Nat × Nat)) {gh gh' : Gh} {a : Act} {w w' : World} {v : Value} (r : Rg A s gh a w) (hT : HasE s ρ T) (hi : dupB (T.map fun p => rn ρ p.1) = true)
    (hcl : closedB pv T' = true) (hi' : dupB (T'.map fun p => sg ρ k n p.1) = true) (hk : ∀ q, T'.al q → q < k → T.al q) (hfr : ∀ q, T'.al q → k ≤ q → Fresh s (n + q)) (hk0 : A.k0 ≤ n) (hn : Nat.blt d A.n = true)
    (cx : Cx T' gh' w') (hp : PVR T'.al gh' w' pv v) (fr : Fr T T' (gh.via (rn ρ)) gh' w w') (hkk : ∀ q, q < k → T'.al q → gh'.h q = (gh.via (rn ρ)).h q) :
    R A (s.backP d (sg ρ k n) (T.map fun p => rn ρ p.1) pv T') (a.put (some d) v) w' := by
  have hal : ∀ q, T.al q → s.tab.al (rn ρ q) := fun q ⟨e, h⟩ => ⟨_, hT.get h⟩
  obtain ⟨c1, c2⟩ := closed_pv hcl
  -- the tags behind
  have hσ : ∀ q, T'.al q → (q < k ∧ T.al q ∧ sg ρ k n q = rn ρ q) ∨ (Fresh s (sg ρ k n q) ∧ A.k0 ≤ sg ρ k n q) := fun q hq => by
    rcases Nat.lt_or_ge q k with h | h
    · exact .inl ⟨h, hk q hq h, by simp only [sg]; rw [show Nat.blt q k = true from Nat.ble_eq_true_of_le h]⟩
    · have e : sg ρ k n q = n + q := by
        simp only [sg]; rw [show Nat.blt q k = false from by
          cases hb : Nat.blt q k with
          | false => rfl
          | true => have := Nat.le_of_ble_eq_true hb; omega]
      rw [e]; exact .inr ⟨hfr q hq h, by omega⟩
  have hσi : ∀ q q', T'.al q → T'.al q' → sg ρ k n q = sg ρ k n q' → q = q' := fun q q' h1 h2 h => dupB_inj hi' h1 h2 h
  generalize hs : sg ρ k n = σ at hσ hσi hi' ⊢
  classical
  let G : Gh := ⟨fun r' => if h : ∃ q, T'.al q ∧ σ q = r' then gh'.h h.choose else gh.h r', fun r' => if h : ∃ q, T'.al q ∧ σ q = r' then gh'.f h.choose else gh.f r', fun g => gh.N g ∨ gh'.N g⟩
  have hG : ∀ q, T'.al q → G.h (σ q) = gh'.h q ∧ G.f (σ q) = gh'.f q := fun q hq => by
    have hex : ∃ q', T'.al q' ∧ σ q' = σ q := ⟨q, hq, rfl⟩
    have e1 : hex.choose = q := hσi _ _ hex.choose_spec.1 hq hex.choose_spec.2
    simp only [G]
    rw [dif_pos hex, dif_pos hex, e1]
    exact ⟨rfl, rfl⟩
  have hG0 : ∀ r', (∀ q, T'.al q → σ q ≠ r') → G.h r' = gh.h r' ∧ G.f r' = gh.f r' := fun r' h => by
    have hnx : ¬ ∃ q, T'.al q ∧ σ q = r' := fun ⟨q, h1, h2⟩ => h q h1 h2
    simp only [G]
    rw [dif_neg hnx, dif_neg hnx]
    exact ⟨rfl, rfl⟩
  let U : Tab := Tab.ren σ T' ++ (tombs (T.map fun p => rn ρ p.1) ++ s.tab)
  have hused : ∀ q, T.al q → rn ρ q ∈ T.map fun p => rn ρ p.1 := fun q hq => al_key hq
  have hU : ∀ r' e, U.ent r' = some e → (∃ q e', T'.ent q = some e' ∧ r' = σ q ∧ e = e'.ren σ) ∨ (s.tab.ent r' = some e ∧ (∀ q, T'.al q → σ q ≠ r') ∧ ∀ q, T.al q → rn ρ q ≠ r') := fun r' e h => by
    rcases ent_ren_any h with h1 | ⟨h1, h2⟩
    · exact .inl h1
    · rw [tombs_ent] at h1
      split at h1
      · cases h1
      · rename_i h3
        exact .inr ⟨h1, h2, fun q hq e => h3 (e ▸ hused q hq)⟩
  have hUa : ∀ r', U.al r' → (∃ q, T'.al q ∧ r' = σ q) ∨ (s.tab.al r' ∧ (∀ q, T'.al q → σ q ≠ r') ∧ ∀ q, T.al q → rn ρ q ≠ r') := fun r' ⟨e, h⟩ => by
    rcases hU r' e h with ⟨q, e', h1, h2, _⟩ | ⟨h1, h2, h3⟩
    · exact .inl ⟨q, ⟨e', h1⟩, h2⟩
    · exact .inr ⟨⟨e, h1⟩, h2, h3⟩
  have kp2 : ∀ r', s.tab.al r' → (∀ q, T.al q → rn ρ q ≠ r') → ∀ g ∈ gh.f r', w'.heap[g]? = w.heap[g]? := fun r' h1 h2 g hg =>
    fr.kp g (r.cx.lt h1 g hg) fun q hq hg' => r.cx.dj _ _ h1 (hal q hq) (fun e => h2 q hq e.symm) g hg hg'
  have kpN : ∀ g, gh.N g → w'.heap[g]? = w.heap[g]? := fun g hN => fr.kp g (r.cx.nl g hN) fun q hq hg => r.cx.no _ (hal q hq) g hg hN
  -- whose block it may be
  have own2 : ∀ q, T'.al q → ∀ g ∈ gh'.f q, w.heap.size ≤ g ∨ ∃ q', T.al q' ∧ g ∈ gh.f (rn ρ q') := fr.ox
  have r2 : Rg A ⟨s.tm, U⟩ G a w' := by
    refine r.step (gh' := G) ⟨fun r' e h => ?_, fun r1 r2 h1 h2 hne g hg hg' => ?_, fun r' h => ?_, fun r' h g hg hN => ?_, fun g hN => ?_⟩ (fun r' h => ?_) (fun g hN => ⟨.inl hN, kpN g hN⟩) fr.gw
      (fun g hg h => fr.kp g hg fun q hq => h _ (hal q hq)) (fun g hN => ?_) fun r' h g hg => ?_
    · rcases hU r' e h with ⟨q, e', h1, rfl, rfl⟩ | ⟨h1, h2, h3⟩
      · refine EntR.ren.2 ((cx.en q e' h1).mono (fun q' hq' _ => ?_) (fun g hg => ⟨.inr hg, rfl⟩) (hG q ⟨e', h1⟩).1 (hG q ⟨e', h1⟩).2 fun _ _ => rfl)
        have h4 := c2 q e' h1 q' hq'
        exact ⟨h4, (hG q' h4).1⟩
      · refine (r.cx.en r' e h1).mono (fun q' hq' hu => ?_) (fun g hN => ⟨.inl hN, kpN g hN⟩) (hG0 r' h2).1 (hG0 r' h2).2 fun g hg => kp2 r' ⟨e, h1⟩ h3 g hg
        rcases hUa q' hu with ⟨q, h4, rfl⟩ | ⟨h4, h5, _⟩
        · rcases hσ q h4 with ⟨h6, h7, h8⟩ | ⟨h6, _⟩
          · rw [(hG q h4).1, hkk q h6 h4]
            exact ⟨h8 ▸ hal q h7, by rw [h8]⟩
          · exact absurd hq' (h6.en r' e h1)
        · exact ⟨h4, (hG0 q' h5).1⟩
    · rcases hUa r1 h1 with ⟨q1, k1, rfl⟩ | ⟨k1, k2, k3⟩ <;> rcases hUa r2 h2 with ⟨q2, l1, rfl⟩ | ⟨l1, l2, l3⟩
      · rw [(hG q1 k1).2] at hg
        rw [(hG q2 l1).2] at hg'
        exact cx.dj q1 q2 k1 l1 (fun e => hne (e ▸ rfl)) g hg hg'
      · rw [(hG q1 k1).2] at hg
        rw [(hG0 r2 l2).2] at hg'
        rcases own2 q1 k1 g hg with h | ⟨q', h, h'⟩
        · have := r.cx.lt l1 g hg'; omega
        · exact r.cx.dj _ _ (hal q' h) l1 (l3 q' h) g h' hg'
      · rw [(hG0 r1 k2).2] at hg
        rw [(hG q2 l1).2] at hg'
        rcases own2 q2 l1 g hg' with h | ⟨q', h, h'⟩
        · have := r.cx.lt k1 g hg; omega
        · exact r.cx.dj _ _ (hal q' h) k1 (k3 q' h) g h' hg
      · rw [(hG0 r1 k2).2] at hg
        rw [(hG0 r2 l2).2] at hg'
        exact r.cx.dj r1 r2 k1 l1 hne g hg hg'
    · rcases hUa r' h with ⟨q1, k1, rfl⟩ | ⟨k1, k2, k3⟩
      · rw [(hG q1 k1).2]; exact cx.nd q1 k1
      · rw [(hG0 r' k2).2]; exact r.cx.nd r' k1
    · rcases hUa r' h with ⟨q1, k1, rfl⟩ | ⟨k1, k2, k3⟩
      · rw [(hG q1 k1).2] at hg
        rcases hN with hN | hN
        · rcases own2 q1 k1 g hg with h | ⟨q', h, h'⟩
          · have := r.cx.nl g hN; omega
          · exact r.cx.no _ (hal q' h) g h' hN
        · exact cx.no q1 k1 g hg hN
      · rw [(hG0 r' k2).2] at hg
        rcases hN with hN | hN
        · exact r.cx.no r' k1 g hg hN
        · rcases fr.nn g hN with h | h | ⟨q', h, h'⟩
          · exact r.cx.no r' k1 g hg h
          · have := r.cx.lt k1 g hg; omega
          · exact r.cx.dj _ _ (hal q' h) k1 (k3 q' h) g h' hg
    · rcases hN with hN | hN
      · exact Nat.lt_of_lt_of_le (r.cx.nl g hN) fr.gw.size
      · exact cx.nl g hN
    · rcases hUa r' h with ⟨q1, k1, rfl⟩ | ⟨k1, k2, k3⟩
      · rcases hσ q1 k1 with ⟨h6, h7, h8⟩ | ⟨h6, h7⟩
        · refine .inl ⟨h8 ▸ hal q1 h7, ?_, fun _ => rfl⟩
          rw [(hG q1 k1).1, hkk q1 h6 k1, h8]
        · exact .inr ⟨h6, h7⟩
      · exact .inl ⟨k1, (hG0 r' k2).1, fun _ => rfl⟩
    · rcases hN with hN | hN
      · exact .inl hN
      · rcases fr.nn g hN with h | h | ⟨q', h, h'⟩
        · exact .inl h
        · exact .inr (.inl h)
        · exact .inr (.inr ⟨_, hal q' h, h', fun hl => r.xn g hl (r.ox _ (hal q' h) g h' hl)⟩)
    · rcases hUa r' h with ⟨q1, k1, rfl⟩ | ⟨k1, k2, k3⟩
      · rw [(hG q1 k1).2] at hg
        rcases own2 q1 k1 g hg with h | ⟨q', h, h'⟩
        · exact .inl h
        · exact .inr ⟨_, hal q' h, h'⟩
      · rw [(hG0 r' k2).2] at hg
        exact .inr ⟨r', k1, hg⟩
  refine ⟨G, ?_⟩
  refine r2.put (Nat.le_of_ble_eq_true hn) (pv := pv.ren σ) ?_
  exact PVR.ren.2 (hp.mono (fun q hq _ => ⟨c1 q hq, (hG q (c1 q hq)).1⟩) fun g hg => ⟨.inr hg, rfl⟩)
theorem Does.callV {o : Oper} {vals : Gh → Act → List Value} (n : Nat) (ρ : List (Nat × Nat)) (hod : o.dst = some d) (hc : FC P f args T k (Is pv T'))
    (hup : ∀ gh a w K Q, Rg A s gh a w → Calls P f (vals gh a).toArray w (fun e w' => match e with | .returned v => K (a.put o.dst v) w' | _ => False) → o.wp P a w K Q)
    (ha : ∀ gh a w, Rg A s gh a w → CmsR s.tab.al gh w (args.map fun c => (c.1, c.2.map (LV.ren (rn ρ)))) (vals gh a)) (hT : HasE s ρ T) (hi : dupB (T.map fun p => rn ρ p.1) = true)
    (hcl : closedB pv T' = true) (hi' : dupB (T'.map fun p => sg ρ k n p.1) = true) (hk : ∀ q, T'.al q → q < k → T.al q) (hfr : ∀ q, T'.al q → k ≤ q → Fresh s (n + q)) (hk0 : A.k0 ≤ n) (hn : Nat.blt d A.n = true) :
    Does A P o s (s.backP d (sg ρ k n) (T.map fun p => rn ρ p.1) pv T') := fun a w K Q r hK => by
  obtain ⟨gh, r⟩ := r
  have hal : ∀ q, T.al q → s.tab.al (rn ρ q) := fun q ⟨e, h⟩ => ⟨_, hT.get h⟩
  have hinj : ∀ q q', T.al q → T.al q' → rn ρ q = rn ρ q' → q = q' := fun q q' h1 h2 h => dupB_inj hi h1 h2 h
  have cx0 : Cx T (gh.via (rn ρ)) w := ⟨fun q e h => (EntR.ren.1 (r.cx.en _ _ (hT.get h))).mono (fun r' _ h' => ⟨hal r' h', rfl⟩) (fun g hg => ⟨hg, rfl⟩) rfl rfl fun _ _ => rfl,
    fun q q' h1 h2 hne => r.cx.dj _ _ (hal q h1) (hal q' h2) fun h => hne (hinj q q' h1 h2 h), fun q h => r.cx.nd _ (hal q h), fun q h => r.cx.no _ (hal q h), r.cx.nl⟩
  have hv := (CmsR.ren.1 (ha gh a w r)).mono (al' := T.al) (gh' := gh.via (rn ρ)) (w' := w) (fun q _ h => ⟨hal q h, rfl⟩) fun g hg => ⟨hg, rfl⟩
  refine hup gh a w K Q r (Calls.mono (hc _ w _ cx0 hv) fun e w' he => ?_)
  obtain ⟨v, pv', T2, gh', rfl, ⟨rfl, rfl⟩, cx, hp, fr, hkk⟩ := he
  refine hK _ _ ?_
  rw [hod]
  exact Rg.backV n ρ r hT hi hcl hi' hk hfr hk0 hn cx hp fr hkk
/-- The tags that are new behind a call. -/
def FrK (s : St) (n k : Nat) : List Nat → Prop
  | [] => True
  | q :: l => (match Nat.blt q k with
    | true => True
    | false => Fresh s (n + q)) ∧ FrK s n k l
theorem FrK.get {n k : Nat} {l : List Nat} (h : FrK s n k l) : ∀ q ∈ l, k ≤ q → Fresh s (n + q) := by
  induction l with
  | nil => simp
  | cons q l ih =>
    intro r hr hk
    rcases List.mem_cons.1 hr with rfl | hr
    · have h1 := h.1
      rw [show Nat.blt r k = false from by
        cases hb : Nat.blt r k with
        | false => rfl
        | true => have := Nat.le_of_ble_eq_true hb; omega] at h1
      exact h1
    · exact ih h.2 r hr hk
def keptB (T T' : Tab) (k : Nat) : Bool := (tabTags T').all fun q => !(Nat.blt q k) || (T.ent q).isSome
theorem Does.callPs (n : Nat) (ρ : List (Nat × Nat)) (hc : FC P f args T k (Is pv T')) (hE : Enters P f) (ha : EvL A s xs (args.map fun c => (c.1, c.2.map (LV.ren (rn ρ))))) (hT : HasE s ρ T) (hi : dupB (T.map fun p => rn ρ p.1) = true)
    (hcl : closedB pv T' = true) (hi' : dupB (T'.map fun p => sg ρ k n p.1) = true) (hk : ∀ q, T'.al q → q < k → T.al q) (hfr : ∀ q, T'.al q → k ≤ q → Fresh s (n + q)) (hk0 : A.k0 ≤ n) (hn : Nat.blt d A.n = true) :
    Does A P ⟨some d, .call ⟨.value (.func f), xs.toArray, tys⟩, ty, pos, af, g⟩ s (s.backP d (sg ρ k n) (T.map fun p => rn ρ p.1) pv T') :=
  Does.callV (vals := fun _ a => xs.map a.eval) n ρ rfl hc (fun _ _ _ _ _ _ h => upon_call hE rfl h) (fun _ _ _ r => ha.cms r) hT hi hcl hi' hk hfr hk0 hn
/-! Function values -/
theorem upon_callF {P : Program} {o : Oper} {f : FuncId} {x0 : Operand} {xs : List Operand} {tys : Array TypeId} {a : Act} {w : World} {K : Act → World → Prop} {Q : Exit → Act → World → Prop} {cs : List Value} (hE : Enters P f) (ho : o.op = .call ⟨.value x0, xs.toArray, tys⟩) (hx : a.eval x0 = .func (.func f) #[] cs.toArray)
    (h : Calls P f (xs.map a.eval ++ cs).toArray w fun e w' => match e with | .returned v => K (a.put o.dst v) w' | _ => False) : o.wp P a w K Q := by
  have e : (execOp a.eval o).run P w = .ok (.enter f (xs.map a.eval ++ cs).toArray) w := by
    unfold execOp
    simp only [ho, resolve, hx, Deferred.ofValue, Go.Sem.run_bind]
    have := hE (xs.map a.eval ++ cs).toArray w
    simpa [invoke] using this
  unfold Oper.wp
  rw [e, Oper.upon_enter]
  refine Calls.mono h fun e w' he => ?_
  cases e <;> first | exact he | exact he.elim
def boxB (T : Tab) (q : Nat) : Bool := match T.ent q with
  | some (.box _ _) => true
  | _ => false
theorem box_ptr {gh : Gh} {w : World} {T : Tab} (cx : Cx T gh w) {q : Nat} (h : boxB T q = true) : T.al q ∧ ∃ g, gh.h q = .pointer (some ⟨g, 0, none⟩) := by
  unfold boxB at h
  cases he : T.ent q with
  | none => rw [he] at h; cases h
  | some e =>
    rw [he] at h
    cases e with
    | box E cs => obtain ⟨g, cur, h1, _⟩ := cx.en q _ he; exact ⟨⟨_, he⟩, g, h1⟩
    | _ => cases h
/-- 'func' with what it captures: pointers to variables. -/
def EvCaps (A : Amb) (s : St) : List Operand → List Nat → Prop
  | [], qs => qs = []
  | x :: xs, qs => ∃ q qs', qs = q :: qs' ∧ Evl A s x (.ptr q 0) ∧ boxB s.tab q = true ∧ EvCaps A s xs qs'
theorem EvCaps.vals {xs : List Operand} {qs : List Nat} (h : EvCaps A s xs qs) {gh : Gh} {a : Act} {w : World} (r : Rg A s gh a w) : xs.map a.eval = qs.map gh.h := by
  induction xs generalizing qs with
  | nil => rw [show qs = [] from h]; rfl
  | cons x xs ih =>
    obtain ⟨q, qs', rfl, h1, h2, h3⟩ := h
    obtain ⟨h4, g, h5⟩ := box_ptr r.cx h2
    obtain ⟨g', h6, h7⟩ := h1 gh a w r h4
    rw [List.map_cons, List.map_cons, ih h3, h7, h6]
theorem Does.makeFunc {cs : List Operand} {qs : List Nat} (hc : EvCaps A s cs qs) (hn : Nat.blt d A.n = true) : Does A P ⟨some d, .makeFunc (.func f) #[] cs.toArray, ty, pos, af, g⟩ s (s.put d (lf (.clo f qs))) :=
  Does.yields rfl hn fun gh a w r => by
    refine ⟨.func (.func f) #[] (qs.map gh.h).toArray, ?_, _, rfl, fun _ => rfl⟩
    simp only [execOp, Instr.makeFunc]
    simp [hc.vals r]
/-- A call of a function value. -/
theorem Does.callF {x0 : Operand} {args0 : List (Bool × List LV)} {caps qs : List Nat} (n : Nat) (ρ : List (Nat × Nat)) (hc : FC P f args T k (Is pv T')) (hE : Enters P f) (h0 : args = args0 ++ caps.map fun q => (false, [.ptr q 0])) (hf : Evl A s x0 (.clo f qs)) (hq : qs = caps.map (rn ρ)) (hb : (caps.all fun q => boxB s.tab (rn ρ q)) = true)
    (ha : EvL A s xs (args0.map fun c => (c.1, c.2.map (LV.ren (rn ρ))))) (hT : HasE s ρ T)
    (hB : (dupB (T.map fun p => rn ρ p.1) && closedB pv T' && dupB (T'.map fun p => sg ρ k n p.1) && keptB T T' k && Nat.blt d A.n) = true) (hfr : FrK s n k (tabTags T')) (hk0 : A.k0 ≤ n) :
    Does A P ⟨some d, .call ⟨.value x0, xs.toArray, tys⟩, ty, pos, af, g⟩ s (s.backP d (sg ρ k n) (T.map fun p => rn ρ p.1) pv T') := by
  simp only [Bool.and_eq_true] at hB
  obtain ⟨⟨⟨⟨h1, h2⟩, h3⟩, h4⟩, h5⟩ := hB
  subst h0 hq
  have hbx : ∀ q ∈ caps, boxB s.tab (rn ρ q) = true := List.all_eq_true.1 hb
  refine Does.callV (vals := fun gh a => xs.map a.eval ++ (caps.map (rn ρ)).map gh.h) n ρ rfl hc (fun gh a w K Q r h => upon_callF hE rfl (hf gh a w r fun q hq => ?_) h) (fun gh a w r => ?_) hT h1 h2 h3 (fun q ⟨e, hq⟩ hk => ?_) (fun q ⟨e, hq⟩ hk => hfr.get q (tabTags_spec hq).1 hk) hk0 h5
  · obtain ⟨q', h6, rfl⟩ := List.mem_map.1 hq
    exact (box_ptr r.cx (hbx q' h6)).1
  · rw [List.map_append]
    have h6 := ha.cms r
    have h7 : CmsR s.tab.al gh w ((caps.map fun q => (false, [.ptr q 0])).map fun c : Bool × List LV => (c.1, c.2.map (LV.ren (rn ρ)))) ((caps.map (rn ρ)).map gh.h) := by
      clear h6 hc hb hf
      induction caps with
      | nil => exact rfl
      | cons q qs ih =>
        obtain ⟨h8, g, h9⟩ := box_ptr r.cx (hbx q (List.mem_cons_self ..))
        exact ⟨_, _, rfl, ⟨_, rfl, fun _ => ⟨g, h9, h9⟩⟩, ih fun q' hq' => hbx q' (List.mem_cons_of_mem _ hq')⟩
    clear hc
    generalize (args0.map fun c => (c.1, c.2.map (LV.ren (rn ρ)))) = L at h6 ⊢
    generalize xs.map a.eval = vs at h6 ⊢
    induction L generalizing vs with
    | nil => rw [show vs = [] from h6]; exact h7
    | cons c cs ih => obtain ⟨v, vs', rfl, h8, h9⟩ := h6; exact ⟨v, _, rfl, h8, ih _ h9⟩
  · have := List.all_eq_true.1 h4 q (tabTags_spec hq).1
    rw [show Nat.blt q k = true from Nat.ble_eq_true_of_le hk] at this
    exact Option.isSome_iff_exists.1 (by simpa using this)
theorem Does.callP (n : Nat) (ρ : List (Nat × Nat)) (hc : FC P f args T k (Is pv T')) (hE : Enters P f) (ha : EvL A s xs (args.map fun c => (c.1, c.2.map (LV.ren (rn ρ))))) (hT : HasE s ρ T)
    (hB : (dupB (T.map fun p => rn ρ p.1) && closedB pv T' && dupB (T'.map fun p => sg ρ k n p.1) && keptB T T' k && Nat.blt d A.n) = true) (hfr : FrK s n k (tabTags T')) (hk0 : A.k0 ≤ n) :
    Does A P ⟨some d, .call ⟨.value (.func f), xs.toArray, tys⟩, ty, pos, af, g⟩ s (s.backP d (sg ρ k n) (T.map fun p => rn ρ p.1) pv T') := by
  simp only [Bool.and_eq_true] at hB
  obtain ⟨⟨⟨⟨h1, h2⟩, h3⟩, h4⟩, h5⟩ := hB
  refine Does.callPs n ρ hc hE ha hT h1 h2 h3 (fun q ⟨e, hq⟩ hk => ?_) (fun q ⟨e, hq⟩ hk => hfr.get q (tabTags_spec hq).1 hk) hk0 h5
  have := List.all_eq_true.1 h4 q (tabTags_spec hq).1
  rw [show Nat.blt q k = true from Nat.ble_eq_true_of_le hk] at this
  exact Option.isSome_iff_exists.1 (by simpa using this)
/-- Own memory read as data. -/
def ThL (s : St) : List LV → List LV → Prop
  | [], ls' => ls' = []
  | l :: ls, ls' => ∃ l' r, ls' = l' :: r ∧ (l = l' ∨ ∃ q E e xs, l = .ref q ∧ s.tab.ent q = some (.arr E e xs) ∧ l' = .dat (.sl E e) xs) ∧ ThL s ls r
theorem LVs.th {gh : Gh} {a : Act} {w : World} (r : Rg A s gh a w) {ls ls' : List LV} {vs : List Value} (h : LVs s.tab.al gh w ls vs) (k : ThL s ls ls') : LVs (fun _ => False) ⟨gh.h, gh.f, fun g => g < w.heap.size⟩ w ls' vs := by
  induction ls generalizing ls' vs with
  | nil => rw [show ls' = [] from k]; exact h
  | cons l ls ih =>
    obtain ⟨v, vs', rfl, h1, h2⟩ := h
    obtain ⟨l', r', rfl, h3, h4⟩ := k
    refine ⟨v, vs', rfl, ?_, ih h2 h4⟩
    rcases h3 with rfl | ⟨q, E, e, xs, rfl, h5, rfl⟩
    · exact h1.mono (fun _ _ h => h.elim) fun g hg => ⟨r.cx.nl g hg, rfl⟩
    · have hv : v = gh.h q := h1 ⟨_, h5⟩
      have hO : Own (.sl E e) w (gh.f q) [gh.h q] xs := r.cx.en q _ h5
      rw [hv]
      exact hO.rd fun g hg => Own.lt hO g hg
theorem Ev.ob {x : Operand} {b : Bool} {ls ls' : List LV} (h : Ev A s x (b, ls)) (k : ThL s ls ls') : EvB A s x (b, ls') := fun gh a w r => by
  have h1 := h gh a w r
  cases b with
  | true => obtain ⟨vs, h2, h3⟩ := h1; exact ⟨vs, h2, h3.th r k⟩
  | false =>
    obtain ⟨l, rfl, h3⟩ := h1
    have h6 : LVs s.tab.al gh w [l] [a.eval x] := ⟨_, [], rfl, h3, rfl⟩
    obtain ⟨l', r', rfl, h4, h5⟩ := k
    have h5 : r' = [] := h5
    subst h5
    obtain ⟨v, vs, h7, h8, _⟩ := h6.th r (ls' := [l']) ⟨l', [], rfl, h4, rfl⟩
    simp only [List.cons.injEq] at h7
    exact ⟨l', rfl, h7.1 ▸ h8⟩
end
end Go.Proofs.YtjaadeknhofhpaaGreat

/- Abstract states: contracts in the elder form (measures, copies, equal data) as contracts over states; from a contract to what the statement asks. No function is named here. -/
namespace Go.Proofs.YtjaadeknhofhpaaGreat
open Go.RowKit

def szv (left : Int) (t : Nat) : Int := if left < t then -1 else left - t
theorem szv_spec (left : Int) (t : Nat) : (left < t ∧ szv left t = -1) ∨ ((t : Int) ≤ left ∧ szv left t = left - t) := by
  unfold szv
  split
  · exact .inl ⟨by assumption, rfl⟩
  · exact .inr ⟨by omega, rfl⟩
theorem SzPost.szv {w w' : World} {l : Int} {t : Nat} {e : Ending} (h : SzPost w l t e w') : e = .returned (.int .i64 (szv l t)) ∧ Nw w w' := by
  obtain ⟨l', rfl, h1, h2⟩ := h
  have h3 := szv_spec l t
  unfold CutTo at h1
  have : l' = Go.Proofs.YtjaadeknhofhpaaGreat.szv l t := by omega
  exact ⟨by rw [this], h2⟩
theorem FC.ofP {P : Program} {f : FuncId} {args : List (Bool × List LV)} {pv : PV} (h : ∀ (gh : Gh) (w : World) (vs : List Value), CmsR (Tab.al []) gh w args vs → Calls P f vs.toArray w fun e w' => ∃ v, e = .returned v ∧ Nw w w' ∧ PVR (Tab.al []) gh w' pv v) : FC P f args [] 0 (Pure pv) := fun gh w vs cx ha =>
  Calls.mono (h gh w vs ha) fun e w' he => by
    obtain ⟨v, rfl, h2, h3⟩ := he
    exact ⟨_, _, [], gh, rfl, ⟨rfl, rfl⟩, tombless al_nil gh w' fun g hg => Nat.lt_of_lt_of_le (cx.nl g hg) h2.size, h3, ⟨h2.grw, fun g hg _ => Below.block h2 g hg, fun g hg => .inl hg, fun q hq => absurd hq (al_nil q)⟩, fun q hq => absurd hq (by omega)⟩
section
variable {al : Nat → Prop} {gh : Gh} {w : World} {t : Ty} {x : t.Den} {cs : List (Bool × List LV)} {vs : List Value}
theorem CmsR.agg_cons (h : CmsR al gh w ((true, leaves t x) :: cs) vs) : ∃ us vs', vs = .agg us.toArray :: vs' ∧ Rep t w us x ∧ CmsR al gh w cs vs' := by
  obtain ⟨v, vs', rfl, ⟨us, rfl, h1⟩, h2⟩ := h
  exact ⟨us, vs', rfl, (LVs.rd h1).rep, h2⟩
theorem CmsR.leaf_cons (h : CmsR al gh w ((false, [.dat t x]) :: cs) vs) : ∃ v vs', vs = v :: vs' ∧ Rep t w [v] x ∧ CmsR al gh w cs vs' := by
  obtain ⟨v, vs', rfl, ⟨l, hl, h1⟩, h2⟩ := h
  simp only [List.cons.injEq, and_true] at hl
  subst hl
  exact ⟨v, vs', rfl, Rd.rep h1, h2⟩
theorem CmsR.nil_ (h : CmsR al gh w [] vs) : vs = [] := h
end
section
variable {P : Program} {f : FuncId} {t : Ty} {x : t.Den}
theorem FC.ofSzA {left : Int} (h : ∀ us w, Rep t w us x → Calls P f #[.agg us.toArray, .int .i64 left] w (SzPost w left (t.tot x))) (h0 : 0 ≤ left) (h1 : left ≤ 1048576) :
    FC P f [(true, leaves t x), (false, [dI left])] [] 0 (Pure (lf (dI (szv left (t.tot x))))) := FC.ofP fun gh w vs ha => by
  obtain ⟨us, vs, rfl, hr, ha⟩ := ha.agg_cons
  obtain ⟨v, vs, rfl, hi, ha⟩ := ha.leaf_cons
  obtain rfl := ha.nil_
  obtain ⟨rfl, _⟩ := Rep.int_ hi
  refine Calls.mono (h us w hr) fun e w' he => ?_
  obtain ⟨rfl, h2⟩ := he.szv
  have := szv_spec left (t.tot x)
  exact ⟨_, rfl, h2, _, rfl, LVR.mkI (by omega)⟩
theorem FC.ofEqA {y : t.Den} (e : x = y) (h : ∀ us vs w, Rep t w us x → Rep t w vs x → Calls P f #[.agg us.toArray, .agg vs.toArray] w (RetTrue w)) :
    FC P f [(true, leaves t x), (true, leaves t y)] [] 0 (Pure (lf (dB true))) := e ▸ FC.ofP fun gh w vs ha => by
  obtain ⟨us, vs, rfl, hr, ha⟩ := ha.agg_cons
  obtain ⟨us2, vs, rfl, hr2, ha⟩ := ha.agg_cons
  obtain rfl := ha.nil_
  refine Calls.mono (h us us2 w hr hr2) fun e w' he => ?_
  obtain ⟨rfl, h2⟩ := he
  exact ⟨_, rfl, h2, _, rfl, LVR.mkB⟩
end

/-! ### A datum's parts as own slices -/
def Ty.sls : Ty → Nat
  | .int => 0
  | .bool => 0
  | .str => 0
  | .u8 => 0
  | .vl => 0
  | .sl _ _ => 1
  | .pr a b => a.sls + b.sls
def oL : (t : Ty) → t.Den → Nat → List LV
  | .int, x, _ => [.dat .int x]
  | .bool, x, _ => [.dat .bool x]
  | .str, x, _ => [.dat .str x]
  | .u8, x, _ => [.dat .u8 x]
  | .vl, x, _ => [.dat .vl x]
  | .sl _ _, _, n => [.ref n]
  | .pr a b, x, n => oL a x.1 n ++ oL b x.2 (n + a.sls)
def oT : (t : Ty) → t.Den → Nat → Tab
  | .int, _, _ => []
  | .bool, _, _ => []
  | .str, _, _ => []
  | .u8, _, _ => []
  | .vl, _, _ => []
  | .sl E e, xs, n => [(n, some (.arr E e xs))]
  | .pr a b, x, n => oT a x.1 n ++ oT b x.2 (n + a.sls)
theorem oL_tags : ∀ (t : Ty) (x : t.Den) (n q : Nat), q ∈ lvsTags (oL t x n) → n ≤ q ∧ q < n + t.sls
  | .int, _, _, _, h => by cases h
  | .bool, _, _, _, h => by cases h
  | .str, _, _, _, h => by cases h
  | .u8, _, _, _, h => by cases h
  | .vl, _, _, _, h => by cases h
  | .sl _ _, _, n, q, h => by
    have : q = n := by simpa [oL, lvsTags, LV.tags] using h
    subst this
    exact ⟨Nat.le_refl _, Nat.lt_succ_self _⟩
  | .pr a b, x, n, q, h => by
    rw [oL, lvsTags_app] at h
    rcases List.mem_append.1 h with h | h
    · have := oL_tags a x.1 n q h; simp only [Ty.sls]; omega
    · have := oL_tags b x.2 _ q h; simp only [Ty.sls]; omega
theorem entApp {A B : Tab} {q : Nat} {e : Ent} (h : Tab.ent (A ++ B) q = some e) : A.ent q = some e ∨ B.ent q = some e := by
  induction A with
  | nil => exact .inr h
  | cons x A ih =>
    obtain ⟨j, o⟩ := x
    rw [List.cons_append, Tab.ent_cons] at h
    rw [Tab.ent_cons]
    by_cases e1 : q = j
    · rw [if_pos e1] at h ⊢; exact .inl h
    · rw [if_neg e1] at h ⊢; exact ih h
/-- hh, ff: what the tags from n on stand for, where the parts of x lie. -/
structure Parts (t : Ty) (w : World) (fp : List Nat) (cs : List Value) (x : t.Den) (n : Nat) (hh : Nat → Value) (ff : Nat → List Nat) : Prop where
  lv : ∀ (al : Nat → Prop) (N : Nat → Prop), LVs al ⟨hh, ff, N⟩ w (oL t x n) cs
  rg : ∀ q e, (oT t x n).ent q = some e → n ≤ q ∧ q < n + t.sls ∧ (∃ E' e' xs, e = .arr E' e' xs ∧ Own (.sl E' e') w (ff q) [hh q] xs) ∧ (∀ g ∈ ff q, g ∈ fp) ∧ (ff q).Nodup
  dj : ∀ q q', (oT t x n).al q → (oT t x n).al q' → q ≠ q' → ∀ g ∈ ff q, g ∉ ff q'
theorem parts_flat {t : Ty} {w : World} {cs : List Value} {x : t.Den} {n : Nat} (fp : List Nat) (hr : Rep t w cs x) (hf : t.flat = true) (h1 : ∀ y m, oL t y m = leaves t y) (h2 : ∀ y m, oT t y m = []) : Parts t w fp cs x n (fun _ => undef) fun _ => [] where
  lv al N := by rw [h1]; exact (Rep.rd0 (N := N) (w' := w) hr hf).leaves
  rg q e h := by rw [h2] at h; cases h
  dj q q' h := by rw [h2] at h; exact absurd h (al_nil q)
theorem Own.parts : ∀ {t : Ty} {w : World} {fp : List Nat} {cs : List Value} {x : t.Den} (n : Nat), Own t w fp cs x → fp.Nodup → ∃ hh ff, Parts t w fp cs x n hh ff
  | .int, _, fp, _, _, _, h, _ => ⟨_, _, parts_flat fp h.rep rfl (fun _ _ => rfl) fun _ _ => rfl⟩
  | .bool, _, fp, _, _, _, h, _ => ⟨_, _, parts_flat fp h.rep rfl (fun _ _ => rfl) fun _ _ => rfl⟩
  | .str, _, fp, _, _, _, h, _ => ⟨_, _, parts_flat fp h.rep rfl (fun _ _ => rfl) fun _ _ => rfl⟩
  | .u8, _, fp, _, _, _, h, _ => ⟨_, _, parts_flat fp h.rep rfl (fun _ _ => rfl) fun _ _ => rfl⟩
  | .vl, _, fp, _, _, _, h, _ => ⟨_, _, parts_flat fp h.rep rfl (fun _ _ => rfl) fun _ _ => rfl⟩
  | .sl E e, w, fp, cs, xs, n, h, hd => by
    have hl := h.len
    match cs, hl with
    | [v], _ =>
      refine ⟨fun _ => v, fun _ => fp, ⟨fun al N => ⟨v, [], rfl, fun _ => rfl, rfl⟩, fun q e' he => ?_, fun q q' h1 h2 hne => ?_⟩⟩
      · rw [oT, Tab.ent_cons] at he
        by_cases e1 : q = n
        · rw [if_pos e1] at he
          cases he
          exact ⟨by omega, by simp only [Ty.sls]; omega, ⟨_, _, _, rfl, h⟩, fun g hg => hg, hd⟩
        · rw [if_neg e1] at he; cases he
      · exact absurd (own1_al' h1 |>.trans (own1_al' h2).symm) hne
  | .pr a b, w, fp, cs, x, n, h, hd => by
    obtain ⟨f1, f2, l, r, rfl, rfl, h1, h2⟩ := h
    obtain ⟨d1, d2, d3⟩ := List.nodup_append.1 hd
    obtain ⟨ha, fa, pa⟩ := Own.parts n h1 d1
    obtain ⟨hb, fb, pb⟩ := Own.parts (n + a.sls) h2 d2
    have ea : ∀ q, q < n + a.sls → (if q < n + a.sls then ha q else hb q) = ha q ∧ (if q < n + a.sls then fa q else fb q) = fa q := fun q h => ⟨if_pos h, if_pos h⟩
    have eb : ∀ q, n + a.sls ≤ q → (if q < n + a.sls then ha q else hb q) = hb q ∧ (if q < n + a.sls then fa q else fb q) = fb q := fun q h => ⟨if_neg (by omega), if_neg (by omega)⟩
    refine ⟨fun q => if q < n + a.sls then ha q else hb q, fun q => if q < n + a.sls then fa q else fb q, ⟨fun al N => ?_, fun q e he => ?_, fun q q' k1 k2 hne => ?_⟩⟩
    · exact LVs.app ((pa.lv al N).mono (fun q hq k => ⟨k, (ea q (oL_tags a x.1 n q hq).2).1⟩) fun g hg => ⟨hg, rfl⟩) ((pb.lv al N).mono (fun q hq k => ⟨k, (eb q (oL_tags b x.2 _ q hq).1).1⟩) fun g hg => ⟨hg, rfl⟩)
    · rcases entApp he with he | he
      · obtain ⟨k1, k2, k3, k4, k5⟩ := pa.rg q e he
        refine ⟨k1, by simp only [Ty.sls]; omega, ?_, ?_, ?_⟩
        · rw [(ea q k2).1, (ea q k2).2]; exact k3
        · rw [(ea q k2).2]; exact fun g hg => List.mem_append_left _ (k4 g hg)
        · rw [(ea q k2).2]; exact k5
      · obtain ⟨k1, k2, k3, k4, k5⟩ := pb.rg q e he
        refine ⟨by omega, by simp only [Ty.sls]; omega, ?_, ?_, ?_⟩
        · rw [(eb q k1).1, (eb q k1).2]; exact k3
        · rw [(eb q k1).2]; exact fun g hg => List.mem_append_right _ (k4 g hg)
        · rw [(eb q k1).2]; exact k5
    · obtain ⟨e, k1⟩ := k1
      obtain ⟨e', k2⟩ := k2
      rcases entApp k1 with k1 | k1 <;> rcases entApp k2 with k2 | k2
      · obtain ⟨_, p2, _, p4, _⟩ := pa.rg q e k1
        obtain ⟨_, q2, _, q4, _⟩ := pa.rg q' e' k2
        rw [(ea q p2).2, (ea q' q2).2]
        exact pa.dj q q' ⟨_, k1⟩ ⟨_, k2⟩ hne
      · obtain ⟨_, p2, _, p4, _⟩ := pa.rg q e k1
        obtain ⟨q2, _, _, q4, _⟩ := pb.rg q' e' k2
        rw [(ea q p2).2, (eb q' q2).2]
        exact fun g h1 h2 => d3 _ (p4 g h1) _ (q4 g h2) rfl
      · obtain ⟨p2, _, _, p4, _⟩ := pb.rg q e k1
        obtain ⟨_, q2, _, q4, _⟩ := pa.rg q' e' k2
        rw [(eb q p2).2, (ea q' q2).2]
        exact fun g h1 h2 => d3 _ (q4 g h2) _ (p4 g h1) rfl
      · obtain ⟨p2, _, _, p4, _⟩ := pb.rg q e k1
        obtain ⟨q2, _, _, q4, _⟩ := pb.rg q' e' k2
        rw [(eb q p2).2, (eb q' q2).2]
        exact pb.dj q q' ⟨_, k1⟩ ⟨_, k2⟩ hne
where
  own1_al' {E : TypeId} {e : Ty} {zs : List e.Den} {q n : Nat} (h : Tab.al [(n, some (.arr E e zs))] q) : q = n := by
    obtain ⟨e', h⟩ := h
    rw [Tab.ent_cons] at h
    by_cases h1 : q = n
    · exact h1
    · rw [if_neg h1] at h; cases h
section
variable {P : Program} {f : FuncId} {t : Ty} {x : t.Den} {args : List (Bool × List LV)}
/-- A call that answers a struct in new memory. -/
theorem FC.ofOwnA (h : ∀ (gh : Gh) (w : World) (vs : List Value), CmsR (Tab.al []) gh w args vs → Calls P f vs.toArray w fun e w' => ∃ cs, e = .returned (.agg cs.toArray) ∧ Frs t w.heap.size w'.heap.size w' cs x ∧ Nw w w') :
    FC P f args [] 0 (Is (ag (oL t x 0)) (oT t x 0)) := fun gh w vs cx ha =>
  Calls.mono (h gh w vs ha) fun e w' he => by
    obtain ⟨cs, rfl, ⟨fp, h1, h2, h3⟩, h4⟩ := he
    obtain ⟨hh, ff, p⟩ := h1.parts 0 h2
    refine ⟨_, _, oT t x 0, ⟨hh, ff, gh.N⟩, rfl, ⟨rfl, rfl⟩, ⟨fun q e he => ?_, p.dj, fun q hq => ?_, fun q hq g hg hn => ?_, fun g hg => Nat.lt_of_lt_of_le (cx.nl g hg) h4.size⟩, ⟨cs, rfl, p.lv _ _⟩,
      ⟨h4.grw, fun g hg _ => Below.block h4 g hg, fun g hg => .inl hg, fun q hq g hg => ?_⟩, fun q hq => absurd hq (by omega)⟩
    · obtain ⟨_, _, ⟨E', e', xs, rfl, k⟩, _⟩ := p.rg q e he
      exact k
    · obtain ⟨e, he⟩ := hq
      exact (p.rg q e he).2.2.2.2
    · obtain ⟨e, he⟩ := hq
      have k1 := (h3 g ((p.rg q e he).2.2.2.1 g hg)).1
      have k2 := cx.nl g hn
      omega
    · obtain ⟨e, he⟩ := hq
      exact .inl (h3 g ((p.rg q e he).2.2.2.1 g hg)).1
end

/-! ### From a contract to a call -/
def gh0 (w : World) : Gh := ⟨fun _ => undef, fun _ => [], fun g => g < w.heap.size⟩
theorem CmsR.nil0 {al : Nat → Prop} {gh : Gh} {w : World} : CmsR al gh w [] [] := rfl
theorem CmsR.mkA {al : Nat → Prop} {w : World} {t : Ty} {x : t.Den} {us vs : List Value} {cs : List (Bool × List LV)} (h : Rep t w us x) (k : CmsR al (gh0 w) w cs vs) : CmsR al (gh0 w) w ((true, leaves t x) :: cs) (.agg us.toArray :: vs) :=
  ⟨_, _, rfl, ⟨us, rfl, (h.rd fun _ hg => hg).leaves⟩, k⟩
theorem CmsR.mkL {al : Nat → Prop} {w : World} {t : Ty} {x : t.Den} {v : Value} {vs : List Value} {cs : List (Bool × List LV)} (h : Rep t w [v] x) (k : CmsR al (gh0 w) w cs vs) : CmsR al (gh0 w) w ((false, [.dat t x]) :: cs) (v :: vs) :=
  ⟨_, _, rfl, ⟨_, rfl, h.rd fun _ hg => hg⟩, k⟩
theorem FC.calls {P : Program} {f : FuncId} {args : List (Bool × List LV)} {b : Bool} (h : FC P f args [] 0 (Pure (lf (dB b)))) {w : World} {vs : List Value} (ha : CmsR (Tab.al []) (gh0 w) w args vs) :
    Calls P f vs.toArray w fun e w' => e = .returned (.bool b) ∧ Nw w w' :=
  Calls.mono (h (gh0 w) w vs (tombless al_nil _ _ fun _ hg => hg) ha) fun e w' he => by
    obtain ⟨v, pv, T', gh', rfl, ⟨rfl, rfl⟩, _, ⟨l, hl, hp⟩, fr, _⟩ := he
    simp only [List.cons.injEq, and_true] at hl
    subst hl
    exact ⟨by rw [LVR.bool hp], ⟨fr.gw.os, fr.gw.tape, fr.gw.output, fr.gw.size, fun g hg => fr.kp g hg fun q hq => absurd hq (al_nil q)⟩⟩
end Go.Proofs.YtjaadeknhofhpaaGreat
