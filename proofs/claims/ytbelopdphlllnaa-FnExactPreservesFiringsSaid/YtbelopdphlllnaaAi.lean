/- Abstract states: bytes and strings turned into each other. No program is named here. -/
import Derived.Test.YtbelopdphlllnaaAh
namespace Go.Proofs.Ytbelopdphlllnaa
open Go.RowKit

section
variable {A : Amb} {P : Program} {s : St} {x y : Operand} {d : Nat} {T T' ty : TypeId} {pos : String} {af : Array Edge} {g : Option (Nat × Bool)}
variable {T' E : TypeId}
theorem run_nil_string (w : World) (T T' E : TypeId) (c : Nat) (hs : P.underlying T = some (.slice E)) (he : P.underlying E = some (.int .u8)) (hd : P.underlying T' = some .string) :
    (convert T T' (.slice none 0 c)).run P w = .ok (.string ByteArray.empty) w := by
  rw [run_convert_bytes_string w T T' E none 0 c hs he hd]
  simp [Conv.bytesToString, Go.Sem.run_pure]
theorem bytes_string {ys : List UInt8} {a : Act} {w : World} (hy : Rep (.sl E .u8) w [a.eval x] ys) (hs : P.underlying T = some (.slice E)) (he : P.underlying E = some (.int .u8)) (hd : P.underlying T' = some .string) :
    (convert T T' (a.eval x)).run P w = .ok (.string ⟨ys.toArray⟩) w := by
  obtain ⟨B, c, hv, h1, h2⟩ := hy.slv
  rw [hv] at hy ⊢
  cases ys with
  | nil =>
    cases B with
    | none => exact run_nil_string w T T' E c hs he hd
    | some b => exact run_convert_bytes_back w T T' E b c [] hs he hd (by simp)
  | cons z zs =>
    obtain ⟨b, o, ds, rfl, _, _⟩ := hy.at_ (i := 0) (x := z) rfl
    refine run_convert_bytes_back w T T' E ⟨b, o, none⟩ c (z :: zs) hs he hd fun j hj => ?_
    obtain ⟨b', o', ds, e1, e2, e3⟩ := hy.at_ (List.getElem?_eq_getElem hj)
    simp only [Option.some.injEq, Addr.mk.injEq] at e1
    obtain ⟨rfl, rfl, _⟩ := e1
    have e4 : ds = _ := e2
    have := e3 0 _ (by rw [e4]; rfl)
    have e5 : (⟨b, o, none⟩ : Addr).add j = ⟨b, o + j * Ty.u8.wd + 0, none⟩ := by rw [Addr.add_lit]; simp [Ty.wd]
    rw [e5]; exact this
theorem Does.ofBytes {ys : List UInt8} (hy : RepEv A s x (.sl E .u8) ys) (hs : P.underlying T = some (.slice E)) (he : P.underlying E = some (.int .u8)) (hd : P.underlying T' = some .string) (hn : Nat.blt d A.n = true) :
    Does A P ⟨some d, .convert T T' x, ty, pos, af, g⟩ s (s.put d (lf (dS ⟨ys.toArray⟩))) :=
  Does.yields rfl hn fun gh a w r => by
    have h := hy gh a w r
    obtain ⟨B, c, hv, h1, h2⟩ := h.slv
    refine ⟨_, ?_, _, rfl, LVR.mkS (x := ⟨ys.toArray⟩) ?_⟩
    · simp only [execOp, Go.Sem.run_bind]
      rw [bytes_string h hs he hd]
      rfl
    · show ys.toArray.size ≤ maxLen
      simp; omega
/-! Byte rows of one's own -/
theorem Rg.drewR {gh : Gh} {a : Act} {w : World} (r : Rg A s gh a w) : Rg A s gh a w.drew :=
  r.step (T := s.tab) ⟨fun q e h => (r.cx.en q e h).mono (fun _ _ h => ⟨h, rfl⟩) (fun g hg => ⟨hg, rfl⟩) rfl rfl (fun _ _ => rfl), r.cx.dj, r.cx.nd, r.cx.no, r.cx.nl⟩ (fun q h => .inl ⟨h, rfl, fun _ => rfl⟩) (fun g h => ⟨h, rfl⟩) ⟨rfl, rfl, rfl, Nat.le_refl _⟩
    (fun _ _ _ => rfl) (fun g h => .inl h) (fun q h g hg => .inr ⟨q, h, hg⟩)
theorem Does.toBytes (t : Nat) {b : ByteArray} (hx : Evl A s x (dS b)) (hs : P.underlying T = some .string) (hd : P.underlying T' = some (.slice E)) (he : P.underlying E = some (.int .u8)) (hn : Nat.blt d A.n = true) (hfr : Fresh s t) (hk0 : A.k0 ≤ t) :
    Does A P ⟨some d, .convert T T' x, ty, pos, af, g⟩ s (s.new d t (.ref t) (.bys E b.toList)) := fun a w K Q r hK => by
  obtain ⟨gh, r⟩ := r
  have hv : Rep .str w [a.eval x] b := Rd.rep (hx gh a w r)
  obtain ⟨hv1, hv2⟩ := hv
  simp only [List.cons.injEq, and_true] at hv1
  have hbl : b.toList.length = b.size := by simp [ByteArray.toList_eq]
  have e : (execOp a.eval ⟨some d, .convert T T' x, ty, pos, af, g⟩).run P w = .ok (.value (.slice (some ⟨w.heap.size, 0, none⟩) b.size (grownCap w b.size 0 E))) (w.drew.alloc (.cells (bytesRow b (grownCap w b.size 0 E)) E ((bytesRow b (grownCap w b.size 0 E)).size, (bytesRow b (grownCap w b.size 0 E)).size + 1))) := by
    simp only [execOp, hv1, Go.Sem.run_bind, run_bytes_of_string w T T' E b hs hd he]
    simp
  unfold Oper.wp
  rw [e, Oper.upon_value]
  have hc1 := grownCap_ge w b.size 0 E
  have hc2 := grownCap_le_maxLen w b.size 0 E hv2
  refine hK _ _ ⟨_, (r.drewR.grow t hfr hk0 _ (.slice (some ⟨w.heap.size, 0, none⟩) b.size (grownCap w b.size 0 E)) [w.heap.size] (.bys E b.toList) (by simp) (by simp) (by simp [Ent.tags]) ?_).put (Nat.le_of_ble_eq_true hn) (pv := lf (.ref t)) ⟨_, rfl, fun _ => by simp⟩⟩
  refine ⟨w.heap.size, grownCap w b.size 0 E, bytesRow b (grownCap w b.size 0 E), by simp [hbl], by simp, ⟨_, heap_alloc_new w.drew _, .inr rfl⟩, by omega, hc2, ?_, ?_⟩
  · simp only [bytesRow, Array.size_append, Array.size_map, Array.size_replicate]
    show b.size + _ = _
    omega
  · simp only [bytesRow, Array.toList_append, Array.toList_map]
    rw [List.take_append_of_le_length (by simp [hbl]), List.take_of_length_le (by simp [hbl]), ByteArray.toList_eq]
theorem bys_row {gh : Gh} {a : Act} {w : World} (r : Rg A s gh a w) {q : Nat} {l : List UInt8} (he : s.tab.ent q = some (.bys E l)) : ∃ g cap cur, gh.h q = .slice (some ⟨g, 0, none⟩) l.length cap ∧ gh.f q = [g] ∧ Row w g cur E ∧ l.length ≤ cap ∧ cap ≤ maxLen ∧ cur.size = cap ∧ cur.toList.take l.length = l.map fun b => Value.int .u8 b.toNat :=
  r.cx.en q _ he
theorem bys_cell {cur : Array Value} {l : List UInt8} (h : cur.toList.take l.length = l.map fun b => Value.int .u8 b.toNat) {i : Nat} {z : UInt8} (hz : l[i]? = some z) : cur[i]? = some (.int .u8 z.toNat) := by
  have h1 : (cur.toList.take l.length)[i]? = some (.int .u8 z.toNat) := by rw [h, List.getElem?_map, hz]; rfl
  rw [List.getElem?_take] at h1
  split at h1
  · simpa using h1
  · cases h1
theorem Does.indexB {q : Nat} {l : List UInt8} {E' : TypeId} {i : Int} {bb : Bool} (hx : Evl A s x (.ref q)) (he : s.tab.ent q = some (.bys E l)) (hy : Evl A s y (dI i)) (hT : P.underlying T = some (.slice E')) (hE : tsh P E' = some (bb, 1)) (hn : Nat.blt d A.n = true)
    (h0 : 0 ≤ i) (h1 : i < l.length) : Does A P ⟨some d, .indexAddr T x y, ty, pos, af, g⟩ s (s.put d (lf (.ept q 1 i.toNat 0))) :=
  Does.yields rfl hn fun gh a w r => by
    have hi := hy.i r
    have hv : a.eval x = gh.h q := hx gh a w r ⟨_, he⟩
    obtain ⟨b, cap, cur, h2, h3, h4, h5, h6, h7, h8⟩ := bys_row r he
    refine ⟨.pointer (some ⟨b, 0 + i.toNat * 1, none⟩), ?_, _, rfl, fun _ => ⟨b, l.length, cap, h2, by simp⟩⟩
    simp only [execOp, hv, h2, hi, Go.Sem.run_bind, run_indexAt hT hE h0 h1]
    simp
theorem Does.loadB {q i n : Nat} {l : List UInt8} {z : UInt8} (hx : Evl A s x (.ept q 1 i 0)) (he : s.tab.ent q = some (.bys E l)) (hz : l[i]? = some z) (hT : tsh P T = some (false, n)) (hn : Nat.blt d A.n = true) :
    Does A P ⟨some d, .load T x, ty, pos, af, g⟩ s (s.put d (lf (.dat .u8 z))) :=
  Does.yields rfl hn fun gh a w r => by
    obtain ⟨g, m, c, h1, h2⟩ := hx gh a w r ⟨_, he⟩
    obtain ⟨b, cap, cur, k1, k2, k3, k4, k5, k6, k7⟩ := bys_row r he
    rw [h1] at k1
    simp only [Value.slice.injEq, Option.some.injEq, Addr.mk.injEq, and_true] at k1
    obtain ⟨rfl, rfl, rfl⟩ := k1
    refine ⟨.int .u8 z.toNat, ?_, _, rfl, Own.rd (w := w) (N := gh.N) (t := .u8) (fp := []) ⟨rfl, rfl⟩ (by simp)⟩
    have hc : w.cell? ⟨g, i * 1 + 0, none⟩ = some (.int .u8 z.toNat) := by rw [k3.cell, Nat.mul_one, Nat.add_zero]; exact bys_cell k7 hz
    simp only [execOp, h2, Instr.loadAt, Instr.sureAddr, Go.Sem.run_bind, Go.Sem.run_pure, Result.andThen_ok, run_loadVar_one hT _ _ hc]
theorem run_storeOne {w : World} {b o : Nat} {v u : Value} (hT : tsh P T = some (false, 1)) (hv : v.cells = #[v]) (h1 : v.oneCell' = true) (hc : w.cell? ⟨b, o, none⟩ = some u) (hf : w.frozen? ⟨b, o, none⟩ = false) :
    (storeVar T ⟨b, o, none⟩ v).run P w = .ok () (w.setCell ⟨b, o, none⟩ v) := by
  simp only [storeVar, Go.Sem.run_bind, run_sizeOf hT, Result.andThen_ok, hv]
  simp [storeCells, Go.Sem.run_bind, Addr.add_lit, run_store P w _ v .plain h1, stored, hc, hf, Result.andThen_ok]
theorem Does.storeB {q i : Nat} {l : List UInt8} {z : UInt8} (hx : Evl A s x (.ept q 1 i 0)) (he : s.tab.ent q = some (.bys E l)) (hi : i < l.length) (hy : Evl A s y (.dat .u8 z)) (hT : tsh P T = some (false, 1)) :
    Does A P ⟨none, .store T x y, ty, pos, af, g⟩ s ⟨s.tm, (q, some (.bys E (l.set i z))) :: s.tab⟩ := fun a w K Q r hK => by
  obtain ⟨gh, r⟩ := r
  obtain ⟨g, m, c, h1, h2⟩ := hx gh a w r ⟨_, he⟩
  obtain ⟨b, cap, cur, k1, k2, k3, k4, k5, k6, k7⟩ := bys_row r he
  rw [h1] at k1
  simp only [Value.slice.injEq, Option.some.injEq, Addr.mk.injEq, and_true] at k1
  obtain ⟨rfl, rfl, rfl⟩ := k1
  have hv : Rep .u8 w [a.eval y] z := Rd.rep (hy gh a w r)
  have hv : [a.eval y] = [.int .u8 z.toNat] := hv
  simp only [List.cons.injEq, and_true] at hv
  have hlt : i < cur.size := by omega
  have hc : w.cell? ⟨g, i, none⟩ = some cur[i] := by rw [k3.cell]; simp [hlt]
  have hf := k3.soft hlt
  have e0 : (execOp a.eval ⟨none, .store T x y, ty, pos, af, ‹_›⟩).run P w = .ok .skip (w.setCell ⟨g, i, none⟩ (.int .u8 z.toNat)) := by
    have h3 := run_storeOne (P := P) (w := w) (b := g) (o := i) (v := .int .u8 z.toNat) hT rfl rfl hc hf
    simp only [execOp, h2, hv, Instr.storeAt, Instr.sureAddr, Go.Sem.run_bind, Go.Sem.run_pure, Result.andThen_ok, Nat.mul_one, Nat.add_zero, h3]
  unfold Oper.wp
  rw [e0, Oper.upon_skip]
  obtain ⟨f, p1, p2⟩ := k3
  obtain ⟨cur', m1, m2, m3⟩ := puts_row g E f [.int .u8 z.toNat] w i cur p1 (by simp; omega)
  refine hK _ _ ⟨gh, r.mod he (puts_grw w g i [.int .u8 z.toNat]) (fun g0 _ hg0 => puts_other w g i [.int .u8 z.toNat] g0 fun h => hg0 (by rw [k2, h]; simp)) ⟨g, c, cur', by simpa using h1, k2, ⟨f, m1, by rw [m2]; exact p2⟩, by simpa using k4, k5, m2.trans k6, ?_⟩⟩
  rw [m3, List.length_set]
  have e1 : l.map (fun b => Value.int .u8 b.toNat) = cur.toList.take l.length := k7.symm
  rw [List.map_set, e1]
  apply List.ext_getElem?
  intro j
  have hcl : cur.toList.length = cur.size := by simp
  rw [List.getElem?_set, List.getElem?_take, List.length_take]
  by_cases hj : j < l.length
  · rw [if_pos hj]
    by_cases e2 : i = j
    · subst e2
      rw [if_pos rfl, if_pos (by omega), List.append_assoc, List.getElem?_append_right (by simp [List.length_take]; omega)]
      simp [List.length_take, Nat.min_eq_left (show i ≤ cur.size by omega)]
    · rw [if_neg e2, List.getElem?_take, if_pos hj]
      rcases Nat.lt_or_gt_of_ne e2 with h | h
      · rw [List.append_assoc, List.getElem?_append_right (by rw [List.length_take]; omega), List.length_take, List.getElem?_append_right (by simp; omega), List.getElem?_drop]
        congr 1
        simp
        omega
      · rw [List.append_assoc, List.getElem?_append_left (by rw [List.length_take]; omega), List.getElem?_take, if_pos h]
  · rw [if_neg hj, if_neg (by omega), List.getElem?_take, if_neg hj]
theorem Evl.repB {q : Nat} {l : List UInt8} (h : Evl A s x (.ref q)) (he : s.tab.ent q = some (.bys E l)) : RepEv A s x (.sl E .u8) l := fun gh a w r => by
  rw [show a.eval x = gh.h q from h gh a w r ⟨_, he⟩]
  obtain ⟨g, cap, cur, k1, k2, k3, k4, k5, k6, k7⟩ := bys_row r he
  rw [k1]
  refine ⟨_, cap, rfl, k4, k5, fun _ => ⟨g, 0, rfl, fun i z hz => ⟨[.int .u8 z.toNat], rfl, fun j u hu => ?_⟩⟩⟩
  cases j with
  | zero =>
    obtain rfl : Value.int .u8 z.toNat = u := by simpa using hu
    rw [k3.cell]
    simpa [Ty.wd] using bys_cell k7 hz
  | succ j => simp at hu
end
end Go.Proofs.Ytbelopdphlllnaa
