/- Walks over abstract states: orderings added to a graph. -/
import Derived.Test.YtnakmhfjafecpaaGreatWa
import Derived.Test.YtnakmhfjafecpaaGreatApp
import Derived.Test.YtnakmhfjafecpaaGreatAk
set_option linter.unusedSimpArgs false
set_option linter.unusedVariables false
set_option linter.unusedSectionVars false
namespace Go.Proofs.YtnakmhfjafecpaaGreat
open Go.RowKit
set_option maxRecDepth 100000
set_option maxHeartbeats 4000000

theorem len5 {us : List Value} (h : us.length = 5) : ∃ a0 a1 a2 a3 a4, us = [a0, a1, a2, a3, a4] := by
  match us, h with
  | [a0, a1, a2, a3, a4], _ => exact ⟨_, _, _, _, _, rfl⟩
theorem retB_dec {p : Prop} [Decidable p] {w : World} {e : Ending} {w' : World} (h : RetB p w e w') : RetB (decide p = true) w e w' := by
  obtain ⟨b, h1, h2, h3⟩ := h
  exact ⟨b, h1, by rw [h2, decide_eq_true_eq], h3⟩
theorem fc_impl_IsValidSTG (s : DSTG) [Decidable (StgOk s)] : FC Tryz.prog 190 [(true, leaves tSTG s)] [] 0 (Pure (lf (dB (decide (StgOk s))))) := FC.ofB fun gh w vs h => by
  obtain ⟨us, rfl, hr⟩ := h.agg1
  obtain ⟨a0, a1, a2, a3, a4, rfl⟩ := len5 hr.len
  exact (IsValidSTG_any a0 a1 a2 a3 a4 s w hr).mono fun _ _ h => retB_dec h
theorem fc_spec_l2Good (s : DSTG) [Decidable (StgOk s)] : FC Tryz.prog 106 [(true, leaves tSTG s)] [] 0 (Pure (lf (dB (decide (StgOk s))))) := FC.ofB fun gh w vs h => by
  obtain ⟨us, rfl, hr⟩ := h.agg1
  obtain ⟨a0, a1, a2, a3, a4, rfl⟩ := len5 hr.len
  exact (l2Good_any a0 a1 a2 a3 a4 s w hr).mono fun _ _ h => retB_dec h
/-- An ordering put in. -/
def addT (ts : List DTransition) (a b : Nat) (p : Int) : List DTransition := (ts.modify a fun t => (t.1, t.2 ++ [p])).modify b fun t => (t.1 ++ [p], t.2)
def bitS (b : Bool) : ByteArray := ⟨#[if b then 49 else 48]⟩
def addOrd (s : DSTG) (o : DOrdering) : DSTG := ((s.1.1 + 1, addT s.1.2 o.1.toNat o.2.1.toNat s.1.1), s.2.1, s.2.2.1, s.2.2.2 ++ bitS o.2.2)
theorem cells_at {ts : List DTransition} {i : Nat} {x : DTransition} (h : ts[i]? = some x) : (cellsL tTransition ts)[i * 2 + 1]? = some (.dat (.sl 3 .int) x.2) ∧ (cellsL tTransition ts)[i * 2 + 0]? = some (.dat (.sl 3 .int) x.1) :=
  ⟨cellsL_get (e := tTransition) (j := 1) h rfl, cellsL_get (e := tTransition) (j := 0) h rfl⟩
theorem cells_set1 {ts : List DTransition} {i : Nat} {x : DTransition} {ys : List Int} (h : ts[i]? = some x) : (cellsL tTransition ts).set (i * 2 + 1) (.dat (.sl 3 .int) ys) = cellsL tTransition (ts.set i (x.1, ys)) :=
  (cellsL_set (e := tTransition) (j := 1) (x' := (x.1, ys)) h rfl (by decide)).symm
theorem cells_set0 {ts : List DTransition} {i : Nat} {x : DTransition} {ys : List Int} (h : ts[i]? = some x) : (cellsL tTransition ts).set (i * 2 + 0) (.dat (.sl 3 .int) ys) = cellsL tTransition (ts.set i (ys, x.2)) :=
  (cellsL_set (e := tTransition) (j := 0) (x' := (ys, x.2)) h rfl (by decide)).symm
theorem addT_set {ts : List DTransition} {a b : Nat} {x y : DTransition} {p : Int} (hx : ts[a]? = some x) (hy : ts[b]? = some y) (hab : a ≠ b) : (ts.set a (x.1, x.2 ++ [p])).set b (y.1 ++ [p], y.2) = addT ts a b p := by
  unfold addT
  apply List.ext_getElem?
  intro i
  have h1 := (List.getElem?_eq_some_iff.1 hx).1
  have h2 := (List.getElem?_eq_some_iff.1 hy).1
  rw [List.getElem?_modify, List.getElem?_modify]
  by_cases e1 : b = i
  · subst e1
    rw [List.getElem?_set_self (by simpa using h2)]
    simp [hy, hab]
  · rw [List.getElem?_set_ne e1]
    by_cases e2 : a = i
    · subst e2
      rw [List.getElem?_set_self h1]
      simp [hx, e1]
    · rw [List.getElem?_set_ne e2]
      simp [e1, e2]
theorem tr_parts {s : DSTG} (hz : Ty.tot tSTG s ≤ 2000000) {i : Nat} {x : DTransition} (hx : s.1.2[i]? = some x) : x.1.length ≤ 2000000 ∧ x.2.length ≤ 2000000 := net_parts (stg_parts hz).1 x (List.mem_of_getElem? hx)
theorem stg_start {s : DSTG} (hz : Ty.tot tSTG s ≤ 2000000) : s.2.2.2.size ≤ 2000000 := by
  have : Ty.tot tSTG s = Ty.tot tNet s.1 + ((s.2.1.length + (s.2.1.map (Ty.tot tSignal)).sum) + ((s.2.2.1.length + (s.2.2.1.map (Ty.tot tLabel)).sum) + s.2.2.2.size)) := rfl
  omega
theorem bsize1 (b : UInt8) : (⟨#[b]⟩ : ByteArray).size = 1 := rfl
theorem set6 {α : Type _} {c : List α} {p q : Nat} (h : p ≠ q) (a b a' b' x y : α) : (((((c.set p a).set q b).set p a').set q b').set p x).set q y = (c.set p x).set q y := by
  apply List.ext_getElem?
  intro i
  simp only [List.getElem?_set, List.length_set]
  split <;> split <;> simp_all
theorem pos1 {a n : Nat} (h : a < n) : a * 2 + 1 < n * 2 := by omega
theorem pos0 {a n : Nat} (h : a < n) : a * 2 + 0 < n * 2 := by omega

theorem fc_impl_bit (b : Bool)  : FC Tryz.prog 229 [(false, [dB b])] [] 0 (Pure (lf (.dat .u8 (if b then 49 else 48)))) := by
 refine FC.go Tryz.func229 rfl rfl Tryz.ntmps229 fun O_ hO w0_ N0_ X_ h0_ f0_ => ?_
 refine w_ ?_
 refine lc (Does.assignC (Evl.u8 0 rfl) rfl) ?_
 iterate 5 refine w_ ?_
 cases hb1 : (b)
 ·iterate 3 refine w_ ?_
  refine lc (Does.assignC (Evl.u8 48 rfl) rfl) ?_
  refine w_ ?_
  refine AC.ret ?_
  subst hO
  have e2 : (48 : UInt8) = (if b then 49 else 48) := by
   simp_all
  exact fin_pure (Res.one rfl (Rs.tmp rfl)) ((congrArg (fun z_ => lf (.dat .u8 z_)) e2)) rfl
 ·iterate 2 refine w_ ?_
  refine lc (Does.assignC (Evl.u8 49 rfl) rfl) ?_
  refine w_ ?_
  refine AC.ret ?_
  subst hO
  have e3 : (49 : UInt8) = (if b then 49 else 48) := by
   simp_all
  exact fin_pure (Res.one rfl (Rs.tmp rfl)) ((congrArg (fun z_ => lf (.dat .u8 z_)) e3)) rfl

theorem fc_impl_ordered (s : (Int × (List (List Int × List Int))) × (List (ByteArray × Int)) × (List (Int × Bool)) × ByteArray) (o : Int × Int × Bool) (hz : Ty.tot tSTG s ≤ 2000000) (hA : 0 ≤ o.1 ∧ o.1 < s.1.2.length) (hB : 0 ≤ o.2.1 ∧ o.2.1 < s.1.2.length) (hne : o.1 ≠ o.2.1) (hP : 1 ≤ s.1.1 ∧ s.1.1 ≤ 30) : FC Tryz.prog 178 [(true, [dI s.1.1, .dat (.sl 159 (.pr (.sl 3 .int) (.sl 3 .int))) s.1.2, .dat (.sl 145 (.pr .str .int)) s.2.1, .dat (.sl 61 (.pr .int .bool)) s.2.2.1, dS s.2.2.2]), (true, [dI o.1, dI o.2.1, dB o.2.2])] [] 0 (Is (ag [dI (((addOrd s o).1).1), .ref 0, .ref 1, .ref 2, dS ((addOrd s o).2.2.2)]) [(0, some (.arr 159 (.pr (.sl 3 .int) (.sl 3 .int)) (((addOrd s o).1).2))), (1, some (.arr 145 (.pr .str .int) ((addOrd s o).2.1))), (2, some (.arr 61 (.pr .int .bool) ((addOrd s o).2.2.1)))]) := by
 obtain ⟨x, hx⟩ : ∃ z, s.1.2[o.1.toNat]? = some z := ⟨_, List.getElem?_eq_getElem (by omega)⟩
 obtain ⟨y, hy⟩ : ∃ z, s.1.2[o.2.1.toNat]? = some z := ⟨_, List.getElem?_eq_getElem (by omega)⟩
 have hab : o.1.toNat ≠ o.2.1.toNat := by omega
 have hcA := (cells_at hx).1
 have hcB := (cells_at hy).2
 have hpA : o.1.toNat * 2 + 1 < (cellsL (.pr (.sl 3 .int) (.sl 3 .int)) s.1.2).length := by rw [cellsL_len]; exact pos1 (by omega)
 have hpB : o.2.1.toNat * 2 + 0 < (cellsL (.pr (.sl 3 .int) (.sl 3 .int)) s.1.2).length := by rw [cellsL_len]; exact pos0 (by omega)
 have hpAB : o.1.toNat * 2 + 1 ≠ o.2.1.toNat * 2 + 0 := by omega
 have hxl := (tr_parts hz hx).2
 have hyl := (tr_parts hz hy).1
 have hsz := stg_start hz
 refine FC.go Tryz.func178 rfl rfl Tryz.ntmps178 fun O_ hO w0_ N0_ X_ h0_ f0_ => ?_
 refine AC.fact (fact_ag (x := .tmp 0) (i := 0) (Ev.tmp rfl) rfl) fun hi1 => AC.fact (fact_ag (x := .tmp 1) (i := 0) (Ev.tmp rfl) rfl) fun hi2 => AC.fact (fact_ag (x := .tmp 1) (i := 1) (Ev.tmp rfl) rfl) fun hi3 => ?_
 refine w_ ?_
 refine lc (Does.box 0 (Ev.tmp rfl) rfl rfl (Fresh.of rfl) (nlr rfl)) <| lc (Does.box 1 (Ev.tmp rfl) rfl rfl (Fresh.of rfl) (nlr rfl)) <| lc (Does.alloc 2 (.pr (.pr .int (.sl 159 (.pr (.sl 3 .int) (.sl 3 .int)))) (.pr (.sl 145 (.pr .str .int)) (.pr (.sl 61 (.pr .int .bool)) .str))) zer_39 rfl rfl (Fresh.of rfl) (nlr rfl)) ?_
 refine w_ ?_
 refine dw [io 9 (ag [dI s.1.1, .dat (.sl 159 (.pr (.sl 3 .int) (.sl 3 .int))) s.1.2, .dat (.sl 145 (.pr .str .int)) s.2.1, .dat (.sl 61 (.pr .int .bool)) s.2.2.1, dS s.2.2.2]), ⟨some 10, ag [dI s.1.1, .ref 3, .ref 4, .ref 5, dS s.2.2.2], [(3, some (.arr 159 (.pr (.sl 3 .int) (.sl 3 .int)) s.1.2)), (4, some (.arr 145 (.pr .str .int) s.2.1)), (5, some (.arr 61 (.pr .int .bool) s.2.2.1))]⟩, io 11 (lP 0 0), io 12 (lP 0 0), io 13 (lI s.1.1), ⟨some 5, lP 6 0, [(6, some (.box 39 [dI 0, .val (.slice none 0 0), .val (.slice none 0 0), .val (.slice none 0 0), dS ByteArray.empty]))]⟩, ⟨none, lf (.val undef), [(6, some (.box 39 [dI s.1.1, .ref 3, .ref 4, .ref 5, dS s.2.2.2]))]⟩, io 6 (lI s.1.1)] [0, 1, 0, 4, 12, 0, 35, 127] mixed rfl (by kernel_rfl) ⟨dxa tsh_39 rfl rfl rfl rfl, fun _ h_ => ac (Does.callG 3 (fc_impl_copySTG s hz) enters_247 ⟨_, _, rfl, (h_.w rfl), rfl⟩ rfl rfl ⟨(h_.fr 3 rfl), (h_.fr 4 rfl), (h_.fr 5 rfl), trivial⟩ (nlr rfl)) rfl, dxf fld_39_0 rfl rfl rfl, dxf fld_35_0 rfl rfl rfl, dxl tsh_3 rfl rfl rfl rfl rfl, fun _ h_ => ac (Does.alloc 6 (.pr (.pr .int (.sl 159 (.pr (.sl 3 .int) (.sl 3 .int)))) (.pr (.sl 145 (.pr .str .int)) (.pr (.sl 61 (.pr .int .bool)) .str))) zer_39 rfl rfl (h_.fr 6 rfl) (nlr rfl)) rfl, fun _ h_ => ac (Does.storeP (h_.v rfl) (h_.en 6 rfl) (h_.w rfl) (by simp only [okLVs, okLV, List.all_cons, List.all_nil]; rw [(h_.en 3 rfl), (h_.en 4 rfl), (h_.en 5 rfl)]; rfl) tsh_39 rfl) rfl, dxt rfl rfl, ⟨⟩⟩ <| AC.wk (Wk.open (q := 3) rfl (by omega)) <| AC.wk (Wk.splitX 7 (q := 3) (p := (o.1).toNat * 2 + 1) (E' := 3) (e' := .int) (ys := x.2) rfl (hcA) (Fresh.of rfl) (Nat.le_of_ble_eq_true rfl)) ?_
 refine AC.wk (Wk.splitX 8 (q := 3) (p := (o.2.1).toNat * 2 + 0) (E' := 3) (e' := .int) (ys := y.1) rfl (by simp only [ovr, List.getElem?_set, List.length_set, hpA, hpB, hpAB, hpAB.symm, hcA, hcB, eq_self, if_true, if_false, ↓reduceIte]) (Fresh.of rfl) (Nat.le_of_ble_eq_true rfl)) ?_
 refine dw [io 14 (lP 6 0), io 15 (lP 6 1), io 16 (lR 3), io 17 (lP 1 0), io 18 (lI o.1), io 19 (lf (.ept 3 2 ((o.1).toNat) 0)), io 20 (lP 6 0), io 21 (lP 6 1), io 22 (lR 3), io 23 (lP 1 1), io 24 (lI o.2.1), io 25 (lf (.ept 3 2 ((o.2.1).toNat) 0)), io 7 (lf (.ept 3 2 ((o.1).toNat) 0)), io 8 (lf (.ept 3 2 ((o.2.1).toNat) 0))] [0, 1, 3, 0, 8, 31, 0, 64, 192, 0, 512, 1984, 63, 8191] mixed rfl (by kernel_rfl) ⟨dxf fld_39_0 rfl rfl rfl, dxf fld_35_1 rfl rfl rfl, dxl tsh_33 rfl rfl rfl rfl rfl, dxf fld_85_0 rfl rfl rfl, dxl tsh_3 rfl rfl rfl rfl rfl, fun _ h_ => ac (Does.indexX (h_.v rfl) (h_.en 3 rfl) (h_.v rfl) und_33 tsh_159 rfl (by omega) (by omega)) rfl, dxf fld_39_0 rfl rfl rfl, dxf fld_35_1 rfl rfl rfl, dxl tsh_33 rfl rfl rfl rfl rfl, dxf fld_85_1 rfl rfl rfl, dxl tsh_3 rfl rfl rfl rfl rfl, fun _ h_ => ac (Does.indexX (h_.v rfl) (h_.en 3 rfl) (h_.v rfl) und_33 tsh_159 rfl (by omega) (by omega)) rfl, dxt rfl rfl, dxt rfl rfl, ⟨⟩⟩ ?_
 refine dw [io 26 (lf (.ept 3 2 ((o.1).toNat) 0)), io 27 (lf (.ept 3 2 ((o.2.1).toNat) 0)), io 28 (lf (.ept 3 2 ((o.1).toNat) 0)), io 29 (lf (.ept 3 2 ((o.1).toNat) 0)), io 30 (lf (.ept 3 2 ((o.1).toNat) 1)), io 31 (lR 7), io 32 (lI s.1.1), ⟨some 33, lR 9, [(9, some (.arr 3 .int ([s.1.1])))]⟩, ⟨some 34, lR 10, [(10, some (.arr 3 .int (x.2 ++ ([s.1.1])))), (7, none), (9, none)]⟩, io 35 (lf (.ept 3 2 ((o.2.1).toNat) 0)), io 36 (lf (.ept 3 2 ((o.2.1).toNat) 0)), io 37 (lf (.ept 3 2 ((o.2.1).toNat) 0)), io 38 (lR 8), io 39 (lI s.1.1), ⟨some 40, lR 11, [(11, some (.arr 3 .int ([s.1.1])))]⟩, ⟨some 41, lR 12, [(12, some (.arr 3 .int (y.1 ++ ([s.1.1])))), (8, none), (11, none)]⟩, io 42 (lf (.ept 3 2 ((o.1).toNat) 0)), io 43 (lf (.ept 3 2 ((o.1).toNat) 1)), ⟨none, lf (.val undef), [(3, some (.obx 159 2 ((s.1.2).length) (cellsL (.pr (.sl 3 .int) (.sl 3 .int)) (s.1.2)) [((o.1).toNat * 2 + 1, .ref 10), ((o.2.1).toNat * 2 + 0, .ref 8), ((o.1).toNat * 2 + 1, .ref 7)]))]⟩, io 44 (lf (.ept 3 2 ((o.2.1).toNat) 0)), io 45 (lf (.ept 3 2 ((o.2.1).toNat) 0)), ⟨none, lf (.val undef), [(3, some (.obx 159 2 ((s.1.2).length) (cellsL (.pr (.sl 3 .int) (.sl 3 .int)) (s.1.2)) [((o.2.1).toNat * 2 + 0, .ref 12), ((o.1).toNat * 2 + 1, .ref 10), ((o.2.1).toNat * 2 + 0, .ref 8), ((o.1).toNat * 2 + 1, .ref 7)]))]⟩] [0, 0, 0, 4, 12, 28, 0, 64, 252, 0, 512, 1536, 3584, 0, 8192, 32764, 65533, 131069, 262141, 524287, 1048575, 2097151] mixed rfl (by kernel_rfl) ⟨dxm rfl rfl, dxm rfl rfl, dxm rfl rfl, fun _ h_ => ac (Does.nilI (h_.v rfl) (by rw [(h_.en 3 rfl)]; rfl) rfl) rfl, fun _ h_ => ac (Does.fieldI (h_.v rfl) fld_159_1 (by rw [(h_.en 3 rfl)]; rfl) rfl) rfl, fun _ h_ => ac (Does.loadX (h_.v rfl) (h_.en 3 rfl) (by simp only [ovr, List.getElem?_set, List.length_set, hpA, hpB, hpAB, hpAB.symm, hcA, hcB, eq_self, if_true, if_false, ↓reduceIte]) (h_.en 7 rfl) tsh_106 rfl) rfl, dxm rfl rfl, fun _ h_ => ac (Does.buildSlice 9 (e := .int) und_106 tsh_3 zer_3 rfl ⟨_, _, rfl, (h_.w rfl), rfl⟩ (List.all_eq_true.1 rfl) ⟨_, _, _, _, rfl, ⟨rfl, rfl⟩, ⟨rfl, rfl⟩, rfl⟩ (by decide) rfl rfl (h_.fr 9 rfl) (nlr rfl)) rfl, fun _ h_ => ac (Does.append 10 (h_.v rfl) (h_.en 7 rfl) (h_.v rfl) (h_.en 9 rfl) rfl und_106 elb_3 (by first | omega | (simp only [List.length_append, List.length_map, List.length_take, List.length_cons, List.length_nil]; omega) | (simp only [List.length_append, List.length_drop, List.length_take, List.length_cons, List.length_nil]; omega)) rfl (h_.fr 10 rfl) (nlr rfl)) rfl, dxm rfl rfl, fun _ h_ => ac (Does.nilI (h_.v rfl) (by rw [(h_.en 3 rfl)]; rfl) rfl) rfl, fun _ h_ => ac (Does.fieldI (h_.v rfl) fld_159_0 (by rw [(h_.en 3 rfl)]; rfl) rfl) rfl, fun _ h_ => ac (Does.loadX (h_.v rfl) (h_.en 3 rfl) (by simp only [ovr, List.getElem?_set, List.length_set, hpA, hpB, hpAB, hpAB.symm, hcA, hcB, eq_self, if_true, if_false, ↓reduceIte]) (h_.en 8 rfl) tsh_106 rfl) rfl, dxm rfl rfl, fun _ h_ => ac (Does.buildSlice 11 (e := .int) und_106 tsh_3 zer_3 rfl ⟨_, _, rfl, (h_.w rfl), rfl⟩ (List.all_eq_true.1 rfl) ⟨_, _, _, _, rfl, ⟨rfl, rfl⟩, ⟨rfl, rfl⟩, rfl⟩ (by decide) rfl rfl (h_.fr 11 rfl) (nlr rfl)) rfl, fun _ h_ => ac (Does.append 12 (h_.v rfl) (h_.en 8 rfl) (h_.v rfl) (h_.en 11 rfl) rfl und_106 elb_3 (by first | omega | (simp only [List.length_append, List.length_map, List.length_take, List.length_cons, List.length_nil]; omega) | (simp only [List.length_append, List.length_drop, List.length_take, List.length_cons, List.length_nil]; omega)) rfl (h_.fr 12 rfl) (nlr rfl)) rfl, fun _ h_ => ac (Does.nilI (h_.v rfl) (by rw [(h_.en 3 rfl)]; rfl) rfl) rfl, fun _ h_ => ac (Does.fieldI (h_.v rfl) fld_159_1 (by rw [(h_.en 3 rfl)]; rfl) rfl) rfl, fun _ h_ => ac (Does.storeX (t := 7) (h_.v rfl) (h_.en 3 rfl) (by simp only [ovr, List.getElem?_set, List.length_set, hpA, hpB, hpAB, hpAB.symm, hcA, hcB, eq_self, if_true, if_false, ↓reduceIte]) (h_.v rfl) (h_.en 10 rfl) tsh_106) rfl, fun _ h_ => ac (Does.nilI (h_.v rfl) (by rw [(h_.en 3 rfl)]; rfl) rfl) rfl, fun _ h_ => ac (Does.fieldI (h_.v rfl) fld_159_0 (by rw [(h_.en 3 rfl)]; rfl) rfl) rfl, fun _ h_ => ac (Does.storeX (t := 8) (h_.v rfl) (h_.en 3 rfl) (by simp only [ovr, List.getElem?_set, List.length_set, hpA, hpB, hpAB, hpAB.symm, hcA, hcB, eq_self, if_true, if_false, ↓reduceIte]) (h_.v rfl) (h_.en 12 rfl) tsh_106) rfl, ⟨⟩⟩ ?_
 refine AC.seq ?_
 refine AC.wk (Wk.joinX (q := 3) (t := 10) (p := (o.1).toNat * 2 + 1) rfl (by simp only [ovr, List.getElem?_set, List.length_set, hpA, hpB, hpAB, hpAB.symm, hcA, hcB, eq_self, if_true, if_false, ↓reduceIte]) rfl) ?_
 refine AC.wk (Wk.joinX (q := 3) (t := 12) (p := (o.2.1).toNat * 2 + 0) rfl (by simp only [ovr, List.getElem?_set, List.length_set, hpA, hpB, hpAB, hpAB.symm, hcA, hcB, eq_self, if_true, if_false, ↓reduceIte]) rfl) ?_
 refine AC.wk (Wk.close (q := 3) (e := (.pr (.sl 3 .int) (.sl 3 .int))) (addT s.1.2 (o.1).toNat (o.2.1).toNat s.1.1) rfl (by simp [addT]) (by simp only [ovr]; rw [set6 hpAB, cells_set1 hx, cells_set0 (by rw [List.getElem?_set_ne hab]; exact hy), addT_set hx hy hab])) ?_
 iterate 7 refine w_ ?_
 refine lc (Does.storeP (Evl.tmp rfl) rfl (Ev.tmp rfl) rfl tsh_3 rfl) ?_
 refine w_ ?_
 refine dw [io 52 (lP 6 4), io 53 (lf (dS s.2.2.2)), io 54 (lP 1 2), io 55 (lB o.2.2), io 56 (lf (.dat .u8 (if o.2.2 then 49 else 48))), ⟨some 57, lR 13, [(13, some (.arr 5 .u8 ([if o.2.2 then 49 else 48])))]⟩, io 58 (lf (dS (⟨#[if o.2.2 then 49 else 48]⟩ : ByteArray))), io 59 (lf (dS (s.2.2.2 ++ (⟨#[if o.2.2 then 49 else 48]⟩ : ByteArray)))), io 60 (lP 6 4), ⟨none, lf (.val undef), [(6, some (.box 39 [dI (s.1.1 + 1), .ref 3, .ref 4, .ref 5, dS (s.2.2.2 ++ (⟨#[if o.2.2 then 49 else 48]⟩ : ByteArray))]))]⟩] [0, 1, 0, 4, 12, 28, 60, 127, 255, 511] mixed rfl (by kernel_rfl) ⟨dxf fld_39_3 rfl rfl rfl, dxl tsh_9 rfl rfl rfl rfl rfl, dxf fld_85_2 rfl rfl rfl, dxl tsh_4 rfl rfl rfl rfl rfl, fun _ h_ => ac (Does.call (fc_impl_bit o.2.2) enters_229 ⟨_, _, rfl, (h_.w rfl), rfl⟩ rfl rfl) rfl, fun _ h_ => ac (Does.buildSlice 13 (e := .u8) und_209 tsh_5 zer_5 rfl ⟨_, _, rfl, (h_.w rfl), rfl⟩ (List.all_eq_true.1 rfl) ⟨_, _, _, _, rfl, ⟨rfl, rfl⟩, ⟨rfl, rfl⟩, rfl⟩ (by decide) rfl rfl (h_.fr 13 rfl) (nlr rfl)) rfl, fun _ h_ => ac (Does.ofBytes (ys := [if o.2.2 then 49 else 48]) (Evl.repO (h_.v rfl) (h_.n 13 rfl)) und_209 und_5 und_9 rfl) rfl, fun _ h_ => ac (Does.addS (h_.v rfl) (h_.v rfl) rfl (by simp only [bsize1]; omega)) rfl, dxf fld_39_3 rfl rfl rfl, fun _ h_ => ac (Does.storeP (h_.v rfl) (h_.n 6 rfl) (h_.w rfl) rfl tsh_9 rfl) rfl, ⟨⟩⟩ ?_
 iterate 2 refine w_ ?_
 refine lc (Does.storeP (Evl.tmp rfl) rfl (Ev.tmp rfl) rfl tsh_39 rfl) ?_
 refine w_ ?_
 refine AC.ret ?_
 subst hO
 have e4 : (s.1.1 + 1 : Int) = (((addOrd s o).1).1) := by
  rfl
 have e5 : (s.2.2.2 ++ (⟨#[if o.2.2 then 49 else 48]⟩ : ByteArray) : ByteArray) = ((addOrd s o).2.2.2) := by
  rfl
 exact fin_is _ _ [(0, 3), (1, 4), (2, 5)] (Res.one rfl (Rs.cell rfl rfl tsh_39 rfl)) (((congrArg (fun z_ => ag [dI z_, .ref 3, .ref 4, .ref 5, dS (s.2.2.2 ++ (⟨#[if o.2.2 then 49 else 48]⟩ : ByteArray))]) e4)).trans (congrArg (fun z_ => ag [dI (((addOrd s o).1).1), .ref 3, .ref 4, .ref 5, dS z_]) e5)) ⟨(entE (by rfl)), (entE (by rfl)), (entE (by rfl)), trivial⟩ rfl rfl

def zeroSTG : DSTG := ((0, []), [], [], ByteArray.empty)

/-- A graph if it is one. -/
def stgIfV (s : DSTG) [Decidable (StgOk s)] : DSTG × Bool := if StgOk s then (s, true) else (zeroSTG, false)
theorem stgIf_yes {s : DSTG} [Decidable (StgOk s)] (h : decide (StgOk s) = true) : stgIfV s = (s, true) := if_pos (of_decide_eq_true h)
theorem stgIf_no {s : DSTG} [Decidable (StgOk s)] (h : decide (StgOk s) = false) : stgIfV s = (zeroSTG, false) := if_neg (of_decide_eq_false h)

theorem fc_impl_stgIf (s : (Int × (List (List Int × List Int))) × (List (ByteArray × Int)) × (List (Int × Bool)) × ByteArray) [Decidable (StgOk s)]  : FC Tryz.prog 242 [(true, [dI s.1.1, .ref 0, .ref 1, .ref 2, dS s.2.2.2])] [(0, some (.arr 159 (.pr (.sl 3 .int) (.sl 3 .int)) s.1.2)), (1, some (.arr 145 (.pr .str .int) s.2.1)), (2, some (.arr 61 (.pr .int .bool) s.2.2.1))] 0 (Is (PV.tup [(true, [dI ((((stgIfV s).1).1).1), .ref 0, .ref 1, .ref 2, dS (((stgIfV s).1).2.2.2)]), (false, [dB ((stgIfV s).2)])]) [(0, some (.arr 159 (.pr (.sl 3 .int) (.sl 3 .int)) ((((stgIfV s).1).1).2))), (1, some (.arr 145 (.pr .str .int) (((stgIfV s).1).2.1))), (2, some (.arr 61 (.pr .int .bool) (((stgIfV s).1).2.2.1)))]) := by
 refine FC.go Tryz.func242 rfl rfl Tryz.ntmps242 fun O_ hO w0_ N0_ X_ h0_ f0_ => ?_
 refine AC.fact (fact_ag (x := .tmp 0) (i := 0) (Ev.tmp rfl) rfl) fun hi1 => ?_
 refine w_ ?_
 refine lc (Does.box 3 (Ev.tmp rfl) rfl rfl (Fresh.of rfl) (nlr rfl)) <| lc (Does.alloc 4 (.pr (.pr .int (.sl 159 (.pr (.sl 3 .int) (.sl 3 .int)))) (.pr (.sl 145 (.pr .str .int)) (.pr (.sl 61 (.pr .int .bool)) .str))) zer_39 rfl rfl (Fresh.of rfl) (nlr rfl)) ?_
 iterate 5 refine w_ ?_
 refine lc (Does.callB (fc_impl_IsValidSTG s) enters_190 ⟨_, _, rfl, (Ev.ob (Ev.tmp rfl) ⟨_, _, rfl, .inl rfl, ⟨_, _, rfl, .inr ⟨_, _, _, _, rfl, rfl, rfl⟩, ⟨_, _, rfl, .inr ⟨_, _, _, _, rfl, rfl, rfl⟩, ⟨_, _, rfl, .inr ⟨_, _, _, _, rfl, rfl, rfl⟩, ⟨_, _, rfl, .inl rfl, rfl⟩⟩⟩⟩⟩), rfl⟩ rfl rfl rfl) ?_
 iterate 2 refine w_ ?_
 cases hb2 : (decide (StgOk s))
 ·have hb2' := of_decide_eq_false hb2
  iterate 2 refine w_ ?_
  refine lc (Does.build bld_39 rfl (List.all_eq_true.1 rfl) rfl rfl) <| lc (Does.storeP (Evl.tmp rfl) rfl (Ev.tmp rfl) rfl tsh_39 rfl) ?_
  iterate 2 refine w_ ?_
  refine AC.wk (Wk.nilC 5 (p := 4) (off := 1) 159 (.pr (.sl 3 .int) (.sl 3 .int)) rfl rfl (Fresh.of rfl) (nlr rfl)) <| AC.wk (Wk.nilC 6 (p := 4) (off := 2) 145 (.pr .str .int) rfl rfl (Fresh.of rfl) (nlr rfl)) <| AC.wk (Wk.nilC 7 (p := 4) (off := 3) 61 (.pr .int .bool) rfl rfl (Fresh.of rfl) (nlr rfl)) <| AC.ret ?_
  subst hO
  have e3 : (0 : Int) = ((((stgIfV s).1).1).1) := by
   (rw [stgIf_no (by assumption)]; rfl)
  have e4 : (ByteArray.empty : ByteArray) = (((stgIfV s).1).2.2.2) := by
   (rw [stgIf_no (by assumption)]; rfl)
  have e5 : (false : Bool) = ((stgIfV s).2) := by
   (rw [stgIf_no (by assumption)]; done)
  exact fin_is _ _ [(0, 5), (1, 6), (2, 7)] (Res.two rfl (Rs.cell rfl rfl tsh_39 rfl) (Rs.tmp rfl)) ((((congrArg (fun z_ => PV.tup [(true, [dI z_, .ref 5, .ref 6, .ref 7, dS ByteArray.empty]), (false, [dB false])]) e3)).trans (congrArg (fun z_ => PV.tup [(true, [dI ((((stgIfV s).1).1).1), .ref 5, .ref 6, .ref 7, dS z_]), (false, [dB false])]) e4)).trans (congrArg (fun z_ => PV.tup [(true, [dI ((((stgIfV s).1).1).1), .ref 5, .ref 6, .ref 7, dS (((stgIfV s).1).2.2.2)]), (false, [dB z_])]) e5)) ⟨(entE (by (rw [stgIf_no (by assumption)]; rfl))), (entE (by (rw [stgIf_no (by assumption)]; rfl))), (entE (by (rw [stgIf_no (by assumption)]; rfl))), trivial⟩ rfl rfl
 ·have hb2' := of_decide_eq_true hb2
  iterate 4 refine w_ ?_
  refine lc (Does.storeP (Evl.tmp rfl) rfl (Ev.tmp rfl) rfl tsh_39 rfl) ?_
  iterate 2 refine w_ ?_
  refine AC.ret ?_
  subst hO
  have e6 : (s.1.1 : Int) = ((((stgIfV s).1).1).1) := by
   (rw [stgIf_yes (by assumption)]; done)
  have e7 : (s.2.2.2 : ByteArray) = (((stgIfV s).1).2.2.2) := by
   (rw [stgIf_yes (by assumption)]; done)
  have e8 : (true : Bool) = ((stgIfV s).2) := by
   (rw [stgIf_yes (by assumption)]; done)
  exact fin_is _ _ [(0, 0), (1, 1), (2, 2)] (Res.two rfl (Rs.cell rfl rfl tsh_39 rfl) (Rs.tmp rfl)) ((((congrArg (fun z_ => PV.tup [(true, [dI z_, .ref 0, .ref 1, .ref 2, dS s.2.2.2]), (false, [dB true])]) e6)).trans (congrArg (fun z_ => PV.tup [(true, [dI ((((stgIfV s).1).1).1), .ref 0, .ref 1, .ref 2, dS z_]), (false, [dB true])]) e7)).trans (congrArg (fun z_ => PV.tup [(true, [dI ((((stgIfV s).1).1).1), .ref 0, .ref 1, .ref 2, dS (((stgIfV s).1).2.2.2)]), (false, [dB z_])]) e8)) ⟨(entE (by (rw [stgIf_yes (by assumption)]; done))), (entE (by (rw [stgIf_yes (by assumption)]; done))), (entE (by (rw [stgIf_yes (by assumption)]; done))), trivial⟩ rfl rfl

end Go.Proofs.YtnakmhfjafecpaaGreat
