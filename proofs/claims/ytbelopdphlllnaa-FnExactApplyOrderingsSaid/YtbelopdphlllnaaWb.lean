/- Walks over abstract states: orderings added to a graph. -/
import Derived.Test.YtbelopdphlllnaaWa
import Derived.Test.YtbelopdphlllnaaStg
import Derived.Test.YtbelopdphlllnaaAj
namespace Go.Proofs.Ytbelopdphlllnaa
open Go.RowKit

theorem len5 {us : List Value} (h : us.length = 5) : ∃ a0 a1 a2 a3 a4, us = [a0, a1, a2, a3, a4] := by
  match us, h with
  | [a0, a1, a2, a3, a4], _ => exact ⟨_, _, _, _, _, rfl⟩
theorem retB_dec {p : Prop} [Decidable p] {w : World} {e : Ending} {w' : World} (h : RetB p w e w') : RetB (decide p = true) w e w' := by
  obtain ⟨b, h1, h2, h3⟩ := h
  exact ⟨b, h1, by rw [h2, decide_eq_true_eq], h3⟩
theorem fc_impl_IsValidSTG (s : DSTG) [Decidable (StgOk s)] : FC Try.prog 57 [(true, leaves tSTG s)] [] 0 (Pure (lf (dB (decide (StgOk s))))) := FC.ofB fun gh w vs h => by
  obtain ⟨us, rfl, hr⟩ := h.agg1
  obtain ⟨a0, a1, a2, a3, a4, rfl⟩ := len5 hr.len
  exact (IsValidSTG_any a0 a1 a2 a3 a4 s w hr).mono fun _ _ h => retB_dec h
theorem fc_spec_l2Good (s : DSTG) [Decidable (StgOk s)] : FC Try.prog 69 [(true, leaves tSTG s)] [] 0 (Pure (lf (dB (decide (StgOk s))))) := FC.ofB fun gh w vs h => by
  obtain ⟨us, rfl, hr⟩ := h.agg1
  obtain ⟨a0, a1, a2, a3, a4, rfl⟩ := len5 hr.len
  exact (l2Good_any a0 a1 a2 a3 a4 s w hr).mono fun _ _ h => retB_dec h
/-- An ordering put in. -/
def addT (ts : List DTransition) (a b : Nat) (p : Int) : List DTransition := (ts.modify a fun t => (t.1, t.2 ++ [p])).modify b fun t => (t.1 ++ [p], t.2)
def bitS (b : Bool) : ByteArray := ⟨#[if b then 49 else 48]⟩
def addOrd (s : DSTG) (o : DOrdering) : DSTG := ((s.1.1 + 1, addT s.1.2 o.1.toNat o.2.1.toNat s.1.1), s.2.1, s.2.2.1, s.2.2.2 ++ bitS o.2.2)
theorem cells_at {ts : List DTransition} {i : Nat} {x : DTransition} (h : ts[i]? = some x) : (cellsL tTransition ts)[i * 2 + 1]? = some (.dat (.sl 3 .int) x.2) ∧ (cellsL tTransition ts)[i * 2 + 0]? = some (.dat (.sl 3 .int) x.1) :=
  ⟨cellsL_get (e := tTransition) (j := 1) h rfl, cellsL_get (e := tTransition) (j := 0) h rfl⟩
theorem cells_set1 {ts : List DTransition} {i : Nat} {x : DTransition} {ys : List Int} (h : ts[i]? = some x) : (cellsL tTransition ts).set (i * 2 + 1) (.dat (.sl 3 .int) ys) = cellsL tTransition (ts.set i (x.1, ys)) :=
  (cellsL_set (e := tTransition) (j := 1) (x' := (x.1, ys)) h rfl (by decide)).symm
theorem cells_set0 {ts : List DTransition} {i : Nat} {x : DTransition} {ys : List Int} (h : ts[i]? = some x) : (cellsL tTransition ts).set (i * 2 + 0) (.dat (.sl 3 .int) ys) = cellsL tTransition (ts.set i (ys, x.2)) :=
  (cellsL_set (e := tTransition) (j := 0) (x' := (ys, x.2)) h rfl (by decide)).symm
theorem addT_set {ts : List DTransition} {a b : Nat} {x y : DTransition} {p : Int} (hx : ts[a]? = some x) (hy : ts[b]? = some y) (hab : a ≠ b) : (ts.set a (x.1, x.2 ++ [p])).set b (y.1 ++ [p], y.2) = addT ts a b p := by
  unfold addT
  apply List.ext_getElem?
  intro i
  have h1 := (List.getElem?_eq_some_iff.1 hx).1
  have h2 := (List.getElem?_eq_some_iff.1 hy).1
  rw [List.getElem?_modify, List.getElem?_modify]
  by_cases e1 : b = i
  · subst e1
    rw [List.getElem?_set_self (by simpa using h2)]
    simp [hy, hab]
  · rw [List.getElem?_set_ne e1]
    by_cases e2 : a = i
    · subst e2
      rw [List.getElem?_set_self h1]
      simp [hx, e1]
    · rw [List.getElem?_set_ne e2]
      simp [e1, e2]
theorem tr_parts {s : DSTG} (hz : Ty.tot tSTG s ≤ 2000000) {i : Nat} {x : DTransition} (hx : s.1.2[i]? = some x) : x.1.length ≤ 2000000 ∧ x.2.length ≤ 2000000 := net_parts (stg_parts hz).1 x (List.mem_of_getElem? hx)
theorem stg_start {s : DSTG} (hz : Ty.tot tSTG s ≤ 2000000) : s.2.2.2.size ≤ 2000000 := by
  have : Ty.tot tSTG s = Ty.tot tNet s.1 + ((s.2.1.length + (s.2.1.map (Ty.tot tSignal)).sum) + ((s.2.2.1.length + (s.2.2.1.map (Ty.tot tLabel)).sum) + s.2.2.2.size)) := rfl
  omega
theorem bsize1 (b : UInt8) : (⟨#[b]⟩ : ByteArray).size = 1 := rfl
theorem set6 {α : Type _} {c : List α} {p q : Nat} (h : p ≠ q) (a b a' b' x y : α) : (((((c.set p a).set q b).set p a').set q b').set p x).set q y = (c.set p x).set q y := by
  apply List.ext_getElem?
  intro i
  simp only [List.getElem?_set, List.length_set]
  split <;> split <;> simp_all
theorem set3 {α : Type _} {c : List α} {p : Nat} (a a' x : α) : ((c.set p a).set p a').set p x = c.set p x := by rw [List.set_set, List.set_set]
theorem pos1 {a n : Nat} (h : a < n) : a * 2 + 1 < n * 2 := by omega
theorem pos0 {a n : Nat} (h : a < n) : a * 2 + 0 < n * 2 := by omega

set_option maxRecDepth 100000 in
set_option maxHeartbeats 4000000 in
theorem fc_impl_bit (b : Bool)  : FC Try.prog 113 [(false, [dB b])] [] 0 (Pure (lf (.dat .u8 (if b then 49 else 48)))) := by
  obtain ⟨O_, hO⟩ : ∃ x : PV → Tab → Prop, x = Pure (lf (.dat .u8 (if b then 49 else 48))) := ⟨_, rfl⟩
  refine FC.O_of hO (FC.ren (FC.of Try.func113 rfl rfl fun A_ hn_ hk_ => ?_))
  obtain ⟨w0_, N0_, X_, n_, k0_, h0_, f0_⟩ := A_
  obtain rfl : n_ = 4 := hn_.trans Try.ntmps113
  obtain rfl : k0_ = 0 := hk_
  refine AC.seq ?_
  refine AC.region ?_
  refine AL.cons rfl (Does.assignC (Evl.u8 0 rfl) rfl) ?_
  refine AL.nil ?_
  refine (?_ : AC _ _ _ _ _)
  refine AC.seq ?_
  refine AC.seq ?_
  refine AC.region ?_
  refine AL.cons rfl (Does.move rfl rfl) ?_
  refine AL.nil ?_
  refine (?_ : AC _ _ _ _ _)
  cases hb1 : (b)
  · have _h := hb1
    refine AC.condF (Evl.tmp rfl) ?_
    refine AC.skip ?_
    refine (?_ : AC _ _ _ _ _)
    refine AC.seq ?_
    refine AC.region ?_
    refine AL.cons rfl (Does.assignC (Evl.u8 48 rfl) rfl) ?_
    refine AL.nil ?_
    refine (?_ : AC _ _ _ _ _)
    refine AC.ret ?_
    subst hO
    have e2 : (48 : UInt8) = if b then 49 else 48 := by
      simp_all
    exact fin_pure (Res.one rfl (Rs.tmp rfl)) ((congrArg (fun z_ => lf (.dat .u8 z_)) e2)) rfl
  · have _h := hb1
    refine AC.condT (Evl.tmp rfl) ?_
    refine AC.seq ?_
    refine AC.region ?_
    refine AL.cons rfl (Does.assignC (Evl.u8 49 rfl) rfl) ?_
    refine AL.nil ?_
    refine (?_ : AC _ _ _ _ _)
    refine AC.ret ?_
    subst hO
    have e3 : (49 : UInt8) = if b then 49 else 48 := by
      simp_all
    exact fin_pure (Res.one rfl (Rs.tmp rfl)) ((congrArg (fun z_ => lf (.dat .u8 z_)) e3)) rfl

set_option maxRecDepth 100000 in
set_option maxHeartbeats 4000000 in
theorem fc_impl_ordered (s : (Int × (List (List Int × List Int))) × (List (ByteArray × Int)) × (List (Int × Bool)) × ByteArray) (o : Int × Int × Bool) (hz : Ty.tot tSTG s ≤ 2000000) (hA : 0 ≤ o.1 ∧ o.1 < s.1.2.length) (hB : 0 ≤ o.2.1 ∧ o.2.1 < s.1.2.length) (hne : o.1 ≠ o.2.1) (hP : 1 ≤ s.1.1 ∧ s.1.1 ≤ 30) : FC Try.prog 60 [(true, [dI s.1.1, .dat (.sl 146 (.pr (.sl 3 .int) (.sl 3 .int))) s.1.2, .dat (.sl 129 (.pr .str .int)) s.2.1, .dat (.sl 131 (.pr .int .bool)) s.2.2.1, dS s.2.2.2]), (true, [dI o.1, dI o.2.1, dB o.2.2])] [] 0 (Is (ag [dI (((addOrd s o).1).1), .ref 0, .ref 1, .ref 2, dS ((addOrd s o).2.2.2)]) [(0, some (.arr 146 (.pr (.sl 3 .int) (.sl 3 .int)) (((addOrd s o).1).2))), (1, some (.arr 129 (.pr .str .int) ((addOrd s o).2.1))), (2, some (.arr 131 (.pr .int .bool) ((addOrd s o).2.2.1)))]) := by
  obtain ⟨x, hx⟩ : ∃ z, s.1.2[o.1.toNat]? = some z := ⟨_, List.getElem?_eq_getElem (by omega)⟩
  obtain ⟨y, hy⟩ : ∃ z, s.1.2[o.2.1.toNat]? = some z := ⟨_, List.getElem?_eq_getElem (by omega)⟩
  have hab : o.1.toNat ≠ o.2.1.toNat := by omega
  have hcA := (cells_at hx).1
  have hcB := (cells_at hy).2
  have hpA : o.1.toNat * 2 + 1 < (cellsL (.pr (.sl 3 .int) (.sl 3 .int)) s.1.2).length := by rw [cellsL_len]; exact pos1 (by omega)
  have hpB : o.2.1.toNat * 2 + 0 < (cellsL (.pr (.sl 3 .int) (.sl 3 .int)) s.1.2).length := by rw [cellsL_len]; exact pos0 (by omega)
  have hpAB : o.1.toNat * 2 + 1 ≠ o.2.1.toNat * 2 + 0 := by omega
  have hxl := (tr_parts hz hx).2
  have hyl := (tr_parts hz hy).1
  have hsz := stg_start hz
  obtain ⟨O_, hO⟩ : ∃ x : PV → Tab → Prop, x = Is (ag [dI (((addOrd s o).1).1), .ref 0, .ref 1, .ref 2, dS ((addOrd s o).2.2.2)]) [(0, some (.arr 146 (.pr (.sl 3 .int) (.sl 3 .int)) (((addOrd s o).1).2))), (1, some (.arr 129 (.pr .str .int) ((addOrd s o).2.1))), (2, some (.arr 131 (.pr .int .bool) ((addOrd s o).2.2.1)))] := ⟨_, rfl⟩
  refine FC.O_of hO (FC.ren (FC.of Try.func60 rfl rfl fun A_ hn_ hk_ => ?_))
  obtain ⟨w0_, N0_, X_, n_, k0_, h0_, f0_⟩ := A_
  obtain rfl : n_ = 62 := hn_.trans Try.ntmps60
  obtain rfl : k0_ = 0 := hk_
  refine AC.fact (fact_ag (x := .tmp 0) (i := 0) (Ev.tmp rfl) rfl) fun hi1 => ?_
  refine AC.fact (fact_ag (x := .tmp 1) (i := 0) (Ev.tmp rfl) rfl) fun hi2 => ?_
  refine AC.fact (fact_ag (x := .tmp 1) (i := 1) (Ev.tmp rfl) rfl) fun hi3 => ?_
  refine AC.seq ?_
  refine AC.region ?_
  refine AL.cons rfl (Does.box 0 (Ev.tmp rfl) rfl rfl (Fresh.of rfl) (Nat.le_of_ble_eq_true rfl)) ?_
  refine AL.cons rfl (Does.box 1 (Ev.tmp rfl) rfl rfl (Fresh.of rfl) (Nat.le_of_ble_eq_true rfl)) ?_
  refine AL.cons rfl (Does.alloc 2 (.pr (.pr .int (.sl 146 (.pr (.sl 3 .int) (.sl 3 .int)))) (.pr (.sl 129 (.pr .str .int)) (.pr (.sl 131 (.pr .int .bool)) .str))) zer_50 rfl rfl (Fresh.of rfl) (Nat.le_of_ble_eq_true rfl)) ?_
  refine AL.nil ?_
  refine (?_ : AC _ _ _ _ _)
  refine AC.seq ?_
  refine AC.drawL [⟨some 9, ag [dI s.1.1, .dat (.sl 146 (.pr (.sl 3 .int) (.sl 3 .int))) s.1.2, .dat (.sl 129 (.pr .str .int)) s.2.1, .dat (.sl 131 (.pr .int .bool)) s.2.2.1, dS s.2.2.2], []⟩, ⟨some 10, ag [dI s.1.1, .ref 3, .ref 4, .ref 5, dS s.2.2.2], [(3, some (.arr 146 (.pr (.sl 3 .int) (.sl 3 .int)) s.1.2)), (4, some (.arr 129 (.pr .str .int) s.2.1)), (5, some (.arr 131 (.pr .int .bool) s.2.2.1))]⟩, ⟨some 11, lf (.ptr 0 0), []⟩, ⟨some 12, lf (.ptr 0 0), []⟩, ⟨some 13, lf (dI s.1.1), []⟩, ⟨some 5, lf (.ptr 6 0), [(6, some (.box 50 [dI 0, .val (.slice none 0 0), .val (.slice none 0 0), .val (.slice none 0 0), dS ByteArray.empty]))]⟩, ⟨none, lf (.val undef), [(6, some (.box 50 [dI s.1.1, .ref 3, .ref 4, .ref 5, dS s.2.2.2]))]⟩, ⟨some 6, lf (dI s.1.1), []⟩] [[], [0], [], [2], [2, 3], [], [0, 1, 5], [0, 1, 2, 3, 4, 5, 6]] mixed rfl (by kernel_rfl) ?_ ?_
  · refine ⟨fun s_ hs => Acts.of1 rfl (Does.loadPA (Evl.tmp (hs.tm 2 rfl)) (hs.en 0 rfl) tsh_50 rfl rfl) rfl, fun s_ hs => Acts.of1 rfl (Does.callG 3 (fc_impl_copySTG s hz) enters_71 ⟨_, _, rfl, (Ev.tmp (hs.tm 9 rfl)), rfl⟩ rfl rfl ⟨(hs.fr 3 rfl), (hs.fr 4 rfl), (hs.fr 5 rfl), trivial⟩ (Nat.le_of_ble_eq_true rfl)) rfl, fun s_ hs => Acts.of1 rfl (Does.fieldP (Evl.tmp (hs.tm 2 rfl)) fld_50_0 (by rw [hs.en 0 rfl]; rfl) rfl) rfl, fun s_ hs => Acts.of1 rfl (Does.fieldP (Evl.tmp (hs.tm 11 rfl)) fld_47_0 (by rw [hs.en 0 rfl]; rfl) rfl) rfl, fun s_ hs => Acts.of1 rfl (Does.loadP (Evl.tmp (hs.tm 12 rfl)) (hs.en 0 rfl) tsh_3 rfl rfl) rfl, fun s_ hs => Acts.of1 rfl (Does.alloc 6 (.pr (.pr .int (.sl 146 (.pr (.sl 3 .int) (.sl 3 .int)))) (.pr (.sl 129 (.pr .str .int)) (.pr (.sl 131 (.pr .int .bool)) .str))) zer_50 rfl rfl (hs.fr 6 rfl) (Nat.le_of_ble_eq_true rfl)) rfl, fun s_ hs => Acts.of1 rfl (Does.storeP (Evl.tmp (hs.tm 5 rfl)) (hs.en 6 rfl) (Ev.tmp (hs.tm 10 rfl)) (by simp only [okLVs, okLV, List.all_cons, List.all_nil]; rw [hs.en 3 rfl, hs.en 4 rfl, hs.en 5 rfl]; rfl) tsh_50 rfl) rfl, fun s_ hs => Acts.of1 rfl (Does.assign (hs.tm 13 rfl) rfl) rfl, trivial⟩
  refine (?_ : AC _ _ _ _ _)
  refine AC.wk (s' := _) (Wk.refl _ _) ?_
  refine AC.seq ?_
  refine AC.wk (Wk.open (q := 3) rfl (by omega)) ?_
  refine AC.wk (Wk.splitX 7 (q := 3) (p := (o.1).toNat * 2 + 1) (E' := 3) (e' := .int) (ys := x.2) rfl (hcA) (Fresh.of rfl) (Nat.le_of_ble_eq_true rfl)) ?_
  refine AC.wk (Wk.splitX 8 (q := 3) (p := (o.2.1).toNat * 2 + 0) (E' := 3) (e' := .int) (ys := y.1) rfl (by simp only [ovr, List.getElem?_set, List.length_set, hpA, hpB, hpAB, hpAB.symm, hcA, hcB, eq_self, if_true, if_false, ↓reduceIte]) (Fresh.of rfl) (Nat.le_of_ble_eq_true rfl)) ?_
  refine AC.drawL [⟨some 14, lf (.ptr 6 0), []⟩, ⟨some 15, lf (.ptr 6 1), []⟩, ⟨some 16, lf (.ref 3), []⟩, ⟨some 17, lf (.ptr 1 0), []⟩, ⟨some 18, lf (dI o.1), []⟩, ⟨some 19, lf (.ept 3 2 ((o.1).toNat) 0), []⟩, ⟨some 20, lf (.ptr 6 0), []⟩, ⟨some 21, lf (.ptr 6 1), []⟩, ⟨some 22, lf (.ref 3), []⟩, ⟨some 23, lf (.ptr 1 1), []⟩, ⟨some 24, lf (dI o.2.1), []⟩, ⟨some 25, lf (.ept 3 2 ((o.2.1).toNat) 0), []⟩, ⟨some 7, lf (.ept 3 2 ((o.1).toNat) 0), []⟩, ⟨some 8, lf (.ept 3 2 ((o.2.1).toNat) 0), []⟩] [[], [0], [0, 1], [], [3], [0, 1, 2, 3, 4], [], [6], [6, 7], [], [9], [6, 7, 8, 9, 10], [0, 1, 2, 3, 4, 5], [0, 1, 2, 3, 4, 5, 6, 7, 8, 9, 10, 11, 12]] mixed rfl (by kernel_rfl) ?_ ?_
  · refine ⟨fun s_ hs => Acts.of1 rfl (Does.fieldP (Evl.tmp (hs.tm 5 rfl)) fld_50_0 (by rw [hs.en 6 rfl]; rfl) rfl) rfl, fun s_ hs => Acts.of1 rfl (Does.fieldP (Evl.tmp (hs.tm 14 rfl)) fld_47_1 (by rw [hs.en 6 rfl]; rfl) rfl) rfl, fun s_ hs => Acts.of1 rfl (Does.loadP (Evl.tmp (hs.tm 15 rfl)) (hs.en 6 rfl) tsh_45 rfl rfl) rfl, fun s_ hs => Acts.of1 rfl (Does.fieldP (Evl.tmp (hs.tm 3 rfl)) fld_54_0 (by rw [hs.en 1 rfl]; rfl) rfl) rfl, fun s_ hs => Acts.of1 rfl (Does.loadP (Evl.tmp (hs.tm 17 rfl)) (hs.en 1 rfl) tsh_3 rfl rfl) rfl, fun s_ hs => Acts.of1 rfl (Does.indexX (Evl.tmp (hs.tm 16 rfl)) (hs.en 3 rfl) (Evl.tmp (hs.tm 18 rfl)) und_45 tsh_146 rfl (by omega) (by omega)) rfl, fun s_ hs => Acts.of1 rfl (Does.fieldP (Evl.tmp (hs.tm 5 rfl)) fld_50_0 (by rw [hs.en 6 rfl]; rfl) rfl) rfl, fun s_ hs => Acts.of1 rfl (Does.fieldP (Evl.tmp (hs.tm 20 rfl)) fld_47_1 (by rw [hs.en 6 rfl]; rfl) rfl) rfl, fun s_ hs => Acts.of1 rfl (Does.loadP (Evl.tmp (hs.tm 21 rfl)) (hs.en 6 rfl) tsh_45 rfl rfl) rfl, fun s_ hs => Acts.of1 rfl (Does.fieldP (Evl.tmp (hs.tm 3 rfl)) fld_54_1 (by rw [hs.en 1 rfl]; rfl) rfl) rfl, fun s_ hs => Acts.of1 rfl (Does.loadP (Evl.tmp (hs.tm 23 rfl)) (hs.en 1 rfl) tsh_3 rfl rfl) rfl, fun s_ hs => Acts.of1 rfl (Does.indexX (Evl.tmp (hs.tm 22 rfl)) (hs.en 3 rfl) (Evl.tmp (hs.tm 24 rfl)) und_45 tsh_146 rfl (by omega) (by omega)) rfl, fun s_ hs => Acts.of1 rfl (Does.assign (hs.tm 19 rfl) rfl) rfl, fun s_ hs => Acts.of1 rfl (Does.assign (hs.tm 25 rfl) rfl) rfl, trivial⟩
  refine (?_ : AC _ _ _ _ _)
  refine AC.wk (s' := _) (Wk.refl _ _) ?_
  refine AC.seq ?_
  refine AC.drawL [⟨some 26, lf (.ept 3 2 ((o.1).toNat) 0), []⟩, ⟨some 27, lf (.ept 3 2 ((o.2.1).toNat) 0), []⟩, ⟨some 28, lf (.ept 3 2 ((o.1).toNat) 0), []⟩, ⟨some 29, lf (.ept 3 2 ((o.1).toNat) 0), []⟩, ⟨some 30, lf (.ept 3 2 ((o.1).toNat) 1), []⟩, ⟨some 31, lf (.ref 7), []⟩, ⟨some 32, lf (dI s.1.1), []⟩, ⟨some 33, lf (.ref 9), [(9, some (.arr 3 .int ([s.1.1])))]⟩, ⟨some 34, lf (.ref 10), [(10, some (.arr 3 .int (x.2 ++ ([s.1.1])))), (7, none), (9, none)]⟩, ⟨some 35, lf (.ept 3 2 ((o.2.1).toNat) 0), []⟩, ⟨some 36, lf (.ept 3 2 ((o.2.1).toNat) 0), []⟩, ⟨some 37, lf (.ept 3 2 ((o.2.1).toNat) 0), []⟩, ⟨some 38, lf (.ref 8), []⟩, ⟨some 39, lf (dI s.1.1), []⟩, ⟨some 40, lf (.ref 11), [(11, some (.arr 3 .int ([s.1.1])))]⟩, ⟨some 41, lf (.ref 12), [(12, some (.arr 3 .int (y.1 ++ ([s.1.1])))), (8, none), (11, none)]⟩, ⟨some 42, lf (.ept 3 2 ((o.1).toNat) 0), []⟩, ⟨some 43, lf (.ept 3 2 ((o.1).toNat) 1), []⟩, ⟨none, lf (.val undef), [(3, some (.obx 146 2 ((s.1.2).length) (cellsL (.pr (.sl 3 .int) (.sl 3 .int)) (s.1.2)) [((o.1).toNat * 2 + 1, .ref 10), ((o.2.1).toNat * 2 + 0, .ref 8), ((o.1).toNat * 2 + 1, .ref 7)]))]⟩, ⟨some 44, lf (.ept 3 2 ((o.2.1).toNat) 0), []⟩, ⟨some 45, lf (.ept 3 2 ((o.2.1).toNat) 0), []⟩, ⟨none, lf (.val undef), [(3, some (.obx 146 2 ((s.1.2).length) (cellsL (.pr (.sl 3 .int) (.sl 3 .int)) (s.1.2)) [((o.2.1).toNat * 2 + 0, .ref 12), ((o.1).toNat * 2 + 1, .ref 10), ((o.2.1).toNat * 2 + 0, .ref 8), ((o.1).toNat * 2 + 1, .ref 7)]))]⟩] [[], [], [], [2], [2, 3], [2, 3, 4], [], [6], [2, 3, 4, 5, 6, 7], [], [9], [9, 10], [9, 10, 11], [], [13], [2, 3, 4, 5, 6, 7, 8, 9, 10, 11, 12, 13, 14], [0, 2, 3, 4, 5, 6, 7, 8, 9, 10, 11, 12, 13, 14, 15], [0, 2, 3, 4, 5, 6, 7, 8, 9, 10, 11, 12, 13, 14, 15, 16], [0, 2, 3, 4, 5, 6, 7, 8, 9, 10, 11, 12, 13, 14, 15, 16, 17], [0, 1, 2, 3, 4, 5, 6, 7, 8, 9, 10, 11, 12, 13, 14, 15, 16, 17, 18], [0, 1, 2, 3, 4, 5, 6, 7, 8, 9, 10, 11, 12, 13, 14, 15, 16, 17, 18, 19], [0, 1, 2, 3, 4, 5, 6, 7, 8, 9, 10, 11, 12, 13, 14, 15, 16, 17, 18, 19, 20]] mixed rfl (by kernel_rfl) ?_ ?_
  · refine ⟨fun s_ hs => Acts.of1 rfl (Does.move (hs.tm 7 rfl) rfl) rfl, fun s_ hs => Acts.of1 rfl (Does.move (hs.tm 8 rfl) rfl) rfl, fun s_ hs => Acts.of1 rfl (Does.move (hs.tm 7 rfl) rfl) rfl, fun s_ hs => Acts.of1 rfl (Does.nilI (Evl.tmp (hs.tm 28 rfl)) (by rw [hs.en 3 rfl]; rfl) rfl) rfl, fun s_ hs => Acts.of1 rfl (Does.fieldI (Evl.tmp (hs.tm 29 rfl)) fld_146_1 (by rw [hs.en 3 rfl]; rfl) rfl) rfl, fun s_ hs => Acts.of1 rfl (Does.loadX (Evl.tmp (hs.tm 30 rfl)) (hs.en 3 rfl) (by simp only [ovr, List.getElem?_set, List.length_set, hpA, hpB, hpAB, hpAB.symm, hcA, hcB, eq_self, if_true, if_false, ↓reduceIte]) (hs.en 7 rfl) tsh_72 rfl) rfl, fun s_ hs => Acts.of1 rfl (Does.move (hs.tm 6 rfl) rfl) rfl, fun s_ hs => Acts.of1 rfl (Does.buildSlice 9 (e := .int) und_72 tsh_3 zer_3 rfl ⟨_, _, rfl, (Ev.tmp (hs.tm 32 rfl)), rfl⟩ (List.all_eq_true.1 rfl) ⟨_, _, _, _, rfl, ⟨rfl, rfl⟩, ⟨rfl, rfl⟩, rfl⟩ (by decide) rfl rfl (hs.fr 9 rfl) (Nat.le_of_ble_eq_true rfl)) rfl, fun s_ hs => Acts.of1 rfl (Does.append 10 (Evl.tmp (hs.tm 31 rfl)) (hs.en 7 rfl) (Evl.tmp (hs.tm 33 rfl)) (hs.en 9 rfl) rfl und_72 elb_3 (by simp only [List.length_append, List.length_map, List.length_take, List.length_cons, List.length_nil]; omega) rfl (hs.fr 10 rfl) (Nat.le_of_ble_eq_true rfl)) rfl, fun s_ hs => Acts.of1 rfl (Does.move (hs.tm 8 rfl) rfl) rfl, fun s_ hs => Acts.of1 rfl (Does.nilI (Evl.tmp (hs.tm 35 rfl)) (by rw [hs.en 3 rfl]; rfl) rfl) rfl, fun s_ hs => Acts.of1 rfl (Does.fieldI (Evl.tmp (hs.tm 36 rfl)) fld_146_0 (by rw [hs.en 3 rfl]; rfl) rfl) rfl, fun s_ hs => Acts.of1 rfl (Does.loadX (Evl.tmp (hs.tm 37 rfl)) (hs.en 3 rfl) (by simp only [ovr, List.getElem?_set, List.length_set, hpA, hpB, hpAB, hpAB.symm, hcA, hcB, eq_self, if_true, if_false, ↓reduceIte]) (hs.en 8 rfl) tsh_72 rfl) rfl, fun s_ hs => Acts.of1 rfl (Does.move (hs.tm 6 rfl) rfl) rfl, fun s_ hs => Acts.of1 rfl (Does.buildSlice 11 (e := .int) und_72 tsh_3 zer_3 rfl ⟨_, _, rfl, (Ev.tmp (hs.tm 39 rfl)), rfl⟩ (List.all_eq_true.1 rfl) ⟨_, _, _, _, rfl, ⟨rfl, rfl⟩, ⟨rfl, rfl⟩, rfl⟩ (by decide) rfl rfl (hs.fr 11 rfl) (Nat.le_of_ble_eq_true rfl)) rfl, fun s_ hs => Acts.of1 rfl (Does.append 12 (Evl.tmp (hs.tm 38 rfl)) (hs.en 8 rfl) (Evl.tmp (hs.tm 40 rfl)) (hs.en 11 rfl) rfl und_72 elb_3 (by simp only [List.length_append, List.length_map, List.length_take, List.length_cons, List.length_nil]; omega) rfl (hs.fr 12 rfl) (Nat.le_of_ble_eq_true rfl)) rfl, fun s_ hs => Acts.of1 rfl (Does.nilI (Evl.tmp (hs.tm 26 rfl)) (by rw [hs.en 3 rfl]; rfl) rfl) rfl, fun s_ hs => Acts.of1 rfl (Does.fieldI (Evl.tmp (hs.tm 42 rfl)) fld_146_1 (by rw [hs.en 3 rfl]; rfl) rfl) rfl, fun s_ hs => Acts.of1 rfl (Does.storeX (t := 7) (Evl.tmp (hs.tm 43 rfl)) (hs.en 3 rfl) (by simp only [ovr, List.getElem?_set, List.length_set, hpA, hpB, hpAB, hpAB.symm, hcA, hcB, eq_self, if_true, if_false, ↓reduceIte]) (Evl.tmp (hs.tm 34 rfl)) (hs.en 10 rfl) tsh_72) rfl, fun s_ hs => Acts.of1 rfl (Does.nilI (Evl.tmp (hs.tm 27 rfl)) (by rw [hs.en 3 rfl]; rfl) rfl) rfl, fun s_ hs => Acts.of1 rfl (Does.fieldI (Evl.tmp (hs.tm 44 rfl)) fld_146_0 (by rw [hs.en 3 rfl]; rfl) rfl) rfl, fun s_ hs => Acts.of1 rfl (Does.storeX (t := 8) (Evl.tmp (hs.tm 45 rfl)) (hs.en 3 rfl) (by simp only [ovr, List.getElem?_set, List.length_set, hpA, hpB, hpAB, hpAB.symm, hcA, hcB, eq_self, if_true, if_false, ↓reduceIte]) (Evl.tmp (hs.tm 41 rfl)) (hs.en 12 rfl) tsh_72) rfl, trivial⟩
  refine (?_ : AC _ _ _ _ _)
  refine AC.wk (s' := _) (Wk.refl _ _) ?_
  refine AC.seq ?_
  refine AC.wk (Wk.joinX (q := 3) (t := 10) (p := (o.1).toNat * 2 + 1) rfl (by simp only [ovr, List.getElem?_set, List.length_set, hpA, hpB, hpAB, hpAB.symm, hcA, hcB, eq_self, if_true, if_false, ↓reduceIte]) rfl) ?_
  refine AC.wk (Wk.joinX (q := 3) (t := 12) (p := (o.2.1).toNat * 2 + 0) rfl (by simp only [ovr, List.getElem?_set, List.length_set, hpA, hpB, hpAB, hpAB.symm, hcA, hcB, eq_self, if_true, if_false, ↓reduceIte]) rfl) ?_
  refine AC.wk (Wk.close (q := 3) (e := (.pr (.sl 3 .int) (.sl 3 .int))) (addT s.1.2 (o.1).toNat (o.2.1).toNat s.1.1) rfl (by simp [addT]) (by simp only [ovr]; rw [set6 hpAB, cells_set1 hx, cells_set0 (by rw [List.getElem?_set_ne hab]; exact hy), addT_set hx hy hab])) ?_
  refine AC.region ?_
  refine AL.cons rfl (Does.fieldP (Evl.tmp rfl) fld_50_0 rfl rfl) ?_
  refine AL.cons rfl (Does.fieldP (Evl.tmp rfl) fld_47_0 rfl rfl) ?_
  refine AL.cons rfl (Does.loadP (Evl.tmp rfl) rfl tsh_3 rfl rfl) ?_
  refine AL.cons rfl (Does.add (Evl.tmp rfl) (Evl.int rfl) rfl (by omega)) ?_
  refine AL.cons rfl (Does.fieldP (Evl.tmp rfl) fld_50_0 rfl rfl) ?_
  refine AL.cons rfl (Does.fieldP (Evl.tmp rfl) fld_47_0 rfl rfl) ?_
  refine AL.cons rfl (Does.storeP (Evl.tmp rfl) rfl (Ev.tmp rfl) rfl tsh_3 rfl) ?_
  refine AL.nil ?_
  refine (?_ : AC _ _ _ _ _)
  refine AC.seq ?_
  refine AC.drawL [⟨some 52, lf (.ptr 6 4), []⟩, ⟨some 53, lf (dS s.2.2.2), []⟩, ⟨some 54, lf (.ptr 1 2), []⟩, ⟨some 55, lf (dB o.2.2), []⟩, ⟨some 56, lf (.dat .u8 (if o.2.2 then 49 else 48)), []⟩, ⟨some 57, lf (.ref 13), [(13, some (.arr 5 .u8 ([if o.2.2 then 49 else 48])))]⟩, ⟨some 58, lf (dS (⟨#[if o.2.2 then 49 else 48]⟩ : ByteArray)), []⟩, ⟨some 59, lf (dS (s.2.2.2 ++ (⟨#[if o.2.2 then 49 else 48]⟩ : ByteArray))), []⟩, ⟨some 60, lf (.ptr 6 4), []⟩, ⟨none, lf (.val undef), [(6, some (.box 50 [dI (s.1.1 + 1), .ref 3, .ref 4, .ref 5, dS (s.2.2.2 ++ (⟨#[if o.2.2 then 49 else 48]⟩ : ByteArray))]))]⟩] [[], [0], [], [2], [2, 3], [2, 3, 4], [2, 3, 4, 5], [0, 1, 2, 3, 4, 5, 6], [0, 1, 2, 3, 4, 5, 6, 7], [0, 1, 2, 3, 4, 5, 6, 7, 8]] mixed rfl (by kernel_rfl) ?_ ?_
  · refine ⟨fun s_ hs => Acts.of1 rfl (Does.fieldP (Evl.tmp (hs.tm 5 rfl)) fld_50_3 (by rw [hs.en 6 rfl]; rfl) rfl) rfl, fun s_ hs => Acts.of1 rfl (Does.loadP (Evl.tmp (hs.tm 52 rfl)) (hs.en 6 rfl) tsh_9 rfl rfl) rfl, fun s_ hs => Acts.of1 rfl (Does.fieldP (Evl.tmp (hs.tm 3 rfl)) fld_54_2 (by rw [hs.en 1 rfl]; rfl) rfl) rfl, fun s_ hs => Acts.of1 rfl (Does.loadP (Evl.tmp (hs.tm 54 rfl)) (hs.en 1 rfl) tsh_4 rfl rfl) rfl, fun s_ hs => Acts.of1 rfl (Does.call (fc_impl_bit o.2.2) enters_113 ⟨_, _, rfl, (Ev.tmp (hs.tm 55 rfl)), rfl⟩ rfl rfl) rfl, fun s_ hs => Acts.of1 rfl (Does.buildSlice 13 (e := .u8) und_156 tsh_5 zer_5 rfl ⟨_, _, rfl, (Ev.tmp (hs.tm 56 rfl)), rfl⟩ (List.all_eq_true.1 rfl) ⟨_, _, _, _, rfl, ⟨rfl, rfl⟩, ⟨rfl, rfl⟩, rfl⟩ (by decide) rfl rfl (hs.fr 13 rfl) (Nat.le_of_ble_eq_true rfl)) rfl, fun s_ hs => Acts.of1 rfl (Does.ofBytes (ys := [if o.2.2 then 49 else 48]) (Evl.repO (Evl.tmp (hs.tm 57 rfl)) (hs.en 13 rfl)) und_156 und_5 und_9 rfl) rfl, fun s_ hs => Acts.of1 rfl (Does.addS (Evl.tmp (hs.tm 53 rfl)) (Evl.tmp (hs.tm 58 rfl)) rfl (by simp only [bsize1]; omega)) rfl, fun s_ hs => Acts.of1 rfl (Does.fieldP (Evl.tmp (hs.tm 5 rfl)) fld_50_3 (by rw [hs.en 6 rfl]; rfl) rfl) rfl, fun s_ hs => Acts.of1 rfl (Does.storeP (Evl.tmp (hs.tm 60 rfl)) (hs.en 6 rfl) (Ev.tmp (hs.tm 59 rfl)) rfl tsh_9 rfl) rfl, trivial⟩
  refine (?_ : AC _ _ _ _ _)
  refine AC.wk (s' := _) (Wk.refl _ _) ?_
  refine AC.seq ?_
  refine AC.region ?_
  refine AL.cons rfl (Does.loadPA (Evl.tmp rfl) rfl tsh_50 rfl rfl) ?_
  refine AL.cons rfl (Does.storeP (Evl.tmp rfl) rfl (Ev.tmp rfl) rfl tsh_50 rfl) ?_
  refine AL.nil ?_
  refine (?_ : AC _ _ _ _ _)
  refine AC.ret ?_
  subst hO
  have e4 : (s.1.1 + 1 : Int) = ((addOrd s o).1).1 := by
    first | rfl | (simp_all; done) | (rw [Bool.eq_iff_iff]; simp; omega) | (simp_all; omega) | (rw [Bool.eq_iff_iff]; simp_all; omega)
  have e5 : (s.2.2.2 ++ (⟨#[if o.2.2 then 49 else 48]⟩ : ByteArray) : ByteArray) = (addOrd s o).2.2.2 := by
    first | rfl | (simp_all; done) | (rw [Bool.eq_iff_iff]; simp; omega) | (simp_all; omega) | (rw [Bool.eq_iff_iff]; simp_all; omega)
  exact fin_is (ag [dI (((addOrd s o).1).1), .ref 0, .ref 1, .ref 2, dS ((addOrd s o).2.2.2)]) [(0, some (.arr 146 (.pr (.sl 3 .int) (.sl 3 .int)) (((addOrd s o).1).2))), (1, some (.arr 129 (.pr .str .int) ((addOrd s o).2.1))), (2, some (.arr 131 (.pr .int .bool) ((addOrd s o).2.2.1)))] [(0, 3), (1, 4), (2, 5)] (Res.one rfl (Rs.cell rfl rfl tsh_50 rfl)) (show ag [dI (s.1.1 + 1), .ref 3, .ref 4, .ref 5, dS (s.2.2.2 ++ (⟨#[if o.2.2 then 49 else 48]⟩ : ByteArray))] = ag [dI (((addOrd s o).1).1), .ref 3, .ref 4, .ref 5, dS ((addOrd s o).2.2.2)] by exact ((congrArg (fun z_ => ag [dI z_, .ref 3, .ref 4, .ref 5, dS (s.2.2.2 ++ (⟨#[if o.2.2 then 49 else 48]⟩ : ByteArray))]) e4)).trans (congrArg (fun z_ => ag [dI (((addOrd s o).1).1), .ref 3, .ref 4, .ref 5, dS z_]) e5)) ⟨(show some (Ent.arr 146 (.pr (.sl 3 .int) (.sl 3 .int)) (addT s.1.2 (o.1).toNat (o.2.1).toNat s.1.1)) = some (Ent.arr 146 (.pr (.sl 3 .int) (.sl 3 .int)) (((addOrd s o).1).2)) from congrArg (fun z => some (Ent.arr 146 (.pr (.sl 3 .int) (.sl 3 .int)) z)) (by first | rfl | (simp_all; done) | (rw [Bool.eq_iff_iff]; simp; omega) | (simp_all; omega) | (rw [Bool.eq_iff_iff]; simp_all; omega))), (show some (Ent.arr 129 (.pr .str .int) s.2.1) = some (Ent.arr 129 (.pr .str .int) ((addOrd s o).2.1)) from congrArg (fun z => some (Ent.arr 129 (.pr .str .int) z)) (by first | rfl | (simp_all; done) | (rw [Bool.eq_iff_iff]; simp; omega) | (simp_all; omega) | (rw [Bool.eq_iff_iff]; simp_all; omega))), (show some (Ent.arr 131 (.pr .int .bool) s.2.2.1) = some (Ent.arr 131 (.pr .int .bool) ((addOrd s o).2.2.1)) from congrArg (fun z => some (Ent.arr 131 (.pr .int .bool) z)) (by first | rfl | (simp_all; done) | (rw [Bool.eq_iff_iff]; simp; omega) | (simp_all; omega) | (rw [Bool.eq_iff_iff]; simp_all; omega))), trivial⟩ rfl rfl

def zeroSTG : DSTG := ((0, []), [], [], ByteArray.empty)

/-- A graph if it is one. -/
def stgIfV (s : DSTG) [Decidable (StgOk s)] : DSTG × Bool := if StgOk s then (s, true) else (zeroSTG, false)
theorem stgIf_yes {s : DSTG} [Decidable (StgOk s)] (h : decide (StgOk s) = true) : stgIfV s = (s, true) := if_pos (of_decide_eq_true h)
theorem stgIf_no {s : DSTG} [Decidable (StgOk s)] (h : decide (StgOk s) = false) : stgIfV s = (zeroSTG, false) := if_neg (of_decide_eq_false h)

set_option maxRecDepth 100000 in
set_option maxHeartbeats 4000000 in
theorem fc_impl_stgIf (s : (Int × (List (List Int × List Int))) × (List (ByteArray × Int)) × (List (Int × Bool)) × ByteArray) [Decidable (StgOk s)]  : FC Try.prog 59 [(true, [dI s.1.1, .ref 0, .ref 1, .ref 2, dS s.2.2.2])] [(0, some (.arr 146 (.pr (.sl 3 .int) (.sl 3 .int)) s.1.2)), (1, some (.arr 129 (.pr .str .int) s.2.1)), (2, some (.arr 131 (.pr .int .bool) s.2.2.1))] 0 (Is (PV.tup [(true, [dI ((((stgIfV s).1).1).1), .ref 0, .ref 1, .ref 2, dS (((stgIfV s).1).2.2.2)]), (false, [dB ((stgIfV s).2)])]) [(0, some (.arr 146 (.pr (.sl 3 .int) (.sl 3 .int)) ((((stgIfV s).1).1).2))), (1, some (.arr 129 (.pr .str .int) (((stgIfV s).1).2.1))), (2, some (.arr 131 (.pr .int .bool) (((stgIfV s).1).2.2.1)))]) := by
  obtain ⟨O_, hO⟩ : ∃ x : PV → Tab → Prop, x = Is (PV.tup [(true, [dI ((((stgIfV s).1).1).1), .ref 0, .ref 1, .ref 2, dS (((stgIfV s).1).2.2.2)]), (false, [dB ((stgIfV s).2)])]) [(0, some (.arr 146 (.pr (.sl 3 .int) (.sl 3 .int)) ((((stgIfV s).1).1).2))), (1, some (.arr 129 (.pr .str .int) (((stgIfV s).1).2.1))), (2, some (.arr 131 (.pr .int .bool) (((stgIfV s).1).2.2.1)))] := ⟨_, rfl⟩
  refine FC.O_of hO (FC.ren (FC.of Try.func59 rfl rfl fun A_ hn_ hk_ => ?_))
  obtain ⟨w0_, N0_, X_, n_, k0_, h0_, f0_⟩ := A_
  obtain rfl : n_ = 9 := hn_.trans Try.ntmps59
  obtain rfl : k0_ = 0 := hk_
  refine AC.fact (fact_ag (x := .tmp 0) (i := 0) (Ev.tmp rfl) rfl) fun hi1 => ?_
  refine AC.seq ?_
  refine AC.region ?_
  refine AL.cons rfl (Does.box 3 (Ev.tmp rfl) rfl rfl (Fresh.of rfl) (Nat.le_of_ble_eq_true rfl)) ?_
  refine AL.cons rfl (Does.alloc 4 (.pr (.pr .int (.sl 146 (.pr (.sl 3 .int) (.sl 3 .int)))) (.pr (.sl 129 (.pr .str .int)) (.pr (.sl 131 (.pr .int .bool)) .str))) zer_50 rfl rfl (Fresh.of rfl) (Nat.le_of_ble_eq_true rfl)) ?_
  refine AL.cons rfl (Does.assignC Evl.bool rfl) ?_
  refine AL.nil ?_
  refine (?_ : AC _ _ _ _ _)
  refine AC.seq ?_
  refine AC.seq ?_
  refine AC.region ?_
  refine AL.cons rfl (Does.loadPA (Evl.tmp rfl) rfl tsh_50 rfl rfl) ?_
  refine AL.cons rfl (Does.callB (fc_impl_IsValidSTG s) enters_57 ⟨_, _, rfl, (Ev.ob (Ev.tmp rfl) ⟨_, _, rfl, .inl rfl, ⟨_, _, rfl, .inr ⟨_, _, _, _, rfl, rfl, rfl⟩, ⟨_, _, rfl, .inr ⟨_, _, _, _, rfl, rfl, rfl⟩, ⟨_, _, rfl, .inr ⟨_, _, _, _, rfl, rfl, rfl⟩, ⟨_, _, rfl, .inl rfl, rfl⟩⟩⟩⟩⟩), rfl⟩ rfl rfl rfl) ?_
  refine AL.cons rfl (Does.not (Evl.tmp rfl) rfl) ?_
  refine AL.nil ?_
  refine (?_ : AC _ _ _ _ _)
  cases hb2 : (decide (StgOk s))
  · have _h := hb2
    have hb2' : ¬ (StgOk s) := of_decide_eq_false hb2
    refine AC.condT (Evl.tmp rfl) ?_
    refine AC.seq ?_
    refine AC.region ?_
    refine AL.cons rfl (Does.build bld_50 rfl (List.all_eq_true.1 rfl) rfl rfl) ?_
    refine AL.cons rfl (Does.storeP (Evl.tmp rfl) rfl (Ev.tmp rfl) rfl tsh_50 rfl) ?_
    refine AL.cons rfl (Does.assignC Evl.bool rfl) ?_
    refine AL.nil ?_
    refine (?_ : AC _ _ _ _ _)
    refine AC.wk (Wk.nilC 5 (p := 4) (off := 1) 146 (.pr (.sl 3 .int) (.sl 3 .int)) rfl rfl (Fresh.of rfl) (Nat.le_of_ble_eq_true rfl)) ?_
    refine AC.wk (Wk.nilC 6 (p := 4) (off := 2) 129 (.pr .str .int) rfl rfl (Fresh.of rfl) (Nat.le_of_ble_eq_true rfl)) ?_
    refine AC.wk (Wk.nilC 7 (p := 4) (off := 3) 131 (.pr .int .bool) rfl rfl (Fresh.of rfl) (Nat.le_of_ble_eq_true rfl)) ?_
    refine AC.ret ?_
    subst hO
    have e3 : (0 : Int) = (((stgIfV s).1).1).1 := by
      first | (rw [stgIf_yes (by assumption)]; done) | (rw [stgIf_no (by assumption)]; done) | (rw [stgIf_no (by assumption)]; rfl)
    have e4 : (ByteArray.empty : ByteArray) = ((stgIfV s).1).2.2.2 := by
      first | (rw [stgIf_yes (by assumption)]; done) | (rw [stgIf_no (by assumption)]; done) | (rw [stgIf_no (by assumption)]; rfl)
    have e5 : (false : Bool) = (stgIfV s).2 := by
      first | (rw [stgIf_yes (by assumption)]; done) | (rw [stgIf_no (by assumption)]; done) | (rw [stgIf_no (by assumption)]; rfl)
    exact fin_is (PV.tup [(true, [dI ((((stgIfV s).1).1).1), .ref 0, .ref 1, .ref 2, dS (((stgIfV s).1).2.2.2)]), (false, [dB ((stgIfV s).2)])]) [(0, some (.arr 146 (.pr (.sl 3 .int) (.sl 3 .int)) ((((stgIfV s).1).1).2))), (1, some (.arr 129 (.pr .str .int) (((stgIfV s).1).2.1))), (2, some (.arr 131 (.pr .int .bool) (((stgIfV s).1).2.2.1)))] [(0, 5), (1, 6), (2, 7)] (Res.two rfl (Rs.cell rfl rfl tsh_50 rfl) (Rs.tmp rfl)) (show PV.tup [(true, [dI 0, .ref 5, .ref 6, .ref 7, dS ByteArray.empty]), (false, [dB false])] = PV.tup [(true, [dI ((((stgIfV s).1).1).1), .ref 5, .ref 6, .ref 7, dS (((stgIfV s).1).2.2.2)]), (false, [dB ((stgIfV s).2)])] by exact (((congrArg (fun z_ => PV.tup [(true, [dI z_, .ref 5, .ref 6, .ref 7, dS ByteArray.empty]), (false, [dB false])]) e3)).trans (congrArg (fun z_ => PV.tup [(true, [dI ((((stgIfV s).1).1).1), .ref 5, .ref 6, .ref 7, dS z_]), (false, [dB false])]) e4)).trans (congrArg (fun z_ => PV.tup [(true, [dI ((((stgIfV s).1).1).1), .ref 5, .ref 6, .ref 7, dS (((stgIfV s).1).2.2.2)]), (false, [dB z_])]) e5)) ⟨(show some (Ent.arr 146 (.pr (.sl 3 .int) (.sl 3 .int)) ([])) = some (Ent.arr 146 (.pr (.sl 3 .int) (.sl 3 .int)) ((((stgIfV s).1).1).2)) from congrArg (fun z => some (Ent.arr 146 (.pr (.sl 3 .int) (.sl 3 .int)) z)) (by first | (rw [stgIf_yes (by assumption)]; done) | (rw [stgIf_no (by assumption)]; done) | (rw [stgIf_no (by assumption)]; rfl))), (show some (Ent.arr 129 (.pr .str .int) ([])) = some (Ent.arr 129 (.pr .str .int) (((stgIfV s).1).2.1)) from congrArg (fun z => some (Ent.arr 129 (.pr .str .int) z)) (by first | (rw [stgIf_yes (by assumption)]; done) | (rw [stgIf_no (by assumption)]; done) | (rw [stgIf_no (by assumption)]; rfl))), (show some (Ent.arr 131 (.pr .int .bool) ([])) = some (Ent.arr 131 (.pr .int .bool) (((stgIfV s).1).2.2.1)) from congrArg (fun z => some (Ent.arr 131 (.pr .int .bool) z)) (by first | (rw [stgIf_yes (by assumption)]; done) | (rw [stgIf_no (by assumption)]; done) | (rw [stgIf_no (by assumption)]; rfl))), trivial⟩ rfl rfl
  · have _h := hb2
    have hb2' : (StgOk s) := of_decide_eq_true hb2
    refine AC.condF (Evl.tmp rfl) ?_
    refine AC.skip ?_
    refine (?_ : AC _ _ _ _ _)
    refine AC.seq ?_
    refine AC.region ?_
    refine AL.cons rfl (Does.loadPA (Evl.tmp rfl) rfl tsh_50 rfl rfl) ?_
    refine AL.cons rfl (Does.storeP (Evl.tmp rfl) rfl (Ev.tmp rfl) rfl tsh_50 rfl) ?_
    refine AL.cons rfl (Does.assignC Evl.bool rfl) ?_
    refine AL.nil ?_
    refine (?_ : AC _ _ _ _ _)
    refine AC.ret ?_
    subst hO
    have e6 : (s.1.1 : Int) = (((stgIfV s).1).1).1 := by
      first | (rw [stgIf_yes (by assumption)]; done) | (rw [stgIf_no (by assumption)]; done) | (rw [stgIf_no (by assumption)]; rfl)
    have e7 : (s.2.2.2 : ByteArray) = ((stgIfV s).1).2.2.2 := by
      first | (rw [stgIf_yes (by assumption)]; done) | (rw [stgIf_no (by assumption)]; done) | (rw [stgIf_no (by assumption)]; rfl)
    have e8 : (true : Bool) = (stgIfV s).2 := by
      first | (rw [stgIf_yes (by assumption)]; done) | (rw [stgIf_no (by assumption)]; done) | (rw [stgIf_no (by assumption)]; rfl)
    exact fin_is (PV.tup [(true, [dI ((((stgIfV s).1).1).1), .ref 0, .ref 1, .ref 2, dS (((stgIfV s).1).2.2.2)]), (false, [dB ((stgIfV s).2)])]) [(0, some (.arr 146 (.pr (.sl 3 .int) (.sl 3 .int)) ((((stgIfV s).1).1).2))), (1, some (.arr 129 (.pr .str .int) (((stgIfV s).1).2.1))), (2, some (.arr 131 (.pr .int .bool) (((stgIfV s).1).2.2.1)))] [(0, 0), (1, 1), (2, 2)] (Res.two rfl (Rs.cell rfl rfl tsh_50 rfl) (Rs.tmp rfl)) (show PV.tup [(true, [dI s.1.1, .ref 0, .ref 1, .ref 2, dS s.2.2.2]), (false, [dB true])] = PV.tup [(true, [dI ((((stgIfV s).1).1).1), .ref 0, .ref 1, .ref 2, dS (((stgIfV s).1).2.2.2)]), (false, [dB ((stgIfV s).2)])] by exact (((congrArg (fun z_ => PV.tup [(true, [dI z_, .ref 0, .ref 1, .ref 2, dS s.2.2.2]), (false, [dB true])]) e6)).trans (congrArg (fun z_ => PV.tup [(true, [dI ((((stgIfV s).1).1).1), .ref 0, .ref 1, .ref 2, dS z_]), (false, [dB true])]) e7)).trans (congrArg (fun z_ => PV.tup [(true, [dI ((((stgIfV s).1).1).1), .ref 0, .ref 1, .ref 2, dS (((stgIfV s).1).2.2.2)]), (false, [dB z_])]) e8)) ⟨(show some (Ent.arr 146 (.pr (.sl 3 .int) (.sl 3 .int)) s.1.2) = some (Ent.arr 146 (.pr (.sl 3 .int) (.sl 3 .int)) ((((stgIfV s).1).1).2)) from congrArg (fun z => some (Ent.arr 146 (.pr (.sl 3 .int) (.sl 3 .int)) z)) (by first | (rw [stgIf_yes (by assumption)]; done) | (rw [stgIf_no (by assumption)]; done) | (rw [stgIf_no (by assumption)]; rfl))), (show some (Ent.arr 129 (.pr .str .int) s.2.1) = some (Ent.arr 129 (.pr .str .int) (((stgIfV s).1).2.1)) from congrArg (fun z => some (Ent.arr 129 (.pr .str .int) z)) (by first | (rw [stgIf_yes (by assumption)]; done) | (rw [stgIf_no (by assumption)]; done) | (rw [stgIf_no (by assumption)]; rfl))), (show some (Ent.arr 131 (.pr .int .bool) s.2.2.1) = some (Ent.arr 131 (.pr .int .bool) (((stgIfV s).1).2.2.1)) from congrArg (fun z => some (Ent.arr 131 (.pr .int .bool) z)) (by first | (rw [stgIf_yes (by assumption)]; done) | (rw [stgIf_no (by assumption)]; done) | (rw [stgIf_no (by assumption)]; rfl))), trivial⟩ rfl rfl

end Go.Proofs.Ytbelopdphlllnaa
