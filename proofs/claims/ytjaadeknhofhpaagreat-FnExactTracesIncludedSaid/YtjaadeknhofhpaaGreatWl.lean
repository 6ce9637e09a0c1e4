/- Walks over abstract states: reachability. -/
import Derived.Test.YtjaadeknhofhpaaGreatWk
set_option linter.unusedSimpArgs false
set_option linter.unusedVariables false
set_option linter.unusedSectionVars false
namespace Go.Proofs.YtjaadeknhofhpaaGreat
open Go.RowKit
set_option maxRecDepth 100000
set_option maxHeartbeats 4000000

abbrev RS := List ByteArray × List (Int × Int × Int) × List (Int × Int × Int)
abbrev REnd := Int × Int × Bool
def findB (l : List ByteArray) (x : ByteArray) : Int := idxF (fun y => decide (y = x)) l
def goT (n : DNet) (k : Nat) (mk : ByteArray) : List Int → RS → RS × REnd
  | [], st => (st, (-1, -1, true))
  | t :: ts, st =>
    if (fireV n mk t).2 = false then (st, (k, t, false))
    else if 0 ≤ findB st.1 (fireV n mk t).1 then goT n k mk ts (st.1, st.2.1 ++ [((k : Int), t, findB st.1 (fireV n mk t).1)], st.2.2)
    else if st.1.length = 300 then (st, (-1, -1, false))
    else goT n k mk ts (st.1 ++ [(fireV n mk t).1], st.2.1 ++ [((k : Int), t, (st.1.length : Int))], st.2.2 ++ [((k : Int), t, (st.1.length : Int))])
def goK (n : DNet) : Nat → Nat → RS → RS × REnd
  | 0, _, st => (st, (-1, -1, true))
  | f + 1, k, st => match st.1[k]? with
    | none => (st, (-1, -1, true))
    | some mk => if (goT n k mk (enbs n mk) st).2.2.2 = true then goK n f (k + 1) (goT n k mk (enbs n mk) st).1 else goT n k mk (enbs n mk) st
def contK (n : DNet) (f k : Nat) (r : RS × REnd) : RS × REnd := if r.2.2.2 = true then goK n f (k + 1) r.1 else r
def reach (s : DSTG) : RS × REnd := goK s.1 301 0 ([s.2.2.2], [], [((0 : Int), (0 : Int), (0 : Int))])
def exV (s : DSTG) : (List ByteArray × List (Int × Int × Int)) × Int × Int × Bool := (((reach s).1.1, (reach s).1.2.1), (reach s).2)
def l4V (s : DSTG) : (List ByteArray × List (Int × Int × Int)) × List (Int × Int × Int) × Int × Int × Bool :=
  (((reach s).1.1, (reach s).1.2.1), (reach s).1.2.2, (if 0 ≤ (reach s).2.2.1 then (reach s).2.1 else 0), (reach s).2.2.1, (!(reach s).2.2.2 && decide ((reach s).2.2.1 < 0)))
def zeroRG : List ByteArray × List (Int × Int × Int) := ([], [])
section
variable [∀ s, Decidable (StgOk s)]
def exploreV (s : DSTG) : (List ByteArray × List (Int × Int × Int)) × Bool := if StgOk s ∧ (reach s).2.2.2 = true then (((reach s).1.1, (reach s).1.2.1), true) else (zeroRG, false)
end
theorem findB_app (l : List ByteArray) (x y : ByteArray) : findB (l ++ [y]) x = if 0 ≤ findB l x then findB l x else if y = x then (l.length : Int) else -1 := by
  unfold findB idxF
  rw [List.findIdx?_append]
  cases h : l.findIdx? (fun z => decide (z = x)) with
  | some i => simp
  | none =>
    by_cases e : y = x
    · simp [e]
    · simp [e]
/-- The index of the marks. -/
def IdxOf (marks : List ByteArray) (idx : List (ByteArray × Int)) : Prop := ∀ x, mget .str idx x = if 0 ≤ findB marks x then some (findB marks x) else none
section
variable {marks : List ByteArray} {idx : List (ByteArray × Int)} {x : ByteArray} {v b : List (Int × Int × Int)} {n : DNet} {k f i : Nat} {mk : ByteArray} {t : Int} {ts : List Int} {r : ByteArray × Bool} {j : Int} {s : DSTG} {e : REnd}
theorem IdxOf.old (h : IdxOf marks idx) (hs : (mget .str idx x).isSome = true) : 0 ≤ findB marks x ∧ (mget .str idx x).getD (Ty.zero .int) = findB marks x := by
  rw [h x] at hs ⊢
  by_cases h0 : 0 ≤ findB marks x
  · rw [if_pos h0]; exact ⟨h0, rfl⟩
  · rw [if_neg h0] at hs; cases hs
theorem IdxOf.new (h : IdxOf marks idx) (hs : (mget .str idx x).isSome = false) : ¬ 0 ≤ findB marks x := by
  rw [h x] at hs
  intro h0
  rw [if_pos h0] at hs; cases hs
theorem IdxOf.set (h : IdxOf marks idx) (hs : (mget .str idx x).isSome = false) : IdxOf (marks ++ [x]) (mset .str idx x (marks.length : Int)) := fun y => by
  have h0 := h.new hs
  rw [mget_mset, findB_app, h y]
  by_cases e : x = y
  · subst e
    rw [if_pos ((Ty.beq_iff .str x x).2 rfl), if_neg h0, if_pos rfl, if_pos (Int.natCast_nonneg _)]
  · have : Ty.beq .str x y = false := Bool.eq_false_iff.2 fun h => e ((Ty.beq_iff .str x y).1 h)
    rw [if_neg (show ¬ Ty.beq .str x y = true by rw [this]; decide), if_neg e]
    by_cases h1 : 0 ≤ findB marks y
    · rw [if_pos h1, if_pos h1, if_pos h1]
    · rw [if_neg h1, if_neg h1, if_neg (by decide)]
theorem IdxOf.one (x : ByteArray) : IdxOf [x] (mset .str ([] : List (ByteArray × Int)) x 0) := fun y => by
  rw [mget_mset]
  by_cases e : x = y
  · subst e
    rw [if_pos ((Ty.beq_iff .str x x).2 rfl)]
    simp [findB, idxF]
  · have : Ty.beq .str x y = false := Bool.eq_false_iff.2 fun h => e ((Ty.beq_iff .str x y).1 h)
    rw [if_neg (show ¬ Ty.beq .str x y = true by rw [this]; decide)]
    simp [findB, idxF, e, mget]
theorem goT_bad (hx : ts[i]? = some t) (hr : r = fireV n mk t) (hb : r.2 = false) : contK n f k (goT n k mk (ts.drop i) (marks, v, b)) = ((marks, v, b), ((k : Int), t, false)) := by
  subst hr
  rw [drop_cons hx, goT, if_pos hb]
  rfl
theorem goT_old (hx : ts[i]? = some t) (hr : r = fireV n mk t) (hb : r.2 = true) (hj : 0 ≤ findB marks r.1 ∧ j = findB marks r.1) : contK n f k (goT n k mk (ts.drop i) (marks, v, b)) = contK n f k (goT n k mk (ts.drop (i + 1)) (marks, v ++ [((k : Int), t, j)], b)) := by
  subst hr
  rw [drop_cons hx, goT, if_neg (by rw [hb]; decide), if_pos hj.1, hj.2]
theorem goT_full (hx : ts[i]? = some t) (hr : r = fireV n mk t) (hb : r.2 = true) (hj : ¬ 0 ≤ findB marks r.1) (hl : (marks.length : Int) = 300) : contK n f k (goT n k mk (ts.drop i) (marks, v, b)) = ((marks, v, b), (-1, -1, false)) := by
  subst hr
  rw [drop_cons hx, goT, if_neg (by rw [hb]; decide), if_neg hj, if_pos (show marks.length = 300 by omega)]
  rfl
theorem goT_new (hx : ts[i]? = some t) (hr : r = fireV n mk t) (hb : r.2 = true) (hj : ¬ 0 ≤ findB marks r.1) (hl : ¬ (marks.length : Int) = 300) : contK n f k (goT n k mk (ts.drop i) (marks, v, b)) = contK n f k (goT n k mk (ts.drop (i + 1)) (marks ++ [r.1], v ++ [((k : Int), t, (marks.length : Int))], b ++ [((k : Int), t, (marks.length : Int))])) := by
  subst hr
  rw [drop_cons hx, goT, if_neg (by rw [hb]; decide), if_neg hj, if_neg (show ¬ marks.length = 300 by omega)]
theorem goT_end (hi : ts.length ≤ i) (hk : k < 300) : contK n (300 - k) k (goT n k mk (ts.drop i) (marks, v, b)) = goK n (301 - (k + 1)) (k + 1) (marks, v, b) := by
  rw [List.drop_eq_nil_of_le hi, goT, show 301 - (k + 1) = 300 - k by omega]
  rfl
theorem goK_in (hx : marks[k]? = some mk) (hk : k < 300) : goK n (301 - k) k (marks, v, b) = contK n (300 - k) k (goT n k mk (enbs n mk) (marks, v, b)) := by
  rw [show 301 - k = (300 - k) + 1 by omega, goK]
  simp only [hx]
  rfl
theorem goK_out (hk : marks.length ≤ k) : goK n f k (marks, v, b) = ((marks, v, b), (-1, -1, true)) := by
  cases f with
  | zero => rfl
  | succ f =>
    rw [goK]
    simp only [List.getElem?_eq_none hk]
theorem exV_of (h : ∃ b, reach s = ((marks, v, b), e)) : exV s = ((marks, v), e) := by
  obtain ⟨b, h⟩ := h
  unfold exV; rw [h]
theorem l4V_of (h : reach s = ((marks, v, b), e)) : l4V s = ((marks, v), b, (if 0 ≤ e.2.1 then e.1 else 0), e.2.1, (!e.2.2 && decide (e.2.1 < 0))) := by
  unfold l4V; rw [h]
theorem l4V_bad (h : reach s = ((marks, v, b), ((k : Int), t, false))) (h0 : 0 ≤ t) : l4V s = ((marks, v), b, (k : Int), t, false) := by
  rw [l4V_of h]
  simp [h0]
theorem l4V_full (h : reach s = ((marks, v, b), (-1, -1, false))) : l4V s = ((marks, v), b, 0, -1, true) := by
  rw [l4V_of h]; rfl
theorem l4V_ok (h : reach s = ((marks, v, b), (-1, -1, true))) : l4V s = ((marks, v), b, 0, -1, false) := by
  rw [l4V_of h]; rfl
/-- Marks that are in order. -/
theorem bAt_bits {m : ByteArray} {n : Int} (h : Bits m n) {p : Int} (h0 : 0 ≤ p) (h1 : p < n) : (0 ≤ p ∧ p < m.size) ∧ (bAt m p = 48 ∨ bAt m p = 49) := by
  obtain ⟨h2, h3⟩ := h
  have hp : p.toNat < m.size := by omega
  refine ⟨⟨h0, by omega⟩, ?_⟩
  have e : bAt m p = m[p.toNat] := by unfold bAt; rw [getElem?_pos m p.toNat hp]; rfl
  rw [e]
  rcases h2 p.toNat hp hp with h | h
  · exact .inl (UInt8.toNat_inj.1 h)
  · exact .inr (UInt8.toNat_inj.1 h)
theorem rising_pl {m : ByteArray} {n : Int} (h : Bits m n) {ps : List Int} (hr : Rising ps (n - 1)) : PlOk m ps := fun p hp => by
  obtain ⟨j, hj⟩ := List.mem_iff_getElem?.1 hp
  have := (hr j (List.getElem?_eq_some_iff.1 hj).1 p hj).1
  exact bAt_bits h (by omega) (by omega)
theorem net_pl (hv : NetV n) (h : Bits mk n.1) : ∀ t ∈ n.2, PlOk mk t.1 ∧ PlOk mk t.2 := fun t ht => ⟨rising_pl h (hv.2.2 t ht).2.1, rising_pl h (hv.2.2 t ht).2.2⟩
theorem fireE_enb (hx : (enbs n mk)[i]? = some t) : fireE n mk t = fireV n mk t := by
  obtain ⟨x, h1, h2, h3, h4, h5⟩ := picks_mem (List.mem_of_getElem? hx)
  exact fireE_V h1 h4 h5
theorem enbs_mem (hx : (enbs n mk)[i]? = some t) : 0 ≤ t ∧ t < n.2.length := by
  obtain ⟨x, h1, h2, _⟩ := picks_mem (List.mem_of_getElem? hx)
  exact ⟨h1, h2⟩
theorem enbs_len (n : DNet) (mk : ByteArray) : (enbs n mk).length ≤ n.2.length := picks_len _ _ _
/-- Bits stay bits. -/
def LBits (l : List UInt8) : Prop := ∀ c ∈ l, c = 48 ∨ c = 49
theorem LBits.set {l : List UInt8} (h : LBits l) {c : UInt8} (hc : c = 48 ∨ c = 49) (i : Nat) : LBits (l.set i c) := fun d hd => by
  rcases List.mem_or_eq_of_mem_set hd with h1 | h1
  · exact h d h1
  · rw [h1]; exact hc
theorem LBits.clr {l : List UInt8} (h : LBits l) (ps : List Int) : LBits (clr l ps) := by
  induction ps generalizing l with
  | nil => exact h
  | cons p ps ih => exact ih (h.set (.inl rfl) _)
theorem LBits.put {l l' : List UInt8} (h : LBits l) {ps : List Int} (hp : put1 l ps = some l') : LBits l' ∧ l'.length = l.length := by
  induction ps generalizing l with
  | nil => rw [put1] at hp; cases hp; exact ⟨h, rfl⟩
  | cons p ps ih =>
    rw [put1] at hp
    split at hp
    · cases hp
    · obtain ⟨h1, h2⟩ := ih (h.set (.inr rfl) _) hp
      exact ⟨h1, by rw [h2, List.length_set]⟩
theorem bits_list {m : ByteArray} {n : Int} (h : Bits m n) : LBits m.toList := fun c hc => by
  rw [ByteArray.toList_eq] at hc
  obtain ⟨i, hi, e⟩ := List.getElem_of_mem hc
  have h2 : i < m.size := by simpa using hi
  have h3 := h.1 i h2 h2
  have h4 : m[i] = c := by rw [← e]; rfl
  rw [h4] at h3
  rcases h3 with h | h
  · exact .inl (UInt8.toNat_inj.1 h)
  · exact .inr (UInt8.toNat_inj.1 h)
theorem list_bits {l : List UInt8} {n : Int} (h : LBits l) (hl : (l.length : Int) = n) : Bits ⟨l.toArray⟩ n := by
  refine ⟨fun k hk hk' => ?_, by rw [← hl]; rfl⟩
  have h1 : (⟨l.toArray⟩ : ByteArray)[k] ∈ l := by
    show l.toArray[k] ∈ l
    simp
  rcases h _ h1 with h | h
  · exact .inl (by rw [h]; rfl)
  · exact .inr (by rw [h]; rfl)
theorem fireV_bits (hm : Bits mk n.1) (hr : r = fireV n mk t) (h : r.2 = true) : Bits r.1 n.1 := by
  subst hr
  unfold fireV at h ⊢
  cases hx : n.2[t.toNat]? with
  | none => rw [hx] at h; cases h
  | some x =>
    rw [hx] at h
    simp only at h ⊢
    unfold firedV at h ⊢
    cases hp : put1 (clr mk.toList x.1) x.2 with
    | none => rw [hp] at h; cases h
    | some l =>
      obtain ⟨h1, h2⟩ := ((bits_list hm).clr x.1).put hp
      refine list_bits h1 ?_
      rw [h2, clr_len, bl_len]
      exact hm.2
theorem all_app {p : ByteArray → Prop} (h : ∀ m ∈ marks, p m) (hx : p x) : ∀ m ∈ marks ++ [x], p m := fun m hm => by
  rcases List.mem_append.1 hm with h1 | h1
  · exact h m h1
  · rw [List.mem_singleton.1 h1]; exact hx
theorem at_app (h : marks[k]? = some mk) : (marks ++ [x])[k]? = some mk := by
  rw [List.getElem?_append_left (List.getElem?_eq_some_iff.1 h).1]; exact h
end

theorem fc_spec_l4Find (marks : List ByteArray) (m : ByteArray)  : FC Tryz.prog 308 [(false, [.dat (.sl 9 .str) marks]), (false, [dS m])] [] 0 (Pure (lI (findB marks m))) := by
 refine FC.go Tryz.func308 rfl rfl Tryz.ntmps308 fun O_ hO w0_ N0_ X_ h0_ f0_ => ?_
 iterate 6 refine w_ ?_
 refine AL.fact (fact_len (x := .tmp 7) (Evl.tmp rfl)) fun hl1 => ?_
 iterate 4 refine w_ ?_
 refine AC.loopW (fun m_ s_ => ∃ (k : Nat), k ≤ marks.length ∧ m_ = marks.length - k ∧ (NoneTo (fun y => decide (y = m)) marks k) ∧ s_ = ⟨[(1, lf (dS m)), (7, lf (.dat (.sl 9 .str) marks)), (8, lI (marks.length : Int)), (9, lI (k : Int))], []⟩) ⟨0, Nat.zero_le _, rfl, NoneTo.zero, rfl⟩ ?_ ?_
 · exact Wk.of [] rfl ⟨rfl, rfl, rfl, rfl, trivial⟩ trivial rfl rfl
 rintro m_ s_ ⟨k, hk2, hm3, hno, rfl⟩
 iterate 4 refine w_ ?_
 cases hb4 : (decide ((k : Int) < (marks.length : Int)))
 ·have hb4' := of_decide_eq_false hb4
  refine w_ ?_
  refine AC.exit ?_
  refine (?_ : AC _ _ _ _ _)
  iterate 3 refine w_ ?_
  refine AC.ret ?_
  subst hO
  have e5 : ((-1) : Int) = (findB marks m) := by
   first | exact (hno.no (by omega)).symm
  exact fin_pure (Res.one rfl (Rs.tmp rfl)) ((congrArg (fun z_ => lI z_) e5)) rfl
 ·have hb4' := of_decide_eq_true hb4
  iterate 6 refine w_ ?_
  obtain ⟨x6, hx7⟩ : ∃ z, marks[k]? = some z := ⟨_, List.getElem?_eq_getElem (by omega)⟩
  iterate 10 refine w_ ?_
  cases hb8 : (decide (x6 = m))
  ·have hb8' := of_decide_eq_false hb8
   refine w_ ?_
   refine AC.skip ?_
   refine (?_ : AC _ _ _ _ _)
   iterate 3 refine w_ ?_
   refine AL.nil <| lend ⟨k + 1, by omega, rfl, hno.step hx7 (by assumption), rfl⟩ (by omega) ?_
   exact Wk.of [] rfl ⟨rfl, rfl, rfl, rfl, trivial⟩ trivial rfl rfl
  ·have hb8' := of_decide_eq_true hb8
   iterate 5 refine w_ ?_
   refine AC.ret ?_
   subst hO
   have e9 : ((k : Int) : Int) = (findB marks m) := by
    exact (hno.at hx7 (by assumption)).symm
   exact fin_pure (Res.one rfl (Rs.tmp rfl)) ((congrArg (fun z_ => lI z_) e9)) rfl

theorem fc_impl_explored (s : (Int × (List (List Int × List Int))) × (List (ByteArray × Int)) × (List (Int × Bool)) × ByteArray) (hs : StgOk s) : FC Tryz.prog 291 [(true, [dI s.1.1, .dat (.sl 198 (.pr (.sl 3 .int) (.sl 3 .int))) s.1.2, .dat (.sl 90 (.pr .str .int)) s.2.1, .dat (.sl 55 (.pr .int .bool)) s.2.2.1, dS s.2.2.2])] [] 0 (Is (PV.tup [(true, [.ref 0, .ref 1]), (false, [dI ((exV s).2.1)]), (false, [dI ((exV s).2.2.1)]), (false, [dB ((exV s).2.2.2)])]) [(0, some (.arr 9 .str (((exV s).1).1))), (1, some (.arr 229 (.pr .int (.pr .int .int)) (((exV s).1).2)))]) := by
 have hnl := hs.net.2.1
 refine FC.go Tryz.func291 rfl rfl Tryz.ntmps291 fun O_ hO w0_ N0_ X_ h0_ f0_ => ?_
 refine AC.fact (fact_ag (x := .tmp 0) (i := 0) (Ev.tmp rfl) rfl) fun hi1 => ?_
 refine w_ ?_
 refine xbx 0 ?_
 refine lc (xal 1 (.pr (.sl 9 .str) (.sl 229 (.pr .int (.pr .int .int)))) zer_164) ?_
 iterate 4 refine w_ ?_
 apply dW [io 15 _, io 16 _, ⟨some 17, lR 2, [(2, some (.arr 9 .str ([s.2.2.2])))]⟩, io 18 (ag [.ref 2, .val (.slice none 0 0)]), ⟨some 19, lR 3, [(3, some (.mp false .str false .int ([])))]⟩, io 20 (lP 0 4), io 21 (lf (dS s.2.2.2)), ⟨none, lf (.val undef), [(3, some (.mp false .str false .int (mset .str ([]) s.2.2.2 0)))]⟩, io 22 (lR 3), ⟨some 6, lP 4 0, [(4, some (.box 164 [.val (.slice none 0 0), .val (.slice none 0 0)]))]⟩, ⟨none, lf (.val undef), [(4, some (.box 164 [.ref 2, .val (.slice none 0 0)]))]⟩, io 7 _] [0, 0, 0, 0, 15, 31, 31, 15, 15, 511, 496, 0]
 iterate 2 refine z_ ?_
 refine zz (fun _ h_ => ac (dBs 2 (e := .str) zer_9) rfl) ?_
 refine zz (fun _ h_ => ac (Does.build bld_164 ⟨_, _, rfl, (h_.w rfl), rfl⟩ (List.all_eq_true.1 (by simp only [okLVs, okLV, List.all_cons, List.all_nil]; rw [(h_.en 2 rfl)]; rfl)) rfl rfl) rfl) <| zz (fun _ h_ => ac (Does.makeMap (kt := 9) (et := 3) (kb := false) (k := .str) (vb := false) (v := .int) 3 rfl (h_.fr 3 rfl) (nlr rfl)) rfl) ?_
 iterate 2 refine z_ ?_
 refine zz (fun _ h_ => ac (Does.insert key_9 und_359 (h_.v rfl) (h_.n 3 rfl) (h_.w rfl) (p := s.2.2.2) rfl (Evl.ev (Evl.int rfl)) (u := 0) rfl) rfl) ?_
 refine z_ ?_
 refine zz (fun _ h_ => ac (Does.alloc 4 (.pr (.sl 9 .str) (.sl 229 (.pr .int (.pr .int .int)))) zer_164 rfl rfl (h_.fr 4 rfl) (nlr rfl)) rfl) <| zz (fun _ h_ => ac (Does.storeP (h_.v rfl) (h_.en 4 rfl) (h_.w rfl) (by simp only [okLVs, okLV, List.all_cons, List.all_nil]; rw [(h_.en 2 rfl)]; rfl) tsh_164 rfl) rfl) ?_
 refine z_ ?_
 exact zN
 iterate 5 refine w_ ?_
 refine AC.wk (Wk.nilC 6 (p := 4) (off := 1) 229 (.pr .int (.pr .int .int)) rfl rfl (Fresh.of rfl) (nlr rfl)) ?_
 refine AC.loopW (fun m_ s_ => ∃ (k : Nat) (marks : List ByteArray) (moves : List (Int × Int × Int)) (idx : List (ByteArray × Int)), k ≤ 300 ∧ m_ = 300 - k ∧ (∃ b, reach s = goK s.1 (301 - k) k (marks, moves, b)) ∧ (∀ m ∈ marks, Bits m s.1.1) ∧ (marks.length ≤ 300) ∧ (moves.length ≤ 24 * k) ∧ (IdxOf marks idx) ∧ s_ = ⟨[(1, lP 0 0), (2, lP 1 0), (6, lP 4 0), (7, lR 8), (8, lI (k : Int))], [(0, some (.box 29 [dI s.1.1, .dat (.sl 198 (.pr (.sl 3 .int) (.sl 3 .int))) s.1.2, .dat (.sl 90 (.pr .str .int)) s.2.1, .dat (.sl 55 (.pr .int .bool)) s.2.2.1, dS s.2.2.2])), (1, some (.box 164 [.val (.slice none 0 0), .val (.slice none 0 0)])), (4, some (.box 164 [.ref 5, .ref 7])), (5, some (.arr 9 .str marks)), (7, some (.arr 229 (.pr .int (.pr .int .int)) moves)), (8, some (.mp false .str false .int idx))]⟩) ⟨0, [s.2.2.2], ([] : ((.sl 229 (.pr .int (.pr .int .int))) : Ty).Den), mset .str ([]) s.2.2.2 0, Nat.zero_le _, rfl, ⟨_, rfl⟩, (by intro m hm; rw [List.mem_singleton.1 hm]; exact hs.bits), (Nat.le_of_ble_eq_true rfl), (Nat.le_of_ble_eq_true rfl), IdxOf.one _, rfl⟩ ?_ ?_
 · exact Wk.of [(5, 2), (7, 6), (8, 3)] rfl ⟨rfl, rfl, rfl, rfl, rfl, trivial⟩ ⟨rfl, rfl, rfl, (entE (by first | rfl | simp)), (entE (by first | rfl | simp)), (entP (by first | rfl | simp)), trivial⟩ rfl rfl
 rintro m_ s_ ⟨k, marks, moves, idx, hk2, hm3, hA, hB, hl, hv, hI, rfl⟩
 iterate 8 refine w_ ?_
 cases hb4 : (decide ((k : Int) < (marks.length : Int)))
 ·have hb4' := of_decide_eq_false hb4
  refine w_ ?_
  refine AC.exit ?_
  refine (?_ : AC _ _ _ _ _)
  iterate 7 refine w_ ?_
  refine AC.ret ?_
  subst hO
  have e5 : ((-1) : Int) = ((exV s).2.1) := by
   (rw [exV_of (hA.elim fun b h => ⟨_, h.trans (goK_out (by omega))⟩)]; done)
  have e6 : ((-1) : Int) = ((exV s).2.2.1) := by
   (rw [exV_of (hA.elim fun b h => ⟨_, h.trans (goK_out (by omega))⟩)]; done)
  have e7 : (true : Bool) = ((exV s).2.2.2) := by
   (rw [exV_of (hA.elim fun b h => ⟨_, h.trans (goK_out (by omega))⟩)]; done)
  exact fin_is _ _ [(0, 5), (1, 7)] (Res.four rfl (Rs.cell rfl rfl tsh_164 rfl) (Rs.tmp rfl) (Rs.tmp rfl) (Rs.tmp rfl)) ((((congrArg (fun z_ => PV.tup [(true, [.ref 5, .ref 7]), (false, [dI z_]), (false, [dI (-1)]), (false, [dB true])]) e5)).trans (congrArg (fun z_ => PV.tup [(true, [.ref 5, .ref 7]), (false, [dI ((exV s).2.1)]), (false, [dI z_]), (false, [dB true])]) e6)).trans (congrArg (fun z_ => PV.tup [(true, [.ref 5, .ref 7]), (false, [dI ((exV s).2.1)]), (false, [dI ((exV s).2.2.1)]), (false, [dB z_])]) e7)) ⟨(entE (by (rw [exV_of (hA.elim fun b h => ⟨_, h.trans (goK_out (by omega))⟩)]; done))), (entE (by (rw [exV_of (hA.elim fun b h => ⟨_, h.trans (goK_out (by omega))⟩)]; done))), trivial⟩ rfl rfl
 ·have hb4' := of_decide_eq_true hb4
  iterate 4 refine w_ ?_
  obtain ⟨mk, hx9⟩ : ∃ z, marks[k]? = some z := ⟨_, List.getElem?_eq_getElem (by omega)⟩
  have hbm := hB _ (List.mem_of_getElem? hx9)
  have hnp := net_pl hs.net hbm
  have hel := enbs_len s.1 mk
  apply dW [io 30 _, io 31 _, io 32 _, io 33 _, io 34 _, io 35 (lf (.ept 5 1 k 0)), io 36 (lf (dS mk)), io 37 (lf (.dat (.sl 3 .int) (enbs s.1 mk))), io 38 _, io 39 _] [0, 0, 3, 3, 15, 3, 3, 0, 0, 511]
  iterate 5 refine z_ ?_
  refine zz (fun _ h_ => ac (Does.indexI (e := .str) (h_.v rfl) (h_.en 5 rfl) (h_.v rfl) und_49 tsh_9 rfl (by omega) (by first | omega | (simp only [List.length_set]; omega))) rfl) <| zz (fun _ h_ => ac (Does.loadI (e := .str) (h_.v rfl) (h_.n 5 rfl) hx9 rfl tsh_9 rfl rfl) rfl) ?_
  refine zz (fun _ h_ => ac (dK (fc_impl_enabled s.1 mk hnp (by omega)).frozen enters_224) rfl) ?_
  iterate 2 refine z_ ?_
  exact zN
  refine w_ ?_
  refine AC.loopW (fun m_ s_ => ∃ (i : Nat) (marks2 : List ByteArray) (moves2 : List (Int × Int × Int)) (idx2 : List (ByteArray × Int)), i ≤ (enbs s.1 mk).length ∧ m_ = (enbs s.1 mk).length - i ∧ (∃ b, reach s = contK s.1 (300 - k) k (goT s.1 k mk ((enbs s.1 mk).drop i) (marks2, moves2, b))) ∧ (∀ m ∈ marks2, Bits m s.1.1) ∧ (marks2.length ≤ 300) ∧ (marks2[k]? = some mk) ∧ (moves2.length ≤ 24 * k + i) ∧ (IdxOf marks2 idx2) ∧ s_ = ⟨[(1, lP 0 0), (2, lP 1 0), (6, lP 4 0), (7, lR 11), (8, lI (k : Int)), (23, lI (k : Int)), (24, lP 4 0), (26, lI (marks.length : Int)), (27, lB true), (30, lP 0 0), (31, ag [dI s.1.1, .dat (.sl 198 (.pr (.sl 3 .int) (.sl 3 .int))) s.1.2]), (32, lP 4 0), (34, lI (k : Int)), (36, lf (dS mk)), (37, lf (.dat (.sl 3 .int) (enbs s.1 mk))), (38, lI ((enbs s.1 mk).length : Int)), (39, lI (i : Int))], [(0, some (.box 29 [dI s.1.1, .dat (.sl 198 (.pr (.sl 3 .int) (.sl 3 .int))) s.1.2, .dat (.sl 90 (.pr .str .int)) s.2.1, .dat (.sl 55 (.pr .int .bool)) s.2.2.1, dS s.2.2.2])), (1, some (.box 164 [.val (.slice none 0 0), .val (.slice none 0 0)])), (4, some (.box 164 [.ref 9, .ref 10])), (9, some (.arr 9 .str marks2)), (10, some (.arr 229 (.pr .int (.pr .int .int)) moves2)), (11, some (.mp false .str false .int idx2))]⟩) ⟨0, marks, moves, idx, Nat.zero_le _, rfl, hA.elim fun b h => ⟨_, h.trans (goK_in hx9 (by omega))⟩, hB, hl, hx9, (by omega), hI, rfl⟩ ?_ ?_
  · exact Wk.of [(9, 5), (10, 7), (11, 8)] rfl ⟨rfl, rfl, rfl, rfl, rfl, rfl, rfl, rfl, rfl, rfl, rfl, rfl, rfl, rfl, rfl, rfl, rfl, trivial⟩ ⟨rfl, rfl, rfl, rfl, rfl, rfl, trivial⟩ rfl rfl
  rintro m_ s_ ⟨i, marks2, moves2, idx2, hk10, hm11, hA2, hB2, hl2, hM2, hv2, hI2, rfl⟩
  have hk2 := (List.getElem?_eq_some_iff.1 hM2).1
  iterate 4 refine w_ ?_
  cases hb12 : (decide ((i : Int) < ((enbs s.1 mk).length : Int)))
  ·have hb12' := of_decide_eq_false hb12
   refine w_ ?_
   refine AC.exit ?_
   refine (?_ : AC _ _ _ _ _)
   iterate 4 refine w_ ?_
   refine AL.nil <| lend ⟨k + 1, marks2, moves2, idx2, by omega, rfl, hA2.elim fun b h => ⟨_, h.trans (goT_end (by omega) (by omega))⟩, hB2, hl2, (by omega), hI2, rfl⟩ (by omega) ?_
   exact Wk.of [(5, 9), (7, 10), (8, 11)] rfl ⟨rfl, rfl, rfl, rfl, rfl, trivial⟩ ⟨rfl, rfl, rfl, rfl, rfl, rfl, trivial⟩ rfl rfl
  ·have hb12' := of_decide_eq_true hb12
   iterate 5 refine w_ ?_
   obtain ⟨x13, hx14⟩ : ∃ z, (enbs s.1 mk)[i]? = some z := ⟨_, List.getElem?_eq_getElem (by omega)⟩
   iterate 2 refine w_ ?_
   refine AL.fact (fact_int (x := .tmp 42) (Evl.tmp rfl)) fun hi15 => ?_
   iterate 2 refine w_ ?_
   apply dW [io 44 _, io 45 _, io 46 _, io 47 _, io 48 _, io 49 (lf (.ept 9 1 k 0)), io 50 (lf (dS mk)), io 51 _, io 52 (PV.tup [(false, [dS ((fireE s.1 mk x13).1)]), (false, [dB ((fireE s.1 mk x13).2)])]), io 43 _, io 53 _, io 54 _, io 11 _, io 12 _] [0, 0, 3, 3, 15, 3, 3, 127, 0, 0, 0, 1024, 2048, 0]
   iterate 5 refine z_ ?_
   refine zz (fun _ h_ => ac (Does.indexI (e := .str) (h_.v rfl) (h_.en 9 rfl) (h_.v rfl) und_49 tsh_9 rfl (by omega) (by first | omega | (simp only [List.length_set]; omega))) rfl) <| zz (fun _ h_ => ac (Does.loadI (e := .str) (h_.v rfl) (h_.n 9 rfl) hM2 rfl tsh_9 rfl rfl) rfl) ?_
   refine z_ ?_
   refine zz (fun _ h_ => ac (dK (fc_impl_fire s.1 mk x13 hnp (by omega)) enters_349) rfl) ?_
   iterate 5 refine z_ ?_
   exact zN
   iterate 5 refine w_ ?_
   cases hb16 : ((fireE s.1 mk x13).2)
   ·iterate 10 refine w_ ?_
    refine AC.ret ?_
    subst hO
    have e17 : ((k : Int) : Int) = ((exV s).2.1) := by
     (rw [exV_of (hA2.elim fun b h => ⟨_, h.trans (goT_bad hx14 (fireE_enb hx14) (by assumption))⟩)]; done)
    have e18 : (x13 : Int) = ((exV s).2.2.1) := by
     (rw [exV_of (hA2.elim fun b h => ⟨_, h.trans (goT_bad hx14 (fireE_enb hx14) (by assumption))⟩)]; done)
    have e19 : (false : Bool) = ((exV s).2.2.2) := by
     (rw [exV_of (hA2.elim fun b h => ⟨_, h.trans (goT_bad hx14 (fireE_enb hx14) (by assumption))⟩)]; done)
    exact fin_is _ _ [(0, 9), (1, 10)] (Res.four rfl (Rs.cell rfl rfl tsh_164 rfl) (Rs.tmp rfl) (Rs.tmp rfl) (Rs.tmp rfl)) ((((congrArg (fun z_ => PV.tup [(true, [.ref 9, .ref 10]), (false, [dI z_]), (false, [dI x13]), (false, [dB false])]) e17)).trans (congrArg (fun z_ => PV.tup [(true, [.ref 9, .ref 10]), (false, [dI ((exV s).2.1)]), (false, [dI z_]), (false, [dB false])]) e18)).trans (congrArg (fun z_ => PV.tup [(true, [.ref 9, .ref 10]), (false, [dI ((exV s).2.1)]), (false, [dI ((exV s).2.2.1)]), (false, [dB z_])]) e19)) ⟨(entE (by (rw [exV_of (hA2.elim fun b h => ⟨_, h.trans (goT_bad hx14 (fireE_enb hx14) (by assumption))⟩)]; done))), (entE (by (rw [exV_of (hA2.elim fun b h => ⟨_, h.trans (goT_bad hx14 (fireE_enb hx14) (by assumption))⟩)]; done))), trivial⟩ rfl rfl
   ·iterate 5 refine w_ ?_
    refine lc (Does.lookupOk key_9 und_359 zev_3 (Evl.tmp rfl) rfl (Ev.tmp rfl) (p := (fireE s.1 mk x13).1) rfl rfl rfl) ?_
    iterate 11 refine w_ ?_
    cases hb20 : ((mget .str idx2 ((fireE s.1 mk x13).1)).isSome)
    ·iterate 8 refine w_ ?_
     cases hb21 : (decide ((marks2.length : Int) = 300))
     ·have hb21' := of_decide_eq_false hb21
      iterate 12 refine w_ ?_
      refine lc (Does.mapUpdate key_9 und_359 (Evl.tmp rfl) rfl (Ev.tmp rfl) (p := (fireE s.1 mk x13).1) rfl (Ev.tmp rfl) (u := (marks2.length : Int)) rfl) ?_
      iterate 5 refine w_ ?_
      refine lc (dBs 12 (e := .str) zer_9) ?_
      refine lc (dA 13 elb_9) ?_
      iterate 9 refine w_ ?_
      refine lc (Does.build bld_229 ⟨_, _, rfl, (Ev.tmp rfl), ⟨_, _, rfl, (Ev.tmp rfl), ⟨_, _, rfl, (Ev.tmp rfl), rfl⟩⟩⟩ (List.all_eq_true.1 rfl) rfl rfl) ?_
      refine lc (dBs 14 (e := (.pr .int (.pr .int .int))) zer_229 (hab := by exact ⟨_, _, _, _, rfl, ⟨[dI (k : Int)], [dI x13, dI (marks2.length : Int)], _, _, _, _, rfl, rfl, ⟨rfl, rfl⟩, ⟨[dI x13], [dI (marks2.length : Int)], _, _, _, _, rfl, rfl, ⟨rfl, rfl⟩, ⟨rfl, rfl⟩, rfl⟩, rfl⟩, ⟨rfl, rfl⟩, rfl⟩)) ?_
      refine lc (dA 15 elb_229) ?_
      iterate 2 refine w_ ?_
      refine AL.nil ?_
      refine (?_ : AC _ _ _ _ _)
      iterate 3 refine w_ ?_
      refine AL.nil <| lend ⟨i + 1, (marks2 ++ ([(fireE s.1 mk x13).1])), (moves2 ++ ([((k : Int), x13, (marks2.length : Int))])), (mset .str idx2 ((fireE s.1 mk x13).1) (marks2.length : Int)), by omega, rfl, by first | exact hA2.elim fun b h => ⟨_, h.trans (goT_old hx14 (fireE_enb hx14) (by assumption) (hI2.old (by assumption)))⟩ | exact hA2.elim fun b h => ⟨_, h.trans (goT_new hx14 (fireE_enb hx14) (by assumption) (hI2.new (by assumption)) (by assumption))⟩, by first | exact hB2 | exact all_app hB2 (fireV_bits (hB2 _ (List.mem_of_getElem? hM2)) (fireE_enb hx14) (by assumption)), (by (simp only [List.length_append, List.length_cons, List.length_nil]; omega)), by first | exact hM2 | exact at_app hM2, (by simp only [List.length_append, List.length_cons, List.length_nil]; omega), by first | exact hI2 | exact hI2.set (by assumption), rfl⟩ (by omega) ?_
      exact Wk.of [(9, 13), (10, 15)] rfl ⟨rfl, rfl, rfl, rfl, rfl, rfl, rfl, rfl, rfl, rfl, rfl, rfl, rfl, rfl, rfl, rfl, rfl, trivial⟩ ⟨rfl, rfl, rfl, (entE (by first | rfl | simp)), (entE (by first | rfl | simp)), (entP (by first | rfl | simp)), trivial⟩ rfl rfl
     ·have hb21' := of_decide_eq_true hb21
      iterate 8 refine w_ ?_
      refine AC.ret ?_
      subst hO
      have e22 : ((-1) : Int) = ((exV s).2.1) := by
       (rw [exV_of (hA2.elim fun b h => ⟨_, h.trans (goT_full hx14 (fireE_enb hx14) (by assumption) (hI2.new (by assumption)) (by assumption))⟩)]; done)
      have e23 : ((-1) : Int) = ((exV s).2.2.1) := by
       (rw [exV_of (hA2.elim fun b h => ⟨_, h.trans (goT_full hx14 (fireE_enb hx14) (by assumption) (hI2.new (by assumption)) (by assumption))⟩)]; done)
      have e24 : (false : Bool) = ((exV s).2.2.2) := by
       (rw [exV_of (hA2.elim fun b h => ⟨_, h.trans (goT_full hx14 (fireE_enb hx14) (by assumption) (hI2.new (by assumption)) (by assumption))⟩)]; done)
      exact fin_is _ _ [(0, 9), (1, 10)] (Res.four rfl (Rs.cell rfl rfl tsh_164 rfl) (Rs.tmp rfl) (Rs.tmp rfl) (Rs.tmp rfl)) ((((congrArg (fun z_ => PV.tup [(true, [.ref 9, .ref 10]), (false, [dI z_]), (false, [dI (-1)]), (false, [dB false])]) e22)).trans (congrArg (fun z_ => PV.tup [(true, [.ref 9, .ref 10]), (false, [dI ((exV s).2.1)]), (false, [dI z_]), (false, [dB false])]) e23)).trans (congrArg (fun z_ => PV.tup [(true, [.ref 9, .ref 10]), (false, [dI ((exV s).2.1)]), (false, [dI ((exV s).2.2.1)]), (false, [dB z_])]) e24)) ⟨(entE (by (rw [exV_of (hA2.elim fun b h => ⟨_, h.trans (goT_full hx14 (fireE_enb hx14) (by assumption) (hI2.new (by assumption)) (by assumption))⟩)]; done))), (entE (by (rw [exV_of (hA2.elim fun b h => ⟨_, h.trans (goT_full hx14 (fireE_enb hx14) (by assumption) (hI2.new (by assumption)) (by assumption))⟩)]; done))), trivial⟩ rfl rfl
    ·iterate 8 refine w_ ?_
     refine lc (Does.build bld_229 ⟨_, _, rfl, (Ev.tmp rfl), ⟨_, _, rfl, (Ev.tmp rfl), ⟨_, _, rfl, (Ev.tmp rfl), rfl⟩⟩⟩ (List.all_eq_true.1 rfl) rfl rfl) ?_
     refine lc (dBs 16 (e := (.pr .int (.pr .int .int))) zer_229 (hab := by exact ⟨_, _, _, _, rfl, ⟨[dI (k : Int)], [dI x13, dI ((mget .str idx2 ((fireE s.1 mk x13).1)).getD (Ty.zero .int))], _, _, _, _, rfl, rfl, ⟨rfl, rfl⟩, ⟨[dI x13], [dI ((mget .str idx2 ((fireE s.1 mk x13).1)).getD (Ty.zero .int))], _, _, _, _, rfl, rfl, ⟨rfl, rfl⟩, ⟨rfl, rfl⟩, rfl⟩, rfl⟩, ⟨rfl, rfl⟩, rfl⟩)) ?_
     refine lc (dA 17 elb_229) ?_
     iterate 2 refine w_ ?_
     refine AL.nil ?_
     refine (?_ : AC _ _ _ _ _)
     iterate 3 refine w_ ?_
     refine AL.nil <| lend ⟨i + 1, marks2, (moves2 ++ ([((k : Int), x13, (mget .str idx2 ((fireE s.1 mk x13).1)).getD (Ty.zero .int))])), idx2, by omega, rfl, by first | exact hA2.elim fun b h => ⟨_, h.trans (goT_old hx14 (fireE_enb hx14) (by assumption) (hI2.old (by assumption)))⟩ | exact hA2.elim fun b h => ⟨_, h.trans (goT_new hx14 (fireE_enb hx14) (by assumption) (hI2.new (by assumption)) (by assumption))⟩, by first | exact hB2 | exact all_app hB2 (fireV_bits (hB2 _ (List.mem_of_getElem? hM2)) (fireE_enb hx14) (by assumption)), (by omega), by first | exact hM2 | exact at_app hM2, (by simp only [List.length_append, List.length_cons, List.length_nil]; omega), by first | exact hI2 | exact hI2.set (by assumption), rfl⟩ (by omega) ?_
     exact Wk.of [(10, 17)] rfl ⟨rfl, rfl, rfl, rfl, rfl, rfl, rfl, rfl, rfl, rfl, rfl, rfl, rfl, rfl, rfl, rfl, rfl, trivial⟩ ⟨rfl, rfl, rfl, rfl, (entE (by first | rfl | simp)), rfl, trivial⟩ rfl rfl

theorem fc_spec_l4Reach (s : (Int × (List (List Int × List Int))) × (List (ByteArray × Int)) × (List (Int × Bool)) × ByteArray) (hs : StgOk s) : FC Tryz.prog 230 [(true, [dI s.1.1, .dat (.sl 198 (.pr (.sl 3 .int) (.sl 3 .int))) s.1.2, .dat (.sl 90 (.pr .str .int)) s.2.1, .dat (.sl 55 (.pr .int .bool)) s.2.2.1, dS s.2.2.2])] [] 0 (Is (ag [.ref 0, .ref 1, .ref 2, dI ((l4V s).2.2.1), dI ((l4V s).2.2.2.1), dB ((l4V s).2.2.2.2)]) [(0, some (.arr 9 .str (((l4V s).1).1))), (1, some (.arr 229 (.pr .int (.pr .int .int)) (((l4V s).1).2))), (2, some (.arr 229 (.pr .int (.pr .int .int)) ((l4V s).2.1)))]) := by
 have hnl := hs.net.2.1
 refine FC.go Tryz.func230 rfl rfl Tryz.ntmps230 fun O_ hO w0_ N0_ X_ h0_ f0_ => ?_
 refine AC.fact (fact_ag (x := .tmp 0) (i := 0) (Ev.tmp rfl) rfl) fun hi1 => ?_
 refine w_ ?_
 refine xbx 0 ?_
 refine lc (xal 1 (.pr (.pr (.sl 9 .str) (.sl 229 (.pr .int (.pr .int .int)))) (.pr (.sl 229 (.pr .int (.pr .int .int))) (.pr .int (.pr .int .bool)))) zer_255) ?_
 iterate 4 refine w_ ?_
 refine lc (dBs 2 (e := .str) zer_9) ?_
 refine lc (Does.build bld_164 ⟨_, _, rfl, (Ev.tmp rfl), rfl⟩ (List.all_eq_true.1 rfl) rfl rfl) <| lc (Does.build bld_229 rfl (List.all_eq_true.1 rfl) rfl rfl) ?_
 refine lc (dBs 3 (e := (.pr .int (.pr .int .int))) zer_229 (hab := by exact ⟨_, _, _, _, rfl, ⟨[dI 0], [dI 0, dI 0], _, _, _, _, rfl, rfl, ⟨rfl, rfl⟩, ⟨[dI 0], [dI 0], _, _, _, _, rfl, rfl, ⟨rfl, rfl⟩, ⟨rfl, rfl⟩, rfl⟩, rfl⟩, ⟨rfl, rfl⟩, rfl⟩)) ?_
 refine lc (Does.build bld_255 ⟨_, _, rfl, (Ev.tmp rfl), ⟨_, _, rfl, (Ev.tmp rfl), ⟨_, _, rfl, (Evl.ev (Evl.int rfl)), rfl⟩⟩⟩ (List.all_eq_true.1 rfl) rfl rfl) <| lc (xal 4 (.pr (.pr (.sl 9 .str) (.sl 229 (.pr .int (.pr .int .int)))) (.pr (.sl 229 (.pr .int (.pr .int .int))) (.pr .int (.pr .int .bool)))) zer_255) ?_
 iterate 7 refine w_ ?_
 refine AC.wk (Wk.nilC 6 (p := 4) (off := 1) 229 (.pr .int (.pr .int .int)) rfl rfl (Fresh.of rfl) (nlr rfl)) ?_
 refine AC.loopW (fun m_ s_ => ∃ (k : Nat) (marks : List ByteArray) (moves : List (Int × Int × Int)) (by_ : List (Int × Int × Int)), k ≤ 300 ∧ m_ = 300 - k ∧ (reach s = goK s.1 (301 - k) k (marks, moves, by_)) ∧ (∀ m ∈ marks, Bits m s.1.1) ∧ (marks.length ≤ 300) ∧ (moves.length ≤ 24 * k) ∧ (by_.length ≤ 24 * k + 1) ∧ s_ = ⟨[(1, lP 0 0), (2, lP 1 0), (3, lP 4 0), (4, lI (k : Int))], [(0, some (.box 29 [dI s.1.1, .dat (.sl 198 (.pr (.sl 3 .int) (.sl 3 .int))) s.1.2, .dat (.sl 90 (.pr .str .int)) s.2.1, .dat (.sl 55 (.pr .int .bool)) s.2.2.1, dS s.2.2.2])), (1, some (.box 255 [.val (.slice none 0 0), .val (.slice none 0 0), .val (.slice none 0 0), dI 0, dI 0, dB false])), (4, some (.box 255 [.ref 5, .ref 7, .ref 8, dI 0, dI (-1), dB false])), (5, some (.arr 9 .str marks)), (7, some (.arr 229 (.pr .int (.pr .int .int)) moves)), (8, some (.arr 229 (.pr .int (.pr .int .int)) by_))]⟩) ⟨0, [s.2.2.2], ([] : ((.sl 229 (.pr .int (.pr .int .int))) : Ty).Den), [(0, 0, 0)], Nat.zero_le _, rfl, rfl, (by intro m hm; rw [List.mem_singleton.1 hm]; exact hs.bits), (Nat.le_of_ble_eq_true rfl), (Nat.le_of_ble_eq_true rfl), (Nat.le_of_ble_eq_true rfl), rfl⟩ ?_ ?_
 · exact Wk.of [(5, 2), (7, 6), (8, 3)] rfl ⟨rfl, rfl, rfl, rfl, trivial⟩ ⟨rfl, rfl, rfl, (entE (by first | rfl | simp)), (entE (by first | rfl | simp)), (entE (by first | rfl | simp)), trivial⟩ rfl rfl
 rintro m_ s_ ⟨k, marks, moves, by_, hk2, hm3, hA, hB, hl, hv, hy, rfl⟩
 iterate 9 refine w_ ?_
 cases hb4 : (decide ((k : Int) < (marks.length : Int)))
 ·have hb4' := of_decide_eq_false hb4
  refine w_ ?_
  refine AC.exit ?_
  refine (?_ : AC _ _ _ _ _)
  iterate 4 refine w_ ?_
  refine AC.ret ?_
  subst hO
  have e5 : (0 : Int) = ((l4V s).2.2.1) := by
   (rw [l4V_ok (hA.trans (goK_out (by omega)))]; done)
  have e6 : ((-1) : Int) = ((l4V s).2.2.2.1) := by
   (rw [l4V_ok (hA.trans (goK_out (by omega)))]; done)
  have e7 : (false : Bool) = ((l4V s).2.2.2.2) := by
   (rw [l4V_ok (hA.trans (goK_out (by omega)))]; done)
  exact fin_is _ _ [(0, 5), (1, 7), (2, 8)] (Res.one rfl (Rs.cell rfl rfl tsh_255 rfl)) ((((congrArg (fun z_ => ag [.ref 5, .ref 7, .ref 8, dI z_, dI (-1), dB false]) e5)).trans (congrArg (fun z_ => ag [.ref 5, .ref 7, .ref 8, dI ((l4V s).2.2.1), dI z_, dB false]) e6)).trans (congrArg (fun z_ => ag [.ref 5, .ref 7, .ref 8, dI ((l4V s).2.2.1), dI ((l4V s).2.2.2.1), dB z_]) e7)) ⟨(entE (by (rw [l4V_ok (hA.trans (goK_out (by omega)))]; done))), (entE (by (rw [l4V_ok (hA.trans (goK_out (by omega)))]; done))), (entE (by (rw [l4V_ok (hA.trans (goK_out (by omega)))]; done))), trivial⟩ rfl rfl
 ·have hb4' := of_decide_eq_true hb4
  iterate 4 refine w_ ?_
  obtain ⟨mk, hx9⟩ : ∃ z, marks[k]? = some z := ⟨_, List.getElem?_eq_getElem (by omega)⟩
  have hbm := hB _ (List.mem_of_getElem? hx9)
  have hnp := net_pl hs.net hbm
  have hel := enbs_len s.1 mk
  apply dW [io 25 _, io 26 _, io 27 _, io 28 _, io 29 _, io 30 _, io 31 (lf (.ept 5 1 k 0)), io 32 (lf (dS mk)), io 33 (lf (.dat (.sl 3 .int) (enbs s.1 mk))), io 34 _, io 35 _] [0, 0, 3, 3, 3, 31, 3, 3, 0, 0, 1023]
  iterate 6 refine z_ ?_
  refine zz (fun _ h_ => ac (Does.indexI (e := .str) (h_.v rfl) (h_.en 5 rfl) (h_.v rfl) und_49 tsh_9 rfl (by omega) (by first | omega | (simp only [List.length_set]; omega))) rfl) <| zz (fun _ h_ => ac (Does.loadI (e := .str) (h_.v rfl) (h_.n 5 rfl) hx9 rfl tsh_9 rfl rfl) rfl) ?_
  refine zz (fun _ h_ => ac (dK (fc_spec_l1Enabled s.1 mk hnp (by omega)).frozen enters_231) rfl) ?_
  iterate 2 refine z_ ?_
  exact zN
  refine w_ ?_
  refine AC.loopW (fun m_ s_ => ∃ (i : Nat) (marks2 : List ByteArray) (moves2 : List (Int × Int × Int)) (by2 : List (Int × Int × Int)), i ≤ (enbs s.1 mk).length ∧ m_ = (enbs s.1 mk).length - i ∧ (reach s = contK s.1 (300 - k) k (goT s.1 k mk ((enbs s.1 mk).drop i) (marks2, moves2, by2))) ∧ (∀ m ∈ marks2, Bits m s.1.1) ∧ (marks2.length ≤ 300) ∧ (marks2[k]? = some mk) ∧ (moves2.length ≤ 24 * k + i) ∧ (by2.length ≤ 24 * k + 1 + i) ∧ s_ = ⟨[(1, lP 0 0), (2, lP 1 0), (3, lP 4 0), (4, lI (k : Int)), (17, lI (k : Int)), (18, lP 4 0), (19, lP 4 0), (21, lI (marks.length : Int)), (22, lB true), (25, lP 0 0), (26, ag [dI s.1.1, .dat (.sl 198 (.pr (.sl 3 .int) (.sl 3 .int))) s.1.2]), (27, lP 4 0), (28, lP 4 0), (30, lI (k : Int)), (32, lf (dS mk)), (33, lf (.dat (.sl 3 .int) (enbs s.1 mk))), (34, lI ((enbs s.1 mk).length : Int)), (35, lI (i : Int))], [(0, some (.box 29 [dI s.1.1, .dat (.sl 198 (.pr (.sl 3 .int) (.sl 3 .int))) s.1.2, .dat (.sl 90 (.pr .str .int)) s.2.1, .dat (.sl 55 (.pr .int .bool)) s.2.2.1, dS s.2.2.2])), (1, some (.box 255 [.val (.slice none 0 0), .val (.slice none 0 0), .val (.slice none 0 0), dI 0, dI 0, dB false])), (4, some (.box 255 [.ref 9, .ref 10, .ref 11, dI 0, dI (-1), dB false])), (9, some (.arr 9 .str marks2)), (10, some (.arr 229 (.pr .int (.pr .int .int)) moves2)), (11, some (.arr 229 (.pr .int (.pr .int .int)) by2))]⟩) ⟨0, marks, moves, by_, Nat.zero_le _, rfl, hA.trans (goK_in hx9 (by omega)), hB, hl, hx9, (by omega), (by omega), rfl⟩ ?_ ?_
  · exact Wk.of [(9, 5), (10, 7), (11, 8)] rfl ⟨rfl, rfl, rfl, rfl, rfl, rfl, rfl, rfl, rfl, rfl, rfl, rfl, rfl, rfl, rfl, rfl, rfl, rfl, trivial⟩ ⟨rfl, rfl, rfl, rfl, rfl, rfl, trivial⟩ rfl rfl
  rintro m_ s_ ⟨i, marks2, moves2, by2, hk10, hm11, hA2, hB2, hl2, hM2, hv2, hy2, rfl⟩
  have hk2 := (List.getElem?_eq_some_iff.1 hM2).1
  iterate 4 refine w_ ?_
  cases hb12 : (decide ((i : Int) < ((enbs s.1 mk).length : Int)))
  ·have hb12' := of_decide_eq_false hb12
   refine w_ ?_
   refine AC.exit ?_
   refine (?_ : AC _ _ _ _ _)
   iterate 4 refine w_ ?_
   refine AL.nil <| lend ⟨k + 1, marks2, moves2, by2, by omega, rfl, hA2.trans (goT_end (by omega) (by omega)), hB2, hl2, (by omega), (by omega), rfl⟩ (by omega) ?_
   exact Wk.of [(5, 9), (7, 10), (8, 11)] rfl ⟨rfl, rfl, rfl, rfl, trivial⟩ ⟨rfl, rfl, rfl, rfl, rfl, rfl, trivial⟩ rfl rfl
  ·have hb12' := of_decide_eq_true hb12
   iterate 5 refine w_ ?_
   obtain ⟨x13, hx14⟩ : ∃ z, (enbs s.1 mk)[i]? = some z := ⟨_, List.getElem?_eq_getElem (by omega)⟩
   iterate 2 refine w_ ?_
   refine AL.fact (fact_int (x := .tmp 38) (Evl.tmp rfl)) fun hi15 => ?_
   iterate 2 refine w_ ?_
   apply dW [io 40 _, io 41 _, io 42 _, io 43 _, io 44 _, io 45 _, io 46 (lf (.ept 9 1 k 0)), io 47 (lf (dS mk)), io 48 _, io 49 (PV.tup [(false, [dS ((fireV s.1 mk x13).1)]), (false, [dB ((fireV s.1 mk x13).2)])]), io 39 _, io 50 _, io 51 _, io 7 _, io 8 _] [0, 0, 3, 3, 3, 31, 3, 3, 255, 0, 0, 0, 2048, 4096, 0]
   iterate 6 refine z_ ?_
   refine zz (fun _ h_ => ac (Does.indexI (e := .str) (h_.v rfl) (h_.en 9 rfl) (h_.v rfl) und_49 tsh_9 rfl (by omega) (by first | omega | (simp only [List.length_set]; omega))) rfl) <| zz (fun _ h_ => ac (Does.loadI (e := .str) (h_.v rfl) (h_.n 9 rfl) hM2 rfl tsh_9 rfl rfl) rfl) ?_
   refine z_ ?_
   refine zz (fun _ h_ => ac (dK (fc_spec_l1Fire s.1 mk x13 hnp (enbs_mem hx14)) enters_307) rfl) ?_
   iterate 5 refine z_ ?_
   exact zN
   iterate 5 refine w_ ?_
   cases hb16 : ((fireV s.1 mk x13).2)
   ·iterate 15 refine w_ ?_
    refine AC.ret ?_
    subst hO
    have e17 : ((k : Int) : Int) = ((l4V s).2.2.1) := by
     (rw [l4V_bad (hA2.trans (goT_bad hx14 rfl (by assumption))) (enbs_mem hx14).1]; done)
    have e18 : (x13 : Int) = ((l4V s).2.2.2.1) := by
     (rw [l4V_bad (hA2.trans (goT_bad hx14 rfl (by assumption))) (enbs_mem hx14).1]; done)
    have e19 : (false : Bool) = ((l4V s).2.2.2.2) := by
     (rw [l4V_bad (hA2.trans (goT_bad hx14 rfl (by assumption))) (enbs_mem hx14).1]; done)
    exact fin_is _ _ [(0, 9), (1, 10), (2, 11)] (Res.one rfl (Rs.cell rfl rfl tsh_255 rfl)) ((((congrArg (fun z_ => ag [.ref 9, .ref 10, .ref 11, dI z_, dI x13, dB false]) e17)).trans (congrArg (fun z_ => ag [.ref 9, .ref 10, .ref 11, dI ((l4V s).2.2.1), dI z_, dB false]) e18)).trans (congrArg (fun z_ => ag [.ref 9, .ref 10, .ref 11, dI ((l4V s).2.2.1), dI ((l4V s).2.2.2.1), dB z_]) e19)) ⟨(entE (by (rw [l4V_bad (hA2.trans (goT_bad hx14 rfl (by assumption))) (enbs_mem hx14).1]; done))), (entE (by (rw [l4V_bad (hA2.trans (goT_bad hx14 rfl (by assumption))) (enbs_mem hx14).1]; done))), (entE (by (rw [l4V_bad (hA2.trans (goT_bad hx14 rfl (by assumption))) (enbs_mem hx14).1]; done))), trivial⟩ rfl rfl
   ·iterate 7 refine w_ ?_
    refine lc (dB_ (fc_spec_l4Find marks2 ((fireV s.1 mk x13).1)) enters_308) ?_
    iterate 7 refine w_ ?_
    cases hb20 : (decide ((findB marks2 ((fireV s.1 mk x13).1)) < 0))
    ·have hb20' := of_decide_eq_false hb20
     iterate 9 refine w_ ?_
     refine lc (Does.build bld_229 ⟨_, _, rfl, (Ev.tmp rfl), ⟨_, _, rfl, (Ev.tmp rfl), ⟨_, _, rfl, (Ev.tmp rfl), rfl⟩⟩⟩ (List.all_eq_true.1 rfl) rfl rfl) ?_
     refine lc (dBs 12 (e := (.pr .int (.pr .int .int))) zer_229 (hab := by exact ⟨_, _, _, _, rfl, ⟨[dI (k : Int)], [dI x13, dI (findB marks2 ((fireV s.1 mk x13).1))], _, _, _, _, rfl, rfl, ⟨rfl, rfl⟩, ⟨[dI x13], [dI (findB marks2 ((fireV s.1 mk x13).1))], _, _, _, _, rfl, rfl, ⟨rfl, rfl⟩, ⟨rfl, rfl⟩, rfl⟩, rfl⟩, ⟨rfl, rfl⟩, rfl⟩)) ?_
     refine lc (dA 13 elb_229) ?_
     iterate 3 refine w_ ?_
     refine AL.nil ?_
     refine (?_ : AC _ _ _ _ _)
     iterate 3 refine w_ ?_
     refine AL.nil <| lend ⟨i + 1, marks2, (moves2 ++ ([((k : Int), x13, findB marks2 ((fireV s.1 mk x13).1))])), by2, by omega, rfl, by first | exact hA2.trans (goT_old hx14 rfl (by assumption) ⟨by omega, rfl⟩) | exact hA2.trans (goT_new hx14 rfl (by assumption) (by omega) (by assumption)), by first | exact hB2 | exact all_app hB2 (fireV_bits (hB2 _ (List.mem_of_getElem? hM2)) rfl (by assumption)), (by omega), by first | exact hM2 | exact at_app hM2, (by simp only [List.length_append, List.length_cons, List.length_nil]; omega), (by omega), rfl⟩ (by omega) ?_
     exact Wk.of [(10, 13)] rfl ⟨rfl, rfl, rfl, rfl, rfl, rfl, rfl, rfl, rfl, rfl, rfl, rfl, rfl, rfl, rfl, rfl, rfl, rfl, trivial⟩ ⟨rfl, rfl, rfl, rfl, (entE (by first | rfl | simp)), rfl, trivial⟩ rfl rfl
    ·have hb20' := of_decide_eq_true hb20
     iterate 9 refine w_ ?_
     cases hb21 : (decide ((marks2.length : Int) = 300))
     ·have hb21' := of_decide_eq_false hb21
      iterate 14 refine w_ ?_
      refine lc (dBs 14 (e := .str) zer_9) ?_
      refine lc (dA 15 elb_9) ?_
      iterate 10 refine w_ ?_
      refine lc (Does.build bld_229 ⟨_, _, rfl, (Ev.tmp rfl), ⟨_, _, rfl, (Ev.tmp rfl), ⟨_, _, rfl, (Ev.tmp rfl), rfl⟩⟩⟩ (List.all_eq_true.1 rfl) rfl rfl) ?_
      refine lc (dBs 16 (e := (.pr .int (.pr .int .int))) zer_229 (hab := by exact ⟨_, _, _, _, rfl, ⟨[dI (k : Int)], [dI x13, dI (marks2.length : Int)], _, _, _, _, rfl, rfl, ⟨rfl, rfl⟩, ⟨[dI x13], [dI (marks2.length : Int)], _, _, _, _, rfl, rfl, ⟨rfl, rfl⟩, ⟨rfl, rfl⟩, rfl⟩, rfl⟩, ⟨rfl, rfl⟩, rfl⟩)) ?_
      refine lc (dA 17 elb_229) ?_
      iterate 10 refine w_ ?_
      refine lc (Does.build bld_229 ⟨_, _, rfl, (Ev.tmp rfl), ⟨_, _, rfl, (Ev.tmp rfl), ⟨_, _, rfl, (Ev.tmp rfl), rfl⟩⟩⟩ (List.all_eq_true.1 rfl) rfl rfl) ?_
      refine lc (dBs 18 (e := (.pr .int (.pr .int .int))) zer_229 (hab := by exact ⟨_, _, _, _, rfl, ⟨[dI (k : Int)], [dI x13, dI (marks2.length : Int)], _, _, _, _, rfl, rfl, ⟨rfl, rfl⟩, ⟨[dI x13], [dI (marks2.length : Int)], _, _, _, _, rfl, rfl, ⟨rfl, rfl⟩, ⟨rfl, rfl⟩, rfl⟩, rfl⟩, ⟨rfl, rfl⟩, rfl⟩)) ?_
      refine lc (dA 19 elb_229) ?_
      iterate 3 refine w_ ?_
      refine AL.nil ?_
      refine (?_ : AC _ _ _ _ _)
      iterate 3 refine w_ ?_
      refine AL.nil <| lend ⟨i + 1, (marks2 ++ ([(fireV s.1 mk x13).1])), (moves2 ++ ([((k : Int), x13, (marks2.length : Int))])), (by2 ++ ([((k : Int), x13, (marks2.length : Int))])), by omega, rfl, by first | exact hA2.trans (goT_old hx14 rfl (by assumption) ⟨by omega, rfl⟩) | exact hA2.trans (goT_new hx14 rfl (by assumption) (by omega) (by assumption)), by first | exact hB2 | exact all_app hB2 (fireV_bits (hB2 _ (List.mem_of_getElem? hM2)) rfl (by assumption)), (by (simp only [List.length_append, List.length_cons, List.length_nil]; omega)), by first | exact hM2 | exact at_app hM2, (by simp only [List.length_append, List.length_cons, List.length_nil]; omega), (by (simp only [List.length_append, List.length_cons, List.length_nil]; omega)), rfl⟩ (by omega) ?_
      exact Wk.of [(9, 15), (10, 19), (11, 17)] rfl ⟨rfl, rfl, rfl, rfl, rfl, rfl, rfl, rfl, rfl, rfl, rfl, rfl, rfl, rfl, rfl, rfl, rfl, rfl, trivial⟩ ⟨rfl, rfl, rfl, (entE (by first | rfl | simp)), (entE (by first | rfl | simp)), (entE (by first | rfl | simp)), trivial⟩ rfl rfl
     ·have hb21' := of_decide_eq_true hb21
      iterate 9 refine w_ ?_
      refine AC.ret ?_
      subst hO
      have e22 : (0 : Int) = ((l4V s).2.2.1) := by
       (rw [l4V_full (hA2.trans (goT_full hx14 rfl (by assumption) (by omega) (by assumption)))]; done)
      have e23 : ((-1) : Int) = ((l4V s).2.2.2.1) := by
       (rw [l4V_full (hA2.trans (goT_full hx14 rfl (by assumption) (by omega) (by assumption)))]; done)
      have e24 : (true : Bool) = ((l4V s).2.2.2.2) := by
       (rw [l4V_full (hA2.trans (goT_full hx14 rfl (by assumption) (by omega) (by assumption)))]; done)
      exact fin_is _ _ [(0, 9), (1, 10), (2, 11)] (Res.one rfl (Rs.cell rfl rfl tsh_255 rfl)) ((((congrArg (fun z_ => ag [.ref 9, .ref 10, .ref 11, dI z_, dI (-1), dB true]) e22)).trans (congrArg (fun z_ => ag [.ref 9, .ref 10, .ref 11, dI ((l4V s).2.2.1), dI z_, dB true]) e23)).trans (congrArg (fun z_ => ag [.ref 9, .ref 10, .ref 11, dI ((l4V s).2.2.1), dI ((l4V s).2.2.2.1), dB z_]) e24)) ⟨(entE (by (rw [l4V_full (hA2.trans (goT_full hx14 rfl (by assumption) (by omega) (by assumption)))]; done))), (entE (by (rw [l4V_full (hA2.trans (goT_full hx14 rfl (by assumption) (by omega) (by assumption)))]; done))), (entE (by (rw [l4V_full (hA2.trans (goT_full hx14 rfl (by assumption) (by omega) (by assumption)))]; done))), trivial⟩ rfl rfl

end Go.Proofs.YtjaadeknhofhpaaGreat
