/- Walks over abstract states: the reference puts a signal in. -/
import Derived.Test.YtbelopdphlllnaaVf
set_option linter.unusedSimpArgs false
set_option linter.unusedVariables false
namespace Go.Proofs.Ytbelopdphlllnaa
open Go.RowKit

def vB (b : Bool) : Int := if b then 1 else 0
def keyP (p : PSt) : Int := 2 * p.1 + vB p.2
def mayV (x : UInt8) (v : Int) : Bool := if x = 48 then decide (v = 0) else if x = 49 then decide (v = 1) else true
section
variable {c : DSg} {s : ByteArray} {ps : List PSt} {p : PSt} {cs : List ByteArray} {i : Nat} {k v z q : Int} {code : ByteArray} {a : DAr}
theorem vB_rng (b : Bool) : vB b = 0 ∨ vB b = 1 := by cases b <;> simp [vB]
theorem vB_one (b : Bool) : decide (vB b = 1) = b := by cases b <;> rfl
theorem keyP_iff (hv : v = 0 ∨ v = 1) : keyP p = 2 * k + v ↔ p = (k, decide (v = 1)) := by
  obtain ⟨x, b⟩ := p
  simp only [keyP, Prod.mk.injEq]
  have := vB_rng b
  constructor
  · intro h
    have h1 : x = k := by omega
    have h2 : vB b = v := by omega
    refine ⟨h1, ?_⟩
    rw [← h2, vB_one]
  · rintro ⟨rfl, rfl⟩
    rcases hv with rfl | rfl <;> rfl
theorem idxOf_at {α : Type _} [BEq α] [LawfulBEq α] {l : List α} {i : Nat} {x : α} (h : l[i]? = some x) (hn : ∀ j, j < i → l[j]? ≠ some x) : l.idxOf x = i := by
  induction l generalizing i with
  | nil => simp at h
  | cons y l ih =>
    cases i with
    | zero => simp at h; subst h; simp
    | succ i =>
      have h0 : y ≠ x := by have := hn 0 (by omega); simpa using this
      rw [List.idxOf_cons, show (y == x) = false by simpa using h0]
      simp only [cond_false]
      rw [ih (by simpa using h) fun j hj => by have := hn (j + 1) (by omega); simpa using this]
abbrev keyQ (k v : Int) : Int → Bool := fun z => decide (z = 2 * k + v)
theorem key_at (h : (ps.map keyP)[i]? = some z) : ∃ p, ps[i]? = some p ∧ z = keyP p := by
  rw [List.getElem?_map] at h
  cases h2 : ps[i]? with
  | none => rw [h2] at h; cases h
  | some p => rw [h2] at h; exact ⟨p, rfl, (Option.some.inj h).symm⟩
theorem st_at (hv : v = 0 ∨ v = 1) (hN : NoneTo (keyQ k v) (ps.map keyP) i) (hx : (ps.map keyP)[i]? = some z) (hz : z = 2 * k + v) : ps[i]? = some (k, decide (v = 1)) ∧ (i : Int) = ixP ps (k, decide (v = 1)) := by
  obtain ⟨p, h1, h2⟩ := key_at hx
  have h3 := (keyP_iff hv).1 (h2.symm.trans hz)
  rw [h3] at h1
  refine ⟨h1, ?_⟩
  unfold ixP
  rw [idxOf_at h1 fun j hj hq => ?_]
  have := hN j hj (keyP (k, decide (v = 1))) (by rw [List.getElem?_map, hq]; rfl)
  simp only [decide_eq_false_iff_not] at this
  exact this ((keyP_iff hv).2 rfl)
theorem st_r1 (hv : v = 0 ∨ v = 1) (hN : NoneTo (keyQ k v) (ps.map keyP) i) (hx : (ps.map keyP)[i]? = some z) (hz : z = 2 * k + v) : (i : Int) = ixP ps (k, decide (v = 1)) := (st_at hv hN hx hz).2
theorem st_p1 (hv : v = 0 ∨ v = 1) (hN : NoneTo (keyQ k v) (ps.map keyP) i) (hx : (ps.map keyP)[i]? = some z) (hz : z = 2 * k + v) : ps.map keyP = (psP ps (k, decide (v = 1))).map keyP := by
  unfold psP; rw [if_pos (List.mem_of_getElem? (st_at hv hN hx hz).1)]
theorem st_c1 (hv : v = 0 ∨ v = 1) (hN : NoneTo (keyQ k v) (ps.map keyP) i) (hx : (ps.map keyP)[i]? = some z) (hz : z = 2 * k + v) : cs = cdP c ps cs (k, decide (v = 1)) := by
  unfold cdP; rw [if_pos (List.mem_of_getElem? (st_at hv hN hx hz).1)]
theorem st_out (hv : v = 0 ∨ v = 1) (hN : NoneTo (keyQ k v) (ps.map keyP) i) (hi : ps.length ≤ i) : (k, decide (v = 1)) ∉ ps := fun hm => by
  obtain ⟨j, hj⟩ := List.mem_iff_getElem?.1 hm
  have hl := (List.getElem?_eq_some_iff.1 hj).1
  have := hN j (by omega) (keyP (k, decide (v = 1))) (by rw [List.getElem?_map, hj]; rfl)
  simp only [decide_eq_false_iff_not] at this
  exact this ((keyP_iff hv).2 rfl)
theorem st_r0 (hv : v = 0 ∨ v = 1) (hN : NoneTo (keyQ k v) (ps.map keyP) i) (hi : ps.length ≤ i) : (((ps.map keyP) ++ [2 * k + v]).length : Int) - 1 = ixP ps (k, decide (v = 1)) := by
  unfold ixP; rw [List.idxOf_eq_length (st_out hv hN hi)]; simp
theorem st_p0 (hv : v = 0 ∨ v = 1) (hN : NoneTo (keyQ k v) (ps.map keyP) i) (hi : ps.length ≤ i) : ps.map keyP ++ [2 * k + v] = (psP ps (k, decide (v = 1))).map keyP := by
  unfold psP; rw [if_neg (st_out hv hN hi), List.map_append, List.map_singleton, (keyP_iff hv).2 rfl]
theorem st_c0 (hv : v = 0 ∨ v = 1) (hN : NoneTo (keyQ k v) (ps.map keyP) i) (hi : ps.length ≤ i) (hx : c.2.1[k.toNat]? = some code) : cs ++ [code ++ ⟨#[UInt8.ofNat (48 + v).toNat]⟩] = cdP c ps cs (k, decide (v = 1)) := by
  unfold cdP; rw [if_neg (st_out hv hN hi), code_get hx]
  rcases hv with rfl | rfl <;> rfl
theorem keyP_div : keyP p / 2 = p.1 := by have := vB_rng p.2; unfold keyP; omega
theorem keyP_mod : keyP p % 2 = vB p.2 := by have := vB_rng p.2; unfold keyP; omega
theorem skip_may (hm : mayV (bAt s a.2.2.2) (vB p.2) = false) : skipP s p a = true := by
  unfold mayV at hm
  unfold skipP
  cases hb : p.2 <;> rw [hb] at hm <;> revert hm <;> (repeat' split) <;> simp_all [vB]
theorem skip_early (ha : a.1 = p.1) (hd : delV s a = true) (he : (decide (bAt s p.1 = 43) == decide (vB p.2 = 0)) = true) : skipP s p a = true := by
  unfold skipP
  rw [hd]
  have : waitsP s p = true := by
    unfold delV at hd
    unfold waitsP
    rw [ha] at hd
    cases hb : p.2 <;> rw [hb] at he <;> simp_all [vB]
  simp [this]
theorem skip_not (ha : a.1 = p.1) (hm : mayV (bAt s a.2.2.2) (vB p.2) = true) (he : delV s a = false ∨ (decide (bAt s p.1 = 43) == decide (vB p.2 = 0)) = false) : skipP s p a = false := by
  have h3 : (waitsP s p && delV s a) = false := by
    rcases he with he | he
    · rw [he, Bool.and_false]
    · cases hd : delV s a with
      | false => rw [Bool.and_false]
      | true =>
        unfold delV at hd
        unfold waitsP
        rw [ha] at hd
        cases hb : p.2 <;> rw [hb] at he <;> simp_all [vB]
  unfold skipP
  rw [h3]
  unfold mayV at hm
  cases hb : p.2 <;> rw [hb] at hm <;> revert hm <;> (repeat' split) <;> simp_all [vB]
theorem two_wait (h : waitsP s p = true) : (bAt s p.1 = 43 ∧ p.2 = false) ∨ (bAt s p.1 = 45 ∧ p.2 = true) := by
  unfold waitsP at h
  simpa using h
theorem pre_plus {st : Ins} (h1 : bAt s p.1 = 43) (h2 : vB p.2 = 0) : preP c s st q p = arcP c st q ((c.1.length : Int), true) (p.1, decide ((1 : Int) = 1)) := by
  have hb : p.2 = false := by cases h : p.2 <;> rw [h] at h2 <;> simp [vB] at h2
  rw [pre_yes (by unfold waitsP; rw [h1, hb]; rfl), h1, hb]; rfl
theorem pre_minus {st : Ins} (h1 : bAt s p.1 = 45) (h2 : vB p.2 = 1) : preP c s st q p = arcP c st q ((c.1.length : Int), false) (p.1, decide ((0 : Int) = 1)) := by
  have hb : p.2 = true := by cases h : p.2 <;> rw [h] at h2 <;> simp [vB] at h2
  rw [pre_yes (by unfold waitsP; rw [h1, hb]; rfl), h1, hb]; rfl
theorem pre_none {st : Ins} (h1 : bAt s p.1 = 43 → ¬ vB p.2 = 0) (h2 : bAt s p.1 = 45 → ¬ vB p.2 = 1) : preP c s st q p = st := by
  refine pre_no ?_
  cases h : waitsP s p with
  | false => rfl
  | true =>
    rcases two_wait h with ⟨h3, h4⟩ | ⟨h3, h4⟩
    · exact absurd (by rw [h4]; rfl) (h1 h3)
    · exact absurd (by rw [h4]; rfl) (h2 h3)
end

set_option maxRecDepth 100000 in
set_option maxHeartbeats 4000000 in
theorem fc_spec_l1Num (n : Int) (hn : 0 ≤ n ∧ n ≤ 9) : FC Try.prog 212 [(false, [dI n])] [] 0 (Pure (lf (dS (⟨#[UInt8.ofNat (48 + n).toNat]⟩ : ByteArray)))) := by
 have hn10 : decide (n < 10) = true := decide_eq_true (by omega)
 refine FC.O_all fun O_ hO => FC.ren (FC.of Try.func212 rfl rfl fun A_ hn_ hk_ => ?_)
 obtain ⟨w0_, N0_, X_, n_, k0_, h0_, f0_⟩ := A_
 obtain rfl : n_ = 20 := hn_.trans Try.ntmps212
 obtain rfl : k0_ = 0 := hk_
 refine AC.fact (fact_int (x := .tmp 0) (Evl.tmp rfl)) fun hi1 => ?_
 refine AC.sr ?_
 refine AL.cons rfl (Does.assignC (Evl.str rfl) rfl) ?_
 refine AL.nilS ?_
 refine AC.seq ?_
 refine AC.sr ?_
 refine AL.cons rfl (Does.move rfl rfl) ?_
 refine AL.cons rfl (Does.lss (Evl.tmp rfl) (Evl.int rfl) rfl) ?_
 refine AL.nilS ?_
 cases hb2 : (decide (n < 10))
 · exact absurd (hb2.symm.trans (show (decide (n < 10)) = true from hn10)) (by decide)
 ·have _h := hb2
  have hb2' : (n < 10) := of_decide_eq_true hb2
  refine AC.condT (Evl.tmp rfl) ?_
  refine AC.sr ?_
  refine AL.cons rfl (Does.move rfl rfl) ?_
  refine AL.cons rfl (Does.add (Evl.int rfl) (Evl.tmp rfl) rfl (by omega)) ?_
  refine AL.cons rfl (Does.toU8 (Evl.tmp rfl) und_3 und_5 (by omega) (by omega) rfl) ?_
  refine AL.cons rfl (Does.buildSlice 0 (e := .u8) und_156 tsh_5 zer_5 rfl ⟨_, _, rfl, (Ev.tmp rfl), rfl⟩ (List.all_eq_true.1 rfl) ⟨_, _, _, _, rfl, ⟨rfl, rfl⟩, ⟨rfl, rfl⟩, rfl⟩ (by decide) rfl rfl (Fresh.of rfl) (nlr rfl)) ?_
  refine AL.cons rfl (Does.ofBytes (ys := [UInt8.ofNat (48 + n).toNat]) (Evl.repO (Evl.tmp rfl) rfl) und_156 und_5 und_9 rfl) ?_
  refine AL.cons rfl (Does.assign rfl rfl) ?_
  refine AL.nilS ?_
  refine AC.ret ?_
  subst hO
  exact fin_pure (Res.one rfl (Rs.tmp rfl)) rfl rfl

set_option maxRecDepth 100000 in
set_option maxHeartbeats 4000000 in
theorem fc_spec_l11B_state (c : DSg) (signs : ByteArray) (ps : List PSt) (ss : List DSignal) (cs : List ByteArray) (as_ : List DAr) (k : Int) (v : Int) (hp : 0 ≤ k ∧ k < (c.2.1.length : Int)) (hv : v = 0 ∨ v = 1) (hc : ∀ x ∈ c.2.1, x.size ≤ 1000) (hl : ps.length ≤ 1000000 ∧ cs.length ≤ 1000000) (hn : c.2.1.length ≤ 1000000) : FC Try.prog 167 [(false, [.ptr 0 0]), (false, [dI k]), (false, [dI v])] [(0, some (.box 213 [.dat (.sl 129 (.pr .str .int)) c.1, .dat (.sl 9 .str) c.2.1, .dat (.sl 170 (.pr .int (.pr .int (.pr .bool .int)))) c.2.2, dS signs, .ref 3, .ref 1, .ref 4, .ref 2])), (3, some (.arr 3 .int (ps.map keyP))), (1, some (.arr 129 (.pr .str .int) ss)), (4, some (.arr 9 .str cs)), (2, some (.arr 170 (.pr .int (.pr .int (.pr .bool .int))) as_))] 3 (Is (lf (dI (ixP ps (k, decide (v = 1))))) [(0, some (.box 213 [.dat (.sl 129 (.pr .str .int)) c.1, .dat (.sl 9 .str) c.2.1, .dat (.sl 170 (.pr .int (.pr .int (.pr .bool .int)))) c.2.2, dS signs, .ref 3, .ref 1, .ref 4, .ref 2])), (3, some (.arr 3 .int ((psP ps (k, decide (v = 1))).map keyP))), (1, some (.arr 129 (.pr .str .int) ss)), (4, some (.arr 9 .str (cdP c ps cs (k, decide (v = 1))))), (2, some (.arr 170 (.pr .int (.pr .int (.pr .bool .int))) as_))]) := by
 have hml : (ps.map keyP).length = ps.length := List.length_map ..
 refine FC.O_all fun O_ hO => FC.ren (FC.of Try.func167 rfl rfl fun A_ hn_ hk_ => ?_)
 obtain ⟨w0_, N0_, X_, n_, k0_, h0_, f0_⟩ := A_
 obtain rfl : n_ = 68 := hn_.trans Try.ntmps167
 obtain rfl : k0_ = 3 := hk_
 refine AC.fact (fact_int (x := .tmp 1) (Evl.tmp rfl)) fun hi1 => ?_
 refine AC.fact (fact_int (x := .tmp 2) (Evl.tmp rfl)) fun hi2 => ?_
 refine AC.sr ?_
 refine AL.cons rfl (Does.assignC (Evl.int rfl) rfl) ?_
 refine AL.nilS ?_
 refine AC.seq ?_
 refine AC.sr ?_
 refine AL.cons rfl (Does.move rfl rfl) ?_
 refine AL.cons rfl (Does.nilP (Evl.tmp rfl) rfl rfl) ?_
 refine AL.cons rfl (Does.fieldP (Evl.tmp rfl) fld_213_2 rfl rfl) ?_
 refine AL.cons rfl (Does.loadP (Evl.tmp rfl) rfl tsh_72 rfl rfl) ?_
 refine AL.cons rfl (Does.lenO (Evl.tmp rfl) rfl rfl und_72) ?_
 refine AL.cons rfl (Does.moveC (Evl.int rfl) rfl) ?_
 refine AL.nilS ?_
 refine AC.block ?_
 refine AC.loopW (fun m_ s_ => ∃ (i : Nat), i ≤ ps.length ∧ m_ = ps.length - i ∧ (NoneTo (keyQ k v) (ps.map keyP) i) ∧ s_ = ⟨[(0, lf (.ptr 0 0)), (1, lf (dI k)), (2, lf (dI v)), (12, lf (.ref 3)), (13, lf (dI ((ps.map keyP).length : Int))), (14, lf (dI (i : Int)))], [(0, some (.box 213 [.dat (.sl 129 (.pr .str .int)) c.1, .dat (.sl 9 .str) c.2.1, .dat (.sl 170 (.pr .int (.pr .int (.pr .bool .int)))) c.2.2, dS signs, .ref 3, .ref 1, .ref 4, .ref 2])), (1, some (.arr 129 (.pr .str .int) ss)), (2, some (.arr 170 (.pr .int (.pr .int (.pr .bool .int))) as_)), (3, some (.arr 3 .int (ps.map keyP))), (4, some (.arr 9 .str cs))]⟩) ⟨0, Nat.zero_le _, rfl, NoneTo.zero, rfl⟩ ?_ ?_
 · exact Wk.of [(0, 0), (1, 1), (2, 2), (3, 3), (4, 4)] rfl ⟨rfl, rfl, rfl, rfl, rfl, rfl, trivial⟩ ⟨rfl, rfl, rfl, rfl, rfl, trivial⟩ rfl rfl
 rintro m_ s_ ⟨i, hk3, hm4, hN, rfl⟩
 refine AC.sr ?_
 refine AL.cons rfl (Does.lss (Evl.tmp rfl) (Evl.tmp rfl) rfl) ?_
 refine AL.nilS ?_
 refine AC.seq ?_
 cases hb5 : (decide ((i : Int) < ((ps.map keyP).length : Int)))
 ·have _h := hb5
  have hb5' : ¬ ((i : Int) < ((ps.map keyP).length : Int)) := of_decide_eq_false hb5
  refine AC.condF (Evl.tmp rfl) ?_
  refine AC.exit ?_
  refine (?_ : AC _ _ _ _ _)
  refine AC.sr ?_
  refine AL.cons rfl (Does.move rfl rfl) ?_
  refine AL.cons rfl (Does.move rfl rfl) ?_
  refine AL.cons rfl (Does.nilP (Evl.tmp rfl) rfl rfl) ?_
  refine AL.cons rfl (Does.fieldP (Evl.tmp rfl) fld_213_2 rfl rfl) ?_
  refine AL.cons rfl (Does.loadP (Evl.tmp rfl) rfl tsh_72 rfl rfl) ?_
  refine AL.cons rfl (Does.move rfl rfl) ?_
  refine AL.cons rfl (Does.mul (Evl.int rfl) (Evl.tmp rfl) rfl (by first | omega | (simp only [List.length_append, List.length_map, List.length_cons, List.length_nil]; omega))) ?_
  refine AL.cons rfl (Does.move rfl rfl) ?_
  refine AL.cons rfl (Does.add (Evl.tmp rfl) (Evl.tmp rfl) rfl (by first | omega | (simp only [List.length_append, List.length_map, List.length_cons, List.length_nil]; omega))) ?_
  refine AL.cons rfl (Does.buildSlice 5 (e := .int) und_72 tsh_3 zer_3 rfl ⟨_, _, rfl, (Ev.tmp rfl), rfl⟩ (List.all_eq_true.1 rfl) ⟨_, _, _, _, rfl, ⟨rfl, rfl⟩, ⟨rfl, rfl⟩, rfl⟩ (by decide) rfl rfl (Fresh.of rfl) (nlr rfl)) ?_
  refine AL.cons rfl (Does.append 6 (Evl.tmp rfl) rfl (Evl.tmp rfl) rfl rfl und_72 elb_3 (by first | omega | (simp only [List.length_append, List.length_map, List.length_take, List.length_cons, List.length_nil]; omega)) rfl (Fresh.of rfl) (nlr rfl)) ?_
  refine AL.cons rfl (Does.nilP (Evl.tmp rfl) rfl rfl) ?_
  refine AL.cons rfl (Does.fieldP (Evl.tmp rfl) fld_213_2 rfl rfl) ?_
  refine AL.cons rfl (Does.storeP (Evl.tmp rfl) rfl (Ev.tmp rfl) rfl tsh_72 rfl) ?_
  refine AL.nilS ?_
  refine AC.seq ?_
  obtain ⟨x6, hx7⟩ : ∃ z, c.2.1[(k).toNat]? = some z := ⟨_, List.getElem?_eq_getElem (by omega)⟩
  have hczx6 := hc _ (List.mem_of_getElem? hx7)
  refine AC.drawL [⟨some 40, lf (.ptr 0 0), []⟩, ⟨some 41, lf (.ptr 0 0), []⟩, ⟨some 42, lf (.ptr 0 0), []⟩, ⟨some 43, lf (.ptr 0 5), []⟩, ⟨some 44, lf (.ptr 0 6), []⟩, ⟨some 45, lf (.ref 4), []⟩, ⟨some 46, lf (.ptr 0 0), []⟩, ⟨some 47, lf (.ptr 0 0), []⟩, ⟨some 48, lf (.ptr 0 0), []⟩, ⟨some 49, lf (.ptr 0 1), []⟩, ⟨some 50, lf (.dat (.sl 9 .str) c.2.1), []⟩, ⟨some 51, lf (dI k), []⟩, ⟨some 52, lf (.elt .str x6 0), []⟩, ⟨some 53, lf (dS x6), []⟩, ⟨some 54, lf (dI v), []⟩, ⟨some 55, lf (dS (⟨#[UInt8.ofNat (48 + v).toNat]⟩ : ByteArray)), []⟩, ⟨some 56, lf (dS (x6 ++ (⟨#[UInt8.ofNat (48 + v).toNat]⟩ : ByteArray))), []⟩, ⟨some 57, lf (.ref 7), [(7, some (.arr 9 .str ([x6 ++ (⟨#[UInt8.ofNat (48 + v).toNat]⟩ : ByteArray)])))]⟩, ⟨some 58, lf (.ref 8), [(8, some (.arr 9 .str (cs ++ ([x6 ++ (⟨#[UInt8.ofNat (48 + v).toNat]⟩ : ByteArray)])))), (4, none), (7, none)]⟩, ⟨some 59, lf (.ptr 0 0), []⟩, ⟨some 60, lf (.ptr 0 5), []⟩, ⟨some 61, lf (.ptr 0 6), []⟩, ⟨none, lf (.val undef), [(0, some (.box 213 [.dat (.sl 129 (.pr .str .int)) c.1, .dat (.sl 9 .str) c.2.1, .dat (.sl 170 (.pr .int (.pr .int (.pr .bool .int)))) c.2.2, dS signs, .ref 6, .ref 1, .ref 8, .ref 2]))]⟩] [[], [], [1], [1, 2], [1, 2, 3], [1, 2, 3, 4], [], [6], [6, 7], [6, 7, 8], [6, 7, 8, 9], [], [6, 7, 8, 9, 10, 11], [6, 7, 8, 9, 10, 11, 12], [], [14], [6, 7, 8, 9, 10, 11, 12, 13, 14, 15], [6, 7, 8, 9, 10, 11, 12, 13, 14, 15, 16], [1, 2, 3, 4, 5, 6, 7, 8, 9, 10, 11, 12, 13, 14, 15, 16, 17], [0, 1, 2, 3, 4, 5, 6, 7, 8, 9, 10, 11, 12, 13, 14, 15, 16, 17, 18], [0, 1, 2, 3, 4, 5, 6, 7, 8, 9, 10, 11, 12, 13, 14, 15, 16, 17, 18, 19], [0, 1, 2, 3, 4, 5, 6, 7, 8, 9, 10, 11, 12, 13, 14, 15, 16, 17, 18, 19, 20], [0, 1, 2, 3, 4, 5, 6, 7, 8, 9, 10, 11, 12, 13, 14, 15, 16, 17, 18, 19, 20, 21]] mixed rfl (by kernel_rfl) ?_ ?_
  · refine ⟨fun s_ hs => Acts.of1 rfl (Does.move (hs.tm 0 rfl) rfl) rfl, fun s_ hs => Acts.of1 rfl (Does.move (hs.tm 0 rfl) rfl) rfl, fun s_ hs => Acts.of1 rfl (Does.nilP (Evl.tmp (hs.tm 41 rfl)) (by rw [(hs.en 0 rfl)]; rfl) rfl) rfl, fun s_ hs => Acts.of1 rfl (Does.fieldP (Evl.tmp (hs.tm 42 rfl)) fld_213_3 (by rw [(hs.en 0 rfl)]; rfl) rfl) rfl, fun s_ hs => Acts.of1 rfl (Does.fieldP (Evl.tmp (hs.tm 43 rfl)) fld_77_1 (by rw [(hs.en 0 rfl)]; rfl) rfl) rfl, fun s_ hs => Acts.of1 rfl (Does.loadP (Evl.tmp (hs.tm 44 rfl)) (hs.en 0 rfl) tsh_67 rfl rfl) rfl, fun s_ hs => Acts.of1 rfl (Does.move (hs.tm 0 rfl) rfl) rfl, fun s_ hs => Acts.of1 rfl (Does.nilP (Evl.tmp (hs.tm 46 rfl)) (by rw [(hs.en 0 rfl)]; rfl) rfl) rfl, fun s_ hs => Acts.of1 rfl (Does.fieldP (Evl.tmp (hs.tm 47 rfl)) fld_213_0 (by rw [(hs.en 0 rfl)]; rfl) rfl) rfl, fun s_ hs => Acts.of1 rfl (Does.fieldP (Evl.tmp (hs.tm 48 rfl)) fld_77_1 (by rw [(hs.en 0 rfl)]; rfl) rfl) rfl, fun s_ hs => Acts.of1 rfl (Does.loadP (Evl.tmp (hs.tm 49 rfl)) (hs.en 0 rfl) tsh_67 rfl rfl) rfl, fun s_ hs => Acts.of1 rfl (Does.move (hs.tm 1 rfl) rfl) rfl, fun s_ hs => Acts.of1 rfl (Does.indexE (Evl.tmp (hs.tm 50 rfl)) (Evl.tmp (hs.tm 51 rfl)) und_67 tsh_9 rfl (by omega) hx7) rfl, fun s_ hs => Acts.of1 rfl (Does.loadE (Evl.tmp (hs.tm 52 rfl)) tsh_9 rfl rfl) rfl, fun s_ hs => Acts.of1 rfl (Does.move (hs.tm 2 rfl) rfl) rfl, fun s_ hs => Acts.of1 rfl (Does.call (fc_spec_l1Num v (by omega)) enters_212 ⟨_, _, rfl, (Ev.tmp (hs.tm 54 rfl)), rfl⟩ rfl rfl) rfl, fun s_ hs => Acts.of1 rfl (Does.addS (Evl.tmp (hs.tm 53 rfl)) (Evl.tmp (hs.tm 55 rfl)) rfl (by first | omega | (simp only [bsize1]; omega))) rfl, fun s_ hs => Acts.of1 rfl (Does.buildSlice 7 (e := .str) und_67 tsh_9 zer_9 rfl ⟨_, _, rfl, (Ev.tmp (hs.tm 56 rfl)), rfl⟩ (List.all_eq_true.1 rfl) ⟨_, _, _, _, rfl, ⟨rfl, rfl⟩, ⟨rfl, rfl⟩, rfl⟩ (by decide) rfl rfl (hs.fr 7 rfl) (nlr rfl)) rfl, fun s_ hs => Acts.of1 rfl (Does.append 8 (Evl.tmp (hs.tm 45 rfl)) (hs.en 4 rfl) (Evl.tmp (hs.tm 57 rfl)) (hs.en 7 rfl) rfl und_67 elb_9 (by first | omega | (simp only [List.length_append, List.length_map, List.length_take, List.length_cons, List.length_nil]; omega)) rfl (hs.fr 8 rfl) (nlr rfl)) rfl, fun s_ hs => Acts.of1 rfl (Does.nilP (Evl.tmp (hs.tm 40 rfl)) (by rw [(hs.en 0 rfl)]; rfl) rfl) rfl, fun s_ hs => Acts.of1 rfl (Does.fieldP (Evl.tmp (hs.tm 59 rfl)) fld_213_3 (by rw [(hs.en 0 rfl)]; rfl) rfl) rfl, fun s_ hs => Acts.of1 rfl (Does.fieldP (Evl.tmp (hs.tm 60 rfl)) fld_77_1 (by rw [(hs.en 0 rfl)]; rfl) rfl) rfl, fun s_ hs => Acts.of1 rfl (Does.storeP (Evl.tmp (hs.tm 61 rfl)) (hs.en 0 rfl) (Ev.tmp (hs.tm 58 rfl)) (by simp only [okLVs, okLV, List.all_cons, List.all_nil]; rw [(hs.en 8 rfl)]; rfl) tsh_67 rfl) rfl, trivial⟩
  refine (?_ : AC _ _ _ _ _)
  refine AC.wk (s' := _) (Wk.refl _ _) ?_
  refine AC.sr ?_
  refine AL.cons rfl (Does.move rfl rfl) ?_
  refine AL.cons rfl (Does.nilP (Evl.tmp rfl) rfl rfl) ?_
  refine AL.cons rfl (Does.fieldP (Evl.tmp rfl) fld_213_2 rfl rfl) ?_
  refine AL.cons rfl (Does.loadP (Evl.tmp rfl) rfl tsh_72 rfl rfl) ?_
  refine AL.cons rfl (Does.lenO (Evl.tmp rfl) rfl rfl und_72) ?_
  refine AL.cons rfl (Does.sub (Evl.tmp rfl) (Evl.int rfl) rfl (by first | omega | (simp only [List.length_append, List.length_map, List.length_cons, List.length_nil]; omega))) ?_
  refine AL.cons rfl (Does.assign rfl rfl) ?_
  refine AL.nilS ?_
  refine AC.ret ?_
  subst hO
  have e8 : ((((ps.map keyP) ++ ([(2 * k) + v])).length : Int) - 1 : Int) = (ixP ps (k, decide (v = 1))) := by
   exact st_r0 hv hN (by omega)
  exact fin_is _ _ [(0, 0), (1, 1), (2, 2), (3, 6), (4, 8)] (Res.one rfl (Rs.tmp rfl)) ((congrArg (fun z_ => lf (dI z_)) e8)) ⟨rfl, (entE (by exact st_p0 hv hN (by omega))), rfl, (entE (by exact st_c0 hv hN (by omega) (by assumption))), rfl, trivial⟩ rfl rfl
 ·have _h := hb5
  have hb5' : ((i : Int) < ((ps.map keyP).length : Int)) := of_decide_eq_true hb5
  refine AC.condT (Evl.tmp rfl) ?_
  refine AC.skipS ?_
  refine AC.seq ?_
  refine AC.block ?_
  refine AC.sr ?_
  refine AL.cons rfl (Does.move rfl rfl) ?_
  refine AL.cons rfl (Does.indexI (e := .int) (Evl.tmp rfl) rfl (Evl.tmp rfl) und_72 tsh_3 rfl (by omega) (by first | omega | (simp only [List.length_set]; omega))) ?_
  obtain ⟨x9, hx10⟩ : ∃ z, (ps.map keyP)[i]? = some z := ⟨_, List.getElem?_eq_getElem (by omega)⟩
  refine AL.cons rfl (Does.loadI (e := .int) (Evl.tmp rfl) rfl hx10 rfl tsh_3 rfl rfl) ?_
  refine AL.fact (fact_int (x := .tmp 18) (Evl.tmp rfl)) fun hi11 => ?_
  refine AL.cons rfl (Does.assign rfl rfl) ?_
  refine AL.cons rfl (Does.assign rfl rfl) ?_
  refine AL.nilS ?_
  refine AC.sr ?_
  refine AL.cons rfl (Does.move rfl rfl) ?_
  refine AL.cons rfl (Does.move rfl rfl) ?_
  refine AL.cons rfl (Does.mul (Evl.int rfl) (Evl.tmp rfl) rfl (by first | omega | (simp only [List.length_append, List.length_map, List.length_cons, List.length_nil]; omega))) ?_
  refine AL.cons rfl (Does.move rfl rfl) ?_
  refine AL.cons rfl (Does.add (Evl.tmp rfl) (Evl.tmp rfl) rfl (by first | omega | (simp only [List.length_append, List.length_map, List.length_cons, List.length_nil]; omega))) ?_
  refine AL.cons rfl (Does.eql (Evl.tmp rfl) (Evl.tmp rfl) rfl) ?_
  refine AL.nilS ?_
  cases hb12 : (decide (x9 = ((2 * k) + v)))
  ·have _h := hb12
   have hb12' : ¬ (x9 = ((2 * k) + v)) := of_decide_eq_false hb12
   refine AC.condF (Evl.tmp rfl) ?_
   refine AC.skip ?_
   refine (?_ : AC _ _ _ _ _)
   refine AC.region ?_
   refine AL.cons rfl (Does.add (Evl.tmp rfl) (Evl.int rfl) rfl (by first | omega | (simp only [List.length_append, List.length_map, List.length_cons, List.length_nil]; omega))) ?_
   refine AL.cons rfl (Does.move rfl rfl) ?_
   refine AL.nil ?_
   refine lend ⟨i + 1, by omega, rfl, hN.step hx10 (by assumption), rfl⟩ (by omega) ?_
   exact Wk.of [(0, 0), (1, 1), (2, 2), (3, 3), (4, 4)] rfl ⟨rfl, rfl, rfl, rfl, rfl, rfl, trivial⟩ ⟨rfl, rfl, rfl, rfl, rfl, trivial⟩ rfl rfl
  ·have _h := hb12
   have hb12' : (x9 = ((2 * k) + v)) := of_decide_eq_true hb12
   refine AC.condT (Evl.tmp rfl) ?_
   refine AC.sr ?_
   refine AL.cons rfl (Does.move rfl rfl) ?_
   refine AL.cons rfl (Does.assign rfl rfl) ?_
   refine AL.nilS ?_
   refine AC.ret ?_
   subst hO
   have e13 : ((i : Int) : Int) = (ixP ps (k, decide (v = 1))) := by
    exact st_r1 hv hN hx10 (by assumption)
   exact fin_is _ _ [(0, 0), (1, 1), (2, 2), (3, 3), (4, 4)] (Res.one rfl (Rs.tmp rfl)) ((congrArg (fun z_ => lf (dI z_)) e13)) ⟨rfl, (entE (by exact st_p1 hv hN hx10 (by assumption))), rfl, (entE (by exact st_c1 hv hN hx10 (by assumption))), rfl, trivial⟩ rfl rfl

set_option maxRecDepth 100000 in
set_option maxHeartbeats 4000000 in
theorem fc_spec_l11B_may (c : DSg) (signs : ByteArray) (ps : List PSt) (ss : List DSignal) (cs : List ByteArray) (as_ : List DAr) (k : Int) (v : Int) (hk : 0 ≤ k ∧ k < (signs.size : Int)) : FC Try.prog 215 [(false, [.ptr 0 0]), (false, [dI k]), (false, [dI v])] [(0, some (.box 213 [.dat (.sl 129 (.pr .str .int)) c.1, .dat (.sl 9 .str) c.2.1, .dat (.sl 170 (.pr .int (.pr .int (.pr .bool .int)))) c.2.2, dS signs, .ref 1, .ref 2, .ref 3, .ref 4])), (1, some (.arr 3 .int (ps.map keyP))), (2, some (.arr 129 (.pr .str .int) ss)), (3, some (.arr 9 .str cs)), (4, some (.arr 170 (.pr .int (.pr .int (.pr .bool .int))) as_))] 5 (Is (lf (dB (mayV (bAt signs k) v))) [(0, some (.box 213 [.dat (.sl 129 (.pr .str .int)) c.1, .dat (.sl 9 .str) c.2.1, .dat (.sl 170 (.pr .int (.pr .int (.pr .bool .int)))) c.2.2, dS signs, .ref 1, .ref 2, .ref 3, .ref 4])), (1, some (.arr 3 .int (ps.map keyP))), (2, some (.arr 129 (.pr .str .int) ss)), (3, some (.arr 9 .str cs)), (4, some (.arr 170 (.pr .int (.pr .int (.pr .bool .int))) as_))]) := by
 refine FC.O_all fun O_ hO => FC.ren (FC.of Try.func215 rfl rfl fun A_ hn_ hk_ => ?_)
 obtain ⟨w0_, N0_, X_, n_, k0_, h0_, f0_⟩ := A_
 obtain rfl : n_ = 21 := hn_.trans Try.ntmps215
 obtain rfl : k0_ = 5 := hk_
 refine AC.fact (fact_int (x := .tmp 1) (Evl.tmp rfl)) fun hi1 => ?_
 refine AC.fact (fact_int (x := .tmp 2) (Evl.tmp rfl)) fun hi2 => ?_
 refine AC.sr ?_
 refine AL.cons rfl (Does.assignC Evl.bool rfl) ?_
 refine AL.nilS ?_
 refine AC.seq ?_
 refine AC.sr ?_
 refine AL.cons rfl (Does.move rfl rfl) ?_
 refine AL.cons rfl (Does.nilP (Evl.tmp rfl) rfl rfl) ?_
 refine AL.cons rfl (Does.fieldP (Evl.tmp rfl) fld_213_1 rfl rfl) ?_
 refine AL.cons rfl (Does.loadP (Evl.tmp rfl) rfl tsh_9 rfl rfl) ?_
 refine AL.cons rfl (Does.move rfl rfl) ?_
 obtain ⟨c3, hc4⟩ : ∃ z, signs[(k).toNat]? = some z := ⟨_, getElem?_pos _ _ (by omega)⟩
 refine AL.cons rfl (Does.indexS (Evl.tmp rfl) (Evl.tmp rfl) rfl und_9 (by omega) hc4) ?_
 refine AL.nilS ?_
 refine AC.block ?_
 refine AC.sr ?_
 refine AL.cons rfl (Does.eqlU (Evl.tmp rfl) (Evl.u8 48 rfl) rfl) ?_
 refine AL.cons rfl (Does.assign rfl rfl) ?_
 refine AL.nilS ?_
 cases hb5 : (decide (c3 = 48))
 ·have _h := hb5
  have hb5' : ¬ (c3 = 48) := of_decide_eq_false hb5
  refine AC.condF (Evl.tmp rfl) ?_
  refine AC.sr ?_
  refine AL.cons rfl (Does.eqlU (Evl.tmp rfl) (Evl.u8 49 rfl) rfl) ?_
  refine AL.cons rfl (Does.assign rfl rfl) ?_
  refine AL.nilS ?_
  cases hb6 : (decide (c3 = 49))
  ·have _h := hb6
   have hb6' : ¬ (c3 = 49) := of_decide_eq_false hb6
   refine AC.condF (Evl.tmp rfl) ?_
   refine AC.skip ?_
   refine (?_ : AC _ _ _ _ _)
   refine AC.sr ?_
   refine AL.cons rfl (Does.assignC Evl.bool rfl) ?_
   refine AL.nilS ?_
   refine AC.ret ?_
   subst hO
   have e7 : (true : Bool) = (mayV (bAt signs k) v) := by
    first | (unfold mayV; rw [bAt_get (by assumption)]; simp [*]; done)
   exact fin_is _ _ [(0, 0), (1, 1), (2, 2), (3, 3), (4, 4)] (Res.one rfl (Rs.tmp rfl)) ((congrArg (fun z_ => lf (dB z_)) e7)) ⟨rfl, rfl, rfl, rfl, rfl, trivial⟩ rfl rfl
  ·have _h := hb6
   have hb6' : (c3 = 49) := of_decide_eq_true hb6
   refine AC.condT (Evl.tmp rfl) ?_
   refine AC.sr ?_
   refine AL.cons rfl (Does.move rfl rfl) ?_
   refine AL.cons rfl (Does.eql (Evl.tmp rfl) (Evl.int rfl) rfl) ?_
   refine AL.cons rfl (Does.assign rfl rfl) ?_
   refine AL.nilS ?_
   refine AC.ret ?_
   subst hO
   have e8 : (decide (v = 1) : Bool) = (mayV (bAt signs k) v) := by
    first | (unfold mayV; rw [bAt_get (by assumption)]; simp [*]; done)
   exact fin_is _ _ [(0, 0), (1, 1), (2, 2), (3, 3), (4, 4)] (Res.one rfl (Rs.tmp rfl)) ((congrArg (fun z_ => lf (dB z_)) e8)) ⟨rfl, rfl, rfl, rfl, rfl, trivial⟩ rfl rfl
 ·have _h := hb5
  have hb5' : (c3 = 48) := of_decide_eq_true hb5
  refine AC.condT (Evl.tmp rfl) ?_
  refine AC.sr ?_
  refine AL.cons rfl (Does.move rfl rfl) ?_
  refine AL.cons rfl (Does.eql (Evl.tmp rfl) (Evl.int rfl) rfl) ?_
  refine AL.cons rfl (Does.assign rfl rfl) ?_
  refine AL.nilS ?_
  refine AC.ret ?_
  subst hO
  have e9 : (decide (v = 0) : Bool) = (mayV (bAt signs k) v) := by
   first | (unfold mayV; rw [bAt_get (by assumption)]; simp [*]; done)
  exact fin_is _ _ [(0, 0), (1, 1), (2, 2), (3, 3), (4, 4)] (Res.one rfl (Rs.tmp rfl)) ((congrArg (fun z_ => lf (dB z_)) e9)) ⟨rfl, rfl, rfl, rfl, rfl, trivial⟩ rfl rfl

set_option maxRecDepth 100000 in
set_option maxHeartbeats 4000000 in
theorem fc_spec_l11B_from (c : DSg) (signs : ByteArray) (ps : List PSt) (ss : List DSignal) (cs : List ByteArray) (as_ : List DAr) (q : Int) (hk : 0 ≤ q ∧ q < (ps.length : Int)) (hs : SignsOk c signs) (hps : ∀ p ∈ ps, 0 ≤ p.1 ∧ p.1 < (c.2.1.length : Int)) (hl : ps.length ≤ 10000 ∧ cs.length ≤ 10000 ∧ as_.length ≤ 90000000) : FC Try.prog 168 [(false, [.ptr 0 0]), (false, [dI q])] [(0, some (.box 213 [.dat (.sl 129 (.pr .str .int)) c.1, .dat (.sl 9 .str) c.2.1, .dat (.sl 170 (.pr .int (.pr .int (.pr .bool .int)))) c.2.2, dS signs, .ref 2, .ref 1, .ref 3, .ref 4])), (2, some (.arr 3 .int (ps.map keyP))), (1, some (.arr 129 (.pr .str .int) ss)), (3, some (.arr 9 .str cs)), (4, some (.arr 170 (.pr .int (.pr .int (.pr .bool .int))) as_))] 2 (Is (PV.tup []) [(0, some (.box 213 [.dat (.sl 129 (.pr .str .int)) c.1, .dat (.sl 9 .str) c.2.1, .dat (.sl 170 (.pr .int (.pr .int (.pr .bool .int)))) c.2.2, dS signs, .ref 2, .ref 1, .ref 3, .ref 4])), (2, some (.arr 3 .int (((expP c signs (ps, cs, as_) q).1).map keyP))), (1, some (.arr 129 (.pr .str .int) ss)), (3, some (.arr 9 .str ((expP c signs (ps, cs, as_) q).2.1))), (4, some (.arr 170 (.pr .int (.pr .int (.pr .bool .int))) ((expP c signs (ps, cs, as_) q).2.2)))]) := by
 have hsz := hs.2.1
 have hn3 := hs.2.2.some_
 have hfw := hs.2.2.few
 have hsl := sigs_len hs.2.2.sigs
 have hc : ∀ x ∈ c.2.1, x.size ≤ 1000 := fun x hx => by have := (hs.2.2.codes x hx).2; omega
 have hml : (ps.map keyP).length = ps.length := List.length_map ..
 refine FC.O_all fun O_ hO => FC.ren (FC.of Try.func168 rfl rfl fun A_ hn_ hk_ => ?_)
 obtain ⟨w0_, N0_, X_, n_, k0_, h0_, f0_⟩ := A_
 obtain rfl : n_ = 149 := hn_.trans Try.ntmps168
 obtain rfl : k0_ = 2 := hk_
 refine AC.fact (fact_int (x := .tmp 1) (Evl.tmp rfl)) fun hi1 => ?_
 refine AC.seq ?_
 obtain ⟨z, hx3⟩ : ∃ z, (ps.map keyP)[(q).toNat]? = some z := ⟨_, List.getElem?_eq_getElem (by omega)⟩
 have hz0z : 0 ≤ z := by obtain ⟨p_, h1_, h2_⟩ := key_at hx3; have := hps _ (List.mem_of_getElem? h1_); have := vB_rng p_.2; rw [h2_]; unfold keyP; omega
 refine AC.drawL [⟨some 10, lf (.ptr 0 0), []⟩, ⟨some 11, lf (.ptr 0 0), []⟩, ⟨some 12, lf (.ptr 0 4), []⟩, ⟨some 13, lf (.ref 2), []⟩, ⟨some 14, lf (dI q), []⟩, ⟨some 15, lf (.ept 2 1 ((q).toNat) 0), []⟩, ⟨some 16, lf (dI z), []⟩, ⟨some 17, lf (dI (z / 2)), []⟩, ⟨some 18, lf (.ptr 0 0), []⟩, ⟨some 19, lf (.ptr 0 0), []⟩, ⟨some 20, lf (.ptr 0 4), []⟩, ⟨some 21, lf (.ref 2), []⟩, ⟨some 22, lf (dI q), []⟩, ⟨some 23, lf (.ept 2 1 ((q).toNat) 0), []⟩, ⟨some 24, lf (dI z), []⟩, ⟨some 25, lf (dI (z % 2)), []⟩, ⟨some 4, lf (dI (z / 2)), []⟩, ⟨some 5, lf (dI (z % 2)), []⟩] [[], [0], [0, 1], [0, 1, 2], [], [0, 1, 2, 3, 4], [0, 1, 2, 3, 4, 5], [0, 1, 2, 3, 4, 5, 6], [], [8], [8, 9], [8, 9, 10], [], [8, 9, 10, 11, 12], [8, 9, 10, 11, 12, 13], [8, 9, 10, 11, 12, 13, 14], [0, 1, 2, 3, 4, 5, 6, 7], [0, 1, 2, 3, 4, 5, 6, 7, 8, 9, 10, 11, 12, 13, 14, 15, 16]] mixed rfl (by kernel_rfl) ?_ ?_
 · refine ⟨fun s_ hs => Acts.of1 rfl (Does.move (hs.tm 0 rfl) rfl) rfl, fun s_ hs => Acts.of1 rfl (Does.nilP (Evl.tmp (hs.tm 10 rfl)) (by rw [(hs.en 0 rfl)]; rfl) rfl) rfl, fun s_ hs => Acts.of1 rfl (Does.fieldP (Evl.tmp (hs.tm 11 rfl)) fld_213_2 (by rw [(hs.en 0 rfl)]; rfl) rfl) rfl, fun s_ hs => Acts.of1 rfl (Does.loadP (Evl.tmp (hs.tm 12 rfl)) (hs.en 0 rfl) tsh_72 rfl rfl) rfl, fun s_ hs => Acts.of1 rfl (Does.move (hs.tm 1 rfl) rfl) rfl, fun s_ hs => Acts.of1 rfl (Does.indexI (e := .int) (Evl.tmp (hs.tm 13 rfl)) (hs.en 2 rfl) (Evl.tmp (hs.tm 14 rfl)) und_72 tsh_3 rfl (by omega) (by first | omega | (simp only [List.length_set]; omega))) rfl, fun s_ hs => Acts.of1 rfl (Does.loadI (e := .int) (Evl.tmp (hs.tm 15 rfl)) (hs.en 2 rfl) hx3 rfl tsh_3 rfl rfl) rfl, fun s_ hs => Acts.of1 rfl (Does.quo (Evl.tmp (hs.tm 16 rfl)) (Evl.int rfl) rfl (by omega) (by omega)) rfl, fun s_ hs => Acts.of1 rfl (Does.move (hs.tm 0 rfl) rfl) rfl, fun s_ hs => Acts.of1 rfl (Does.nilP (Evl.tmp (hs.tm 18 rfl)) (by rw [(hs.en 0 rfl)]; rfl) rfl) rfl, fun s_ hs => Acts.of1 rfl (Does.fieldP (Evl.tmp (hs.tm 19 rfl)) fld_213_2 (by rw [(hs.en 0 rfl)]; rfl) rfl) rfl, fun s_ hs => Acts.of1 rfl (Does.loadP (Evl.tmp (hs.tm 20 rfl)) (hs.en 0 rfl) tsh_72 rfl rfl) rfl, fun s_ hs => Acts.of1 rfl (Does.move (hs.tm 1 rfl) rfl) rfl, fun s_ hs => Acts.of1 rfl (Does.indexI (e := .int) (Evl.tmp (hs.tm 21 rfl)) (hs.en 2 rfl) (Evl.tmp (hs.tm 22 rfl)) und_72 tsh_3 rfl (by omega) (by first | omega | (simp only [List.length_set]; omega))) rfl, fun s_ hs => Acts.of1 rfl (Does.loadI (e := .int) (Evl.tmp (hs.tm 23 rfl)) (hs.en 2 rfl) hx3 rfl tsh_3 rfl rfl) rfl, fun s_ hs => Acts.of1 rfl (Does.rem (Evl.tmp (hs.tm 24 rfl)) (Evl.int rfl) rfl (by omega) (by omega)) rfl, fun s_ hs => Acts.of1 rfl (Does.assign (hs.tm 17 rfl) rfl) rfl, fun s_ hs => Acts.of1 rfl (Does.assign (hs.tm 25 rfl) rfl) rfl, trivial⟩
 refine (?_ : AC _ _ _ _ _)
 refine AC.wk (s' := _) (Wk.refl _ _) ?_
 refine AC.seq ?_
 obtain ⟨p, hxp, hzp⟩ := key_at hx3
 have hz1 : z / 2 = p.1 := by rw [hzp]; exact keyP_div
 have hz2 : z % 2 = vB p.2 := by rw [hzp]; exact keyP_mod
 rw [hz1, hz2]
 have hpr := hps _ (List.mem_of_getElem? hxp)
 have hfl := from_len (l := c.2.2) (q := p.1)
 have hvr := vB_rng p.2
 refine AC.region ?_
 refine AL.cons rfl (Does.move rfl rfl) ?_
 refine AL.cons rfl (Does.nilP (Evl.tmp rfl) rfl rfl) ?_
 refine AL.cons rfl (Does.fieldP (Evl.tmp rfl) fld_213_0 rfl rfl) ?_
 refine AL.cons rfl (Does.fieldP (Evl.tmp rfl) fld_77_0 rfl rfl) ?_
 refine AL.cons rfl (Does.loadP (Evl.tmp rfl) rfl tsh_29 rfl rfl) ?_
 refine AL.fact (fact_len (x := .tmp 30) (Evl.tmp rfl)) fun hl4 => ?_
 refine AL.cons rfl (Does.len (Evl.tmp rfl) rfl und_29) ?_
 refine AL.cons rfl (Does.assign rfl rfl) ?_
 refine AL.nilS ?_
 refine AC.join2 (fun s_ => ∃ (cs2 : List ByteArray) (as2 : List (Int × Int × Bool × Int)) (ps2 : List PSt), ((ps2, cs2, as2) = preP c signs (ps, cs, as_) q p) ∧ (ps2.length ≤ ps.length + 1 ∧ cs2.length ≤ cs.length + 1 ∧ as2.length ≤ as_.length + 1) ∧ s_ = ⟨[(0, lf (.ptr 0 0)), (1, lf (dI q)), (4, lf (dI p.1)), (5, lf (dI (vB p.2)))], [(0, some (.box 213 [.dat (.sl 129 (.pr .str .int)) c.1, .dat (.sl 9 .str) c.2.1, .dat (.sl 170 (.pr .int (.pr .int (.pr .bool .int)))) c.2.2, dS signs, .ref 5, .ref 1, .ref 6, .ref 7])), (1, some (.arr 129 (.pr .str .int) ss)), (5, some (.arr 3 .int (ps2.map keyP))), (6, some (.arr 9 .str cs2)), (7, some (.arr 170 (.pr .int (.pr .int (.pr .bool .int))) as2))]⟩) ?_ fun J5 => ?_
 ·rintro s_ ⟨cs2, as2, ps2, hP, hl2, rfl⟩
  refine AC.sr ?_
  refine AL.cons rfl (Does.move rfl rfl) ?_
  refine AL.cons rfl (Does.nilP (Evl.tmp rfl) rfl rfl) ?_
  refine AL.cons rfl (Does.fieldP (Evl.tmp rfl) fld_213_0 rfl rfl) ?_
  refine AL.cons rfl (Does.loadPA (Evl.tmp rfl) rfl tsh_77 rfl rfl) ?_
  refine AL.cons rfl (Does.move rfl rfl) ?_
  refine AL.cons rfl (Does.call (fc_spec_l5From c p.1 (by omega)).frozen enters_213 ⟨_, _, rfl, (Ev.tmp rfl), ⟨_, _, rfl, (Ev.tmp rfl), rfl⟩⟩ rfl rfl) ?_
  refine AL.fact (fact_len (x := .tmp 93) (Evl.tmp rfl)) fun hl6 => ?_
  refine AL.cons rfl (Does.len (Evl.tmp rfl) rfl und_75) ?_
  refine AL.cons rfl (Does.moveC (Evl.int rfl) rfl) ?_
  refine AL.nilS ?_
  refine AC.block ?_
  refine AC.loopW (fun m_ s_ => ∃ (i : Nat) (cs3 : List ByteArray) (as3 : List (Int × Int × Bool × Int)) (ps3 : List PSt), i ≤ (fromA c.2.2 p.1).length ∧ m_ = (fromA c.2.2 p.1).length - i ∧ (expP c signs (ps, cs, as_) q = ((fromA c.2.2 p.1).drop i).foldl (stepP c signs q p) (ps3, cs3, as3)) ∧ (ps3.length ≤ ps.length + 1 + i ∧ cs3.length ≤ cs.length + 1 + i ∧ as3.length ≤ as_.length + 1 + i) ∧ s_ = ⟨[(0, lf (.ptr 0 0)), (1, lf (dI q)), (4, lf (dI p.1)), (5, lf (dI (vB p.2))), (93, lf (.dat (.sl 170 (.pr .int (.pr .int (.pr .bool .int)))) (fromA c.2.2 p.1))), (94, lf (dI ((fromA c.2.2 p.1).length : Int))), (95, lf (dI (i : Int)))], [(0, some (.box 213 [.dat (.sl 129 (.pr .str .int)) c.1, .dat (.sl 9 .str) c.2.1, .dat (.sl 170 (.pr .int (.pr .int (.pr .bool .int)))) c.2.2, dS signs, .ref 8, .ref 1, .ref 9, .ref 10])), (1, some (.arr 129 (.pr .str .int) ss)), (8, some (.arr 3 .int (ps3.map keyP))), (9, some (.arr 9 .str cs3)), (10, some (.arr 170 (.pr .int (.pr .int (.pr .bool .int))) as3))]⟩) ⟨0, cs2, as2, ps2, Nat.zero_le _, rfl, (by rw [hP]; exact expP_at hxp), (by omega), rfl⟩ ?_ ?_
  · exact Wk.of [(0, 0), (1, 1), (8, 5), (9, 6), (10, 7)] rfl ⟨rfl, rfl, rfl, rfl, rfl, rfl, rfl, trivial⟩ ⟨rfl, rfl, rfl, rfl, rfl, trivial⟩ rfl rfl
  rintro m_ s_ ⟨i, cs3, as3, ps3, hk7, hm8, hA, hl3, rfl⟩
  refine AC.sr ?_
  refine AL.cons rfl (Does.lss (Evl.tmp rfl) (Evl.tmp rfl) rfl) ?_
  refine AL.nilS ?_
  refine AC.seq ?_
  cases hb9 : (decide ((i : Int) < ((fromA c.2.2 p.1).length : Int)))
  ·have _h := hb9
   have hb9' : ¬ ((i : Int) < ((fromA c.2.2 p.1).length : Int)) := of_decide_eq_false hb9
   refine AC.condF (Evl.tmp rfl) ?_
   refine AC.exit ?_
   refine (?_ : fin _ _ _ _ .normal _)
   subst hO
   exact fin_is _ _ [(0, 0), (1, 1), (2, 8), (3, 9), (4, 10)] (Res.zero rfl) (rfl) ⟨rfl, (entE (by (rw [hA, fold_end (by omega)]; done))), rfl, (entE (by (rw [hA, fold_end (by omega)]; done))), (entE (by (rw [hA, fold_end (by omega)]; done))), trivial⟩ rfl rfl
  ·have _h := hb9
   have hb9' : ((i : Int) < ((fromA c.2.2 p.1).length : Int)) := of_decide_eq_true hb9
   refine AC.condT (Evl.tmp rfl) ?_
   refine AC.skipS ?_
   refine AC.seq ?_
   refine AC.block ?_
   refine AC.sr ?_
   obtain ⟨x10, hx11⟩ : ∃ z, (fromA c.2.2 p.1)[i]? = some z := ⟨_, List.getElem?_eq_getElem (by omega)⟩
   have hmx10 := from_mem.1 (List.mem_of_getElem? hx11)
   have hrx10 := hs.at_ hmx10.1
   refine AL.cons rfl (Does.indexE (Evl.tmp rfl) (Evl.tmp rfl) und_75 tsh_170 rfl (by omega) hx11) ?_
   refine AL.cons rfl (Does.loadEA (Evl.tmp rfl) tsh_170 rfl rfl) ?_
   refine AL.cons rfl (Does.alloc 11 (.pr .int (.pr .int (.pr .bool .int))) zer_170 rfl rfl (Fresh.of rfl) (nlr rfl)) ?_
   refine AL.cons rfl (Does.storeP (Evl.tmp rfl) rfl (Ev.tmp rfl) rfl tsh_170 rfl) ?_
   refine AL.nilS ?_
   refine AC.seq ?_
   cases hb12 : (delV signs x10)
   ·have _h := hb12
    refine AC.drawL [⟨some 99, lf (.ptr 0 0), []⟩, ⟨some 100, lf (.ptr 0 0), []⟩, ⟨some 101, lf (.ptr 0 3), []⟩, ⟨some 102, lf (dS signs), []⟩, ⟨some 103, ag [dI x10.1, dI x10.2.1, dB x10.2.2.1, dI x10.2.2.2], []⟩, ⟨some 104, lf (dB false), []⟩, ⟨some 105, lf (dB false), []⟩, ⟨some 106, lf (.val undef), []⟩, ⟨some 107, lf (.val undef), []⟩, ⟨some 108, lf (.val undef), []⟩, ⟨some 109, lf (.val undef), []⟩, ⟨some 110, lf (.val undef), []⟩, ⟨some 111, lf (.val undef), []⟩, ⟨some 112, lf (.val undef), []⟩, ⟨some 113, lf (.val undef), []⟩, ⟨some 114, lf (.val undef), []⟩, ⟨some 115, lf (.val undef), []⟩, ⟨some 116, lf (dB false), []⟩, ⟨some 9, lf (dB false), []⟩] [[], [0], [0, 1], [0, 1, 2], [], [0, 1, 2, 3, 4], [0, 1, 2, 3, 4, 5], [0, 1, 2, 3, 4, 5, 6], [0, 1, 2, 3, 4, 5, 6, 7], [0, 1, 2, 3, 4, 5, 6, 7, 8], [0, 1, 2, 3, 4, 5, 6, 7, 8, 9], [0, 1, 2, 3, 4, 5, 6], [0, 1, 2, 3, 4, 5, 6, 7, 8, 9, 10, 11], [0, 1, 2, 3, 4, 5, 6, 7, 8, 9, 10, 11, 12], [0, 1, 2, 3, 4, 5, 6], [0, 1, 2, 3, 4, 5, 6, 14], [0, 1, 2, 3, 4, 5, 6, 7, 8, 9, 10, 11, 12, 13, 14, 15], [0, 1, 2, 3, 4, 5, 6, 7, 8, 9, 10, 11, 12, 13, 14, 15, 16], [0, 1, 2, 3, 4, 5, 6, 7, 8, 9, 10, 11, 12, 13, 14, 15, 16, 17]] mixed rfl (by kernel_rfl) ?_ ?_
    · refine ⟨fun s_ hs => Acts.of1 rfl (Does.move (hs.tm 0 rfl) rfl) rfl, fun s_ hs => Acts.of1 rfl (Does.nilP (Evl.tmp (hs.tm 99 rfl)) (by rw [(hs.en 0 rfl)]; rfl) rfl) rfl, fun s_ hs => Acts.of1 rfl (Does.fieldP (Evl.tmp (hs.tm 100 rfl)) fld_213_1 (by rw [(hs.en 0 rfl)]; rfl) rfl) rfl, fun s_ hs => Acts.of1 rfl (Does.loadP (Evl.tmp (hs.tm 101 rfl)) (hs.en 0 rfl) tsh_9 rfl rfl) rfl, fun s_ hs => Acts.of1 rfl (Does.loadPA (Evl.tmp (hs.tm 8 rfl)) (hs.en 11 rfl) tsh_170 rfl rfl) rfl, fun s_ hs => Acts.of1 rfl (Does.asB (hb12) (Does.call (fc_spec_l11Waits signs x10 (by omega) (by omega)) enters_214 ⟨_, _, rfl, (Ev.tmp (hs.tm 102 rfl)), ⟨_, _, rfl, (Ev.tmp (hs.tm 103 rfl)), rfl⟩⟩ rfl rfl)) rfl, fun s_ hs => Acts.of1 rfl (Does.move (hs.tm 104 rfl) rfl) rfl, fun s_ hs => Acts.no (b := true) rfl rfl (hs.tm 105 rfl) rfl rfl, fun s_ hs => Acts.no (b := true) rfl rfl (hs.tm 105 rfl) rfl rfl, fun s_ hs => Acts.no (b := true) rfl rfl (hs.tm 105 rfl) rfl rfl, fun s_ hs => Acts.no (b := true) rfl rfl (hs.tm 105 rfl) rfl rfl, fun s_ hs => Acts.no (b := true) rfl rfl (hs.tm 105 rfl) rfl rfl, fun s_ hs => Acts.no (b := true) rfl rfl (hs.tm 105 rfl) rfl rfl, fun s_ hs => Acts.no (b := true) rfl rfl (hs.tm 105 rfl) rfl rfl, fun s_ hs => Acts.no (b := true) rfl rfl (hs.tm 105 rfl) rfl rfl, fun s_ hs => Acts.no (b := true) rfl rfl (hs.tm 105 rfl) rfl rfl, fun s_ hs => Acts.no (b := true) rfl rfl (hs.tm 105 rfl) rfl rfl, fun s_ hs => Acts.of1 rfl (Does.pickF (Evl.tmp (hs.tm 105 rfl)) (Evl.ev Evl.bool) rfl) rfl, fun s_ hs => Acts.of1 rfl (Does.assign (hs.tm 116 rfl) rfl) rfl, trivial⟩
    refine (?_ : AC _ _ _ _ _)
    refine AC.wk (s' := _) (Wk.refl _ _) ?_
    refine AC.sr ?_
    refine AL.cons rfl (Does.move rfl rfl) ?_
    refine AL.cons rfl (Does.fieldP (Evl.tmp rfl) fld_170_3 rfl rfl) ?_
    refine AL.cons rfl (Does.loadP (Evl.tmp rfl) rfl tsh_3 rfl rfl) ?_
    refine AL.fact (fact_int (x := .tmp 119) (Evl.tmp rfl)) fun hi13 => ?_
    refine AL.cons rfl (Does.move rfl rfl) ?_
    refine AL.cons rfl (Does.callP 12 [(0, 0), (1, 8), (2, 1), (3, 9), (4, 10)] (fc_spec_l11B_may c signs ps3 ss cs3 as3 x10.2.2.2 (vB p.2) (by omega)) enters_215 ⟨_, _, rfl, (Ev.tmp rfl), ⟨_, _, rfl, (Ev.tmp rfl), ⟨_, _, rfl, (Ev.tmp rfl), rfl⟩⟩⟩ ⟨rfl, rfl, rfl, rfl, rfl, trivial⟩ rfl ⟨trivial, trivial, trivial, trivial, trivial, trivial, trivial, trivial, trivial, trivial⟩ (nlr rfl)) ?_
    refine AL.cons rfl (Does.move rfl rfl) ?_
    cases hb14 : (mayV (bAt signs x10.2.2.2) (vB p.2))
    ·have _h := hb14
     refine AL.guard_no (b := true) rfl rfl rfl ?_ rfl
     refine AL.guard_no (b := true) rfl rfl rfl ?_ rfl
     refine AL.cons rfl (Does.pickF (Evl.tmp rfl) (Evl.ev Evl.bool) rfl) ?_
     refine AL.nilS ?_
     refine AC.condF (Evl.tmp rfl) ?_
     refine AC.skip ?_
     refine (?_ : AC _ _ _ _ _)
     refine AC.region ?_
     refine AL.cons rfl (Does.add (Evl.tmp rfl) (Evl.int rfl) rfl (by omega)) ?_
     refine AL.cons rfl (Does.move rfl rfl) ?_
     refine AL.nil ?_
     refine lend ⟨i + 1, cs3, as3, ps3, by omega, rfl, (by (rw [hA, fold_step hx11, step_skip (skip_may (by assumption))]; done)), (by omega), rfl⟩ (by omega) ?_
     exact Wk.of [(0, 0), (1, 1), (8, 8), (9, 9), (10, 10)] rfl ⟨rfl, rfl, rfl, rfl, rfl, rfl, rfl, trivial⟩ ⟨rfl, rfl, rfl, rfl, rfl, trivial⟩ rfl rfl
    ·have _h := hb14
     refine AL.guard_yes rfl rfl rfl (Does.move rfl rfl) ?_
     refine AL.guard_yes rfl rfl rfl (Does.not (Evl.tmp rfl) rfl) ?_
     refine AL.cons rfl (Does.pickT (Evl.tmp rfl) (Ev.tmp rfl) rfl) ?_
     refine AL.nilS ?_
     refine AC.condT (Evl.tmp rfl) ?_
     refine AC.drawL [⟨some 126, lf (.ptr 0 0), []⟩, ⟨some 127, lf (.ptr 0 0), []⟩, ⟨some 128, lf (.ptr 0 0), []⟩, ⟨some 129, lf (.ptr 0 5), []⟩, ⟨some 130, lf (.ptr 0 7), []⟩, ⟨some 131, lf (.ref 10), []⟩, ⟨some 132, lf (dI q), []⟩, ⟨some 133, lf (.ptr 11 1), []⟩, ⟨some 134, lf (dI x10.2.1), []⟩, ⟨some 135, lf (.ptr 11 2), []⟩, ⟨some 136, lf (dB x10.2.2.1), []⟩, ⟨some 137, lf (.ptr 0 0), []⟩, ⟨some 138, lf (.ptr 11 3), []⟩, ⟨some 139, lf (dI x10.2.2.2), []⟩, ⟨some 140, lf (dI (vB p.2)), []⟩, ⟨some 141, lf (dI (ixP ps3 (x10.2.2.2, decide ((vB p.2) = 1)))), [(0, some (.box 213 [.dat (.sl 129 (.pr .str .int)) c.1, .dat (.sl 9 .str) c.2.1, .dat (.sl 170 (.pr .int (.pr .int (.pr .bool .int)))) c.2.2, dS signs, .ref 20, .ref 1, .ref 21, .ref 10])), (20, some (.arr 3 .int ((psP ps3 (x10.2.2.2, decide ((vB p.2) = 1))).map keyP))), (1, some (.arr 129 (.pr .str .int) ss)), (21, some (.arr 9 .str (cdP c ps3 cs3 (x10.2.2.2, decide ((vB p.2) = 1))))), (10, some (.arr 170 (.pr .int (.pr .int (.pr .bool .int))) as3)), (0, none), (8, none), (1, none), (9, none), (10, none)]⟩, ⟨some 142, ag [dI q, dI x10.2.1, dB x10.2.2.1, dI (ixP ps3 (x10.2.2.2, decide ((vB p.2) = 1)))], []⟩, ⟨some 143, lf (.ref 22), [(22, some (.arr 170 (.pr .int (.pr .int (.pr .bool .int))) ([(q, x10.2.1, x10.2.2.1, ixP ps3 (x10.2.2.2, decide ((vB p.2) = 1)))])))]⟩, ⟨some 144, lf (.ref 23), [(23, some (.arr 170 (.pr .int (.pr .int (.pr .bool .int))) (as3 ++ ([(q, x10.2.1, x10.2.2.1, ixP ps3 (x10.2.2.2, decide ((vB p.2) = 1)))])))), (10, none), (22, none)]⟩, ⟨some 145, lf (.ptr 0 0), []⟩, ⟨some 146, lf (.ptr 0 5), []⟩, ⟨some 147, lf (.ptr 0 7), []⟩, ⟨none, lf (.val undef), [(0, some (.box 213 [.dat (.sl 129 (.pr .str .int)) c.1, .dat (.sl 9 .str) c.2.1, .dat (.sl 170 (.pr .int (.pr .int (.pr .bool .int)))) c.2.2, dS signs, .ref 20, .ref 1, .ref 21, .ref 23]))]⟩] [[], [], [1], [1, 2], [1, 2, 3], [1, 2, 3, 4], [], [], [7], [], [9], [], [], [12], [], [11, 12, 13, 14], [6, 7, 8, 9, 10, 11, 12, 13, 14, 15], [6, 7, 8, 9, 10, 11, 12, 13, 14, 15, 16], [1, 2, 3, 4, 5, 6, 7, 8, 9, 10, 11, 12, 13, 14, 15, 16, 17], [0, 1, 2, 3, 4, 5, 6, 7, 8, 9, 10, 11, 12, 13, 14, 15, 16, 17, 18], [0, 1, 2, 3, 4, 5, 6, 7, 8, 9, 10, 11, 12, 13, 14, 15, 16, 17, 18, 19], [0, 1, 2, 3, 4, 5, 6, 7, 8, 9, 10, 11, 12, 13, 14, 15, 16, 17, 18, 19, 20], [0, 1, 2, 3, 4, 5, 6, 7, 8, 9, 10, 11, 12, 13, 14, 15, 16, 17, 18, 19, 20, 21]] mixed rfl (by kernel_rfl) ?_ ?_
     · refine ⟨fun s_ hs => Acts.of1 rfl (Does.move (hs.tm 0 rfl) rfl) rfl, fun s_ hs => Acts.of1 rfl (Does.move (hs.tm 0 rfl) rfl) rfl, fun s_ hs => (hs.en2 0 15 rfl).elim (fun hq0 => Acts.of1 rfl (Does.nilP (Evl.tmp (hs.tm 127 rfl)) (by rw [hq0]; rfl) rfl) rfl) (fun hq0 => Acts.of1 rfl (Does.nilP (Evl.tmp (hs.tm 127 rfl)) (by rw [hq0]; rfl) rfl) rfl), fun s_ hs => (hs.en2 0 15 rfl).elim (fun hq0 => Acts.of1 rfl (Does.fieldP (Evl.tmp (hs.tm 128 rfl)) fld_213_3 (by rw [hq0]; rfl) rfl) rfl) (fun hq0 => Acts.of1 rfl (Does.fieldP (Evl.tmp (hs.tm 128 rfl)) fld_213_3 (by rw [hq0]; rfl) rfl) rfl), fun s_ hs => (hs.en2 0 15 rfl).elim (fun hq0 => Acts.of1 rfl (Does.fieldP (Evl.tmp (hs.tm 129 rfl)) fld_77_2 (by rw [hq0]; rfl) rfl) rfl) (fun hq0 => Acts.of1 rfl (Does.fieldP (Evl.tmp (hs.tm 129 rfl)) fld_77_2 (by rw [hq0]; rfl) rfl) rfl), fun s_ hs => (hs.en2 0 15 rfl).elim (fun hq0 => Acts.of1 rfl (Does.loadP (Evl.tmp (hs.tm 130 rfl)) hq0 tsh_75 rfl rfl) rfl) (fun hq0 => Acts.of1 rfl (Does.loadP (Evl.tmp (hs.tm 130 rfl)) hq0 tsh_75 rfl rfl) rfl), fun s_ hs => Acts.of1 rfl (Does.move (hs.tm 1 rfl) rfl) rfl, fun s_ hs => Acts.of1 rfl (Does.fieldP (Evl.tmp (hs.tm 8 rfl)) fld_170_1 (by rw [(hs.en 11 rfl)]; rfl) rfl) rfl, fun s_ hs => Acts.of1 rfl (Does.loadP (Evl.tmp (hs.tm 133 rfl)) (hs.en 11 rfl) tsh_3 rfl rfl) rfl, fun s_ hs => Acts.of1 rfl (Does.fieldP (Evl.tmp (hs.tm 8 rfl)) fld_170_2 (by rw [(hs.en 11 rfl)]; rfl) rfl) rfl, fun s_ hs => Acts.of1 rfl (Does.loadP (Evl.tmp (hs.tm 135 rfl)) (hs.en 11 rfl) tsh_4 rfl rfl) rfl, fun s_ hs => Acts.of1 rfl (Does.move (hs.tm 0 rfl) rfl) rfl, fun s_ hs => Acts.of1 rfl (Does.fieldP (Evl.tmp (hs.tm 8 rfl)) fld_170_3 (by rw [(hs.en 11 rfl)]; rfl) rfl) rfl, fun s_ hs => Acts.of1 rfl (Does.loadP (Evl.tmp (hs.tm 138 rfl)) (hs.en 11 rfl) tsh_3 rfl rfl) rfl, fun s_ hs => Acts.of1 rfl (Does.move (hs.tm 5 rfl) rfl) rfl, fun s_ hs => Acts.of1 rfl (Does.callP 17 [(0, 0), (1, 1), (2, 10), (3, 8), (4, 9)] (fc_spec_l11B_state c signs ps3 ss cs3 as3 x10.2.2.2 (vB p.2) (by omega) (by omega) hc (by omega) (by omega)) enters_167 ⟨_, _, rfl, (Ev.tmp (hs.tm 137 rfl)), ⟨_, _, rfl, (Ev.tmp (hs.tm 139 rfl)), ⟨_, _, rfl, (Ev.tmp (hs.tm 140 rfl)), rfl⟩⟩⟩ ⟨(hs.en 0 rfl), (hs.en 8 rfl), (hs.en 1 rfl), (hs.en 9 rfl), (hs.en 10 rfl), trivial⟩ rfl ⟨trivial, (hs.fr 20 rfl), trivial, (hs.fr 21 rfl), trivial, (hs.fr 20 rfl), trivial, (hs.fr 21 rfl), trivial, trivial⟩ (nlr rfl)) rfl, fun s_ hs => Acts.of1 rfl (Does.build bld_170 ⟨_, _, rfl, (Ev.tmp (hs.tm 132 rfl)), ⟨_, _, rfl, (Ev.tmp (hs.tm 134 rfl)), ⟨_, _, rfl, (Ev.tmp (hs.tm 136 rfl)), ⟨_, _, rfl, (Ev.tmp (hs.tm 141 rfl)), rfl⟩⟩⟩⟩ (List.all_eq_true.1 rfl) rfl rfl) rfl, fun s_ hs => Acts.of1 rfl (Does.buildSlice 22 (e := (.pr .int (.pr .int (.pr .bool .int)))) und_75 tsh_170 zer_170 rfl ⟨_, _, rfl, (Ev.tmp (hs.tm 142 rfl)), rfl⟩ (List.all_eq_true.1 rfl) ⟨_, _, _, _, rfl, ⟨[dI q], [dI x10.2.1, dB x10.2.2.1, dI (ixP ps3 (x10.2.2.2, decide ((vB p.2) = 1)))], _, _, _, _, rfl, rfl, ⟨rfl, rfl⟩, ⟨[dI x10.2.1], [dB x10.2.2.1, dI (ixP ps3 (x10.2.2.2, decide ((vB p.2) = 1)))], _, _, _, _, rfl, rfl, ⟨rfl, rfl⟩, ⟨[dB x10.2.2.1], [dI (ixP ps3 (x10.2.2.2, decide ((vB p.2) = 1)))], _, _, _, _, rfl, rfl, ⟨rfl, rfl⟩, ⟨rfl, rfl⟩, rfl⟩, rfl⟩, rfl⟩, ⟨rfl, rfl⟩, rfl⟩ (by decide) rfl rfl (hs.fr 22 rfl) (nlr rfl)) rfl, fun s_ hs => Acts.of1 rfl (Does.append 23 (Evl.tmp (hs.tm 131 rfl)) (hs.en 10 rfl) (Evl.tmp (hs.tm 143 rfl)) (hs.en 22 rfl) rfl und_75 elb_170 (by first | omega | (simp only [List.length_append, List.length_map, List.length_take, List.length_cons, List.length_nil]; omega)) rfl (hs.fr 23 rfl) (nlr rfl)) rfl, fun s_ hs => Acts.of1 rfl (Does.nilP (Evl.tmp (hs.tm 126 rfl)) (by rw [(hs.en 0 rfl)]; rfl) rfl) rfl, fun s_ hs => Acts.of1 rfl (Does.fieldP (Evl.tmp (hs.tm 145 rfl)) fld_213_3 (by rw [(hs.en 0 rfl)]; rfl) rfl) rfl, fun s_ hs => Acts.of1 rfl (Does.fieldP (Evl.tmp (hs.tm 146 rfl)) fld_77_2 (by rw [(hs.en 0 rfl)]; rfl) rfl) rfl, fun s_ hs => Acts.of1 rfl (Does.storeP (Evl.tmp (hs.tm 147 rfl)) (hs.en 0 rfl) (Ev.tmp (hs.tm 144 rfl)) (by simp only [okLVs, okLV, List.all_cons, List.all_nil]; rw [(hs.en 23 rfl)]; rfl) tsh_75 rfl) rfl, trivial⟩
     skip
     refine (?_ : AC _ _ _ _ _)
     refine AC.region ?_
     refine AL.cons rfl (Does.add (Evl.tmp rfl) (Evl.int rfl) rfl (by omega)) ?_
     refine AL.cons rfl (Does.move rfl rfl) ?_
     refine AL.nil ?_
     refine lend ⟨i + 1, (cdP c ps3 cs3 (x10.2.2.2, decide ((vB p.2) = 1))), (as3 ++ ([(q, x10.2.1, x10.2.2.1, ixP ps3 (x10.2.2.2, decide ((vB p.2) = 1)))])), (psP ps3 (x10.2.2.2, decide ((vB p.2) = 1))), by omega, rfl, (by (rw [hA, fold_step hx11, step_arc (skip_not hmx10.2 (by assumption) (by first | exact .inl (by assumption) | exact .inr (by rw [bAt_get (by assumption)]; assumption)))]; simp [arcP, vB_one]; done)), (by (exact ⟨Nat.le_trans psP_len (by omega), Nat.le_trans cdP_len (by omega), by rw [List.length_append]; simp; omega⟩)), rfl⟩ (by omega) ?_
     exact Wk.of [(0, 0), (1, 1), (8, 20), (9, 21), (10, 23)] rfl ⟨rfl, rfl, rfl, rfl, rfl, rfl, rfl, trivial⟩ ⟨rfl, rfl, rfl, rfl, (entE (by first | rfl | simp)), trivial⟩ rfl rfl
   ·have _h := hb12
    obtain ⟨c15, hc16⟩ : ∃ z, signs[(p.1).toNat]? = some z := ⟨_, getElem?_pos _ _ (by omega)⟩
    refine AC.drawL [⟨some 99, lf (.ptr 0 0), []⟩, ⟨some 100, lf (.ptr 0 0), []⟩, ⟨some 101, lf (.ptr 0 3), []⟩, ⟨some 102, lf (dS signs), []⟩, ⟨some 103, ag [dI x10.1, dI x10.2.1, dB x10.2.2.1, dI x10.2.2.2], []⟩, ⟨some 104, lf (dB true), []⟩, ⟨some 105, lf (dB true), []⟩, ⟨some 106, lf (.ptr 0 0), []⟩, ⟨some 107, lf (.ptr 0 0), []⟩, ⟨some 108, lf (.ptr 0 3), []⟩, ⟨some 109, lf (dS signs), []⟩, ⟨some 110, lf (dI p.1), []⟩, ⟨some 111, lf (.dat .u8 c15), []⟩, ⟨some 112, lf (dB (decide (c15 = 43))), []⟩, ⟨some 113, lf (dI (vB p.2)), []⟩, ⟨some 114, lf (dB (decide ((vB p.2) = 0))), []⟩, ⟨some 115, lf (dB ((decide (c15 = 43)) == (decide ((vB p.2) = 0)))), []⟩, ⟨some 116, lf (dB ((decide (c15 = 43)) == (decide ((vB p.2) = 0)))), []⟩, ⟨some 9, lf (dB ((decide (c15 = 43)) == (decide ((vB p.2) = 0)))), []⟩] [[], [0], [0, 1], [0, 1, 2], [], [0, 1, 2, 3, 4], [0, 1, 2, 3, 4, 5], [0, 1, 2, 3, 4, 5, 6], [0, 1, 2, 3, 4, 5, 6, 7], [0, 1, 2, 3, 4, 5, 6, 7, 8], [0, 1, 2, 3, 4, 5, 6, 7, 8, 9], [0, 1, 2, 3, 4, 5, 6], [0, 1, 2, 3, 4, 5, 6, 7, 8, 9, 10, 11], [0, 1, 2, 3, 4, 5, 6, 7, 8, 9, 10, 11, 12], [0, 1, 2, 3, 4, 5, 6], [0, 1, 2, 3, 4, 5, 6, 14], [0, 1, 2, 3, 4, 5, 6, 7, 8, 9, 10, 11, 12, 13, 14, 15], [0, 1, 2, 3, 4, 5, 6, 7, 8, 9, 10, 11, 12, 13, 14, 15, 16], [0, 1, 2, 3, 4, 5, 6, 7, 8, 9, 10, 11, 12, 13, 14, 15, 16, 17]] mixed rfl (by kernel_rfl) ?_ ?_
    · refine ⟨fun s_ hs => Acts.of1 rfl (Does.move (hs.tm 0 rfl) rfl) rfl, fun s_ hs => Acts.of1 rfl (Does.nilP (Evl.tmp (hs.tm 99 rfl)) (by rw [(hs.en 0 rfl)]; rfl) rfl) rfl, fun s_ hs => Acts.of1 rfl (Does.fieldP (Evl.tmp (hs.tm 100 rfl)) fld_213_1 (by rw [(hs.en 0 rfl)]; rfl) rfl) rfl, fun s_ hs => Acts.of1 rfl (Does.loadP (Evl.tmp (hs.tm 101 rfl)) (hs.en 0 rfl) tsh_9 rfl rfl) rfl, fun s_ hs => Acts.of1 rfl (Does.loadPA (Evl.tmp (hs.tm 8 rfl)) (hs.en 11 rfl) tsh_170 rfl rfl) rfl, fun s_ hs => Acts.of1 rfl (Does.asB (hb12) (Does.call (fc_spec_l11Waits signs x10 (by omega) (by omega)) enters_214 ⟨_, _, rfl, (Ev.tmp (hs.tm 102 rfl)), ⟨_, _, rfl, (Ev.tmp (hs.tm 103 rfl)), rfl⟩⟩ rfl rfl)) rfl, fun s_ hs => Acts.of1 rfl (Does.move (hs.tm 104 rfl) rfl) rfl, fun s_ hs => Acts.yes1 rfl rfl (hs.tm 105 rfl) (Does.move (hs.tm 0 rfl) rfl) rfl, fun s_ hs => Acts.yes1 rfl rfl (hs.tm 105 rfl) (Does.nilP (Evl.tmp (hs.tm 106 rfl)) (by rw [(hs.en 0 rfl)]; rfl) rfl) rfl, fun s_ hs => Acts.yes1 rfl rfl (hs.tm 105 rfl) (Does.fieldP (Evl.tmp (hs.tm 107 rfl)) fld_213_1 (by rw [(hs.en 0 rfl)]; rfl) rfl) rfl, fun s_ hs => Acts.yes1 rfl rfl (hs.tm 105 rfl) (Does.loadP (Evl.tmp (hs.tm 108 rfl)) (hs.en 0 rfl) tsh_9 rfl rfl) rfl, fun s_ hs => Acts.yes1 rfl rfl (hs.tm 105 rfl) (Does.move (hs.tm 4 rfl) rfl) rfl, fun s_ hs => Acts.yes1 rfl rfl (hs.tm 105 rfl) (Does.indexS (Evl.tmp (hs.tm 109 rfl)) (Evl.tmp (hs.tm 110 rfl)) rfl und_9 (by omega) hc16) rfl, fun s_ hs => Acts.yes1 rfl rfl (hs.tm 105 rfl) (Does.eqlU (Evl.tmp (hs.tm 111 rfl)) (Evl.u8 43 rfl) rfl) rfl, fun s_ hs => Acts.yes1 rfl rfl (hs.tm 105 rfl) (Does.move (hs.tm 5 rfl) rfl) rfl, fun s_ hs => Acts.yes1 rfl rfl (hs.tm 105 rfl) (Does.eql (Evl.tmp (hs.tm 113 rfl)) (Evl.int rfl) rfl) rfl, fun s_ hs => Acts.yes1 rfl rfl (hs.tm 105 rfl) (Does.eqlB (Evl.tmp (hs.tm 112 rfl)) (Evl.tmp (hs.tm 114 rfl)) rfl und_4) rfl, fun s_ hs => Acts.of1 rfl (Does.pickT (Evl.tmp (hs.tm 105 rfl)) (Ev.tmp (hs.tm 115 rfl)) rfl) rfl, fun s_ hs => Acts.of1 rfl (Does.assign (hs.tm 116 rfl) rfl) rfl, trivial⟩
    refine (?_ : AC _ _ _ _ _)
    refine AC.wk (s' := _) (Wk.refl _ _) ?_
    refine AC.sr ?_
    refine AL.cons rfl (Does.move rfl rfl) ?_
    refine AL.cons rfl (Does.fieldP (Evl.tmp rfl) fld_170_3 rfl rfl) ?_
    refine AL.cons rfl (Does.loadP (Evl.tmp rfl) rfl tsh_3 rfl rfl) ?_
    refine AL.fact (fact_int (x := .tmp 119) (Evl.tmp rfl)) fun hi17 => ?_
    refine AL.cons rfl (Does.move rfl rfl) ?_
    refine AL.cons rfl (Does.callP 24 [(0, 0), (1, 8), (2, 1), (3, 9), (4, 10)] (fc_spec_l11B_may c signs ps3 ss cs3 as3 x10.2.2.2 (vB p.2) (by omega)) enters_215 ⟨_, _, rfl, (Ev.tmp rfl), ⟨_, _, rfl, (Ev.tmp rfl), ⟨_, _, rfl, (Ev.tmp rfl), rfl⟩⟩⟩ ⟨rfl, rfl, rfl, rfl, rfl, trivial⟩ rfl ⟨trivial, trivial, trivial, trivial, trivial, trivial, trivial, trivial, trivial, trivial⟩ (nlr rfl)) ?_
    refine AL.cons rfl (Does.move rfl rfl) ?_
    cases hb18 : (mayV (bAt signs x10.2.2.2) (vB p.2))
    ·have _h := hb18
     refine AL.guard_no (b := true) rfl rfl rfl ?_ rfl
     refine AL.guard_no (b := true) rfl rfl rfl ?_ rfl
     refine AL.cons rfl (Does.pickF (Evl.tmp rfl) (Evl.ev Evl.bool) rfl) ?_
     refine AL.nilS ?_
     refine AC.condF (Evl.tmp rfl) ?_
     refine AC.skip ?_
     refine (?_ : AC _ _ _ _ _)
     refine AC.region ?_
     refine AL.cons rfl (Does.add (Evl.tmp rfl) (Evl.int rfl) rfl (by omega)) ?_
     refine AL.cons rfl (Does.move rfl rfl) ?_
     refine AL.nil ?_
     refine lend ⟨i + 1, cs3, as3, ps3, by omega, rfl, (by (rw [hA, fold_step hx11, step_skip (skip_may (by assumption))]; done)), (by omega), rfl⟩ (by omega) ?_
     exact Wk.of [(0, 0), (1, 1), (8, 8), (9, 9), (10, 10)] rfl ⟨rfl, rfl, rfl, rfl, rfl, rfl, rfl, trivial⟩ ⟨rfl, rfl, rfl, rfl, rfl, trivial⟩ rfl rfl
    ·have _h := hb18
     refine AL.guard_yes rfl rfl rfl (Does.move rfl rfl) ?_
     refine AL.guard_yes rfl rfl rfl (Does.not (Evl.tmp rfl) rfl) ?_
     refine AL.cons rfl (Does.pickT (Evl.tmp rfl) (Ev.tmp rfl) rfl) ?_
     refine AL.nilS ?_
     cases hb19 : ((decide (c15 = 43)) == (decide ((vB p.2) = 0)))
     ·have _h := hb19
      refine AC.condT (Evl.tmp rfl) ?_
      refine AC.drawL [⟨some 126, lf (.ptr 0 0), []⟩, ⟨some 127, lf (.ptr 0 0), []⟩, ⟨some 128, lf (.ptr 0 0), []⟩, ⟨some 129, lf (.ptr 0 5), []⟩, ⟨some 130, lf (.ptr 0 7), []⟩, ⟨some 131, lf (.ref 10), []⟩, ⟨some 132, lf (dI q), []⟩, ⟨some 133, lf (.ptr 11 1), []⟩, ⟨some 134, lf (dI x10.2.1), []⟩, ⟨some 135, lf (.ptr 11 2), []⟩, ⟨some 136, lf (dB x10.2.2.1), []⟩, ⟨some 137, lf (.ptr 0 0), []⟩, ⟨some 138, lf (.ptr 11 3), []⟩, ⟨some 139, lf (dI x10.2.2.2), []⟩, ⟨some 140, lf (dI (vB p.2)), []⟩, ⟨some 141, lf (dI (ixP ps3 (x10.2.2.2, decide ((vB p.2) = 1)))), [(0, some (.box 213 [.dat (.sl 129 (.pr .str .int)) c.1, .dat (.sl 9 .str) c.2.1, .dat (.sl 170 (.pr .int (.pr .int (.pr .bool .int)))) c.2.2, dS signs, .ref 32, .ref 1, .ref 33, .ref 10])), (32, some (.arr 3 .int ((psP ps3 (x10.2.2.2, decide ((vB p.2) = 1))).map keyP))), (1, some (.arr 129 (.pr .str .int) ss)), (33, some (.arr 9 .str (cdP c ps3 cs3 (x10.2.2.2, decide ((vB p.2) = 1))))), (10, some (.arr 170 (.pr .int (.pr .int (.pr .bool .int))) as3)), (0, none), (8, none), (1, none), (9, none), (10, none)]⟩, ⟨some 142, ag [dI q, dI x10.2.1, dB x10.2.2.1, dI (ixP ps3 (x10.2.2.2, decide ((vB p.2) = 1)))], []⟩, ⟨some 143, lf (.ref 34), [(34, some (.arr 170 (.pr .int (.pr .int (.pr .bool .int))) ([(q, x10.2.1, x10.2.2.1, ixP ps3 (x10.2.2.2, decide ((vB p.2) = 1)))])))]⟩, ⟨some 144, lf (.ref 35), [(35, some (.arr 170 (.pr .int (.pr .int (.pr .bool .int))) (as3 ++ ([(q, x10.2.1, x10.2.2.1, ixP ps3 (x10.2.2.2, decide ((vB p.2) = 1)))])))), (10, none), (34, none)]⟩, ⟨some 145, lf (.ptr 0 0), []⟩, ⟨some 146, lf (.ptr 0 5), []⟩, ⟨some 147, lf (.ptr 0 7), []⟩, ⟨none, lf (.val undef), [(0, some (.box 213 [.dat (.sl 129 (.pr .str .int)) c.1, .dat (.sl 9 .str) c.2.1, .dat (.sl 170 (.pr .int (.pr .int (.pr .bool .int)))) c.2.2, dS signs, .ref 32, .ref 1, .ref 33, .ref 35]))]⟩] [[], [], [1], [1, 2], [1, 2, 3], [1, 2, 3, 4], [], [], [7], [], [9], [], [], [12], [], [11, 12, 13, 14], [6, 7, 8, 9, 10, 11, 12, 13, 14, 15], [6, 7, 8, 9, 10, 11, 12, 13, 14, 15, 16], [1, 2, 3, 4, 5, 6, 7, 8, 9, 10, 11, 12, 13, 14, 15, 16, 17], [0, 1, 2, 3, 4, 5, 6, 7, 8, 9, 10, 11, 12, 13, 14, 15, 16, 17, 18], [0, 1, 2, 3, 4, 5, 6, 7, 8, 9, 10, 11, 12, 13, 14, 15, 16, 17, 18, 19], [0, 1, 2, 3, 4, 5, 6, 7, 8, 9, 10, 11, 12, 13, 14, 15, 16, 17, 18, 19, 20], [0, 1, 2, 3, 4, 5, 6, 7, 8, 9, 10, 11, 12, 13, 14, 15, 16, 17, 18, 19, 20, 21]] mixed rfl (by kernel_rfl) ?_ ?_
      · refine ⟨fun s_ hs => Acts.of1 rfl (Does.move (hs.tm 0 rfl) rfl) rfl, fun s_ hs => Acts.of1 rfl (Does.move (hs.tm 0 rfl) rfl) rfl, fun s_ hs => (hs.en2 0 15 rfl).elim (fun hq0 => Acts.of1 rfl (Does.nilP (Evl.tmp (hs.tm 127 rfl)) (by rw [hq0]; rfl) rfl) rfl) (fun hq0 => Acts.of1 rfl (Does.nilP (Evl.tmp (hs.tm 127 rfl)) (by rw [hq0]; rfl) rfl) rfl), fun s_ hs => (hs.en2 0 15 rfl).elim (fun hq0 => Acts.of1 rfl (Does.fieldP (Evl.tmp (hs.tm 128 rfl)) fld_213_3 (by rw [hq0]; rfl) rfl) rfl) (fun hq0 => Acts.of1 rfl (Does.fieldP (Evl.tmp (hs.tm 128 rfl)) fld_213_3 (by rw [hq0]; rfl) rfl) rfl), fun s_ hs => (hs.en2 0 15 rfl).elim (fun hq0 => Acts.of1 rfl (Does.fieldP (Evl.tmp (hs.tm 129 rfl)) fld_77_2 (by rw [hq0]; rfl) rfl) rfl) (fun hq0 => Acts.of1 rfl (Does.fieldP (Evl.tmp (hs.tm 129 rfl)) fld_77_2 (by rw [hq0]; rfl) rfl) rfl), fun s_ hs => (hs.en2 0 15 rfl).elim (fun hq0 => Acts.of1 rfl (Does.loadP (Evl.tmp (hs.tm 130 rfl)) hq0 tsh_75 rfl rfl) rfl) (fun hq0 => Acts.of1 rfl (Does.loadP (Evl.tmp (hs.tm 130 rfl)) hq0 tsh_75 rfl rfl) rfl), fun s_ hs => Acts.of1 rfl (Does.move (hs.tm 1 rfl) rfl) rfl, fun s_ hs => Acts.of1 rfl (Does.fieldP (Evl.tmp (hs.tm 8 rfl)) fld_170_1 (by rw [(hs.en 11 rfl)]; rfl) rfl) rfl, fun s_ hs => Acts.of1 rfl (Does.loadP (Evl.tmp (hs.tm 133 rfl)) (hs.en 11 rfl) tsh_3 rfl rfl) rfl, fun s_ hs => Acts.of1 rfl (Does.fieldP (Evl.tmp (hs.tm 8 rfl)) fld_170_2 (by rw [(hs.en 11 rfl)]; rfl) rfl) rfl, fun s_ hs => Acts.of1 rfl (Does.loadP (Evl.tmp (hs.tm 135 rfl)) (hs.en 11 rfl) tsh_4 rfl rfl) rfl, fun s_ hs => Acts.of1 rfl (Does.move (hs.tm 0 rfl) rfl) rfl, fun s_ hs => Acts.of1 rfl (Does.fieldP (Evl.tmp (hs.tm 8 rfl)) fld_170_3 (by rw [(hs.en 11 rfl)]; rfl) rfl) rfl, fun s_ hs => Acts.of1 rfl (Does.loadP (Evl.tmp (hs.tm 138 rfl)) (hs.en 11 rfl) tsh_3 rfl rfl) rfl, fun s_ hs => Acts.of1 rfl (Does.move (hs.tm 5 rfl) rfl) rfl, fun s_ hs => Acts.of1 rfl (Does.callP 29 [(0, 0), (1, 1), (2, 10), (3, 8), (4, 9)] (fc_spec_l11B_state c signs ps3 ss cs3 as3 x10.2.2.2 (vB p.2) (by omega) (by omega) hc (by omega) (by omega)) enters_167 ⟨_, _, rfl, (Ev.tmp (hs.tm 137 rfl)), ⟨_, _, rfl, (Ev.tmp (hs.tm 139 rfl)), ⟨_, _, rfl, (Ev.tmp (hs.tm 140 rfl)), rfl⟩⟩⟩ ⟨(hs.en 0 rfl), (hs.en 8 rfl), (hs.en 1 rfl), (hs.en 9 rfl), (hs.en 10 rfl), trivial⟩ rfl ⟨trivial, (hs.fr 32 rfl), trivial, (hs.fr 33 rfl), trivial, (hs.fr 32 rfl), trivial, (hs.fr 33 rfl), trivial, trivial⟩ (nlr rfl)) rfl, fun s_ hs => Acts.of1 rfl (Does.build bld_170 ⟨_, _, rfl, (Ev.tmp (hs.tm 132 rfl)), ⟨_, _, rfl, (Ev.tmp (hs.tm 134 rfl)), ⟨_, _, rfl, (Ev.tmp (hs.tm 136 rfl)), ⟨_, _, rfl, (Ev.tmp (hs.tm 141 rfl)), rfl⟩⟩⟩⟩ (List.all_eq_true.1 rfl) rfl rfl) rfl, fun s_ hs => Acts.of1 rfl (Does.buildSlice 34 (e := (.pr .int (.pr .int (.pr .bool .int)))) und_75 tsh_170 zer_170 rfl ⟨_, _, rfl, (Ev.tmp (hs.tm 142 rfl)), rfl⟩ (List.all_eq_true.1 rfl) ⟨_, _, _, _, rfl, ⟨[dI q], [dI x10.2.1, dB x10.2.2.1, dI (ixP ps3 (x10.2.2.2, decide ((vB p.2) = 1)))], _, _, _, _, rfl, rfl, ⟨rfl, rfl⟩, ⟨[dI x10.2.1], [dB x10.2.2.1, dI (ixP ps3 (x10.2.2.2, decide ((vB p.2) = 1)))], _, _, _, _, rfl, rfl, ⟨rfl, rfl⟩, ⟨[dB x10.2.2.1], [dI (ixP ps3 (x10.2.2.2, decide ((vB p.2) = 1)))], _, _, _, _, rfl, rfl, ⟨rfl, rfl⟩, ⟨rfl, rfl⟩, rfl⟩, rfl⟩, rfl⟩, ⟨rfl, rfl⟩, rfl⟩ (by decide) rfl rfl (hs.fr 34 rfl) (nlr rfl)) rfl, fun s_ hs => Acts.of1 rfl (Does.append 35 (Evl.tmp (hs.tm 131 rfl)) (hs.en 10 rfl) (Evl.tmp (hs.tm 143 rfl)) (hs.en 34 rfl) rfl und_75 elb_170 (by first | omega | (simp only [List.length_append, List.length_map, List.length_take, List.length_cons, List.length_nil]; omega)) rfl (hs.fr 35 rfl) (nlr rfl)) rfl, fun s_ hs => Acts.of1 rfl (Does.nilP (Evl.tmp (hs.tm 126 rfl)) (by rw [(hs.en 0 rfl)]; rfl) rfl) rfl, fun s_ hs => Acts.of1 rfl (Does.fieldP (Evl.tmp (hs.tm 145 rfl)) fld_213_3 (by rw [(hs.en 0 rfl)]; rfl) rfl) rfl, fun s_ hs => Acts.of1 rfl (Does.fieldP (Evl.tmp (hs.tm 146 rfl)) fld_77_2 (by rw [(hs.en 0 rfl)]; rfl) rfl) rfl, fun s_ hs => Acts.of1 rfl (Does.storeP (Evl.tmp (hs.tm 147 rfl)) (hs.en 0 rfl) (Ev.tmp (hs.tm 144 rfl)) (by simp only [okLVs, okLV, List.all_cons, List.all_nil]; rw [(hs.en 35 rfl)]; rfl) tsh_75 rfl) rfl, trivial⟩
      skip
      refine (?_ : AC _ _ _ _ _)
      refine AC.region ?_
      refine AL.cons rfl (Does.add (Evl.tmp rfl) (Evl.int rfl) rfl (by omega)) ?_
      refine AL.cons rfl (Does.move rfl rfl) ?_
      refine AL.nil ?_
      refine lend ⟨i + 1, (cdP c ps3 cs3 (x10.2.2.2, decide ((vB p.2) = 1))), (as3 ++ ([(q, x10.2.1, x10.2.2.1, ixP ps3 (x10.2.2.2, decide ((vB p.2) = 1)))])), (psP ps3 (x10.2.2.2, decide ((vB p.2) = 1))), by omega, rfl, (by (rw [hA, fold_step hx11, step_arc (skip_not hmx10.2 (by assumption) (by first | exact .inl (by assumption) | exact .inr (by rw [bAt_get (by assumption)]; assumption)))]; simp [arcP, vB_one]; done)), (by (exact ⟨Nat.le_trans psP_len (by omega), Nat.le_trans cdP_len (by omega), by rw [List.length_append]; simp; omega⟩)), rfl⟩ (by omega) ?_
      exact Wk.of [(0, 0), (1, 1), (8, 32), (9, 33), (10, 35)] rfl ⟨rfl, rfl, rfl, rfl, rfl, rfl, rfl, trivial⟩ ⟨rfl, rfl, rfl, rfl, (entE (by first | rfl | simp)), trivial⟩ rfl rfl
     ·have _h := hb19
      refine AC.condF (Evl.tmp rfl) ?_
      refine AC.skip ?_
      refine (?_ : AC _ _ _ _ _)
      refine AC.region ?_
      refine AL.cons rfl (Does.add (Evl.tmp rfl) (Evl.int rfl) rfl (by omega)) ?_
      refine AL.cons rfl (Does.move rfl rfl) ?_
      refine AL.nil ?_
      refine lend ⟨i + 1, cs3, as3, ps3, by omega, rfl, (by (rw [hA, fold_step hx11, step_skip (skip_early hmx10.2 (by assumption) (by rw [bAt_get (by assumption)]; assumption))]; done)), (by omega), rfl⟩ (by omega) ?_
      exact Wk.of [(0, 0), (1, 1), (8, 8), (9, 9), (10, 10)] rfl ⟨rfl, rfl, rfl, rfl, rfl, rfl, rfl, trivial⟩ ⟨rfl, rfl, rfl, rfl, rfl, trivial⟩ rfl rfl
 ·refine AC.seq ?_
  refine AC.sr ?_
  refine AL.cons rfl (Does.move rfl rfl) ?_
  refine AL.cons rfl (Does.nilP (Evl.tmp rfl) rfl rfl) ?_
  refine AL.cons rfl (Does.fieldP (Evl.tmp rfl) fld_213_1 rfl rfl) ?_
  refine AL.cons rfl (Does.loadP (Evl.tmp rfl) rfl tsh_9 rfl rfl) ?_
  refine AL.cons rfl (Does.move rfl rfl) ?_
  obtain ⟨c20, hc21⟩ : ∃ z, signs[(p.1).toNat]? = some z := ⟨_, getElem?_pos _ _ (by omega)⟩
  refine AL.cons rfl (Does.indexS (Evl.tmp rfl) (Evl.tmp rfl) rfl und_9 (by omega) hc21) ?_
  refine AL.cons rfl (Does.eqlU (Evl.tmp rfl) (Evl.u8 43 rfl) rfl) ?_
  refine AL.cons rfl (Does.move rfl rfl) ?_
  cases hb22 : (decide (c20 = 43))
  ·have _h := hb22
   have hb22' : ¬ (c20 = 43) := of_decide_eq_false hb22
   refine AL.guard_no (b := true) rfl rfl rfl ?_ rfl
   refine AL.guard_no (b := true) rfl rfl rfl ?_ rfl
   refine AL.cons rfl (Does.pickF (Evl.tmp rfl) (Evl.ev Evl.bool) rfl) ?_
   refine AL.nilS ?_
   refine AC.condF (Evl.tmp rfl) ?_
   refine AC.skipS ?_
   refine AC.seq ?_
   refine AC.sr ?_
   refine AL.cons rfl (Does.move rfl rfl) ?_
   refine AL.cons rfl (Does.nilP (Evl.tmp rfl) rfl rfl) ?_
   refine AL.cons rfl (Does.fieldP (Evl.tmp rfl) fld_213_1 rfl rfl) ?_
   refine AL.cons rfl (Does.loadP (Evl.tmp rfl) rfl tsh_9 rfl rfl) ?_
   refine AL.cons rfl (Does.move rfl rfl) ?_
   refine AL.cons rfl (Does.indexS (Evl.tmp rfl) (Evl.tmp rfl) rfl und_9 (by omega) hc21) ?_
   refine AL.cons rfl (Does.eqlU (Evl.tmp rfl) (Evl.u8 45 rfl) rfl) ?_
   refine AL.cons rfl (Does.move rfl rfl) ?_
   cases hb23 : (decide (c20 = 45))
   ·have _h := hb23
    have hb23' : ¬ (c20 = 45) := of_decide_eq_false hb23
    refine AL.guard_no (b := true) rfl rfl rfl ?_ rfl
    refine AL.guard_no (b := true) rfl rfl rfl ?_ rfl
    refine AL.cons rfl (Does.pickF (Evl.tmp rfl) (Evl.ev Evl.bool) rfl) ?_
    refine AL.nilS ?_
    refine AC.condF (Evl.tmp rfl) ?_
    refine AC.skipS ?_
    refine jend (J5 _ ⟨cs, as_, ps, (by (rw [pre_none (fun h => by rw [bAt_get (by assumption)] at h; first | assumption | contradiction) (fun h => by rw [bAt_get (by assumption)] at h; first | assumption | contradiction)]; done)), (by (exact ⟨by omega, by omega, by omega⟩)), rfl⟩) ?_
    exact Wk.of [(0, 0), (1, 1), (5, 2), (6, 3), (7, 4)] rfl ⟨rfl, rfl, rfl, rfl, trivial⟩ ⟨rfl, rfl, rfl, rfl, rfl, trivial⟩ rfl rfl
   ·have _h := hb23
    have hb23' : (c20 = 45) := of_decide_eq_true hb23
    refine AL.guard_yes rfl rfl rfl (Does.move rfl rfl) ?_
    refine AL.guard_yes rfl rfl rfl (Does.eql (Evl.tmp rfl) (Evl.int rfl) rfl) ?_
    refine AL.cons rfl (Does.pickT (Evl.tmp rfl) (Ev.tmp rfl) rfl) ?_
    refine AL.nilS ?_
    cases hb24 : (decide ((vB p.2) = 1))
    ·have _h := hb24
     have hb24' : ¬ ((vB p.2) = 1) := of_decide_eq_false hb24
     refine AC.condF (Evl.tmp rfl) ?_
     refine AC.skipS ?_
     refine jend (J5 _ ⟨cs, as_, ps, (by (rw [pre_none (fun h => by rw [bAt_get (by assumption)] at h; first | assumption | contradiction) (fun h => by rw [bAt_get (by assumption)] at h; first | assumption | contradiction)]; done)), (by (exact ⟨by omega, by omega, by omega⟩)), rfl⟩) ?_
     exact Wk.of [(0, 0), (1, 1), (5, 2), (6, 3), (7, 4)] rfl ⟨rfl, rfl, rfl, rfl, trivial⟩ ⟨rfl, rfl, rfl, rfl, rfl, trivial⟩ rfl rfl
    ·have _h := hb24
     have hb24' : ((vB p.2) = 1) := of_decide_eq_true hb24
     refine AC.condT (Evl.tmp rfl) ?_
     refine AC.drawL [⟨some 71, lf (.ptr 0 0), []⟩, ⟨some 72, lf (.ptr 0 0), []⟩, ⟨some 73, lf (.ptr 0 0), []⟩, ⟨some 74, lf (.ptr 0 5), []⟩, ⟨some 75, lf (.ptr 0 7), []⟩, ⟨some 76, lf (.ref 4), []⟩, ⟨some 77, lf (dI q), []⟩, ⟨some 78, lf (dI (c.1.length : Int)), []⟩, ⟨some 79, lf (.ptr 0 0), []⟩, ⟨some 80, lf (dI p.1), []⟩, ⟨some 81, lf (dI (ixP ps (p.1, decide (0 = 1)))), [(0, some (.box 213 [.dat (.sl 129 (.pr .str .int)) c.1, .dat (.sl 9 .str) c.2.1, .dat (.sl 170 (.pr .int (.pr .int (.pr .bool .int)))) c.2.2, dS signs, .ref 39, .ref 1, .ref 40, .ref 4])), (39, some (.arr 3 .int ((psP ps (p.1, decide (0 = 1))).map keyP))), (1, some (.arr 129 (.pr .str .int) ss)), (40, some (.arr 9 .str (cdP c ps cs (p.1, decide (0 = 1))))), (4, some (.arr 170 (.pr .int (.pr .int (.pr .bool .int))) as_)), (0, none), (2, none), (1, none), (3, none), (4, none)]⟩, ⟨some 82, ag [dI q, dI (c.1.length : Int), dB false, dI (ixP ps (p.1, decide (0 = 1)))], []⟩, ⟨some 83, lf (.ref 41), [(41, some (.arr 170 (.pr .int (.pr .int (.pr .bool .int))) ([(q, (c.1.length : Int), false, ixP ps (p.1, decide (0 = 1)))])))]⟩, ⟨some 84, lf (.ref 42), [(42, some (.arr 170 (.pr .int (.pr .int (.pr .bool .int))) (as_ ++ ([(q, (c.1.length : Int), false, ixP ps (p.1, decide (0 = 1)))])))), (4, none), (41, none)]⟩, ⟨some 85, lf (.ptr 0 0), []⟩, ⟨some 86, lf (.ptr 0 5), []⟩, ⟨some 87, lf (.ptr 0 7), []⟩, ⟨none, lf (.val undef), [(0, some (.box 213 [.dat (.sl 129 (.pr .str .int)) c.1, .dat (.sl 9 .str) c.2.1, .dat (.sl 170 (.pr .int (.pr .int (.pr .bool .int)))) c.2.2, dS signs, .ref 39, .ref 1, .ref 40, .ref 42]))]⟩] [[], [], [1], [1, 2], [1, 2, 3], [1, 2, 3, 4], [], [], [], [], [8, 9], [6, 7, 8, 9, 10], [6, 7, 8, 9, 10, 11], [1, 2, 3, 4, 5, 6, 7, 8, 9, 10, 11, 12], [0, 1, 2, 3, 4, 5, 6, 7, 8, 9, 10, 11, 12, 13], [0, 1, 2, 3, 4, 5, 6, 7, 8, 9, 10, 11, 12, 13, 14], [0, 1, 2, 3, 4, 5, 6, 7, 8, 9, 10, 11, 12, 13, 14, 15], [0, 1, 2, 3, 4, 5, 6, 7, 8, 9, 10, 11, 12, 13, 14, 15, 16]] mixed rfl (by kernel_rfl) ?_ ?_
     · refine ⟨fun s_ hs => Acts.of1 rfl (Does.move (hs.tm 0 rfl) rfl) rfl, fun s_ hs => Acts.of1 rfl (Does.move (hs.tm 0 rfl) rfl) rfl, fun s_ hs => (hs.en2 0 10 rfl).elim (fun hq0 => Acts.of1 rfl (Does.nilP (Evl.tmp (hs.tm 72 rfl)) (by rw [hq0]; rfl) rfl) rfl) (fun hq0 => Acts.of1 rfl (Does.nilP (Evl.tmp (hs.tm 72 rfl)) (by rw [hq0]; rfl) rfl) rfl), fun s_ hs => (hs.en2 0 10 rfl).elim (fun hq0 => Acts.of1 rfl (Does.fieldP (Evl.tmp (hs.tm 73 rfl)) fld_213_3 (by rw [hq0]; rfl) rfl) rfl) (fun hq0 => Acts.of1 rfl (Does.fieldP (Evl.tmp (hs.tm 73 rfl)) fld_213_3 (by rw [hq0]; rfl) rfl) rfl), fun s_ hs => (hs.en2 0 10 rfl).elim (fun hq0 => Acts.of1 rfl (Does.fieldP (Evl.tmp (hs.tm 74 rfl)) fld_77_2 (by rw [hq0]; rfl) rfl) rfl) (fun hq0 => Acts.of1 rfl (Does.fieldP (Evl.tmp (hs.tm 74 rfl)) fld_77_2 (by rw [hq0]; rfl) rfl) rfl), fun s_ hs => (hs.en2 0 10 rfl).elim (fun hq0 => Acts.of1 rfl (Does.loadP (Evl.tmp (hs.tm 75 rfl)) hq0 tsh_75 rfl rfl) rfl) (fun hq0 => Acts.of1 rfl (Does.loadP (Evl.tmp (hs.tm 75 rfl)) hq0 tsh_75 rfl rfl) rfl), fun s_ hs => Acts.of1 rfl (Does.move (hs.tm 1 rfl) rfl) rfl, fun s_ hs => Acts.of1 rfl (Does.move (hs.tm 6 rfl) rfl) rfl, fun s_ hs => Acts.of1 rfl (Does.move (hs.tm 0 rfl) rfl) rfl, fun s_ hs => Acts.of1 rfl (Does.move (hs.tm 4 rfl) rfl) rfl, fun s_ hs => Acts.of1 rfl (Does.callP 36 [(0, 0), (1, 1), (2, 4), (3, 2), (4, 3)] (fc_spec_l11B_state c signs ps ss cs as_ p.1 0 (by omega) (by omega) hc (by omega) (by omega)) enters_167 ⟨_, _, rfl, (Ev.tmp (hs.tm 79 rfl)), ⟨_, _, rfl, (Ev.tmp (hs.tm 80 rfl)), ⟨_, _, rfl, (Evl.ev (Evl.int rfl)), rfl⟩⟩⟩ ⟨(hs.en 0 rfl), (hs.en 2 rfl), (hs.en 1 rfl), (hs.en 3 rfl), (hs.en 4 rfl), trivial⟩ rfl ⟨trivial, (hs.fr 39 rfl), trivial, (hs.fr 40 rfl), trivial, (hs.fr 39 rfl), trivial, (hs.fr 40 rfl), trivial, trivial⟩ (nlr rfl)) rfl, fun s_ hs => Acts.of1 rfl (Does.build bld_170 ⟨_, _, rfl, (Ev.tmp (hs.tm 77 rfl)), ⟨_, _, rfl, (Ev.tmp (hs.tm 78 rfl)), ⟨_, _, rfl, (Ev.tmp (hs.tm 81 rfl)), rfl⟩⟩⟩ (List.all_eq_true.1 rfl) rfl rfl) rfl, fun s_ hs => Acts.of1 rfl (Does.buildSlice 41 (e := (.pr .int (.pr .int (.pr .bool .int)))) und_75 tsh_170 zer_170 rfl ⟨_, _, rfl, (Ev.tmp (hs.tm 82 rfl)), rfl⟩ (List.all_eq_true.1 rfl) ⟨_, _, _, _, rfl, ⟨[dI q], [dI (c.1.length : Int), dB false, dI (ixP ps (p.1, decide (0 = 1)))], _, _, _, _, rfl, rfl, ⟨rfl, rfl⟩, ⟨[dI (c.1.length : Int)], [dB false, dI (ixP ps (p.1, decide (0 = 1)))], _, _, _, _, rfl, rfl, ⟨rfl, rfl⟩, ⟨[dB false], [dI (ixP ps (p.1, decide (0 = 1)))], _, _, _, _, rfl, rfl, ⟨rfl, rfl⟩, ⟨rfl, rfl⟩, rfl⟩, rfl⟩, rfl⟩, ⟨rfl, rfl⟩, rfl⟩ (by decide) rfl rfl (hs.fr 41 rfl) (nlr rfl)) rfl, fun s_ hs => Acts.of1 rfl (Does.append 42 (Evl.tmp (hs.tm 76 rfl)) (hs.en 4 rfl) (Evl.tmp (hs.tm 83 rfl)) (hs.en 41 rfl) rfl und_75 elb_170 (by first | omega | (simp only [List.length_append, List.length_map, List.length_take, List.length_cons, List.length_nil]; omega)) rfl (hs.fr 42 rfl) (nlr rfl)) rfl, fun s_ hs => Acts.of1 rfl (Does.nilP (Evl.tmp (hs.tm 71 rfl)) (by rw [(hs.en 0 rfl)]; rfl) rfl) rfl, fun s_ hs => Acts.of1 rfl (Does.fieldP (Evl.tmp (hs.tm 85 rfl)) fld_213_3 (by rw [(hs.en 0 rfl)]; rfl) rfl) rfl, fun s_ hs => Acts.of1 rfl (Does.fieldP (Evl.tmp (hs.tm 86 rfl)) fld_77_2 (by rw [(hs.en 0 rfl)]; rfl) rfl) rfl, fun s_ hs => Acts.of1 rfl (Does.storeP (Evl.tmp (hs.tm 87 rfl)) (hs.en 0 rfl) (Ev.tmp (hs.tm 84 rfl)) (by simp only [okLVs, okLV, List.all_cons, List.all_nil]; rw [(hs.en 42 rfl)]; rfl) tsh_75 rfl) rfl, trivial⟩
     refine (?_ : AC _ _ _ _ _)
     refine AC.wk (s' := _) (Wk.refl _ _) ?_
     refine jend (J5 _ ⟨(cdP c ps cs (p.1, decide (0 = 1))), (as_ ++ ([(q, (c.1.length : Int), false, ixP ps (p.1, decide (0 = 1)))])), (psP ps (p.1, decide (0 = 1))), (by (rw [pre_minus (by rw [bAt_get (by assumption)]; assumption) (by assumption)]; rfl)), (by (exact ⟨psP_len, cdP_len, by simp⟩)), rfl⟩) ?_
     exact Wk.of [(0, 0), (1, 1), (5, 39), (6, 40), (7, 42)] rfl ⟨rfl, rfl, rfl, rfl, trivial⟩ ⟨rfl, rfl, rfl, rfl, (entE (by first | rfl | simp)), trivial⟩ rfl rfl
  ·have _h := hb22
   have hb22' : (c20 = 43) := of_decide_eq_true hb22
   refine AL.guard_yes rfl rfl rfl (Does.move rfl rfl) ?_
   refine AL.guard_yes rfl rfl rfl (Does.eql (Evl.tmp rfl) (Evl.int rfl) rfl) ?_
   refine AL.cons rfl (Does.pickT (Evl.tmp rfl) (Ev.tmp rfl) rfl) ?_
   refine AL.nilS ?_
   cases hb25 : (decide ((vB p.2) = 0))
   ·have _h := hb25
    have hb25' : ¬ ((vB p.2) = 0) := of_decide_eq_false hb25
    refine AC.condF (Evl.tmp rfl) ?_
    refine AC.skipS ?_
    refine AC.seq ?_
    refine AC.sr ?_
    refine AL.cons rfl (Does.move rfl rfl) ?_
    refine AL.cons rfl (Does.nilP (Evl.tmp rfl) rfl rfl) ?_
    refine AL.cons rfl (Does.fieldP (Evl.tmp rfl) fld_213_1 rfl rfl) ?_
    refine AL.cons rfl (Does.loadP (Evl.tmp rfl) rfl tsh_9 rfl rfl) ?_
    refine AL.cons rfl (Does.move rfl rfl) ?_
    refine AL.cons rfl (Does.indexS (Evl.tmp rfl) (Evl.tmp rfl) rfl und_9 (by omega) hc21) ?_
    refine AL.cons rfl (Does.eqlU (Evl.tmp rfl) (Evl.u8 45 rfl) rfl) ?_
    refine AL.cons rfl (Does.move rfl rfl) ?_
    have hb26 : (decide (c20 = 45)) = false := decide_eq_false fun h_ => absurd ((of_decide_eq_true (hb22)).symm.trans h_) (by decide)
    have hb26' : ¬ (c20 = 45) := of_decide_eq_false hb26
    try rw [hb26]
    refine AL.guard_no (b := true) rfl rfl rfl ?_ rfl
    refine AL.guard_no (b := true) rfl rfl rfl ?_ rfl
    refine AL.cons rfl (Does.pickF (Evl.tmp rfl) (Evl.ev Evl.bool) rfl) ?_
    refine AL.nilS ?_
    refine AC.condF (Evl.tmp rfl) ?_
    refine AC.skipS ?_
    refine jend (J5 _ ⟨cs, as_, ps, (by (rw [pre_none (fun h => by rw [bAt_get (by assumption)] at h; first | assumption | contradiction) (fun h => by rw [bAt_get (by assumption)] at h; first | assumption | contradiction)]; done)), (by (exact ⟨by omega, by omega, by omega⟩)), rfl⟩) ?_
    exact Wk.of [(0, 0), (1, 1), (5, 2), (6, 3), (7, 4)] rfl ⟨rfl, rfl, rfl, rfl, trivial⟩ ⟨rfl, rfl, rfl, rfl, rfl, trivial⟩ rfl rfl
   ·have _h := hb25
    have hb25' : ((vB p.2) = 0) := of_decide_eq_true hb25
    refine AC.condT (Evl.tmp rfl) ?_
    refine AC.drawL [⟨some 43, lf (.ptr 0 0), []⟩, ⟨some 44, lf (.ptr 0 0), []⟩, ⟨some 45, lf (.ptr 0 0), []⟩, ⟨some 46, lf (.ptr 0 5), []⟩, ⟨some 47, lf (.ptr 0 7), []⟩, ⟨some 48, lf (.ref 4), []⟩, ⟨some 49, lf (dI q), []⟩, ⟨some 50, lf (dI (c.1.length : Int)), []⟩, ⟨some 51, lf (.ptr 0 0), []⟩, ⟨some 52, lf (dI p.1), []⟩, ⟨some 53, lf (dI (ixP ps (p.1, decide (1 = 1)))), [(0, some (.box 213 [.dat (.sl 129 (.pr .str .int)) c.1, .dat (.sl 9 .str) c.2.1, .dat (.sl 170 (.pr .int (.pr .int (.pr .bool .int)))) c.2.2, dS signs, .ref 46, .ref 1, .ref 47, .ref 4])), (46, some (.arr 3 .int ((psP ps (p.1, decide (1 = 1))).map keyP))), (1, some (.arr 129 (.pr .str .int) ss)), (47, some (.arr 9 .str (cdP c ps cs (p.1, decide (1 = 1))))), (4, some (.arr 170 (.pr .int (.pr .int (.pr .bool .int))) as_)), (0, none), (2, none), (1, none), (3, none), (4, none)]⟩, ⟨some 54, ag [dI q, dI (c.1.length : Int), dB true, dI (ixP ps (p.1, decide (1 = 1)))], []⟩, ⟨some 55, lf (.ref 48), [(48, some (.arr 170 (.pr .int (.pr .int (.pr .bool .int))) ([(q, (c.1.length : Int), true, ixP ps (p.1, decide (1 = 1)))])))]⟩, ⟨some 56, lf (.ref 49), [(49, some (.arr 170 (.pr .int (.pr .int (.pr .bool .int))) (as_ ++ ([(q, (c.1.length : Int), true, ixP ps (p.1, decide (1 = 1)))])))), (4, none), (48, none)]⟩, ⟨some 57, lf (.ptr 0 0), []⟩, ⟨some 58, lf (.ptr 0 5), []⟩, ⟨some 59, lf (.ptr 0 7), []⟩, ⟨none, lf (.val undef), [(0, some (.box 213 [.dat (.sl 129 (.pr .str .int)) c.1, .dat (.sl 9 .str) c.2.1, .dat (.sl 170 (.pr .int (.pr .int (.pr .bool .int)))) c.2.2, dS signs, .ref 46, .ref 1, .ref 47, .ref 49]))]⟩] [[], [], [1], [1, 2], [1, 2, 3], [1, 2, 3, 4], [], [], [], [], [8, 9], [6, 7, 8, 9, 10], [6, 7, 8, 9, 10, 11], [1, 2, 3, 4, 5, 6, 7, 8, 9, 10, 11, 12], [0, 1, 2, 3, 4, 5, 6, 7, 8, 9, 10, 11, 12, 13], [0, 1, 2, 3, 4, 5, 6, 7, 8, 9, 10, 11, 12, 13, 14], [0, 1, 2, 3, 4, 5, 6, 7, 8, 9, 10, 11, 12, 13, 14, 15], [0, 1, 2, 3, 4, 5, 6, 7, 8, 9, 10, 11, 12, 13, 14, 15, 16]] mixed rfl (by kernel_rfl) ?_ ?_
    · refine ⟨fun s_ hs => Acts.of1 rfl (Does.move (hs.tm 0 rfl) rfl) rfl, fun s_ hs => Acts.of1 rfl (Does.move (hs.tm 0 rfl) rfl) rfl, fun s_ hs => (hs.en2 0 10 rfl).elim (fun hq0 => Acts.of1 rfl (Does.nilP (Evl.tmp (hs.tm 44 rfl)) (by rw [hq0]; rfl) rfl) rfl) (fun hq0 => Acts.of1 rfl (Does.nilP (Evl.tmp (hs.tm 44 rfl)) (by rw [hq0]; rfl) rfl) rfl), fun s_ hs => (hs.en2 0 10 rfl).elim (fun hq0 => Acts.of1 rfl (Does.fieldP (Evl.tmp (hs.tm 45 rfl)) fld_213_3 (by rw [hq0]; rfl) rfl) rfl) (fun hq0 => Acts.of1 rfl (Does.fieldP (Evl.tmp (hs.tm 45 rfl)) fld_213_3 (by rw [hq0]; rfl) rfl) rfl), fun s_ hs => (hs.en2 0 10 rfl).elim (fun hq0 => Acts.of1 rfl (Does.fieldP (Evl.tmp (hs.tm 46 rfl)) fld_77_2 (by rw [hq0]; rfl) rfl) rfl) (fun hq0 => Acts.of1 rfl (Does.fieldP (Evl.tmp (hs.tm 46 rfl)) fld_77_2 (by rw [hq0]; rfl) rfl) rfl), fun s_ hs => (hs.en2 0 10 rfl).elim (fun hq0 => Acts.of1 rfl (Does.loadP (Evl.tmp (hs.tm 47 rfl)) hq0 tsh_75 rfl rfl) rfl) (fun hq0 => Acts.of1 rfl (Does.loadP (Evl.tmp (hs.tm 47 rfl)) hq0 tsh_75 rfl rfl) rfl), fun s_ hs => Acts.of1 rfl (Does.move (hs.tm 1 rfl) rfl) rfl, fun s_ hs => Acts.of1 rfl (Does.move (hs.tm 6 rfl) rfl) rfl, fun s_ hs => Acts.of1 rfl (Does.move (hs.tm 0 rfl) rfl) rfl, fun s_ hs => Acts.of1 rfl (Does.move (hs.tm 4 rfl) rfl) rfl, fun s_ hs => Acts.of1 rfl (Does.callP 43 [(0, 0), (1, 1), (2, 4), (3, 2), (4, 3)] (fc_spec_l11B_state c signs ps ss cs as_ p.1 1 (by omega) (by omega) hc (by omega) (by omega)) enters_167 ⟨_, _, rfl, (Ev.tmp (hs.tm 51 rfl)), ⟨_, _, rfl, (Ev.tmp (hs.tm 52 rfl)), ⟨_, _, rfl, (Evl.ev (Evl.int rfl)), rfl⟩⟩⟩ ⟨(hs.en 0 rfl), (hs.en 2 rfl), (hs.en 1 rfl), (hs.en 3 rfl), (hs.en 4 rfl), trivial⟩ rfl ⟨trivial, (hs.fr 46 rfl), trivial, (hs.fr 47 rfl), trivial, (hs.fr 46 rfl), trivial, (hs.fr 47 rfl), trivial, trivial⟩ (nlr rfl)) rfl, fun s_ hs => Acts.of1 rfl (Does.build bld_170 ⟨_, _, rfl, (Ev.tmp (hs.tm 49 rfl)), ⟨_, _, rfl, (Ev.tmp (hs.tm 50 rfl)), ⟨_, _, rfl, (Evl.ev Evl.bool), ⟨_, _, rfl, (Ev.tmp (hs.tm 53 rfl)), rfl⟩⟩⟩⟩ (List.all_eq_true.1 rfl) rfl rfl) rfl, fun s_ hs => Acts.of1 rfl (Does.buildSlice 48 (e := (.pr .int (.pr .int (.pr .bool .int)))) und_75 tsh_170 zer_170 rfl ⟨_, _, rfl, (Ev.tmp (hs.tm 54 rfl)), rfl⟩ (List.all_eq_true.1 rfl) ⟨_, _, _, _, rfl, ⟨[dI q], [dI (c.1.length : Int), dB true, dI (ixP ps (p.1, decide (1 = 1)))], _, _, _, _, rfl, rfl, ⟨rfl, rfl⟩, ⟨[dI (c.1.length : Int)], [dB true, dI (ixP ps (p.1, decide (1 = 1)))], _, _, _, _, rfl, rfl, ⟨rfl, rfl⟩, ⟨[dB true], [dI (ixP ps (p.1, decide (1 = 1)))], _, _, _, _, rfl, rfl, ⟨rfl, rfl⟩, ⟨rfl, rfl⟩, rfl⟩, rfl⟩, rfl⟩, ⟨rfl, rfl⟩, rfl⟩ (by decide) rfl rfl (hs.fr 48 rfl) (nlr rfl)) rfl, fun s_ hs => Acts.of1 rfl (Does.append 49 (Evl.tmp (hs.tm 48 rfl)) (hs.en 4 rfl) (Evl.tmp (hs.tm 55 rfl)) (hs.en 48 rfl) rfl und_75 elb_170 (by first | omega | (simp only [List.length_append, List.length_map, List.length_take, List.length_cons, List.length_nil]; omega)) rfl (hs.fr 49 rfl) (nlr rfl)) rfl, fun s_ hs => Acts.of1 rfl (Does.nilP (Evl.tmp (hs.tm 43 rfl)) (by rw [(hs.en 0 rfl)]; rfl) rfl) rfl, fun s_ hs => Acts.of1 rfl (Does.fieldP (Evl.tmp (hs.tm 57 rfl)) fld_213_3 (by rw [(hs.en 0 rfl)]; rfl) rfl) rfl, fun s_ hs => Acts.of1 rfl (Does.fieldP (Evl.tmp (hs.tm 58 rfl)) fld_77_2 (by rw [(hs.en 0 rfl)]; rfl) rfl) rfl, fun s_ hs => Acts.of1 rfl (Does.storeP (Evl.tmp (hs.tm 59 rfl)) (hs.en 0 rfl) (Ev.tmp (hs.tm 56 rfl)) (by simp only [okLVs, okLV, List.all_cons, List.all_nil]; rw [(hs.en 49 rfl)]; rfl) tsh_75 rfl) rfl, trivial⟩
    refine (?_ : AC _ _ _ _ _)
    refine AC.wk (s' := _) (Wk.refl _ _) ?_
    refine AC.seq ?_
    refine AC.sr ?_
    refine AL.cons rfl (Does.move rfl rfl) ?_
    refine AL.cons rfl (Does.nilP (Evl.tmp rfl) rfl rfl) ?_
    refine AL.cons rfl (Does.fieldP (Evl.tmp rfl) fld_213_1 rfl rfl) ?_
    refine AL.cons rfl (Does.loadP (Evl.tmp rfl) rfl tsh_9 rfl rfl) ?_
    refine AL.cons rfl (Does.move rfl rfl) ?_
    refine AL.cons rfl (Does.indexS (Evl.tmp rfl) (Evl.tmp rfl) rfl und_9 (by omega) hc21) ?_
    refine AL.cons rfl (Does.eqlU (Evl.tmp rfl) (Evl.u8 45 rfl) rfl) ?_
    refine AL.cons rfl (Does.move rfl rfl) ?_
    have hb27 : (decide (c20 = 45)) = false := decide_eq_false fun h_ => absurd ((of_decide_eq_true (hb22)).symm.trans h_) (by decide)
    have hb27' : ¬ (c20 = 45) := of_decide_eq_false hb27
    try rw [hb27]
    refine AL.guard_no (b := true) rfl rfl rfl ?_ rfl
    refine AL.guard_no (b := true) rfl rfl rfl ?_ rfl
    refine AL.cons rfl (Does.pickF (Evl.tmp rfl) (Evl.ev Evl.bool) rfl) ?_
    refine AL.nilS ?_
    refine AC.condF (Evl.tmp rfl) ?_
    refine AC.skipS ?_
    refine jend (J5 _ ⟨(cdP c ps cs (p.1, decide (1 = 1))), (as_ ++ ([(q, (c.1.length : Int), true, ixP ps (p.1, decide (1 = 1)))])), (psP ps (p.1, decide (1 = 1))), (by (rw [pre_plus (by rw [bAt_get (by assumption)]; assumption) (by assumption)]; rfl)), (by (exact ⟨psP_len, cdP_len, by simp⟩)), rfl⟩) ?_
    exact Wk.of [(0, 0), (1, 1), (5, 46), (6, 47), (7, 49)] rfl ⟨rfl, rfl, rfl, rfl, trivial⟩ ⟨rfl, rfl, rfl, rfl, (entE (by first | rfl | simp)), trivial⟩ rfl rfl

end Go.Proofs.Ytbelopdphlllnaa
