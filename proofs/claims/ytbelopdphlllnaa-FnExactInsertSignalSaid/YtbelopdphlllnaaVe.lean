/- Walks over abstract states: a signal is put in, states are numbered. -/
import Derived.Test.YtbelopdphlllnaaVd
import Derived.DeepKeys3
set_option linter.unusedSimpArgs false
set_option linter.unusedVariables false
namespace Go.Proofs.Ytbelopdphlllnaa
open Go.RowKit

abbrev PSt := Int × Bool
theorem keyOf_pair {n : Int} {b : Bool} (h : -9223372036854775808 ≤ n ∧ n ≤ 9223372036854775807) : ∃ l, keyOf Try.prog 182 (.agg #[.int .i64 n, .bool b]) = some l := by
  have hu := Try.underlying182
  have h1 : Try.prog.keyType 182 = true := by kernel_rfl
  have hc : Try.prog.cellsOf 182 = 2 := by kernel_rfl
  have hc3 : Try.prog.cellsOf 3 = 1 := by kernel_rfl
  have hc4 : Try.prog.cellsOf 4 = 1 := by kernel_rfl
  have hs : Try.prog.types.size + 1 = (Try.prog.types.size - 1) + 1 + 1 := by
    have : 1 ≤ Try.prog.types.size := by exact of_decide_eq_true (by kernel_rfl)
    omega
  have hw : (Lit.int .i64 n).wf = true := by simp [Lit.wf]; exact h
  have hl : ∃ ls, Try.prog.keyLits (Try.prog.types.size + 1) 182 [.int .i64 n, .bool b] = some ls := by
    rw [hs]
    generalize Try.prog.types.size - 1 = d
    simp [Program.keyLits, hu, hc, hc3, hc4, Try.underlying3, Try.underlying4, hw]
  obtain ⟨ls, hl⟩ := hl
  refine ⟨.string (keyBytes ls), ?_⟩
  unfold keyOf
  rw [hu]
  generalize Try.prog.types.size + 1 = N at hl ⊢
  simp [h1, Value.formed, hu, hc, Value.cells, hl]
theorem key_182 : KeyL Try.prog 182 true (.pr .int .bool) where
  K := Maps.Keyed.of_law (deep_law (m := 3) (by omega) (by kernel_rfl) (by kernel_rfl) (by rw [Try.underlying182]))
  flat := rfl
  rd := fun v x ⟨cs, w, h1, h2⟩ => by
    obtain ⟨n, b⟩ := x
    obtain ⟨l, r, rfl, h3, h4⟩ := h2
    obtain ⟨rfl, h5⟩ := h3
    have h4 : r = [.bool b] := h4
    subst h1 h4
    exact keyOf_pair h5
/-- The number of a state of the new graph. -/
def ixP (ps : List PSt) (p : PSt) : Int := (ps.idxOf p : Nat)
def psP (ps : List PSt) (p : PSt) : List PSt := if p ∈ ps then ps else ps ++ [p]
def cdP (c : DSg) (ps : List PSt) (cs : List ByteArray) (p : PSt) : List ByteArray := if p ∈ ps then cs else cs ++ [codeAt c p.1 ++ ⟨#[if p.2 then 49 else 48]⟩]
def idxG : Nat → List PSt → List (PSt × Int)
  | _, [] => []
  | n, p :: ps => (p, (n : Int)) :: idxG (n + 1) ps
def idxM (ps : List PSt) : List (PSt × Int) := idxG 0 ps
section
variable {c : DSg} {ps : List PSt} {p : PSt} {cs : List ByteArray} {n : Nat} {code : ByteArray}
theorem idxG_get : mget (.pr .int .bool) (idxG n ps) p = if p ∈ ps then some ((n : Int) + ixP ps p) else none := by
  induction ps generalizing n with
  | nil => rfl
  | cons q ps ih =>
    rw [idxG, mget, ih]
    by_cases e : q = p
    · subst e
      rw [if_pos (Ty.beq_self (.pr .int .bool) q), if_pos (List.mem_cons_self ..)]
      simp [ixP]
    · rw [if_neg (fun h => e ((Ty.beq_iff (.pr .int .bool) q p).1 h))]
      have e2 : ixP (q :: ps) p = ixP ps p + 1 := by
        simp only [ixP, List.idxOf_cons]
        rw [show (q == p) = false by simpa using e]
        simp
      have e3 : (p ∈ q :: ps) ↔ p ∈ ps := by
        rw [List.mem_cons]
        exact ⟨fun h => h.resolve_left fun h => e h.symm, .inr⟩
      by_cases h : p ∈ ps
      · rw [if_pos h, if_pos (e3.2 h), e2]; congr 1; omega
      · rw [if_neg h, if_neg (fun h2 => h (e3.1 h2))]
theorem idxM_get : mget (.pr .int .bool) (idxM ps) p = if p ∈ ps then some (ixP ps p) else none := by
  have := idxG_get (n := 0) (ps := ps) (p := p)
  simpa [idxM] using this
theorem idxG_set (h : p ∉ ps) : mset (.pr .int .bool) (idxG n ps) p ((n : Int) + ps.length) = idxG n (ps ++ [p]) := by
  induction ps generalizing n with
  | nil => simp [idxG, mset]
  | cons q ps ih =>
    have h1 : ¬ q = p := fun e => h (by rw [e]; exact List.mem_cons_self ..)
    rw [idxG, mset, if_neg (fun h => h1 ((Ty.beq_iff (.pr .int .bool) q p).1 h)), List.cons_append, idxG, ← ih fun h2 => h (List.mem_cons_of_mem _ h2)]
    rw [show (n : Int) + ((q :: ps).length : Nat) = ((n + 1 : Nat) : Int) + (ps.length : Nat) by rw [List.length_cons]; omega]
theorem num_in (h : (mget (.pr .int .bool) (idxM ps) p).isSome = true) : p ∈ ps := by
  rw [idxM_get] at h
  by_cases e : p ∈ ps
  · exact e
  · rw [if_neg e] at h; cases h
theorem num_out (h : (mget (.pr .int .bool) (idxM ps) p).isSome = false) : p ∉ ps := fun e => by
  rw [idxM_get, if_pos e] at h; cases h
theorem num_r1 (h : (mget (.pr .int .bool) (idxM ps) p).isSome = true) : (mget (.pr .int .bool) (idxM ps) p).getD (Ty.zero .int) = ixP ps p := by rw [idxM_get, if_pos (num_in h)]; rfl
theorem num_p1 (h : (mget (.pr .int .bool) (idxM ps) p).isSome = true) : ps = psP ps p := (if_pos (num_in h)).symm
theorem num_c1 (h : (mget (.pr .int .bool) (idxM ps) p).isSome = true) : cs = cdP c ps cs p := (if_pos (num_in h)).symm
theorem num_m1 (h : (mget (.pr .int .bool) (idxM ps) p).isSome = true) : idxM ps = idxM (psP ps p) := by rw [← num_p1 h]
theorem num_r0 (h : (mget (.pr .int .bool) (idxM ps) p).isSome = false) : (ps.length : Int) = ixP ps p := by unfold ixP; rw [List.idxOf_eq_length (num_out h)]
theorem num_p0 (h : (mget (.pr .int .bool) (idxM ps) p).isSome = false) : ps ++ [p] = psP ps p := (if_neg (num_out h)).symm
theorem num_c0 (h : (mget (.pr .int .bool) (idxM ps) p).isSome = false) (hx : c.2.1[p.1.toNat]? = some code) : cs ++ [code ++ ⟨#[if p.2 then 49 else 48]⟩] = cdP c ps cs p := by
  unfold cdP
  rw [if_neg (num_out h), code_get hx]
theorem num_m0 (h : (mget (.pr .int .bool) (idxM ps) p).isSome = false) : mset (.pr .int .bool) (idxM ps) p (ps.length : Int) = idxM (psP ps p) := by
  rw [← num_p0 h]
  have := idxG_set (n := 0) (num_out h)
  simpa [idxM] using this
theorem psP_len : (psP ps p).length ≤ ps.length + 1 := by unfold psP; split <;> simp
theorem cdP_len : (cdP c ps cs p).length ≤ cs.length + 1 := by unfold cdP; split <;> simp
end

set_option maxRecDepth 100000 in
set_option maxHeartbeats 4000000 in
theorem fc_impl_inserter_number (c : DSg) (signs : ByteArray) (ss : List DSignal) (cs : List ByteArray) (as_ : List DAr) (ps : List PSt) (p : Int × Bool) (hp : 0 ≤ p.1 ∧ p.1 < (c.2.1.length : Int)) (hc : ∀ x ∈ c.2.1, x.size ≤ 1000) (hl : ps.length ≤ 1000000 ∧ cs.length ≤ 1000000) : FC Try.prog 134 [(false, [.ptr 0 0]), (true, [dI p.1, dB p.2])] [(0, some (.box 178 [.dat (.sl 129 (.pr .str .int)) c.1, .dat (.sl 9 .str) c.2.1, .dat (.sl 170 (.pr .int (.pr .int (.pr .bool .int)))) c.2.2, dS signs, .ref 1, .ref 4, .ref 2, .ref 5, .ref 3])), (1, some (.arr 129 (.pr .str .int) ss)), (4, some (.arr 9 .str cs)), (2, some (.arr 170 (.pr .int (.pr .int (.pr .bool .int))) as_)), (5, some (.arr 182 (.pr .int .bool) ps)), (3, some (.mp true (.pr .int .bool) false .int (idxM ps)))] 4 (Is (lf (dI (ixP ps p))) [(0, some (.box 178 [.dat (.sl 129 (.pr .str .int)) c.1, .dat (.sl 9 .str) c.2.1, .dat (.sl 170 (.pr .int (.pr .int (.pr .bool .int)))) c.2.2, dS signs, .ref 1, .ref 4, .ref 2, .ref 5, .ref 3])), (1, some (.arr 129 (.pr .str .int) ss)), (4, some (.arr 9 .str (cdP c ps cs p))), (2, some (.arr 170 (.pr .int (.pr .int (.pr .bool .int))) as_)), (5, some (.arr 182 (.pr .int .bool) (psP ps p))), (3, some (.mp true (.pr .int .bool) false .int (idxM (psP ps p))))]) := by
 refine FC.O_all fun O_ hO => FC.ren (FC.of Try.func134 rfl rfl fun A_ hn_ hk_ => ?_)
 obtain ⟨w0_, N0_, X_, n_, k0_, h0_, f0_⟩ := A_
 obtain rfl : n_ = 67 := hn_.trans Try.ntmps134
 obtain rfl : k0_ = 4 := hk_
 refine AC.fact (fact_ag (x := .tmp 1) (i := 0) (Ev.tmp rfl) rfl) fun hi1 => ?_
 refine AC.sr ?_
 refine AL.cons rfl (Does.box 6 (Ev.tmp rfl) rfl rfl (Fresh.of rfl) (nlr rfl)) ?_
 refine AL.cons rfl (Does.assignC (Evl.int rfl) rfl) ?_
 refine AL.nilS ?_
 refine AC.seq ?_
 refine AC.seq ?_
 refine AC.drawL [⟨some 9, lf (.ptr 0 0), []⟩, ⟨some 10, lf (.ptr 0 0), []⟩, ⟨some 11, lf (.ptr 0 8), []⟩, ⟨some 12, lf (.ref 3), []⟩, ⟨some 13, ag [dI p.1, dB p.2], []⟩, ⟨some 14, PV.tup [(false, [dI ((mget (.pr .int .bool) (idxM ps) p).getD (Ty.zero .int))]), (false, [dB ((mget (.pr .int .bool) (idxM ps) p).isSome)])], []⟩, ⟨some 8, PV.tup [(false, [dI ((mget (.pr .int .bool) (idxM ps) p).getD (Ty.zero .int))]), (false, [dB ((mget (.pr .int .bool) (idxM ps) p).isSome)])], []⟩, ⟨some 15, lf (dI ((mget (.pr .int .bool) (idxM ps) p).getD (Ty.zero .int))), []⟩, ⟨some 16, lf (dB ((mget (.pr .int .bool) (idxM ps) p).isSome)), []⟩, ⟨some 5, lf (dI ((mget (.pr .int .bool) (idxM ps) p).getD (Ty.zero .int))), []⟩, ⟨some 6, lf (dB ((mget (.pr .int .bool) (idxM ps) p).isSome)), []⟩] [[], [0], [0, 1], [0, 1, 2], [], [0, 1, 2, 3, 4], [0, 1, 2, 3, 4, 5], [0, 1, 2, 3, 4, 5, 6], [0, 1, 2, 3, 4, 5, 6], [0, 1, 2, 3, 4, 5, 6, 7], [0, 1, 2, 3, 4, 5, 6, 7, 8, 9]] mixed rfl (by kernel_rfl) ?_ ?_
 · refine ⟨fun s_ hs => Acts.of1 rfl (Does.move (hs.tm 0 rfl) rfl) rfl, fun s_ hs => Acts.of1 rfl (Does.nilP (Evl.tmp (hs.tm 9 rfl)) (by rw [(hs.en 0 rfl)]; rfl) rfl) rfl, fun s_ hs => Acts.of1 rfl (Does.fieldP (Evl.tmp (hs.tm 10 rfl)) fld_178_4 (by rw [(hs.en 0 rfl)]; rfl) rfl) rfl, fun s_ hs => Acts.of1 rfl (Does.loadP (Evl.tmp (hs.tm 11 rfl)) (hs.en 0 rfl) tsh_175 rfl rfl) rfl, fun s_ hs => Acts.of1 rfl (Does.loadPA (Evl.tmp (hs.tm 3 rfl)) (hs.en 6 rfl) tsh_182 rfl rfl) rfl, fun s_ hs => Acts.of1 rfl (Does.lookupOk key_182 und_175 zev_3 (Evl.tmp (hs.tm 12 rfl)) (hs.en 3 rfl) (Ev.tmp (hs.tm 13 rfl)) (p := p) rfl rfl rfl) rfl, fun s_ hs => Acts.of1 rfl (Does.move (hs.tm 14 rfl) rfl) rfl, fun s_ hs => Acts.of1 rfl (Does.extract (hs.tm 8 rfl) rfl rfl) rfl, fun s_ hs => Acts.of1 rfl (Does.extract (hs.tm 8 rfl) rfl rfl) rfl, fun s_ hs => Acts.of1 rfl (Does.assign (hs.tm 15 rfl) rfl) rfl, fun s_ hs => Acts.of1 rfl (Does.assign (hs.tm 16 rfl) rfl) rfl, trivial⟩
 refine (?_ : AC _ _ _ _ _)
 refine AC.wk (s' := _) (Wk.refl _ _) ?_
 refine AC.sr ?_
 refine AL.cons rfl (Does.move rfl rfl) ?_
 refine AL.nilS ?_
 cases hb2 : ((mget (.pr .int .bool) (idxM ps) p).isSome)
 ·have _h := hb2
  refine AC.condF (Evl.tmp rfl) ?_
  refine AC.skipS ?_
  refine AC.sr ?_
  refine AL.cons rfl (Does.move rfl rfl) ?_
  refine AL.cons rfl (Does.nilP (Evl.tmp rfl) rfl rfl) ?_
  refine AL.cons rfl (Does.fieldP (Evl.tmp rfl) fld_178_3 rfl rfl) ?_
  refine AL.cons rfl (Does.loadP (Evl.tmp rfl) rfl tsh_176 rfl rfl) ?_
  refine AL.cons rfl (Does.lenO (Evl.tmp rfl) rfl rfl und_176) ?_
  refine AL.cons rfl (Does.assign rfl rfl) ?_
  refine AL.nilS ?_
  refine AC.seq ?_
  refine AC.drawL [⟨some 24, lf (.ptr 0 0), []⟩, ⟨some 25, lf (.ptr 0 0), []⟩, ⟨some 26, lf (.ptr 0 8), []⟩, ⟨some 27, lf (.ref 3), []⟩, ⟨some 28, ag [dI p.1, dB p.2], []⟩, ⟨some 29, lf (dI (ps.length : Int)), []⟩, ⟨none, lf (.val undef), [(3, some (.mp true (.pr .int .bool) false .int (mset (.pr .int .bool) (idxM ps) p (ps.length : Int))))]⟩] [[], [0], [0, 1], [0, 1, 2], [], [], [0, 1, 2, 3, 4, 5]] mixed rfl (by kernel_rfl) ?_ ?_
  · refine ⟨fun s_ hs => Acts.of1 rfl (Does.move (hs.tm 0 rfl) rfl) rfl, fun s_ hs => Acts.of1 rfl (Does.nilP (Evl.tmp (hs.tm 24 rfl)) (by rw [(hs.en 0 rfl)]; rfl) rfl) rfl, fun s_ hs => Acts.of1 rfl (Does.fieldP (Evl.tmp (hs.tm 25 rfl)) fld_178_4 (by rw [(hs.en 0 rfl)]; rfl) rfl) rfl, fun s_ hs => Acts.of1 rfl (Does.loadP (Evl.tmp (hs.tm 26 rfl)) (hs.en 0 rfl) tsh_175 rfl rfl) rfl, fun s_ hs => Acts.of1 rfl (Does.loadPA (Evl.tmp (hs.tm 3 rfl)) (hs.en 6 rfl) tsh_182 rfl rfl) rfl, fun s_ hs => Acts.of1 rfl (Does.move (hs.tm 7 rfl) rfl) rfl, fun s_ hs => Acts.of1 rfl (Does.mapUpdate key_182 und_175 (Evl.tmp (hs.tm 27 rfl)) (hs.en 3 rfl) (Ev.tmp (hs.tm 28 rfl)) (p := p) rfl (Ev.tmp (hs.tm 29 rfl)) (u := (ps.length : Int)) rfl) rfl, trivial⟩
  refine (?_ : AC _ _ _ _ _)
  refine AC.wk (s' := _) (Wk.refl _ _) ?_
  refine AC.seq ?_
  refine AC.drawL [⟨some 30, lf (.ptr 0 0), []⟩, ⟨some 31, lf (.ptr 0 0), []⟩, ⟨some 32, lf (.ptr 0 0), []⟩, ⟨some 33, lf (.ptr 0 7), []⟩, ⟨some 34, lf (.ref 5), []⟩, ⟨some 35, ag [dI p.1, dB p.2], []⟩, ⟨some 36, lf (.ref 7), [(7, some (.arr 182 (.pr .int .bool) ([(p.1, p.2)])))]⟩, ⟨some 37, lf (.ref 8), [(8, some (.arr 182 (.pr .int .bool) (ps ++ ([(p.1, p.2)])))), (5, none), (7, none)]⟩, ⟨some 38, lf (.ptr 0 0), []⟩, ⟨some 39, lf (.ptr 0 7), []⟩, ⟨none, lf (.val undef), [(0, some (.box 178 [.dat (.sl 129 (.pr .str .int)) c.1, .dat (.sl 9 .str) c.2.1, .dat (.sl 170 (.pr .int (.pr .int (.pr .bool .int)))) c.2.2, dS signs, .ref 1, .ref 4, .ref 2, .ref 8, .ref 3]))]⟩] [[], [], [1], [1, 2], [1, 2, 3], [], [5], [1, 2, 3, 4, 5, 6], [0, 1, 2, 3, 4, 5, 6, 7], [0, 1, 2, 3, 4, 5, 6, 7, 8], [0, 1, 2, 3, 4, 5, 6, 7, 8, 9]] mixed rfl (by kernel_rfl) ?_ ?_
  · refine ⟨fun s_ hs => Acts.of1 rfl (Does.move (hs.tm 0 rfl) rfl) rfl, fun s_ hs => Acts.of1 rfl (Does.move (hs.tm 0 rfl) rfl) rfl, fun s_ hs => Acts.of1 rfl (Does.nilP (Evl.tmp (hs.tm 31 rfl)) (by rw [(hs.en 0 rfl)]; rfl) rfl) rfl, fun s_ hs => Acts.of1 rfl (Does.fieldP (Evl.tmp (hs.tm 32 rfl)) fld_178_3 (by rw [(hs.en 0 rfl)]; rfl) rfl) rfl, fun s_ hs => Acts.of1 rfl (Does.loadP (Evl.tmp (hs.tm 33 rfl)) (hs.en 0 rfl) tsh_176 rfl rfl) rfl, fun s_ hs => Acts.of1 rfl (Does.loadPA (Evl.tmp (hs.tm 3 rfl)) (hs.en 6 rfl) tsh_182 rfl rfl) rfl, fun s_ hs => Acts.of1 rfl (Does.buildSlice 7 (e := (.pr .int .bool)) und_176 tsh_182 zer_182 rfl ⟨_, _, rfl, (Ev.tmp (hs.tm 35 rfl)), rfl⟩ (List.all_eq_true.1 rfl) ⟨_, _, _, _, rfl, ⟨[dI p.1], [dB p.2], _, _, _, _, rfl, rfl, ⟨rfl, rfl⟩, ⟨rfl, rfl⟩, rfl⟩, ⟨rfl, rfl⟩, rfl⟩ (by decide) rfl rfl (hs.fr 7 rfl) (nlr rfl)) rfl, fun s_ hs => Acts.of1 rfl (Does.append 8 (Evl.tmp (hs.tm 34 rfl)) (hs.en 5 rfl) (Evl.tmp (hs.tm 36 rfl)) (hs.en 7 rfl) rfl und_176 elb_182 (by first | omega | (simp only [List.length_append, List.length_map, List.length_take, List.length_cons, List.length_nil]; omega)) rfl (hs.fr 8 rfl) (nlr rfl)) rfl, fun s_ hs => Acts.of1 rfl (Does.nilP (Evl.tmp (hs.tm 30 rfl)) (by rw [(hs.en 0 rfl)]; rfl) rfl) rfl, fun s_ hs => Acts.of1 rfl (Does.fieldP (Evl.tmp (hs.tm 38 rfl)) fld_178_3 (by rw [(hs.en 0 rfl)]; rfl) rfl) rfl, fun s_ hs => Acts.of1 rfl (Does.storeP (Evl.tmp (hs.tm 39 rfl)) (hs.en 0 rfl) (Ev.tmp (hs.tm 37 rfl)) (by simp only [okLVs, okLV, List.all_cons, List.all_nil]; rw [(hs.en 8 rfl)]; rfl) tsh_176 rfl) rfl, trivial⟩
  refine (?_ : AC _ _ _ _ _)
  refine AC.wk (s' := _) (Wk.refl _ _) ?_
  refine AC.seq ?_
  obtain ⟨x3, hx4⟩ : ∃ z, c.2.1[(p.1).toNat]? = some z := ⟨_, List.getElem?_eq_getElem (by omega)⟩
  have hczx3 := hc _ (List.mem_of_getElem? hx4)
  refine AC.drawL [⟨some 40, lf (.ptr 0 0), []⟩, ⟨some 41, lf (.ptr 0 0), []⟩, ⟨some 42, lf (.ptr 0 0), []⟩, ⟨some 43, lf (.ptr 0 4), []⟩, ⟨some 44, lf (.ptr 0 5), []⟩, ⟨some 45, lf (.ref 4), []⟩, ⟨some 46, lf (.ptr 0 0), []⟩, ⟨some 47, lf (.ptr 0 0), []⟩, ⟨some 48, lf (.ptr 0 0), []⟩, ⟨some 49, lf (.ptr 0 1), []⟩, ⟨some 50, lf (.dat (.sl 9 .str) c.2.1), []⟩, ⟨some 51, lf (.ptr 6 0), []⟩, ⟨some 52, lf (dI p.1), []⟩, ⟨some 53, lf (.elt .str x3 0), []⟩, ⟨some 54, lf (dS x3), []⟩, ⟨some 55, lf (.ptr 6 1), []⟩, ⟨some 56, lf (dB p.2), []⟩, ⟨some 57, lf (.dat .u8 (if p.2 then 49 else 48)), []⟩, ⟨some 58, lf (.ref 9), [(9, some (.arr 5 .u8 ([if p.2 then 49 else 48])))]⟩, ⟨some 59, lf (dS (⟨#[if p.2 then 49 else 48]⟩ : ByteArray)), []⟩, ⟨some 60, lf (dS (x3 ++ (⟨#[if p.2 then 49 else 48]⟩ : ByteArray))), []⟩, ⟨some 61, lf (.ref 10), [(10, some (.arr 9 .str ([x3 ++ (⟨#[if p.2 then 49 else 48]⟩ : ByteArray)])))]⟩, ⟨some 62, lf (.ref 11), [(11, some (.arr 9 .str (cs ++ ([x3 ++ (⟨#[if p.2 then 49 else 48]⟩ : ByteArray)])))), (4, none), (10, none)]⟩, ⟨some 63, lf (.ptr 0 0), []⟩, ⟨some 64, lf (.ptr 0 4), []⟩, ⟨some 65, lf (.ptr 0 5), []⟩, ⟨none, lf (.val undef), [(0, some (.box 178 [.dat (.sl 129 (.pr .str .int)) c.1, .dat (.sl 9 .str) c.2.1, .dat (.sl 170 (.pr .int (.pr .int (.pr .bool .int)))) c.2.2, dS signs, .ref 1, .ref 11, .ref 2, .ref 8, .ref 3]))]⟩] [[], [], [1], [1, 2], [1, 2, 3], [1, 2, 3, 4], [], [6], [6, 7], [6, 7, 8], [6, 7, 8, 9], [], [11], [6, 7, 8, 9, 10, 11, 12], [6, 7, 8, 9, 10, 11, 12, 13], [], [15], [15, 16], [15, 16, 17], [15, 16, 17, 18], [6, 7, 8, 9, 10, 11, 12, 13, 14, 15, 16, 17, 18, 19], [6, 7, 8, 9, 10, 11, 12, 13, 14, 15, 16, 17, 18, 19, 20], [1, 2, 3, 4, 5, 6, 7, 8, 9, 10, 11, 12, 13, 14, 15, 16, 17, 18, 19, 20, 21], [0, 1, 2, 3, 4, 5, 6, 7, 8, 9, 10, 11, 12, 13, 14, 15, 16, 17, 18, 19, 20, 21, 22], [0, 1, 2, 3, 4, 5, 6, 7, 8, 9, 10, 11, 12, 13, 14, 15, 16, 17, 18, 19, 20, 21, 22, 23], [0, 1, 2, 3, 4, 5, 6, 7, 8, 9, 10, 11, 12, 13, 14, 15, 16, 17, 18, 19, 20, 21, 22, 23, 24], [0, 1, 2, 3, 4, 5, 6, 7, 8, 9, 10, 11, 12, 13, 14, 15, 16, 17, 18, 19, 20, 21, 22, 23, 24, 25]] mixed rfl (by kernel_rfl) ?_ ?_
  · refine ⟨fun s_ hs => Acts.of1 rfl (Does.move (hs.tm 0 rfl) rfl) rfl, fun s_ hs => Acts.of1 rfl (Does.move (hs.tm 0 rfl) rfl) rfl, fun s_ hs => Acts.of1 rfl (Does.nilP (Evl.tmp (hs.tm 41 rfl)) (by rw [(hs.en 0 rfl)]; rfl) rfl) rfl, fun s_ hs => Acts.of1 rfl (Does.fieldP (Evl.tmp (hs.tm 42 rfl)) fld_178_2 (by rw [(hs.en 0 rfl)]; rfl) rfl) rfl, fun s_ hs => Acts.of1 rfl (Does.fieldP (Evl.tmp (hs.tm 43 rfl)) fld_77_1 (by rw [(hs.en 0 rfl)]; rfl) rfl) rfl, fun s_ hs => Acts.of1 rfl (Does.loadP (Evl.tmp (hs.tm 44 rfl)) (hs.en 0 rfl) tsh_67 rfl rfl) rfl, fun s_ hs => Acts.of1 rfl (Does.move (hs.tm 0 rfl) rfl) rfl, fun s_ hs => Acts.of1 rfl (Does.nilP (Evl.tmp (hs.tm 46 rfl)) (by rw [(hs.en 0 rfl)]; rfl) rfl) rfl, fun s_ hs => Acts.of1 rfl (Does.fieldP (Evl.tmp (hs.tm 47 rfl)) fld_178_0 (by rw [(hs.en 0 rfl)]; rfl) rfl) rfl, fun s_ hs => Acts.of1 rfl (Does.fieldP (Evl.tmp (hs.tm 48 rfl)) fld_77_1 (by rw [(hs.en 0 rfl)]; rfl) rfl) rfl, fun s_ hs => Acts.of1 rfl (Does.loadP (Evl.tmp (hs.tm 49 rfl)) (hs.en 0 rfl) tsh_67 rfl rfl) rfl, fun s_ hs => Acts.of1 rfl (Does.fieldP (Evl.tmp (hs.tm 3 rfl)) fld_182_0 (by rw [(hs.en 6 rfl)]; rfl) rfl) rfl, fun s_ hs => Acts.of1 rfl (Does.loadP (Evl.tmp (hs.tm 51 rfl)) (hs.en 6 rfl) tsh_3 rfl rfl) rfl, fun s_ hs => Acts.of1 rfl (Does.indexE (Evl.tmp (hs.tm 50 rfl)) (Evl.tmp (hs.tm 52 rfl)) und_67 tsh_9 rfl (by omega) hx4) rfl, fun s_ hs => Acts.of1 rfl (Does.loadE (Evl.tmp (hs.tm 53 rfl)) tsh_9 rfl rfl) rfl, fun s_ hs => Acts.of1 rfl (Does.fieldP (Evl.tmp (hs.tm 3 rfl)) fld_182_1 (by rw [(hs.en 6 rfl)]; rfl) rfl) rfl, fun s_ hs => Acts.of1 rfl (Does.loadP (Evl.tmp (hs.tm 55 rfl)) (hs.en 6 rfl) tsh_4 rfl rfl) rfl, fun s_ hs => Acts.of1 rfl (Does.call (fc_impl_bit p.2) enters_113 ⟨_, _, rfl, (Ev.tmp (hs.tm 56 rfl)), rfl⟩ rfl rfl) rfl, fun s_ hs => Acts.of1 rfl (Does.buildSlice 9 (e := .u8) und_156 tsh_5 zer_5 rfl ⟨_, _, rfl, (Ev.tmp (hs.tm 57 rfl)), rfl⟩ (List.all_eq_true.1 rfl) ⟨_, _, _, _, rfl, ⟨rfl, rfl⟩, ⟨rfl, rfl⟩, rfl⟩ (by decide) rfl rfl (hs.fr 9 rfl) (nlr rfl)) rfl, fun s_ hs => Acts.of1 rfl (Does.ofBytes (ys := [if p.2 then 49 else 48]) (Evl.repO (Evl.tmp (hs.tm 58 rfl)) (hs.en 9 rfl)) und_156 und_5 und_9 rfl) rfl, fun s_ hs => Acts.of1 rfl (Does.addS (Evl.tmp (hs.tm 54 rfl)) (Evl.tmp (hs.tm 59 rfl)) rfl (by first | omega | (simp only [bsize1]; omega))) rfl, fun s_ hs => Acts.of1 rfl (Does.buildSlice 10 (e := .str) und_67 tsh_9 zer_9 rfl ⟨_, _, rfl, (Ev.tmp (hs.tm 60 rfl)), rfl⟩ (List.all_eq_true.1 rfl) ⟨_, _, _, _, rfl, ⟨rfl, rfl⟩, ⟨rfl, rfl⟩, rfl⟩ (by decide) rfl rfl (hs.fr 10 rfl) (nlr rfl)) rfl, fun s_ hs => Acts.of1 rfl (Does.append 11 (Evl.tmp (hs.tm 45 rfl)) (hs.en 4 rfl) (Evl.tmp (hs.tm 61 rfl)) (hs.en 10 rfl) rfl und_67 elb_9 (by first | omega | (simp only [List.length_append, List.length_map, List.length_take, List.length_cons, List.length_nil]; omega)) rfl (hs.fr 11 rfl) (nlr rfl)) rfl, fun s_ hs => Acts.of1 rfl (Does.nilP (Evl.tmp (hs.tm 40 rfl)) (by rw [(hs.en 0 rfl)]; rfl) rfl) rfl, fun s_ hs => Acts.of1 rfl (Does.fieldP (Evl.tmp (hs.tm 63 rfl)) fld_178_2 (by rw [(hs.en 0 rfl)]; rfl) rfl) rfl, fun s_ hs => Acts.of1 rfl (Does.fieldP (Evl.tmp (hs.tm 64 rfl)) fld_77_1 (by rw [(hs.en 0 rfl)]; rfl) rfl) rfl, fun s_ hs => Acts.of1 rfl (Does.storeP (Evl.tmp (hs.tm 65 rfl)) (hs.en 0 rfl) (Ev.tmp (hs.tm 62 rfl)) (by simp only [okLVs, okLV, List.all_cons, List.all_nil]; rw [(hs.en 11 rfl)]; rfl) tsh_67 rfl) rfl, trivial⟩
  refine (?_ : AC _ _ _ _ _)
  refine AC.wk (s' := _) (Wk.refl _ _) ?_
  refine AC.sr ?_
  refine AL.cons rfl (Does.move rfl rfl) ?_
  refine AL.cons rfl (Does.assign rfl rfl) ?_
  refine AL.nilS ?_
  refine AC.ret ?_
  subst hO
  have e5 : ((ps.length : Int) : Int) = (ixP ps p) := by
   exact num_r0 (by assumption)
  exact fin_is _ _ [(0, 0), (1, 1), (2, 2), (3, 3), (4, 11), (5, 8)] (Res.one rfl (Rs.tmp rfl)) ((congrArg (fun z_ => lf (dI z_)) e5)) ⟨rfl, rfl, (entE (by exact num_c0 (by assumption) (by assumption))), rfl, (entE (by exact num_p0 (by assumption))), (entP (by exact num_m0 (by assumption))), trivial⟩ rfl rfl
 ·have _h := hb2
  refine AC.condT (Evl.tmp rfl) ?_
  refine AC.sr ?_
  refine AL.cons rfl (Does.move rfl rfl) ?_
  refine AL.cons rfl (Does.assign rfl rfl) ?_
  refine AL.nilS ?_
  refine AC.ret ?_
  subst hO
  have e6 : ((mget (.pr .int .bool) (idxM ps) p).getD (Ty.zero .int) : Int) = (ixP ps p) := by
   exact num_r1 (by assumption)
  exact fin_is _ _ [(0, 0), (1, 1), (2, 2), (3, 3), (4, 4), (5, 5)] (Res.one rfl (Rs.tmp rfl)) ((congrArg (fun z_ => lf (dI z_)) e6)) ⟨rfl, rfl, (entE (by exact num_c1 (by assumption))), rfl, (entE (by exact num_p1 (by assumption))), (entP (by exact num_m1 (by assumption))), trivial⟩ rfl rfl

end Go.Proofs.Ytbelopdphlllnaa
