/- Walks over abstract states: the graph with one signal more, both sides. -/
import Derived.Test.YtbelopdphlllnaaVg
set_option linter.unusedSimpArgs false
set_option linter.unusedVariables false
namespace Go.Proofs.Ytbelopdphlllnaa
open Go.RowKit

def startB (s : ByteArray) : Bool := decide (bAt s 0 = 49) || decide (bAt s 0 = 45)
def startP (c : DSg) (s : ByteArray) : Ins := (psP [] (0, startB s), cdP c [] [] (0, startB s), [])
def runP (c : DSg) (s : ByteArray) : Nat → Nat → Ins → Ins
  | 0, _, st => st
  | f + 1, k, st => if k < st.1.length then runP c s f (k + 1) (expP c s st (k : Int)) else st
def buildP (c : DSg) (s : ByteArray) : Ins := runP c s 601 0 (startP c s)
def outP (c : DSg) (name : ByteArray) (st : Ins) : DSg := (c.1 ++ [(name, 3)], st.2.1, st.2.2)
/-- What holds of the graph while it is built. -/
structure InsI (c : DSg) (st : Ins) : Prop where
  rng : ∀ p ∈ st.1, 0 ≤ p.1 ∧ p.1 < (c.2.1.length : Int)
  nd : st.1.Nodup
  len : st.2.1.length = st.1.length
section
variable {c : DSg} {s name : ByteArray} {st : Ins} {ps : List PSt} {cs : List ByteArray} {as_ : List DAr} {p : PSt} {k : Int} {l : DLabel} {i j n : Nat} {b : Bool} {z : Int}
theorem psP_mem {q : PSt} (h : q ∈ psP ps p) : q ∈ ps ∨ q = p := by
  unfold psP at h
  split at h
  · exact .inl h
  · rcases List.mem_append.1 h with h | h
    · exact .inl h
    · exact .inr (List.mem_singleton.1 h)
theorem psP_nd (h : ps.Nodup) : (psP ps p).Nodup := by
  unfold psP
  split
  · exact h
  · rename_i hp
    rw [List.nodup_append]
    refine ⟨h, by simp, ?_⟩
    intro a ha b hb e
    rw [List.mem_singleton] at hb
    subst hb
    subst e
    exact hp ha
theorem arcP_inv (h : InsI c st) (hp : 0 ≤ p.1 ∧ p.1 < (c.2.1.length : Int)) : InsI c (arcP c st k l p) := by
  refine ⟨fun q hq => ?_, psP_nd h.nd, ?_⟩
  · rcases psP_mem (show q ∈ psP st.1 p from hq) with h1 | h1
    · exact h.rng q h1
    · rw [h1]; exact hp
  · have := h.len
    show (cdP c st.1 st.2.1 p).length = (psP st.1 p).length
    unfold cdP psP
    split <;> simp [this]
theorem arcP_as : (arcP c st k l p).2.2.length = st.2.2.length + 1 := by simp [arcP]
theorem stepP_inv {a : DAr} {q : PSt} (h : InsI c st) (ha : 0 ≤ a.2.2.2 ∧ a.2.2.2 < (c.2.1.length : Int)) : InsI c (stepP c s k q st a) ∧ (stepP c s k q st a).2.2.length ≤ st.2.2.length + 1 := by
  unfold stepP
  split
  · exact ⟨h, by omega⟩
  · exact ⟨arcP_inv h ha, by rw [arcP_as]; omega⟩
theorem fold_inv {q : PSt} : ∀ (l : List DAr) (st : Ins), InsI c st → (∀ a ∈ l, 0 ≤ a.2.2.2 ∧ a.2.2.2 < (c.2.1.length : Int)) → InsI c (l.foldl (stepP c s k q) st) ∧ (l.foldl (stepP c s k q) st).2.2.length ≤ st.2.2.length + l.length
  | [], st, h, _ => ⟨h, by simp⟩
  | a :: l, st, h, ha => by
    obtain ⟨h1, h2⟩ := stepP_inv (s := s) (k := k) (q := q) h (ha a (List.mem_cons_self ..))
    obtain ⟨h3, h4⟩ := fold_inv l _ h1 fun a h => ha a (List.mem_cons_of_mem _ h)
    rw [List.foldl_cons]
    exact ⟨h3, by rw [List.length_cons]; omega⟩
theorem expP_inv (hs : SignsOk c s) (h : InsI c st) : InsI c (expP c s st k) ∧ (expP c s st k).2.2.length ≤ st.2.2.length + 4001 := by
  unfold expP
  cases hx : st.1[k.toNat]? with
  | none => exact ⟨h, by simp⟩
  | some p =>
    have hp := h.rng p (List.mem_of_getElem? hx)
    have h1 : InsI c (preP c s st k p) ∧ (preP c s st k p).2.2.length ≤ st.2.2.length + 1 := by
      unfold preP
      split
      · exact ⟨arcP_inv h hp, by rw [arcP_as]; omega⟩
      · exact ⟨h, by omega⟩
    obtain ⟨h2, h3⟩ := fold_inv (s := s) (k := k) (q := p) (fromA c.2.2 p.1) _ h1.1 fun a ha => by
      have := hs.at_ (from_mem.1 ha).1
      rw [hs.2.1] at this
      exact this.2
    refine ⟨h2, ?_⟩
    have h4 := from_len (l := c.2.2) (q := p.1)
    have h5 := hs.2.2.few
    simp only
    omega
theorem nodup_lt : ∀ (n : Nat) (l : List Nat), l.Nodup → (∀ x ∈ l, x < n) → l.length ≤ n
  | 0, [], _, _ => Nat.le_refl _
  | 0, x :: l, _, h => absurd (h x (List.mem_cons_self ..)) (Nat.not_lt_zero x)
  | n + 1, l, hd, h => by
    have h1 := nodup_lt n (l.erase n) (hd.erase n) fun x hx => by
      have h2 := h x (List.mem_of_mem_erase hx)
      have h3 : x ≠ n := fun e => by subst e; exact (List.Nodup.not_mem_erase hd) hx
      omega
    have h2 := List.length_erase (a := n) (l := l)
    split at h2 <;> omega
theorem InsI.few (h : InsI c st) (hn : c.2.1.length ≤ 300) : st.1.length ≤ 600 := by
  have h1 := nodup_lt 600 (st.1.map fun p => (keyP p).toNat) ?_ ?_
  · simpa using h1
  · rw [List.Nodup, List.pairwise_map]
    refine List.Pairwise.imp_of_mem ?_ h.nd
    intro a b ha hb hne e
    apply hne
    have h2 := h.rng a ha
    have h3 := h.rng b hb
    have h4 := vB_rng a.2
    have h5 := vB_rng b.2
    unfold keyP at e
    have h6 : a.1 = b.1 ∧ vB a.2 = vB b.2 := by omega
    refine Prod.ext h6.1 ?_
    rw [← vB_one a.2, h6.2, vB_one]
  · intro x hx
    obtain ⟨p, hp, rfl⟩ := List.mem_map.1 hx
    have h2 := h.rng p hp
    have h4 := vB_rng p.2
    unfold keyP
    omega
theorem start_inv (hn : 1 ≤ c.2.1.length) : InsI c (startP c s) := by
  refine ⟨fun q hq => ?_, psP_nd List.nodup_nil, ?_⟩
  · rcases psP_mem (show q ∈ psP [] (0, startB s) from hq) with h1 | h1
    · cases h1
    · rw [h1]; show (0 : Int) ≤ 0 ∧ (0 : Int) < _; omega
  · simp [startP, psP, cdP]
theorem runP_in (hk : j < st.1.length) (hf : i = n + 1) : runP c s i j st = runP c s n (j + 1) (expP c s st (j : Int)) := by
  subst hf; rw [runP, if_pos hk]
theorem runP_out (hk : st.1.length ≤ j) : runP c s i j st = st := by
  cases i with
  | zero => rfl
  | succ i => rw [runP, if_neg (by omega)]
theorem fst_step (hx : ps[i]? = some p) : (ps.take i).map (fun p => p.1) ++ [p.1] = (ps.take (i + 1)).map fun p => p.1 := by rw [take_snoc hx]; simp
theorem fst_key (hx : (ps.map keyP)[i]? = some z) : (ps.take i).map (fun p => p.1) ++ [z / 2] = (ps.take (i + 1)).map fun p => p.1 := by
  obtain ⟨p, h1, h2⟩ := key_at hx
  rw [h2, keyP_div, fst_step h1]
end
abbrev hasName (name : ByteArray) : DSignal → Bool := fun x => decide (x.1 = name)
section
variable [∀ c, Decidable (SgOk c)] [∀ s, Decidable (NameOk s)] {c : DSg} {s name : ByteArray} {st : Ins}
def insB (c : DSg) (name s : ByteArray) : Bool := okP c s && decide (NameOk name) && !(c.1.any (hasName name)) && !decide (c.1.length = 8)
def insZ : DSg × List Int := (zeroSG, [])
def insV (c : DSg) (name s : ByteArray) : (DSg × List Int) × Bool :=
  if insB c name s = true ∧ SgOk (outP c name (buildP c s)) then ((outP c name (buildP c s), (buildP c s).1.map fun p => p.1), true) else (insZ, false)
def ins2V (c : DSg) (name s : ByteArray) : (DSg × List Int) × Bool :=
  if insB c name s = true then ((outP c name (buildP c s), (buildP c s).1.map fun p => p.1), decide (SgOk (outP c name (buildP c s)))) else (insZ, false)
theorem insB_n1 (h : ¬ SignsOk c s) : insB c name s = false := by unfold insB; rw [← okP_no h]; rfl
theorem insB_n2 (h : okP c s = false) : insB c name s = false := by unfold insB; rw [h]; rfl
theorem insB_n3 (h : ¬ NameOk name) : insB c name s = false := by unfold insB; rw [decide_eq_false h]; simp
theorem insB_n4 (h : 0 ≤ idxF (hasName name) c.1) : insB c name s = false := by unfold insB; rw [← idxF_any, decide_eq_true h]; simp
theorem insB_n5 (h : (c.1.length : Int) = 8) : insB c name s = false := by unfold insB; rw [decide_eq_true (show c.1.length = 8 by omega)]; simp
theorem insB_n6 (h2 : okP c s = true) (h : (8 : Int) ≤ (c.1.length : Int)) : insB c name s = false := by
  have := (okP_iff.1 h2).1.2.2.sigs.2.2
  exact insB_n5 (by omega)
theorem insB_yes (h1 : okP c s = true) (h2 : NameOk name) (h3 : ¬ 0 ≤ idxF (hasName name) c.1) (h4 : ¬ (c.1.length : Int) = 8) : insB c name s = true := by
  unfold insB; rw [h1, decide_eq_true h2, ← idxF_any, decide_eq_false h3, decide_eq_false (show ¬ c.1.length = 8 by omega)]; rfl
theorem insV_no (h : insB c name s = false) : insV c name s = (insZ, false) := if_neg fun h2 => by rw [h] at h2; cases h2.1
theorem insV_bad (h : buildP c s = st) (h2 : ¬ SgOk (outP c name st)) : insV c name s = (insZ, false) := if_neg fun h3 => h2 (by rw [h] at h3; exact h3.2)
theorem insV_yes (h1 : insB c name s = true) (h : buildP c s = st) (h2 : SgOk (outP c name st)) : insV c name s = ((outP c name st, st.1.map fun p => p.1), true) := by
  unfold insV; rw [h, if_pos ⟨h1, h2⟩]
theorem ins2V_no (h : insB c name s = false) : ins2V c name s = (insZ, false) := if_neg (by rw [h]; decide)
theorem ins2V_yes (h1 : insB c name s = true) : ins2V c name s = ((outP c name (buildP c s), (buildP c s).1.map fun p => p.1), decide (SgOk (outP c name (buildP c s)))) := if_pos h1
theorem insV_t (h : (ins2V c name s).2 = true) : insV c name s = ins2V c name s := by
  unfold ins2V at h ⊢
  unfold insV
  split at h
  · rename_i h1
    have h2 : SgOk (outP c name (buildP c s)) := of_decide_eq_true h
    rw [if_pos ⟨h1, h2⟩, if_pos h1, decide_eq_true h2]
  · cases h
theorem insV_f (h : (ins2V c name s).2 = false) : insV c name s = (insZ, false) := by
  unfold ins2V at h
  unfold insV
  split at h
  · exact if_neg fun h2 => (of_decide_eq_false h) h2.2
  · rename_i h1; exact if_neg fun h2 => h1 h2.1
end

set_option maxRecDepth 100000 in
set_option maxHeartbeats 4000000 in
theorem fc_impl_inserted (c : (List (ByteArray × Int)) × List ByteArray × (List (Int × Int × Bool × Int))) (name : ByteArray) (signs : ByteArray) [∀ c, Decidable (SgOk c)] [∀ s, Decidable (NameOk s)] (hnm : name.size ≤ 10000000) : FC Try.prog 78 [(true, [.dat (.sl 129 (.pr .str .int)) c.1, .dat (.sl 9 .str) c.2.1, .dat (.sl 170 (.pr .int (.pr .int (.pr .bool .int)))) c.2.2]), (false, [dS name]), (false, [dS signs])] [] 0 (Is (PV.tup [(true, [.ref 0, .ref 1, .ref 2]), (false, [.ref 3]), (false, [dB ((insV c name signs).2)])]) [(0, some (.arr 129 (.pr .str .int) (((insV c name signs).1.1).1))), (1, some (.arr 9 .str (((insV c name signs).1.1).2.1))), (2, some (.arr 170 (.pr .int (.pr .int (.pr .bool .int))) (((insV c name signs).1.1).2.2))), (3, some (.arr 3 .int ((insV c name signs).1.2)))]) := by
 refine FC.O_all fun O_ hO => FC.ren (FC.of Try.func78 rfl rfl fun A_ hn_ hk_ => ?_)
 obtain ⟨w0_, N0_, X_, n_, k0_, h0_, f0_⟩ := A_
 obtain rfl : n_ = 114 := hn_.trans Try.ntmps78
 obtain rfl : k0_ = 0 := hk_
 refine AC.sr ?_
 refine AL.cons rfl (Does.box 0 (Ev.tmp rfl) rfl rfl (Fresh.of rfl) (nlr rfl)) ?_
 refine AL.cons rfl (Does.alloc 1 (.pr (.sl 129 (.pr .str .int)) (.pr (.sl 9 .str) (.sl 170 (.pr .int (.pr .int (.pr .bool .int)))))) zer_77 rfl rfl (Fresh.of rfl) (nlr rfl)) ?_
 refine AL.cons rfl (Does.assignC Evl.val rfl) ?_
 refine AL.cons rfl (Does.assignC Evl.bool rfl) ?_
 refine AL.nilS ?_
 refine AC.seq ?_
 refine AC.sr ?_
 refine AL.cons rfl (Does.loadPA (Evl.tmp rfl) rfl tsh_77 rfl rfl) ?_
 refine AL.cons rfl (Does.move rfl rfl) ?_
 refine AL.cons rfl (Does.call (fc_impl_IsValidPartition c signs) enters_130 ⟨_, _, rfl, (Ev.tmp rfl), ⟨_, _, rfl, (Ev.tmp rfl), rfl⟩⟩ rfl rfl) ?_
 refine AL.cons rfl (Does.move rfl rfl) ?_
 refine AL.cons rfl (Does.extract rfl rfl rfl) ?_
 refine AL.cons rfl (Does.extract rfl rfl rfl) ?_
 refine AL.cons rfl (Does.assign rfl rfl) ?_
 refine AL.cons rfl (Does.assign rfl rfl) ?_
 refine AL.nilS ?_
 refine AC.sr ?_
 refine AL.cons rfl (Does.move rfl rfl) ?_
 refine AL.cons rfl (Does.not (Evl.tmp rfl) rfl) ?_
 refine AL.cons rfl (Does.move rfl rfl) ?_
 cases hb1 : (decide (SignsOk c signs))
 ·have _h := hb1
  have hb1' : ¬ (SignsOk c signs) := of_decide_eq_false hb1
  refine AL.guard_no (b := false) rfl rfl rfl ?_ rfl
  refine AL.guard_no (b := false) rfl rfl rfl ?_ rfl
  refine AL.cons rfl (Does.pickT (Evl.tmp rfl) (Evl.ev Evl.bool) rfl) ?_
  refine AL.cons rfl (Does.move rfl rfl) ?_
  refine AL.guard_no (b := false) rfl rfl rfl ?_ rfl
  refine AL.guard_no (b := false) rfl rfl rfl ?_ rfl
  refine AL.guard_no (b := false) rfl rfl rfl ?_ rfl
  refine AL.cons rfl (Does.pickT (Evl.tmp rfl) (Evl.ev Evl.bool) rfl) ?_
  refine AL.cons rfl (Does.move rfl rfl) ?_
  refine AL.guard_no (b := false) rfl rfl rfl ?_ rfl
  refine AL.guard_no (b := false) rfl rfl rfl ?_ rfl
  refine AL.guard_no (b := false) rfl rfl rfl ?_ rfl
  refine AL.guard_no (b := false) rfl rfl rfl ?_ rfl
  refine AL.guard_no (b := false) rfl rfl rfl ?_ rfl
  refine AL.cons rfl (Does.pickT (Evl.tmp rfl) (Evl.ev Evl.bool) rfl) ?_
  refine AL.cons rfl (Does.move rfl rfl) ?_
  refine AL.guard_no (b := false) rfl rfl rfl ?_ rfl
  refine AL.guard_no (b := false) rfl rfl rfl ?_ rfl
  refine AL.guard_no (b := false) rfl rfl rfl ?_ rfl
  refine AL.guard_no (b := false) rfl rfl rfl ?_ rfl
  refine AL.cons rfl (Does.pickT (Evl.tmp rfl) (Evl.ev Evl.bool) rfl) ?_
  refine AL.nilS ?_
  refine AC.condT (Evl.tmp rfl) ?_
  refine AC.sr ?_
  refine AL.cons rfl (Does.build bld_77 rfl (List.all_eq_true.1 rfl) rfl rfl) ?_
  refine AL.cons rfl (Does.storeP (Evl.tmp rfl) rfl (Ev.tmp rfl) rfl tsh_77 rfl) ?_
  refine AL.cons rfl (Does.assignC Evl.val rfl) ?_
  refine AL.cons rfl (Does.assignC Evl.bool rfl) ?_
  refine AL.nilS ?_
  refine AC.wk (Wk.nilC 2 (p := 1) (off := 0) 129 (.pr .str .int) rfl rfl (Fresh.of rfl) (nlr rfl)) ?_
  refine AC.wk (Wk.nilC 3 (p := 1) (off := 1) 9 .str rfl rfl (Fresh.of rfl) (nlr rfl)) ?_
  refine AC.wk (Wk.nilC 4 (p := 1) (off := 2) 170 (.pr .int (.pr .int (.pr .bool .int))) rfl rfl (Fresh.of rfl) (nlr rfl)) ?_
  refine AC.wk (Wk.nilS 5 7 3 .int rfl (Fresh.of rfl) (nlr rfl)) ?_
  refine AC.ret ?_
  subst hO
  have e2 : (false : Bool) = ((insV c name signs).2) := by
   (rw [insV_no (insB_n1 (by assumption))]; done)
  exact fin_is _ _ [(0, 2), (1, 3), (2, 4), (3, 5)] (Res.three rfl (Rs.cell rfl rfl tsh_77 rfl) (Rs.tmp rfl) (Rs.tmp rfl)) ((congrArg (fun z_ => PV.tup [(true, [.ref 2, .ref 3, .ref 4]), (false, [.ref 5]), (false, [dB z_])]) e2)) ⟨(entE (by (rw [insV_no (insB_n1 (by assumption))]; rfl))), (entE (by (rw [insV_no (insB_n1 (by assumption))]; rfl))), (entE (by (rw [insV_no (insB_n1 (by assumption))]; rfl))), (entE (by (rw [insV_no (insB_n1 (by assumption))]; rfl))), trivial⟩ rfl rfl
 ·have _h := hb1
  have hb1' : (SignsOk c signs) := of_decide_eq_true hb1
  refine AL.guard_yes rfl rfl rfl (Does.move rfl rfl) ?_
  refine AL.guard_yes rfl rfl rfl (Does.not (Evl.tmp rfl) rfl) ?_
  refine AL.cons rfl (Does.pickF (Evl.tmp rfl) (Ev.tmp rfl) rfl) ?_
  refine AL.cons rfl (Does.move rfl rfl) ?_
  cases hb3 : (okP c signs)
  ·have _h := hb3
   refine AL.guard_no (b := false) rfl rfl rfl ?_ rfl
   refine AL.guard_no (b := false) rfl rfl rfl ?_ rfl
   refine AL.guard_no (b := false) rfl rfl rfl ?_ rfl
   refine AL.cons rfl (Does.pickT (Evl.tmp rfl) (Evl.ev Evl.bool) rfl) ?_
   refine AL.cons rfl (Does.move rfl rfl) ?_
   refine AL.guard_no (b := false) rfl rfl rfl ?_ rfl
   refine AL.guard_no (b := false) rfl rfl rfl ?_ rfl
   refine AL.guard_no (b := false) rfl rfl rfl ?_ rfl
   refine AL.guard_no (b := false) rfl rfl rfl ?_ rfl
   refine AL.guard_no (b := false) rfl rfl rfl ?_ rfl
   refine AL.cons rfl (Does.pickT (Evl.tmp rfl) (Evl.ev Evl.bool) rfl) ?_
   refine AL.cons rfl (Does.move rfl rfl) ?_
   refine AL.guard_no (b := false) rfl rfl rfl ?_ rfl
   refine AL.guard_no (b := false) rfl rfl rfl ?_ rfl
   refine AL.guard_no (b := false) rfl rfl rfl ?_ rfl
   refine AL.guard_no (b := false) rfl rfl rfl ?_ rfl
   refine AL.cons rfl (Does.pickT (Evl.tmp rfl) (Evl.ev Evl.bool) rfl) ?_
   refine AL.nilS ?_
   refine AC.condT (Evl.tmp rfl) ?_
   refine AC.sr ?_
   refine AL.cons rfl (Does.build bld_77 rfl (List.all_eq_true.1 rfl) rfl rfl) ?_
   refine AL.cons rfl (Does.storeP (Evl.tmp rfl) rfl (Ev.tmp rfl) rfl tsh_77 rfl) ?_
   refine AL.cons rfl (Does.assignC Evl.val rfl) ?_
   refine AL.cons rfl (Does.assignC Evl.bool rfl) ?_
   refine AL.nilS ?_
   refine AC.wk (Wk.nilC 6 (p := 1) (off := 0) 129 (.pr .str .int) rfl rfl (Fresh.of rfl) (nlr rfl)) ?_
   refine AC.wk (Wk.nilC 7 (p := 1) (off := 1) 9 .str rfl rfl (Fresh.of rfl) (nlr rfl)) ?_
   refine AC.wk (Wk.nilC 8 (p := 1) (off := 2) 170 (.pr .int (.pr .int (.pr .bool .int))) rfl rfl (Fresh.of rfl) (nlr rfl)) ?_
   refine AC.wk (Wk.nilS 9 7 3 .int rfl (Fresh.of rfl) (nlr rfl)) ?_
   refine AC.ret ?_
   subst hO
   have e4 : (false : Bool) = ((insV c name signs).2) := by
    (rw [insV_no (insB_n2 (by assumption))]; done)
   exact fin_is _ _ [(0, 6), (1, 7), (2, 8), (3, 9)] (Res.three rfl (Rs.cell rfl rfl tsh_77 rfl) (Rs.tmp rfl) (Rs.tmp rfl)) ((congrArg (fun z_ => PV.tup [(true, [.ref 6, .ref 7, .ref 8]), (false, [.ref 9]), (false, [dB z_])]) e4)) ⟨(entE (by (rw [insV_no (insB_n2 (by assumption))]; rfl))), (entE (by (rw [insV_no (insB_n2 (by assumption))]; rfl))), (entE (by (rw [insV_no (insB_n2 (by assumption))]; rfl))), (entE (by (rw [insV_no (insB_n2 (by assumption))]; rfl))), trivial⟩ rfl rfl
  ·have _h := hb3
   refine AL.guard_yes rfl rfl rfl (Does.move rfl rfl) ?_
   refine AL.guard_yes rfl rfl rfl (Does.call (fc_impl_isName name) enters_131 ⟨_, _, rfl, (Ev.tmp rfl), rfl⟩ rfl rfl) ?_
   refine AL.guard_yes rfl rfl rfl (Does.not (Evl.tmp rfl) rfl) ?_
   refine AL.cons rfl (Does.pickF (Evl.tmp rfl) (Ev.tmp rfl) rfl) ?_
   refine AL.cons rfl (Does.move rfl rfl) ?_
   cases hb5 : (decide (NameOk name))
   ·have _h := hb5
    have hb5' : ¬ (NameOk name) := of_decide_eq_false hb5
    refine AL.guard_no (b := false) rfl rfl rfl ?_ rfl
    refine AL.guard_no (b := false) rfl rfl rfl ?_ rfl
    refine AL.guard_no (b := false) rfl rfl rfl ?_ rfl
    refine AL.guard_no (b := false) rfl rfl rfl ?_ rfl
    refine AL.guard_no (b := false) rfl rfl rfl ?_ rfl
    refine AL.cons rfl (Does.pickT (Evl.tmp rfl) (Evl.ev Evl.bool) rfl) ?_
    refine AL.cons rfl (Does.move rfl rfl) ?_
    refine AL.guard_no (b := false) rfl rfl rfl ?_ rfl
    refine AL.guard_no (b := false) rfl rfl rfl ?_ rfl
    refine AL.guard_no (b := false) rfl rfl rfl ?_ rfl
    refine AL.guard_no (b := false) rfl rfl rfl ?_ rfl
    refine AL.cons rfl (Does.pickT (Evl.tmp rfl) (Evl.ev Evl.bool) rfl) ?_
    refine AL.nilS ?_
    refine AC.condT (Evl.tmp rfl) ?_
    refine AC.sr ?_
    refine AL.cons rfl (Does.build bld_77 rfl (List.all_eq_true.1 rfl) rfl rfl) ?_
    refine AL.cons rfl (Does.storeP (Evl.tmp rfl) rfl (Ev.tmp rfl) rfl tsh_77 rfl) ?_
    refine AL.cons rfl (Does.assignC Evl.val rfl) ?_
    refine AL.cons rfl (Does.assignC Evl.bool rfl) ?_
    refine AL.nilS ?_
    refine AC.wk (Wk.nilC 10 (p := 1) (off := 0) 129 (.pr .str .int) rfl rfl (Fresh.of rfl) (nlr rfl)) ?_
    refine AC.wk (Wk.nilC 11 (p := 1) (off := 1) 9 .str rfl rfl (Fresh.of rfl) (nlr rfl)) ?_
    refine AC.wk (Wk.nilC 12 (p := 1) (off := 2) 170 (.pr .int (.pr .int (.pr .bool .int))) rfl rfl (Fresh.of rfl) (nlr rfl)) ?_
    refine AC.wk (Wk.nilS 13 7 3 .int rfl (Fresh.of rfl) (nlr rfl)) ?_
    refine AC.ret ?_
    subst hO
    have e6 : (false : Bool) = ((insV c name signs).2) := by
     (rw [insV_no (insB_n3 (by assumption))]; done)
    exact fin_is _ _ [(0, 10), (1, 11), (2, 12), (3, 13)] (Res.three rfl (Rs.cell rfl rfl tsh_77 rfl) (Rs.tmp rfl) (Rs.tmp rfl)) ((congrArg (fun z_ => PV.tup [(true, [.ref 10, .ref 11, .ref 12]), (false, [.ref 13]), (false, [dB z_])]) e6)) ⟨(entE (by (rw [insV_no (insB_n3 (by assumption))]; rfl))), (entE (by (rw [insV_no (insB_n3 (by assumption))]; rfl))), (entE (by (rw [insV_no (insB_n3 (by assumption))]; rfl))), (entE (by (rw [insV_no (insB_n3 (by assumption))]; rfl))), trivial⟩ rfl rfl
   ·have _h := hb5
    have hb5' : (NameOk name) := of_decide_eq_true hb5
    refine AL.guard_yes rfl rfl rfl (Does.fieldP (Evl.tmp rfl) fld_77_0 rfl rfl) ?_
    refine AL.guard_yes rfl rfl rfl (Does.loadP (Evl.tmp rfl) rfl tsh_29 rfl rfl) ?_
    refine AL.guard_yes rfl rfl rfl (Does.move rfl rfl) ?_
    refine AL.guard_yes rfl rfl rfl (Does.call (fc_impl_signalOf c.1 name) enters_132 ⟨_, _, rfl, (Ev.tmp rfl), ⟨_, _, rfl, (Ev.tmp rfl), rfl⟩⟩ rfl rfl) ?_
    refine AL.guard_yes rfl rfl rfl (Does.geq (Evl.tmp rfl) (Evl.int rfl) rfl) ?_
    refine AL.cons rfl (Does.pickF (Evl.tmp rfl) (Ev.tmp rfl) rfl) ?_
    refine AL.cons rfl (Does.move rfl rfl) ?_
    cases hb7 : (decide (0 ≤ (idxF (fun x : DSignal => decide (x.1 = name)) c.1)))
    ·have _h := hb7
     have hb7' : ¬ (0 ≤ (idxF (fun x : DSignal => decide (x.1 = name)) c.1)) := of_decide_eq_false hb7
     refine AL.guard_yes rfl rfl rfl (Does.fieldP (Evl.tmp rfl) fld_77_0 rfl rfl) ?_
     refine AL.guard_yes rfl rfl rfl (Does.loadP (Evl.tmp rfl) rfl tsh_29 rfl rfl) ?_
     refine AL.fact (fact_len (x := .tmp 42) (Evl.tmp rfl)) fun hl8 => ?_
     refine AL.guard_yes rfl rfl rfl (Does.len (Evl.tmp rfl) rfl und_29) ?_
     refine AL.guard_yes rfl rfl rfl (Does.eql (Evl.tmp rfl) (Evl.int rfl) rfl) ?_
     refine AL.cons rfl (Does.pickF (Evl.tmp rfl) (Ev.tmp rfl) rfl) ?_
     refine AL.nilS ?_
     cases hb9 : (decide ((c.1.length : Int) = 8))
     ·have _h := hb9
      have hb9' : ¬ ((c.1.length : Int) = 8) := of_decide_eq_false hb9
      refine AC.condF (Evl.tmp rfl) ?_
      refine AC.skipS ?_
      refine AC.seq ?_
      have hsp : SignsOk c signs ∧ partV c signs = true := okP_iff.1 (by assumption)
      have hs := hsp.1
      have hsz := hs.2.1
      have hn3 := hs.2.2.some_
      have hfw := hs.2.2.few
      have hsl := sigs_len hs.2.2.sigs
      have hc : ∀ x ∈ c.2.1, x.size ≤ 1000 := fun x hx => by have := (hs.2.2.codes x hx).2; omega
      refine AC.region ?_
      refine AL.cons rfl (Does.loadPA (Evl.tmp rfl) rfl tsh_77 rfl rfl) ?_
      refine AL.cons rfl (Does.move rfl rfl) ?_
      refine AL.cons rfl (Does.makeMap (kt := 182) (et := 3) (kb := true) (k := (.pr .int .bool)) (vb := false) (v := .int) 14 rfl (Fresh.of rfl) (nlr rfl)) ?_
      refine AL.cons rfl (Does.buildV (bldV_of (offs := [(0, 3), (3, 1), (4, 3), (7, 1), (8, 1)]) (zs := [.slice none 0 0, .slice none 0 0, .slice none 0 0, .string ByteArray.empty, .slice none 0 0, .slice none 0 0, .slice none 0 0, .slice none 0 0, .map none]) Try.underlying178 (by kernel_rfl) (by kernel_rfl)) ⟨_, _, rfl, (Ev.tmp rfl), ⟨_, _, rfl, (Ev.tmp rfl), ⟨_, _, rfl, (Ev.tmp rfl), rfl⟩⟩⟩ (List.all_eq_true.1 rfl) rfl rfl) ?_
      refine AL.cons rfl (Does.box 15 (Ev.tmp rfl) rfl rfl (Fresh.of rfl) (nlr rfl)) ?_
      refine AL.cons rfl (Does.assign rfl rfl) ?_
      refine AL.nilS ?_
      refine AC.seq ?_
      refine AC.wk (s' := ⟨[(0, ag [.dat (.sl 129 (.pr .str .int)) c.1, .dat (.sl 9 .str) c.2.1, .dat (.sl 170 (.pr .int (.pr .int (.pr .bool .int)))) c.2.2]), (1, lf (dS name)), (2, lf (dS signs)), (3, lf (.ptr 0 0)), (6, lf (.ptr 1 0)), (7, lf (.val (.slice none 0 0))), (8, lf (dB false)), (9, lf (dB true)), (10, lf (dB true)), (11, lf (.ptr 15 0)), (16, PV.tup [(false, [dB true]), (false, [dB true])]), (17, ag [.dat (.sl 129 (.pr .str .int)) c.1, .dat (.sl 9 .str) c.2.1, .dat (.sl 170 (.pr .int (.pr .int (.pr .bool .int)))) c.2.2]), (18, lf (dS signs)), (19, PV.tup [(false, [dB true]), (false, [dB true])]), (20, lf (dB true)), (21, lf (dB true)), (22, lf (dB true)), (23, lf (dB (!true))), (24, lf (dB false)), (25, lf (dB true)), (26, lf (dB (!true))), (27, lf (dB (!true))), (28, lf (dB false)), (29, lf (dS name)), (30, lf (dB true)), (31, lf (dB (!true))), (32, lf (dB (!true))), (33, lf (dB false)), (34, lf (.ptr 0 0)), (35, lf (.dat (.sl 129 (.pr .str .int)) c.1)), (36, lf (dS name)), (37, lf (dI (idxF (fun x : DSignal => decide (x.1 = name)) c.1))), (38, lf (dB false)), (39, lf (dB false)), (40, lf (dB false)), (41, lf (.ptr 0 0)), (42, lf (.dat (.sl 129 (.pr .str .int)) c.1)), (43, lf (dI (c.1.length : Int))), (44, lf (dB false)), (45, lf (dB false)), (47, ag [.dat (.sl 129 (.pr .str .int)) c.1, .dat (.sl 9 .str) c.2.1, .dat (.sl 170 (.pr .int (.pr .int (.pr .bool .int)))) c.2.2]), (48, lf (dS signs)), (49, lf (.ref 14)), (50, ag [.dat (.sl 129 (.pr .str .int)) c.1, .dat (.sl 9 .str) c.2.1, .dat (.sl 170 (.pr .int (.pr .int (.pr .bool .int)))) c.2.2, dS signs, .val (.slice none 0 0), .val (.slice none 0 0), .val (.slice none 0 0), .val (.slice none 0 0), .ref 14]), (51, lf (.ptr 15 0))], [(0, some (.box 77 [.dat (.sl 129 (.pr .str .int)) c.1, .dat (.sl 9 .str) c.2.1, .dat (.sl 170 (.pr .int (.pr .int (.pr .bool .int)))) c.2.2])), (1, some (.box 77 [.val (.slice none 0 0), .val (.slice none 0 0), .val (.slice none 0 0)])), (14, some (.mp true (.pr .int .bool) false .int ([]))), (15, some (.box 178 [.dat (.sl 129 (.pr .str .int)) c.1, .dat (.sl 9 .str) c.2.1, .dat (.sl 170 (.pr .int (.pr .int (.pr .bool .int)))) c.2.2, dS signs, .val (.slice none 0 0), .val (.slice none 0 0), .val (.slice none 0 0), .val (.slice none 0 0), .ref 14]))]⟩) (Wk.of [(0, 0), (1, 1), (14, 14), (15, 15)] rfl ⟨rfl, rfl, rfl, rfl, rfl, rfl, rfl, rfl, rfl, rfl, rfl, rfl, rfl, rfl, rfl, rfl, rfl, rfl, rfl, rfl, rfl, rfl, rfl, rfl, rfl, rfl, rfl, rfl, rfl, rfl, rfl, rfl, rfl, rfl, rfl, rfl, rfl, rfl, rfl, rfl, rfl, rfl, rfl, rfl, rfl, trivial⟩ ⟨rfl, rfl, rfl, rfl, trivial⟩ rfl rfl) ?_
      refine AC.region ?_
      refine AL.cons rfl (Does.move rfl rfl) ?_
      refine AL.cons rfl (Does.fieldP (Evl.tmp rfl) fld_77_0 rfl rfl) ?_
      refine AL.cons rfl (Does.loadP (Evl.tmp rfl) rfl tsh_29 rfl rfl) ?_
      refine AL.cons rfl (Does.callO 16 (fc_slices_Clone_impl_Signal_impl_Signal c.1 (by omega)) enters_133 ⟨_, _, rfl, (Ev.tmp rfl), rfl⟩ rfl (Fresh.of rfl) (nlr rfl)) ?_
      refine AL.cons rfl (Does.move rfl rfl) ?_
      refine AL.cons rfl (Does.build bld_129 ⟨_, _, rfl, (Ev.tmp rfl), ⟨_, _, rfl, (Evl.ev (Evl.int rfl)), rfl⟩⟩ (List.all_eq_true.1 rfl) rfl rfl) ?_
      refine AL.cons rfl (Does.buildSlice 17 (e := (.pr .str .int)) und_29 tsh_129 zer_129 rfl ⟨_, _, rfl, (Ev.tmp rfl), rfl⟩ (List.all_eq_true.1 rfl) ⟨_, _, _, _, rfl, ⟨[dS name], [dI 3], _, _, _, _, rfl, rfl, ⟨rfl, rfl⟩, ⟨rfl, rfl⟩, rfl⟩, ⟨rfl, rfl⟩, rfl⟩ (by decide) rfl rfl (Fresh.of rfl) (nlr rfl)) ?_
      refine AL.cons rfl (Does.append 18 (Evl.tmp rfl) rfl (Evl.tmp rfl) rfl rfl und_29 elb_129 (by first | omega | (simp only [List.length_append, List.length_map, List.length_take, List.length_cons, List.length_nil]; omega)) rfl (Fresh.of rfl) (nlr rfl)) ?_
      refine AL.cons rfl (Does.nilP (Evl.tmp rfl) rfl rfl) ?_
      refine AL.cons rfl (Does.fieldP (Evl.tmp rfl) fld_178_2 rfl rfl) ?_
      refine AL.cons rfl (Does.fieldP (Evl.tmp rfl) fld_77_0 rfl rfl) ?_
      refine AL.cons rfl (Does.storeP (Evl.tmp rfl) rfl (Ev.tmp rfl) rfl tsh_29 rfl) ?_
      refine AL.nilS ?_
      refine AC.wk (Wk.nilC 19 (p := 15) (off := 7) 182 (.pr .int .bool) rfl rfl (Fresh.of rfl) (nlr rfl)) ?_
      refine AC.wk (Wk.nilC 21 (p := 15) (off := 5) 9 .str rfl rfl (Fresh.of rfl) (nlr rfl)) ?_
      refine AC.wk (Wk.nilC 23 (p := 15) (off := 6) 170 (.pr .int (.pr .int (.pr .bool .int))) rfl rfl (Fresh.of rfl) (nlr rfl)) ?_
      refine AC.join1 (fun s_ => ∃ (ps : List (Int × Bool)) (cs : List ByteArray) (as_ : List (Int × Int × Bool × Int)), ((ps, cs, as_) = startP c signs) ∧ s_ = ⟨[(6, lf (.ptr 1 0)), (7, lf (.val (.slice none 0 0))), (8, lf (dB false)), (11, lf (.ptr 15 0))], [(1, some (.box 77 [.val (.slice none 0 0), .val (.slice none 0 0), .val (.slice none 0 0)])), (14, some (.mp true (.pr .int .bool) false .int (idxM ps))), (15, some (.box 178 [.dat (.sl 129 (.pr .str .int)) c.1, .dat (.sl 9 .str) c.2.1, .dat (.sl 170 (.pr .int (.pr .int (.pr .bool .int)))) c.2.2, dS signs, .ref 18, .ref 22, .ref 24, .ref 20, .ref 14])), (18, some (.arr 129 (.pr .str .int) (c.1 ++ ([(name, 3)])))), (20, some (.arr 182 (.pr .int .bool) ps)), (22, some (.arr 9 .str cs)), (24, some (.arr 170 (.pr .int (.pr .int (.pr .bool .int))) as_))]⟩) ?_ fun J10 => ?_
      ·rintro s_ ⟨ps, cs, as_, hS, rfl⟩
       refine AC.seq ?_
       refine AC.sr ?_
       refine AL.cons rfl (Does.assignC (Evl.int rfl) rfl) ?_
       refine AL.nilS ?_
       refine AC.block ?_
       refine AC.loopW (fun m_ s_ => ∃ (k : Nat) (ps : List (Int × Bool)) (cs : List ByteArray) (as_ : List (Int × Int × Bool × Int)), k ≤ 601 ∧ m_ = 601 - k ∧ (buildP c signs = runP c signs (601 - k) k (ps, cs, as_)) ∧ (InsI c (ps, cs, as_)) ∧ (as_.length ≤ 4001 * k) ∧ s_ = ⟨[(6, lf (.ptr 1 0)), (7, lf (.val (.slice none 0 0))), (8, lf (dB false)), (11, lf (.ptr 15 0)), (12, lf (dI (k : Int)))], [(1, some (.box 77 [.val (.slice none 0 0), .val (.slice none 0 0), .val (.slice none 0 0)])), (14, some (.mp true (.pr .int .bool) false .int (idxM ps))), (15, some (.box 178 [.dat (.sl 129 (.pr .str .int)) c.1, .dat (.sl 9 .str) c.2.1, .dat (.sl 170 (.pr .int (.pr .int (.pr .bool .int)))) c.2.2, dS signs, .ref 18, .ref 26, .ref 27, .ref 25, .ref 14])), (18, some (.arr 129 (.pr .str .int) (c.1 ++ ([(name, 3)])))), (25, some (.arr 182 (.pr .int .bool) ps)), (26, some (.arr 9 .str cs)), (27, some (.arr 170 (.pr .int (.pr .int (.pr .bool .int))) as_))]⟩) ⟨0, ps, cs, as_, Nat.zero_le _, rfl, (by rw [hS]; rfl), (by rw [hS]; exact start_inv hn3.1), (by have := congrArg (fun st : Ins => st.2.2) hS; simp only [startP] at this; rw [this]; simp), rfl⟩ ?_ ?_
       · exact Wk.of [(1, 1), (14, 14), (15, 15), (18, 18), (25, 20), (26, 22), (27, 24)] rfl ⟨rfl, rfl, rfl, rfl, rfl, trivial⟩ ⟨rfl, rfl, rfl, rfl, rfl, rfl, rfl, trivial⟩ rfl rfl
       rintro m_ s_ ⟨k, ps, cs, as_, hk11, hm12, hA, hI, hL, rfl⟩
       have hfe : ps.length ≤ 600 := hI.few hn3.2
       have hle := hI.len
       have hle1 : cs.length = ps.length := hle
       refine AC.seq ?_
       refine AC.sr ?_
       refine AL.cons rfl (Does.move rfl rfl) ?_
       refine AL.cons rfl (Does.move rfl rfl) ?_
       refine AL.cons rfl (Does.nilP (Evl.tmp rfl) rfl rfl) ?_
       refine AL.cons rfl (Does.fieldP (Evl.tmp rfl) fld_178_3 rfl rfl) ?_
       refine AL.cons rfl (Does.loadP (Evl.tmp rfl) rfl tsh_176 rfl rfl) ?_
       refine AL.cons rfl (Does.lenO (Evl.tmp rfl) rfl rfl und_176) ?_
       refine AL.cons rfl (Does.lss (Evl.tmp rfl) (Evl.tmp rfl) rfl) ?_
       refine AL.nilS ?_
       cases hb13 : (decide ((k : Int) < (ps.length : Int)))
       ·have _h := hb13
        have hb13' : ¬ ((k : Int) < (ps.length : Int)) := of_decide_eq_false hb13
        refine AC.condF (Evl.tmp rfl) ?_
        refine AC.exit ?_
        refine (?_ : AC _ _ _ _ _)
        refine AC.seq ?_
        refine AC.sr ?_
        refine AL.cons rfl (Does.move rfl rfl) ?_
        refine AL.cons rfl (Does.nilP (Evl.tmp rfl) rfl rfl) ?_
        refine AL.cons rfl (Does.fieldP (Evl.tmp rfl) fld_178_2 rfl rfl) ?_
        refine AL.cons rfl (Does.loadPA (Evl.tmp rfl) rfl tsh_77 rfl rfl) ?_
        refine AL.cons rfl (Does.callB (fc_impl_IsValidStateGraph (c.1 ++ ([(name, 3)]), cs, as_)) enters_136 ⟨_, _, rfl, (Ev.ob (Ev.tmp rfl) ⟨_, _, rfl, .inr ⟨_, _, _, _, rfl, rfl, rfl⟩, ⟨_, _, rfl, .inr ⟨_, _, _, _, rfl, rfl, rfl⟩, ⟨_, _, rfl, .inr ⟨_, _, _, _, rfl, rfl, rfl⟩, rfl⟩⟩⟩), rfl⟩ rfl rfl rfl) ?_
        refine AL.cons rfl (Does.not (Evl.tmp rfl) rfl) ?_
        refine AL.nilS ?_
        cases hb14 : (decide (SgOk (c.1 ++ ([(name, 3)]), cs, as_)))
        ·have _h := hb14
         have hb14' : ¬ (SgOk (c.1 ++ ([(name, 3)]), cs, as_)) := of_decide_eq_false hb14
         refine AC.condT (Evl.tmp rfl) ?_
         refine AC.sr ?_
         refine AL.cons rfl (Does.build bld_77 rfl (List.all_eq_true.1 rfl) rfl rfl) ?_
         refine AL.cons rfl (Does.storeP (Evl.tmp rfl) rfl (Ev.tmp rfl) rfl tsh_77 rfl) ?_
         refine AL.cons rfl (Does.assignC Evl.val rfl) ?_
         refine AL.cons rfl (Does.assignC Evl.bool rfl) ?_
         refine AL.nilS ?_
         refine AC.wk (Wk.nilC 28 (p := 1) (off := 0) 129 (.pr .str .int) rfl rfl (Fresh.of rfl) (nlr rfl)) ?_
         refine AC.wk (Wk.nilC 29 (p := 1) (off := 1) 9 .str rfl rfl (Fresh.of rfl) (nlr rfl)) ?_
         refine AC.wk (Wk.nilC 30 (p := 1) (off := 2) 170 (.pr .int (.pr .int (.pr .bool .int))) rfl rfl (Fresh.of rfl) (nlr rfl)) ?_
         refine AC.wk (Wk.nilS 31 7 3 .int rfl (Fresh.of rfl) (nlr rfl)) ?_
         refine AC.ret ?_
         subst hO
         have e15 : (false : Bool) = ((insV c name signs).2) := by
          (rw [insV_bad (hA.trans (runP_out (by show ps.length ≤ k; omega))) (by assumption)]; done)
         exact fin_is _ _ [(0, 28), (1, 29), (2, 30), (3, 31)] (Res.three rfl (Rs.cell rfl rfl tsh_77 rfl) (Rs.tmp rfl) (Rs.tmp rfl)) ((congrArg (fun z_ => PV.tup [(true, [.ref 28, .ref 29, .ref 30]), (false, [.ref 31]), (false, [dB z_])]) e15)) ⟨(entE (by (rw [insV_bad (hA.trans (runP_out (by show ps.length ≤ k; omega))) (by assumption)]; rfl))), (entE (by (rw [insV_bad (hA.trans (runP_out (by show ps.length ≤ k; omega))) (by assumption)]; rfl))), (entE (by (rw [insV_bad (hA.trans (runP_out (by show ps.length ≤ k; omega))) (by assumption)]; rfl))), (entE (by (rw [insV_bad (hA.trans (runP_out (by show ps.length ≤ k; omega))) (by assumption)]; rfl))), trivial⟩ rfl rfl
        ·have _h := hb14
         have hb14' : (SgOk (c.1 ++ ([(name, 3)]), cs, as_)) := of_decide_eq_true hb14
         refine AC.condF (Evl.tmp rfl) ?_
         refine AC.skipS ?_
         refine AC.sr ?_
         refine AL.cons rfl (Does.buildSlice 32 (e := .int) und_72 tsh_3 zer_3 rfl rfl (List.all_eq_true.1 rfl) ⟨rfl, rfl⟩ (by decide) rfl rfl (Fresh.of rfl) (nlr rfl)) ?_
         refine AL.cons rfl (Does.assign rfl rfl) ?_
         refine AL.nilS ?_
         refine AC.seq ?_
         refine AC.sr ?_
         refine AL.cons rfl (Does.move rfl rfl) ?_
         refine AL.cons rfl (Does.nilP (Evl.tmp rfl) rfl rfl) ?_
         refine AL.cons rfl (Does.fieldP (Evl.tmp rfl) fld_178_3 rfl rfl) ?_
         refine AL.cons rfl (Does.loadP (Evl.tmp rfl) rfl tsh_176 rfl rfl) ?_
         refine AL.cons rfl (Does.lenO (Evl.tmp rfl) rfl rfl und_176) ?_
         refine AL.cons rfl (Does.moveC (Evl.int rfl) rfl) ?_
         refine AL.nilS ?_
         refine AC.block ?_
         refine AC.loopW (fun m_ s_ => ∃ (i : Nat), i ≤ ps.length ∧ m_ = ps.length - i ∧ s_ = ⟨[(6, lf (.ptr 1 0)), (7, lf (.val (.slice none 0 0))), (8, lf (dB false)), (11, lf (.ptr 15 0)), (13, lf (.ref 33)), (97, lf (.ref 25)), (98, lf (dI (ps.length : Int))), (99, lf (dI (i : Int)))], [(1, some (.box 77 [.val (.slice none 0 0), .val (.slice none 0 0), .val (.slice none 0 0)])), (14, some (.mp true (.pr .int .bool) false .int (idxM ps))), (15, some (.box 178 [.dat (.sl 129 (.pr .str .int)) c.1, .dat (.sl 9 .str) c.2.1, .dat (.sl 170 (.pr .int (.pr .int (.pr .bool .int)))) c.2.2, dS signs, .ref 18, .ref 26, .ref 27, .ref 25, .ref 14])), (18, some (.arr 129 (.pr .str .int) (c.1 ++ ([(name, 3)])))), (25, some (.arr 182 (.pr .int .bool) ps)), (26, some (.arr 9 .str cs)), (27, some (.arr 170 (.pr .int (.pr .int (.pr .bool .int))) as_)), (33, some (.arr 3 .int ((ps.take i).map (fun p => p.1))))]⟩) ⟨0, Nat.zero_le _, rfl, rfl⟩ ?_ ?_
         · exact Wk.of [(1, 1), (14, 14), (15, 15), (18, 18), (25, 25), (26, 26), (27, 27), (33, 32)] rfl ⟨rfl, rfl, rfl, rfl, rfl, rfl, rfl, rfl, trivial⟩ ⟨rfl, rfl, rfl, rfl, rfl, rfl, rfl, (entE (by first | rfl | simp)), trivial⟩ rfl rfl
         rintro m_ s_ ⟨i, hk16, hm17, rfl⟩
         have htl : (ps.take i).length ≤ ps.length := by simp only [List.length_take]; omega
         have hml : ((ps.take i).map (fun p => p.1)).length = (ps.take i).length := List.length_map ..
         refine AC.sr ?_
         refine AL.cons rfl (Does.lss (Evl.tmp rfl) (Evl.tmp rfl) rfl) ?_
         refine AL.nilS ?_
         refine AC.seq ?_
         cases hb18 : (decide ((i : Int) < (ps.length : Int)))
         ·have _h := hb18
          have hb18' : ¬ ((i : Int) < (ps.length : Int)) := of_decide_eq_false hb18
          refine AC.condF (Evl.tmp rfl) ?_
          refine AC.exit ?_
          refine (?_ : AC _ _ _ _ _)
          refine AC.sr ?_
          refine AL.cons rfl (Does.move rfl rfl) ?_
          refine AL.cons rfl (Does.nilP (Evl.tmp rfl) rfl rfl) ?_
          refine AL.cons rfl (Does.fieldP (Evl.tmp rfl) fld_178_2 rfl rfl) ?_
          refine AL.cons rfl (Does.loadPA (Evl.tmp rfl) rfl tsh_77 rfl rfl) ?_
          refine AL.cons rfl (Does.move rfl rfl) ?_
          refine AL.cons rfl (Does.storeP (Evl.tmp rfl) rfl (Ev.tmp rfl) rfl tsh_77 rfl) ?_
          refine AL.cons rfl (Does.assign rfl rfl) ?_
          refine AL.cons rfl (Does.assignC Evl.bool rfl) ?_
          refine AL.nilS ?_
          refine AC.ret ?_
          subst hO
          have e19 : (true : Bool) = ((insV c name signs).2) := by
           (rw [insV_yes (insB_yes (by assumption) (by assumption) (by assumption) (by first | assumption | omega)) (hA.trans (runP_out (by show ps.length ≤ k; omega))) (by assumption)]; done)
          exact fin_is _ _ [(0, 18), (1, 26), (2, 27), (3, 33)] (Res.three rfl (Rs.cell rfl rfl tsh_77 rfl) (Rs.tmp rfl) (Rs.tmp rfl)) ((congrArg (fun z_ => PV.tup [(true, [.ref 18, .ref 26, .ref 27]), (false, [.ref 33]), (false, [dB z_])]) e19)) ⟨(entE (by (rw [insV_yes (insB_yes (by assumption) (by assumption) (by assumption) (by first | assumption | omega)) (hA.trans (runP_out (by show ps.length ≤ k; omega))) (by assumption)]; rfl))), (entE (by (rw [insV_yes (insB_yes (by assumption) (by assumption) (by assumption) (by first | assumption | omega)) (hA.trans (runP_out (by show ps.length ≤ k; omega))) (by assumption)]; rfl))), (entE (by (rw [insV_yes (insB_yes (by assumption) (by assumption) (by assumption) (by first | assumption | omega)) (hA.trans (runP_out (by show ps.length ≤ k; omega))) (by assumption)]; rfl))), (entE (by (rw [insV_yes (insB_yes (by assumption) (by assumption) (by assumption) (by first | assumption | omega)) (hA.trans (runP_out (by show ps.length ≤ k; omega))) (by assumption), take_end (by omega)]; done))), trivial⟩ rfl rfl
         ·have _h := hb18
          have hb18' : ((i : Int) < (ps.length : Int)) := of_decide_eq_true hb18
          refine AC.condT (Evl.tmp rfl) ?_
          refine AC.skipS ?_
          refine AC.seq ?_
          refine AC.block ?_
          refine AC.sr ?_
          refine AL.cons rfl (Does.indexI (e := (.pr .int .bool)) (Evl.tmp rfl) rfl (Evl.tmp rfl) und_176 tsh_182 rfl (by omega) (by first | omega | (simp only [List.length_set]; omega))) ?_
          obtain ⟨x20, hx21⟩ : ∃ z, ps[i]? = some z := ⟨_, List.getElem?_eq_getElem (by omega)⟩
          refine AL.cons rfl (Does.loadIA (e := (.pr .int .bool)) (Evl.tmp rfl) rfl hx21 rfl tsh_182 rfl rfl) ?_
          refine AL.cons rfl (Does.alloc 34 (.pr .int .bool) zer_182 rfl rfl (Fresh.of rfl) (nlr rfl)) ?_
          refine AL.cons rfl (Does.storeP (Evl.tmp rfl) rfl (Ev.tmp rfl) rfl tsh_182 rfl) ?_
          refine AL.nilS ?_
          refine AC.region ?_
          refine AL.cons rfl (Does.move rfl rfl) ?_
          refine AL.cons rfl (Does.fieldP (Evl.tmp rfl) fld_182_0 rfl rfl) ?_
          refine AL.cons rfl (Does.loadP (Evl.tmp rfl) rfl tsh_3 rfl rfl) ?_
          refine AL.fact (fact_int (x := .tmp 105) (Evl.tmp rfl)) fun hi22 => ?_
          refine AL.cons rfl (Does.buildSlice 35 (e := .int) und_72 tsh_3 zer_3 rfl ⟨_, _, rfl, (Ev.tmp rfl), rfl⟩ (List.all_eq_true.1 rfl) ⟨_, _, _, _, rfl, ⟨rfl, rfl⟩, ⟨rfl, rfl⟩, rfl⟩ (by decide) rfl rfl (Fresh.of rfl) (nlr rfl)) ?_
          refine AL.cons rfl (Does.append 36 (Evl.tmp rfl) rfl (Evl.tmp rfl) rfl rfl und_72 elb_3 (by first | omega | (simp only [List.length_append, List.length_map, List.length_take, List.length_cons, List.length_nil]; omega)) rfl (Fresh.of rfl) (nlr rfl)) ?_
          refine AL.cons rfl (Does.assign rfl rfl) ?_
          refine AL.nil ?_
          refine (?_ : AC _ _ _ _ _)
          refine AC.region ?_
          refine AL.cons rfl (Does.add (Evl.tmp rfl) (Evl.int rfl) rfl (by omega)) ?_
          refine AL.cons rfl (Does.move rfl rfl) ?_
          refine AL.nil ?_
          refine lend ⟨i + 1, by omega, rfl, rfl⟩ (by omega) ?_
          exact Wk.of [(1, 1), (14, 14), (15, 15), (18, 18), (25, 25), (26, 26), (27, 27), (33, 36)] rfl ⟨rfl, rfl, rfl, rfl, rfl, rfl, rfl, rfl, trivial⟩ ⟨rfl, rfl, rfl, rfl, rfl, rfl, rfl, (entE (fst_step hx21)), trivial⟩ rfl rfl
       ·have _h := hb13
        have hb13' : ((k : Int) < (ps.length : Int)) := of_decide_eq_true hb13
        refine AC.condT (Evl.tmp rfl) ?_
        refine AC.skipS ?_
        refine AC.seq ?_
        refine AC.block ?_
        refine AC.region ?_
        refine AL.cons rfl (Does.move rfl rfl) ?_
        refine AL.cons rfl (Does.move rfl rfl) ?_
        refine AL.cons rfl (Does.callP 37 [(0, 15), (1, 18), (2, 14), (3, 26), (4, 27), (5, 25)] (fc_impl_inserter_expand c signs (c.1 ++ ([(name, 3)])) cs as_ ps (k : Int) (by omega) hs hI.rng (by omega)) enters_135 ⟨_, _, rfl, (Ev.tmp rfl), ⟨_, _, rfl, (Ev.tmp rfl), rfl⟩⟩ ⟨rfl, rfl, rfl, rfl, rfl, rfl, trivial⟩ rfl ⟨trivial, trivial, (Fresh.of rfl), (Fresh.of rfl), (Fresh.of rfl), trivial, trivial, (Fresh.of rfl), (Fresh.of rfl), (Fresh.of rfl), trivial, trivial⟩ (nlr rfl)) ?_
        refine AL.nil ?_
        refine (?_ : AC _ _ _ _ _)
        refine AC.region ?_
        refine AL.cons rfl (Does.move rfl rfl) ?_
        refine AL.cons rfl (Does.add (Evl.tmp rfl) (Evl.int rfl) rfl (by omega)) ?_
        refine AL.cons rfl (Does.assign rfl rfl) ?_
        refine AL.nil ?_
        refine lend ⟨k + 1, ((expP c signs (ps, cs, as_) (k : Int)).1), ((expP c signs (ps, cs, as_) (k : Int)).2.1), ((expP c signs (ps, cs, as_) (k : Int)).2.2), by omega, rfl, (by rw [hA]; exact runP_in (by show k < ps.length; omega) (by omega)), (expP_inv hs hI).1, (by have h_ : (expP c signs (ps, cs, as_) (k : Int)).2.2.length ≤ as_.length + 4001 := (expP_inv (k := (k : Int)) hs hI).2; omega), rfl⟩ (by omega) ?_
        exact Wk.of [(1, 1), (14, 14), (15, 15), (18, 18), (25, 42), (26, 40), (27, 41)] rfl ⟨rfl, rfl, rfl, rfl, rfl, trivial⟩ ⟨rfl, rfl, rfl, (entE (by first | rfl | simp)), rfl, rfl, rfl, trivial⟩ rfl rfl
      ·refine AC.sr ?_
       refine AL.cons rfl (Does.move rfl rfl) ?_
       refine AL.cons rfl (Does.move rfl rfl) ?_
       obtain ⟨c23, hc24⟩ : ∃ z, signs[(0 : Int).toNat]? = some z := ⟨_, getElem?_pos _ _ (by omega)⟩
       refine AL.cons rfl (Does.indexS (Evl.tmp rfl) (Evl.int rfl) rfl und_9 (by omega) hc24) ?_
       refine AL.cons rfl (Does.eqlU (Evl.tmp rfl) (Evl.u8 49 rfl) rfl) ?_
       refine AL.cons rfl (Does.move rfl rfl) ?_
       cases hb25 : (decide (c23 = 49))
       ·have _h := hb25
        have hb25' : ¬ (c23 = 49) := of_decide_eq_false hb25
        refine AL.guard_yes rfl rfl rfl (Does.move rfl rfl) ?_
        refine AL.guard_yes rfl rfl rfl (Does.indexS (Evl.tmp rfl) (Evl.int rfl) rfl und_9 (by omega) hc24) ?_
        refine AL.guard_yes rfl rfl rfl (Does.eqlU (Evl.tmp rfl) (Evl.u8 45 rfl) rfl) ?_
        refine AL.cons rfl (Does.pickF (Evl.tmp rfl) (Ev.tmp rfl) rfl) ?_
        refine AL.cons rfl (Does.build bld_182 ⟨_, _, rfl, (Evl.ev (Evl.int rfl)), ⟨_, _, rfl, (Ev.tmp rfl), rfl⟩⟩ (List.all_eq_true.1 rfl) rfl rfl) ?_
        refine AL.cons rfl (Does.callP 43 [(0, 15), (1, 18), (2, 23), (3, 14), (4, 21), (5, 19)] (fc_impl_inserter_number c signs (c.1 ++ ([(name, 3)])) ([]) ([]) ([]) (0, decide (c23 = 45)) (by first | omega | (refine ⟨?_, ?_⟩ <;> (try dsimp only) <;> omega)) hc (by simp)) enters_134 ⟨_, _, rfl, (Ev.tmp rfl), ⟨_, _, rfl, (Ev.tmp rfl), rfl⟩⟩ ⟨rfl, rfl, rfl, rfl, rfl, rfl, trivial⟩ rfl ⟨trivial, trivial, (Fresh.of rfl), trivial, (Fresh.of rfl), trivial, trivial, (Fresh.of rfl), trivial, (Fresh.of rfl), trivial, trivial⟩ (nlr rfl)) ?_
        refine AL.nilS ?_
        refine jend (J10 _ ⟨(psP ([]) (0, decide (c23 = 45))), (cdP c ([]) ([]) (0, decide (c23 = 45))), ([]), (by first | (unfold startP startB; rw [bAt_get (p := 0) (by assumption)]; simp [*]; done)), rfl⟩) ?_
        exact Wk.of [(1, 1), (14, 14), (15, 15), (18, 18), (20, 48), (22, 47), (24, 23)] rfl ⟨rfl, rfl, rfl, rfl, trivial⟩ ⟨rfl, rfl, rfl, (entE (by first | rfl | simp)), rfl, rfl, rfl, trivial⟩ rfl rfl
       ·have _h := hb25
        have hb25' : (c23 = 49) := of_decide_eq_true hb25
        refine AL.guard_no (b := false) rfl rfl rfl ?_ rfl
        refine AL.guard_no (b := false) rfl rfl rfl ?_ rfl
        refine AL.guard_no (b := false) rfl rfl rfl ?_ rfl
        refine AL.cons rfl (Does.pickT (Evl.tmp rfl) (Evl.ev Evl.bool) rfl) ?_
        refine AL.cons rfl (Does.build bld_182 ⟨_, _, rfl, (Evl.ev (Evl.int rfl)), ⟨_, _, rfl, (Ev.tmp rfl), rfl⟩⟩ (List.all_eq_true.1 rfl) rfl rfl) ?_
        refine AL.cons rfl (Does.callP 49 [(0, 15), (1, 18), (2, 23), (3, 14), (4, 21), (5, 19)] (fc_impl_inserter_number c signs (c.1 ++ ([(name, 3)])) ([]) ([]) ([]) (0, true) (by first | omega | (refine ⟨?_, ?_⟩ <;> (try dsimp only) <;> omega)) hc (by simp)) enters_134 ⟨_, _, rfl, (Ev.tmp rfl), ⟨_, _, rfl, (Ev.tmp rfl), rfl⟩⟩ ⟨rfl, rfl, rfl, rfl, rfl, rfl, trivial⟩ rfl ⟨trivial, trivial, (Fresh.of rfl), trivial, (Fresh.of rfl), trivial, trivial, (Fresh.of rfl), trivial, (Fresh.of rfl), trivial, trivial⟩ (nlr rfl)) ?_
        refine AL.nilS ?_
        refine jend (J10 _ ⟨(psP ([]) (0, true)), (cdP c ([]) ([]) (0, true)), ([]), (by first | (unfold startP startB; rw [bAt_get (p := 0) (by assumption)]; simp [*]; done)), rfl⟩) ?_
        exact Wk.of [(1, 1), (14, 14), (15, 15), (18, 18), (20, 54), (22, 53), (24, 23)] rfl ⟨rfl, rfl, rfl, rfl, trivial⟩ ⟨rfl, rfl, rfl, (entE (by first | rfl | simp)), rfl, rfl, rfl, trivial⟩ rfl rfl
     ·have _h := hb9
      have hb9' : ((c.1.length : Int) = 8) := of_decide_eq_true hb9
      refine AC.condT (Evl.tmp rfl) ?_
      refine AC.sr ?_
      refine AL.cons rfl (Does.build bld_77 rfl (List.all_eq_true.1 rfl) rfl rfl) ?_
      refine AL.cons rfl (Does.storeP (Evl.tmp rfl) rfl (Ev.tmp rfl) rfl tsh_77 rfl) ?_
      refine AL.cons rfl (Does.assignC Evl.val rfl) ?_
      refine AL.cons rfl (Does.assignC Evl.bool rfl) ?_
      refine AL.nilS ?_
      refine AC.wk (Wk.nilC 55 (p := 1) (off := 0) 129 (.pr .str .int) rfl rfl (Fresh.of rfl) (nlr rfl)) ?_
      refine AC.wk (Wk.nilC 56 (p := 1) (off := 1) 9 .str rfl rfl (Fresh.of rfl) (nlr rfl)) ?_
      refine AC.wk (Wk.nilC 57 (p := 1) (off := 2) 170 (.pr .int (.pr .int (.pr .bool .int))) rfl rfl (Fresh.of rfl) (nlr rfl)) ?_
      refine AC.wk (Wk.nilS 58 7 3 .int rfl (Fresh.of rfl) (nlr rfl)) ?_
      refine AC.ret ?_
      subst hO
      have e26 : (false : Bool) = ((insV c name signs).2) := by
       (rw [insV_no (insB_n5 (by assumption))]; done)
      exact fin_is _ _ [(0, 55), (1, 56), (2, 57), (3, 58)] (Res.three rfl (Rs.cell rfl rfl tsh_77 rfl) (Rs.tmp rfl) (Rs.tmp rfl)) ((congrArg (fun z_ => PV.tup [(true, [.ref 55, .ref 56, .ref 57]), (false, [.ref 58]), (false, [dB z_])]) e26)) ⟨(entE (by (rw [insV_no (insB_n5 (by assumption))]; rfl))), (entE (by (rw [insV_no (insB_n5 (by assumption))]; rfl))), (entE (by (rw [insV_no (insB_n5 (by assumption))]; rfl))), (entE (by (rw [insV_no (insB_n5 (by assumption))]; rfl))), trivial⟩ rfl rfl
    ·have _h := hb7
     have hb7' : (0 ≤ (idxF (fun x : DSignal => decide (x.1 = name)) c.1)) := of_decide_eq_true hb7
     refine AL.guard_no (b := false) rfl rfl rfl ?_ rfl
     refine AL.guard_no (b := false) rfl rfl rfl ?_ rfl
     refine AL.guard_no (b := false) rfl rfl rfl ?_ rfl
     refine AL.guard_no (b := false) rfl rfl rfl ?_ rfl
     refine AL.cons rfl (Does.pickT (Evl.tmp rfl) (Evl.ev Evl.bool) rfl) ?_
     refine AL.nilS ?_
     refine AC.condT (Evl.tmp rfl) ?_
     refine AC.sr ?_
     refine AL.cons rfl (Does.build bld_77 rfl (List.all_eq_true.1 rfl) rfl rfl) ?_
     refine AL.cons rfl (Does.storeP (Evl.tmp rfl) rfl (Ev.tmp rfl) rfl tsh_77 rfl) ?_
     refine AL.cons rfl (Does.assignC Evl.val rfl) ?_
     refine AL.cons rfl (Does.assignC Evl.bool rfl) ?_
     refine AL.nilS ?_
     refine AC.wk (Wk.nilC 59 (p := 1) (off := 0) 129 (.pr .str .int) rfl rfl (Fresh.of rfl) (nlr rfl)) ?_
     refine AC.wk (Wk.nilC 60 (p := 1) (off := 1) 9 .str rfl rfl (Fresh.of rfl) (nlr rfl)) ?_
     refine AC.wk (Wk.nilC 61 (p := 1) (off := 2) 170 (.pr .int (.pr .int (.pr .bool .int))) rfl rfl (Fresh.of rfl) (nlr rfl)) ?_
     refine AC.wk (Wk.nilS 62 7 3 .int rfl (Fresh.of rfl) (nlr rfl)) ?_
     refine AC.ret ?_
     subst hO
     have e27 : (false : Bool) = ((insV c name signs).2) := by
      (rw [insV_no (insB_n4 (by assumption))]; done)
     exact fin_is _ _ [(0, 59), (1, 60), (2, 61), (3, 62)] (Res.three rfl (Rs.cell rfl rfl tsh_77 rfl) (Rs.tmp rfl) (Rs.tmp rfl)) ((congrArg (fun z_ => PV.tup [(true, [.ref 59, .ref 60, .ref 61]), (false, [.ref 62]), (false, [dB z_])]) e27)) ⟨(entE (by (rw [insV_no (insB_n4 (by assumption))]; rfl))), (entE (by (rw [insV_no (insB_n4 (by assumption))]; rfl))), (entE (by (rw [insV_no (insB_n4 (by assumption))]; rfl))), (entE (by (rw [insV_no (insB_n4 (by assumption))]; rfl))), trivial⟩ rfl rfl

set_option maxRecDepth 100000 in
set_option maxHeartbeats 4000000 in
theorem fc_impl_InsertSignal (c : (List (ByteArray × Int)) × List ByteArray × (List (Int × Int × Bool × Int))) (name : ByteArray) (signs : ByteArray) [∀ c, Decidable (SgOk c)] [∀ s, Decidable (NameOk s)] (hnm : name.size ≤ 10000000) : FC Try.prog 38 [(true, [.dat (.sl 129 (.pr .str .int)) c.1, .dat (.sl 9 .str) c.2.1, .dat (.sl 170 (.pr .int (.pr .int (.pr .bool .int)))) c.2.2]), (false, [dS name]), (false, [dS signs])] [] 0 (Is (PV.tup [(true, [.ref 0, .ref 1, .ref 2]), (false, [dB ((insV c name signs).2)])]) [(0, some (.arr 129 (.pr .str .int) (((insV c name signs).1.1).1))), (1, some (.arr 9 .str (((insV c name signs).1.1).2.1))), (2, some (.arr 170 (.pr .int (.pr .int (.pr .bool .int))) (((insV c name signs).1.1).2.2)))]) := by
 refine FC.O_all fun O_ hO => FC.ren (FC.of Try.func38 rfl rfl fun A_ hn_ hk_ => ?_)
 obtain ⟨w0_, N0_, X_, n_, k0_, h0_, f0_⟩ := A_
 obtain rfl : n_ = 21 := hn_.trans Try.ntmps38
 obtain rfl : k0_ = 0 := hk_
 refine AC.sr ?_
 refine AL.cons rfl (Does.box 0 (Ev.tmp rfl) rfl rfl (Fresh.of rfl) (nlr rfl)) ?_
 refine AL.cons rfl (Does.alloc 1 (.pr (.sl 129 (.pr .str .int)) (.pr (.sl 9 .str) (.sl 170 (.pr .int (.pr .int (.pr .bool .int)))))) zer_77 rfl rfl (Fresh.of rfl) (nlr rfl)) ?_
 refine AL.cons rfl (Does.assignC Evl.bool rfl) ?_
 refine AL.nilS ?_
 refine AC.sr ?_
 refine AL.cons rfl (Does.loadPA (Evl.tmp rfl) rfl tsh_77 rfl rfl) ?_
 refine AL.cons rfl (Does.move rfl rfl) ?_
 refine AL.cons rfl (Does.move rfl rfl) ?_
 refine AL.cons rfl (Does.callG 2 (fc_impl_inserted c name signs hnm) enters_78 ⟨_, _, rfl, (Ev.tmp rfl), ⟨_, _, rfl, (Ev.tmp rfl), ⟨_, _, rfl, (Ev.tmp rfl), rfl⟩⟩⟩ rfl rfl ⟨Fresh.of rfl, Fresh.of rfl, Fresh.of rfl, Fresh.of rfl, trivial⟩ (nlr rfl)) ?_
 refine AL.cons rfl (Does.move rfl rfl) ?_
 refine AL.cons rfl (Does.extract rfl rfl rfl) ?_
 refine AL.cons rfl (Does.extract rfl rfl rfl) ?_
 refine AL.cons rfl (Does.extract rfl rfl rfl) ?_
 refine AL.cons rfl (Does.alloc 6 (.pr (.sl 129 (.pr .str .int)) (.pr (.sl 9 .str) (.sl 170 (.pr .int (.pr .int (.pr .bool .int)))))) zer_77 rfl rfl (Fresh.of rfl) (nlr rfl)) ?_
 refine AL.cons rfl (Does.storeP (Evl.tmp rfl) rfl (Ev.tmp rfl) rfl tsh_77 rfl) ?_
 refine AL.cons rfl (Does.assign rfl rfl) ?_
 refine AL.cons rfl (Does.assign rfl rfl) ?_
 refine AL.nilS ?_
 refine AC.sr ?_
 refine AL.cons rfl (Does.loadPA (Evl.tmp rfl) rfl tsh_77 rfl rfl) ?_
 refine AL.cons rfl (Does.move rfl rfl) ?_
 refine AL.cons rfl (Does.storeP (Evl.tmp rfl) rfl (Ev.tmp rfl) rfl tsh_77 rfl) ?_
 refine AL.cons rfl (Does.assign rfl rfl) ?_
 refine AL.nilS ?_
 refine AC.ret ?_
 subst hO
 exact fin_is _ _ [(0, 2), (1, 3), (2, 4)] (Res.two rfl (Rs.cell rfl rfl tsh_77 rfl) (Rs.tmp rfl)) (rfl) ⟨rfl, rfl, rfl, trivial⟩ rfl rfl

set_option maxRecDepth 100000 in
set_option maxHeartbeats 4000000 in
theorem fc_impl_OriginalStates (c : (List (ByteArray × Int)) × List ByteArray × (List (Int × Int × Bool × Int))) (name : ByteArray) (signs : ByteArray) [∀ c, Decidable (SgOk c)] [∀ s, Decidable (NameOk s)] (hnm : name.size ≤ 10000000) : FC Try.prog 31 [(true, [.dat (.sl 129 (.pr .str .int)) c.1, .dat (.sl 9 .str) c.2.1, .dat (.sl 170 (.pr .int (.pr .int (.pr .bool .int)))) c.2.2]), (false, [dS name]), (false, [dS signs])] [] 0 (Is (PV.tup [(false, [.ref 0]), (false, [dB ((insV c name signs).2)])]) [(0, some (.arr 3 .int ((insV c name signs).1.2)))]) := by
 refine FC.O_all fun O_ hO => FC.ren (FC.of Try.func31 rfl rfl fun A_ hn_ hk_ => ?_)
 obtain ⟨w0_, N0_, X_, n_, k0_, h0_, f0_⟩ := A_
 obtain rfl : n_ = 21 := hn_.trans Try.ntmps31
 obtain rfl : k0_ = 0 := hk_
 refine AC.sr ?_
 refine AL.cons rfl (Does.box 0 (Ev.tmp rfl) rfl rfl (Fresh.of rfl) (nlr rfl)) ?_
 refine AL.cons rfl (Does.assignC Evl.val rfl) ?_
 refine AL.cons rfl (Does.assignC Evl.bool rfl) ?_
 refine AL.nilS ?_
 refine AC.sr ?_
 refine AL.cons rfl (Does.loadPA (Evl.tmp rfl) rfl tsh_77 rfl rfl) ?_
 refine AL.cons rfl (Does.move rfl rfl) ?_
 refine AL.cons rfl (Does.move rfl rfl) ?_
 refine AL.cons rfl (Does.callG 1 (fc_impl_inserted c name signs hnm) enters_78 ⟨_, _, rfl, (Ev.tmp rfl), ⟨_, _, rfl, (Ev.tmp rfl), ⟨_, _, rfl, (Ev.tmp rfl), rfl⟩⟩⟩ rfl rfl ⟨Fresh.of rfl, Fresh.of rfl, Fresh.of rfl, Fresh.of rfl, trivial⟩ (nlr rfl)) ?_
 refine AL.cons rfl (Does.move rfl rfl) ?_
 refine AL.cons rfl (Does.extract rfl rfl rfl) ?_
 refine AL.cons rfl (Does.extract rfl rfl rfl) ?_
 refine AL.cons rfl (Does.extract rfl rfl rfl) ?_
 refine AL.cons rfl (Does.alloc 5 (.pr (.sl 129 (.pr .str .int)) (.pr (.sl 9 .str) (.sl 170 (.pr .int (.pr .int (.pr .bool .int)))))) zer_77 rfl rfl (Fresh.of rfl) (nlr rfl)) ?_
 refine AL.cons rfl (Does.storeP (Evl.tmp rfl) rfl (Ev.tmp rfl) rfl tsh_77 rfl) ?_
 refine AL.cons rfl (Does.assign rfl rfl) ?_
 refine AL.cons rfl (Does.assign rfl rfl) ?_
 refine AL.nilS ?_
 refine AC.sr ?_
 refine AL.cons rfl (Does.move rfl rfl) ?_
 refine AL.cons rfl (Does.move rfl rfl) ?_
 refine AL.cons rfl (Does.assign rfl rfl) ?_
 refine AL.cons rfl (Does.assign rfl rfl) ?_
 refine AL.nilS ?_
 refine AC.ret ?_
 subst hO
 exact fin_is _ _ [(0, 4)] (Res.two rfl (Rs.tmp rfl) (Rs.tmp rfl)) (rfl) ⟨rfl, trivial⟩ rfl rfl

set_option maxRecDepth 100000 in
set_option maxHeartbeats 4000000 in
theorem fc_spec_l11Build (c : (List (ByteArray × Int)) × List ByteArray × (List (Int × Int × Bool × Int))) (name : ByteArray) (signs : ByteArray) (hs : SignsOk c signs) (hnm : name.size ≤ 10000000) : FC Try.prog 127 [(true, [.dat (.sl 129 (.pr .str .int)) c.1, .dat (.sl 9 .str) c.2.1, .dat (.sl 170 (.pr .int (.pr .int (.pr .bool .int)))) c.2.2]), (false, [dS name]), (false, [dS signs])] [] 0 (Is (PV.tup [(true, [.ref 0, .ref 1, .ref 2]), (false, [.ref 3])]) [(0, some (.arr 129 (.pr .str .int) ((outP c name (buildP c signs)).1))), (1, some (.arr 9 .str ((outP c name (buildP c signs)).2.1))), (2, some (.arr 170 (.pr .int (.pr .int (.pr .bool .int))) ((outP c name (buildP c signs)).2.2))), (3, some (.arr 3 .int ((buildP c signs).1.map (fun p => p.1))))]) := by
 have hsz := hs.2.1
 have hn3 := hs.2.2.some_
 have hfw := hs.2.2.few
 have hsl := sigs_len hs.2.2.sigs
 have hc : ∀ x ∈ c.2.1, x.size ≤ 1000 := fun x hx => by have := (hs.2.2.codes x hx).2; omega
 refine FC.O_all fun O_ hO => FC.ren (FC.of Try.func127 rfl rfl fun A_ hn_ hk_ => ?_)
 obtain ⟨w0_, N0_, X_, n_, k0_, h0_, f0_⟩ := A_
 obtain rfl : n_ = 73 := hn_.trans Try.ntmps127
 obtain rfl : k0_ = 0 := hk_
 refine AC.sr ?_
 refine AL.cons rfl (Does.box 0 (Ev.tmp rfl) rfl rfl (Fresh.of rfl) (nlr rfl)) ?_
 refine AL.cons rfl (Does.alloc 1 (.pr (.sl 129 (.pr .str .int)) (.pr (.sl 9 .str) (.sl 170 (.pr .int (.pr .int (.pr .bool .int)))))) zer_77 rfl rfl (Fresh.of rfl) (nlr rfl)) ?_
 refine AL.cons rfl (Does.assignC Evl.val rfl) ?_
 refine AL.nilS ?_
 refine AC.sr ?_
 refine AL.cons rfl (Does.loadPA (Evl.tmp rfl) rfl tsh_77 rfl rfl) ?_
 refine AL.cons rfl (Does.move rfl rfl) ?_
 refine AL.cons rfl (Does.build bld_213 ⟨_, _, rfl, (Ev.tmp rfl), ⟨_, _, rfl, (Ev.tmp rfl), rfl⟩⟩ (List.all_eq_true.1 rfl) rfl rfl) ?_
 refine AL.cons rfl (Does.box 2 (Ev.tmp rfl) rfl rfl (Fresh.of rfl) (nlr rfl)) ?_
 refine AL.cons rfl (Does.assign rfl rfl) ?_
 refine AL.nilS ?_
 refine AC.seq ?_
 refine AC.wk (s' := ⟨[(0, ag [.dat (.sl 129 (.pr .str .int)) c.1, .dat (.sl 9 .str) c.2.1, .dat (.sl 170 (.pr .int (.pr .int (.pr .bool .int)))) c.2.2]), (1, lf (dS name)), (2, lf (dS signs)), (3, lf (.ptr 0 0)), (6, lf (.ptr 1 0)), (7, lf (.val (.slice none 0 0))), (8, lf (.ptr 2 0)), (14, ag [.dat (.sl 129 (.pr .str .int)) c.1, .dat (.sl 9 .str) c.2.1, .dat (.sl 170 (.pr .int (.pr .int (.pr .bool .int)))) c.2.2]), (15, lf (dS signs)), (16, ag [.dat (.sl 129 (.pr .str .int)) c.1, .dat (.sl 9 .str) c.2.1, .dat (.sl 170 (.pr .int (.pr .int (.pr .bool .int)))) c.2.2, dS signs, .val (.slice none 0 0), .val (.slice none 0 0), .val (.slice none 0 0), .val (.slice none 0 0)]), (17, lf (.ptr 2 0))], [(0, some (.box 77 [.dat (.sl 129 (.pr .str .int)) c.1, .dat (.sl 9 .str) c.2.1, .dat (.sl 170 (.pr .int (.pr .int (.pr .bool .int)))) c.2.2])), (1, some (.box 77 [.val (.slice none 0 0), .val (.slice none 0 0), .val (.slice none 0 0)])), (2, some (.box 213 [.dat (.sl 129 (.pr .str .int)) c.1, .dat (.sl 9 .str) c.2.1, .dat (.sl 170 (.pr .int (.pr .int (.pr .bool .int)))) c.2.2, dS signs, .val (.slice none 0 0), .val (.slice none 0 0), .val (.slice none 0 0), .val (.slice none 0 0)]))]⟩) (Wk.of [(0, 0), (1, 1), (2, 2)] rfl ⟨rfl, rfl, rfl, rfl, rfl, rfl, rfl, rfl, rfl, rfl, rfl, trivial⟩ ⟨rfl, rfl, rfl, trivial⟩ rfl rfl) ?_
 refine AC.region ?_
 refine AL.cons rfl (Does.move rfl rfl) ?_
 refine AL.cons rfl (Does.buildSlice 3 (e := (.pr .str .int)) und_29 tsh_129 zer_129 rfl rfl (List.all_eq_true.1 rfl) ⟨rfl, rfl⟩ (by decide) rfl rfl (Fresh.of rfl) (nlr rfl)) ?_
 refine AL.cons rfl (Does.fieldP (Evl.tmp rfl) fld_77_0 rfl rfl) ?_
 refine AL.cons rfl (Does.loadP (Evl.tmp rfl) rfl tsh_29 rfl rfl) ?_
 refine AL.cons rfl (Does.appendF 4 (Evl.tmp rfl) rfl (Evl.rep (Evl.tmp rfl)) rfl und_29 elb_129 (by first | omega | (simp only [List.length_append, List.length_map, List.length_take, List.length_cons, List.length_nil]; omega)) rfl (Fresh.of rfl) (nlr rfl)) ?_
 refine AL.cons rfl (Does.move rfl rfl) ?_
 refine AL.cons rfl (Does.build bld_129 ⟨_, _, rfl, (Ev.tmp rfl), ⟨_, _, rfl, (Evl.ev (Evl.int rfl)), rfl⟩⟩ (List.all_eq_true.1 rfl) rfl rfl) ?_
 refine AL.cons rfl (Does.buildSlice 5 (e := (.pr .str .int)) und_29 tsh_129 zer_129 rfl ⟨_, _, rfl, (Ev.tmp rfl), rfl⟩ (List.all_eq_true.1 rfl) ⟨_, _, _, _, rfl, ⟨[dS name], [dI 3], _, _, _, _, rfl, rfl, ⟨rfl, rfl⟩, ⟨rfl, rfl⟩, rfl⟩, ⟨rfl, rfl⟩, rfl⟩ (by decide) rfl rfl (Fresh.of rfl) (nlr rfl)) ?_
 refine AL.cons rfl (Does.append 6 (Evl.tmp rfl) rfl (Evl.tmp rfl) rfl rfl und_29 elb_129 (by first | omega | (simp only [List.length_append, List.length_map, List.length_take, List.length_cons, List.length_nil]; omega)) rfl (Fresh.of rfl) (nlr rfl)) ?_
 refine AL.cons rfl (Does.nilP (Evl.tmp rfl) rfl rfl) ?_
 refine AL.cons rfl (Does.fieldP (Evl.tmp rfl) fld_213_3 rfl rfl) ?_
 refine AL.cons rfl (Does.fieldP (Evl.tmp rfl) fld_77_0 rfl rfl) ?_
 refine AL.cons rfl (Does.storeP (Evl.tmp rfl) rfl (Ev.tmp rfl) rfl tsh_29 rfl) ?_
 refine AL.nilS ?_
 refine AC.sr ?_
 refine AL.cons rfl (Does.assignC (Evl.int rfl) rfl) ?_
 refine AL.nilS ?_
 refine AC.wk (Wk.nilC 7 (p := 2) (off := 4) 3 .int rfl rfl (Fresh.of rfl) (nlr rfl)) ?_
 refine AC.wk (Wk.nilC 9 (p := 2) (off := 6) 9 .str rfl rfl (Fresh.of rfl) (nlr rfl)) ?_
 refine AC.wk (Wk.nilC 11 (p := 2) (off := 7) 170 (.pr .int (.pr .int (.pr .bool .int))) rfl rfl (Fresh.of rfl) (nlr rfl)) ?_
 refine AC.join2 (fun s_ => ∃ (cs : List ByteArray) (as_ : List (Int × Int × Bool × Int)) (ps : List PSt), ((ps, cs, as_) = startP c signs) ∧ s_ = ⟨[(6, lf (.ptr 1 0)), (7, lf (.val (.slice none 0 0))), (8, lf (.ptr 2 0))], [(1, some (.box 77 [.val (.slice none 0 0), .val (.slice none 0 0), .val (.slice none 0 0)])), (2, some (.box 213 [.dat (.sl 129 (.pr .str .int)) c.1, .dat (.sl 9 .str) c.2.1, .dat (.sl 170 (.pr .int (.pr .int (.pr .bool .int)))) c.2.2, dS signs, .ref 8, .ref 6, .ref 10, .ref 12])), (6, some (.arr 129 (.pr .str .int) ((([]) ++ c.1) ++ ([(name, 3)])))), (8, some (.arr 3 .int (ps.map keyP))), (10, some (.arr 9 .str cs)), (12, some (.arr 170 (.pr .int (.pr .int (.pr .bool .int))) as_))]⟩) ?_ fun J1 => ?_
 ·rintro s_ ⟨cs, as_, ps, hS, rfl⟩
  refine AC.seq ?_
  refine AC.sr ?_
  refine AL.cons rfl (Does.assignC (Evl.int rfl) rfl) ?_
  refine AL.nilS ?_
  refine AC.block ?_
  refine AC.loopW (fun m_ s_ => ∃ (k : Nat) (cs : List ByteArray) (as_ : List (Int × Int × Bool × Int)) (ps : List PSt), k ≤ 601 ∧ m_ = 601 - k ∧ (buildP c signs = runP c signs (601 - k) k (ps, cs, as_)) ∧ (InsI c (ps, cs, as_)) ∧ (as_.length ≤ 4001 * k) ∧ s_ = ⟨[(6, lf (.ptr 1 0)), (7, lf (.val (.slice none 0 0))), (8, lf (.ptr 2 0)), (10, lf (dI (k : Int)))], [(1, some (.box 77 [.val (.slice none 0 0), .val (.slice none 0 0), .val (.slice none 0 0)])), (2, some (.box 213 [.dat (.sl 129 (.pr .str .int)) c.1, .dat (.sl 9 .str) c.2.1, .dat (.sl 170 (.pr .int (.pr .int (.pr .bool .int)))) c.2.2, dS signs, .ref 13, .ref 6, .ref 14, .ref 15])), (6, some (.arr 129 (.pr .str .int) ((([]) ++ c.1) ++ ([(name, 3)])))), (13, some (.arr 3 .int (ps.map keyP))), (14, some (.arr 9 .str cs)), (15, some (.arr 170 (.pr .int (.pr .int (.pr .bool .int))) as_))]⟩) ⟨0, cs, as_, ps, Nat.zero_le _, rfl, (by rw [hS]; rfl), (by rw [hS]; exact start_inv hn3.1), (by have := congrArg (fun st : Ins => st.2.2) hS; simp only [startP] at this; rw [this]; simp), rfl⟩ ?_ ?_
  · exact Wk.of [(1, 1), (2, 2), (6, 6), (13, 8), (14, 10), (15, 12)] rfl ⟨rfl, rfl, rfl, rfl, trivial⟩ ⟨rfl, rfl, rfl, rfl, rfl, rfl, trivial⟩ rfl rfl
  rintro m_ s_ ⟨k, cs, as_, ps, hk2, hm3, hA, hI, hL, rfl⟩
  have hfe : ps.length ≤ 600 := hI.few hn3.2
  have hle := hI.len
  have hle1 : cs.length = ps.length := hle
  have hkl : (ps.map keyP).length = ps.length := List.length_map ..
  refine AC.seq ?_
  refine AC.sr ?_
  refine AL.cons rfl (Does.move rfl rfl) ?_
  refine AL.cons rfl (Does.move rfl rfl) ?_
  refine AL.cons rfl (Does.nilP (Evl.tmp rfl) rfl rfl) ?_
  refine AL.cons rfl (Does.fieldP (Evl.tmp rfl) fld_213_2 rfl rfl) ?_
  refine AL.cons rfl (Does.loadP (Evl.tmp rfl) rfl tsh_72 rfl rfl) ?_
  refine AL.cons rfl (Does.lenO (Evl.tmp rfl) rfl rfl und_72) ?_
  refine AL.cons rfl (Does.lss (Evl.tmp rfl) (Evl.tmp rfl) rfl) ?_
  refine AL.nilS ?_
  cases hb4 : (decide ((k : Int) < ((ps.map keyP).length : Int)))
  ·have _h := hb4
   have hb4' : ¬ ((k : Int) < ((ps.map keyP).length : Int)) := of_decide_eq_false hb4
   refine AC.condF (Evl.tmp rfl) ?_
   refine AC.exit ?_
   refine (?_ : AC _ _ _ _ _)
   refine AC.sr ?_
   refine AL.cons rfl (Does.assignC Evl.val rfl) ?_
   refine AL.nilS ?_
   refine AC.seq ?_
   refine AC.sr ?_
   refine AL.cons rfl (Does.move rfl rfl) ?_
   refine AL.cons rfl (Does.nilP (Evl.tmp rfl) rfl rfl) ?_
   refine AL.cons rfl (Does.fieldP (Evl.tmp rfl) fld_213_2 rfl rfl) ?_
   refine AL.cons rfl (Does.loadP (Evl.tmp rfl) rfl tsh_72 rfl rfl) ?_
   refine AL.cons rfl (Does.lenO (Evl.tmp rfl) rfl rfl und_72) ?_
   refine AL.cons rfl (Does.moveC (Evl.int rfl) rfl) ?_
   refine AL.nilS ?_
   refine AC.block ?_
   refine AC.wk (Wk.nilS 16 11 3 .int rfl (Fresh.of rfl) (nlr rfl)) ?_
   refine AC.loopW (fun m_ s_ => ∃ (i : Nat), i ≤ ps.length ∧ m_ = ps.length - i ∧ s_ = ⟨[(6, lf (.ptr 1 0)), (7, lf (.val (.slice none 0 0))), (8, lf (.ptr 2 0)), (11, lf (.ref 17)), (56, lf (.ref 13)), (57, lf (dI ((ps.map keyP).length : Int))), (58, lf (dI (i : Int)))], [(1, some (.box 77 [.val (.slice none 0 0), .val (.slice none 0 0), .val (.slice none 0 0)])), (2, some (.box 213 [.dat (.sl 129 (.pr .str .int)) c.1, .dat (.sl 9 .str) c.2.1, .dat (.sl 170 (.pr .int (.pr .int (.pr .bool .int)))) c.2.2, dS signs, .ref 13, .ref 6, .ref 14, .ref 15])), (6, some (.arr 129 (.pr .str .int) ((([]) ++ c.1) ++ ([(name, 3)])))), (13, some (.arr 3 .int (ps.map keyP))), (14, some (.arr 9 .str cs)), (15, some (.arr 170 (.pr .int (.pr .int (.pr .bool .int))) as_)), (17, some (.arr 3 .int ((ps.take i).map (fun p => p.1))))]⟩) ⟨0, Nat.zero_le _, rfl, rfl⟩ ?_ ?_
   · exact Wk.of [(1, 1), (2, 2), (6, 6), (13, 13), (14, 14), (15, 15), (17, 16)] rfl ⟨rfl, rfl, rfl, rfl, rfl, rfl, rfl, trivial⟩ ⟨rfl, rfl, rfl, rfl, rfl, rfl, (entE (by first | rfl | simp)), trivial⟩ rfl rfl
   rintro m_ s_ ⟨i, hk5, hm6, rfl⟩
   have htl : (ps.take i).length ≤ ps.length := by simp only [List.length_take]; omega
   have hml : ((ps.take i).map (fun p => p.1)).length = (ps.take i).length := List.length_map ..
   refine AC.sr ?_
   refine AL.cons rfl (Does.lss (Evl.tmp rfl) (Evl.tmp rfl) rfl) ?_
   refine AL.nilS ?_
   refine AC.seq ?_
   cases hb7 : (decide ((i : Int) < ((ps.map keyP).length : Int)))
   ·have _h := hb7
    have hb7' : ¬ ((i : Int) < ((ps.map keyP).length : Int)) := of_decide_eq_false hb7
    refine AC.condF (Evl.tmp rfl) ?_
    refine AC.exit ?_
    refine (?_ : AC _ _ _ _ _)
    refine AC.sr ?_
    refine AL.cons rfl (Does.move rfl rfl) ?_
    refine AL.cons rfl (Does.nilP (Evl.tmp rfl) rfl rfl) ?_
    refine AL.cons rfl (Does.fieldP (Evl.tmp rfl) fld_213_3 rfl rfl) ?_
    refine AL.cons rfl (Does.loadPA (Evl.tmp rfl) rfl tsh_77 rfl rfl) ?_
    refine AL.cons rfl (Does.move rfl rfl) ?_
    refine AL.cons rfl (Does.storeP (Evl.tmp rfl) rfl (Ev.tmp rfl) rfl tsh_77 rfl) ?_
    refine AL.cons rfl (Does.assign rfl rfl) ?_
    refine AL.nilS ?_
    refine AC.ret ?_
    subst hO
    exact fin_is _ _ [(0, 6), (1, 14), (2, 15), (3, 17)] (Res.two rfl (Rs.cell rfl rfl tsh_77 rfl) (Rs.tmp rfl)) (rfl) ⟨(entE (by (rw [hA.trans (runP_out (by show ps.length ≤ k; omega))]; rfl))), (entE (by (rw [hA.trans (runP_out (by show ps.length ≤ k; omega))]; rfl))), (entE (by (rw [hA.trans (runP_out (by show ps.length ≤ k; omega))]; rfl))), (entE (by (rw [hA.trans (runP_out (by show ps.length ≤ k; omega)), take_end (by omega)]; done))), trivial⟩ rfl rfl
   ·have _h := hb7
    have hb7' : ((i : Int) < ((ps.map keyP).length : Int)) := of_decide_eq_true hb7
    refine AC.condT (Evl.tmp rfl) ?_
    refine AC.skipS ?_
    refine AC.seq ?_
    refine AC.block ?_
    refine AC.sr ?_
    refine AL.cons rfl (Does.indexI (e := .int) (Evl.tmp rfl) rfl (Evl.tmp rfl) und_72 tsh_3 rfl (by omega) (by first | omega | (simp only [List.length_set]; omega))) ?_
    obtain ⟨x8, hx9⟩ : ∃ z, (ps.map keyP)[i]? = some z := ⟨_, List.getElem?_eq_getElem (by omega)⟩
    have hz0x8 : 0 ≤ x8 := by obtain ⟨p_, h1_, h2_⟩ := key_at hx9; have := hI.rng _ (List.mem_of_getElem? h1_); have h3_ : 0 ≤ p_.1 := this.1; have := vB_rng p_.2; rw [h2_]; unfold keyP; omega
    refine AL.cons rfl (Does.loadI (e := .int) (Evl.tmp rfl) rfl hx9 rfl tsh_3 rfl rfl) ?_
    refine AL.fact (fact_int (x := .tmp 61) (Evl.tmp rfl)) fun hi10 => ?_
    refine AL.cons rfl (Does.assign rfl rfl) ?_
    refine AL.nilS ?_
    refine AC.region ?_
    refine AL.cons rfl (Does.move rfl rfl) ?_
    refine AL.cons rfl (Does.move rfl rfl) ?_
    refine AL.cons rfl (Does.quo (Evl.tmp rfl) (Evl.int rfl) rfl (by omega) (by omega)) ?_
    refine AL.cons rfl (Does.buildSlice 18 (e := .int) und_72 tsh_3 zer_3 rfl ⟨_, _, rfl, (Ev.tmp rfl), rfl⟩ (List.all_eq_true.1 rfl) ⟨_, _, _, _, rfl, ⟨rfl, rfl⟩, ⟨rfl, rfl⟩, rfl⟩ (by decide) rfl rfl (Fresh.of rfl) (nlr rfl)) ?_
    refine AL.cons rfl (Does.append 19 (Evl.tmp rfl) rfl (Evl.tmp rfl) rfl rfl und_72 elb_3 (by first | omega | (simp only [List.length_append, List.length_map, List.length_take, List.length_cons, List.length_nil]; omega)) rfl (Fresh.of rfl) (nlr rfl)) ?_
    refine AL.cons rfl (Does.assign rfl rfl) ?_
    refine AL.nil ?_
    refine (?_ : AC _ _ _ _ _)
    refine AC.region ?_
    refine AL.cons rfl (Does.add (Evl.tmp rfl) (Evl.int rfl) rfl (by omega)) ?_
    refine AL.cons rfl (Does.move rfl rfl) ?_
    refine AL.nil ?_
    refine lend ⟨i + 1, by omega, rfl, rfl⟩ (by omega) ?_
    exact Wk.of [(1, 1), (2, 2), (6, 6), (13, 13), (14, 14), (15, 15), (17, 19)] rfl ⟨rfl, rfl, rfl, rfl, rfl, rfl, rfl, trivial⟩ ⟨rfl, rfl, rfl, rfl, rfl, rfl, (entE (fst_key hx9)), trivial⟩ rfl rfl
  ·have _h := hb4
   have hb4' : ((k : Int) < ((ps.map keyP).length : Int)) := of_decide_eq_true hb4
   refine AC.condT (Evl.tmp rfl) ?_
   refine AC.skipS ?_
   refine AC.seq ?_
   refine AC.block ?_
   refine AC.region ?_
   refine AL.cons rfl (Does.move rfl rfl) ?_
   refine AL.cons rfl (Does.move rfl rfl) ?_
   refine AL.cons rfl (Does.callP 20 [(0, 2), (1, 6), (2, 13), (3, 14), (4, 15)] (fc_spec_l11B_from c signs ps ((([]) ++ c.1) ++ ([(name, 3)])) cs as_ (k : Int) (by omega) hs hI.rng (by omega)) enters_168 ⟨_, _, rfl, (Ev.tmp rfl), ⟨_, _, rfl, (Ev.tmp rfl), rfl⟩⟩ ⟨rfl, rfl, rfl, rfl, rfl, trivial⟩ rfl ⟨trivial, (Fresh.of rfl), trivial, (Fresh.of rfl), (Fresh.of rfl), (Fresh.of rfl), trivial, (Fresh.of rfl), (Fresh.of rfl), trivial⟩ (nlr rfl)) ?_
   refine AL.nil ?_
   refine (?_ : AC _ _ _ _ _)
   refine AC.region ?_
   refine AL.cons rfl (Does.move rfl rfl) ?_
   refine AL.cons rfl (Does.add (Evl.tmp rfl) (Evl.int rfl) rfl (by omega)) ?_
   refine AL.cons rfl (Does.assign rfl rfl) ?_
   refine AL.nil ?_
   refine lend ⟨k + 1, ((expP c signs (ps, cs, as_) (k : Int)).2.1), ((expP c signs (ps, cs, as_) (k : Int)).2.2), ((expP c signs (ps, cs, as_) (k : Int)).1), by omega, rfl, (by rw [hA]; exact runP_in (by show k < ps.length; omega) (by omega)), (expP_inv hs hI).1, (by have h_ : (expP c signs (ps, cs, as_) (k : Int)).2.2.length ≤ as_.length + 4001 := (expP_inv (k := (k : Int)) hs hI).2; omega), rfl⟩ (by omega) ?_
   exact Wk.of [(1, 1), (2, 2), (6, 6), (13, 22), (14, 23), (15, 24)] rfl ⟨rfl, rfl, rfl, rfl, trivial⟩ ⟨rfl, rfl, (entE (by first | rfl | simp)), rfl, rfl, rfl, trivial⟩ rfl rfl
 ·refine AC.seq ?_
  refine AC.sr ?_
  refine AL.cons rfl (Does.move rfl rfl) ?_
  obtain ⟨c11, hc12⟩ : ∃ z, signs[(0 : Int).toNat]? = some z := ⟨_, getElem?_pos _ _ (by omega)⟩
  refine AL.cons rfl (Does.indexS (Evl.tmp rfl) (Evl.int rfl) rfl und_9 (by omega) hc12) ?_
  refine AL.cons rfl (Does.eqlU (Evl.tmp rfl) (Evl.u8 49 rfl) rfl) ?_
  refine AL.cons rfl (Does.move rfl rfl) ?_
  cases hb13 : (decide (c11 = 49))
  ·have _h := hb13
   have hb13' : ¬ (c11 = 49) := of_decide_eq_false hb13
   refine AL.guard_yes rfl rfl rfl (Does.move rfl rfl) ?_
   refine AL.guard_yes rfl rfl rfl (Does.indexS (Evl.tmp rfl) (Evl.int rfl) rfl und_9 (by omega) hc12) ?_
   refine AL.guard_yes rfl rfl rfl (Does.eqlU (Evl.tmp rfl) (Evl.u8 45 rfl) rfl) ?_
   refine AL.cons rfl (Does.pickF (Evl.tmp rfl) (Ev.tmp rfl) rfl) ?_
   refine AL.nilS ?_
   cases hb14 : (decide (c11 = 45))
   ·have _h := hb14
    have hb14' : ¬ (c11 = 45) := of_decide_eq_false hb14
    refine AC.condF (Evl.tmp rfl) ?_
    refine AC.skipS ?_
    refine AC.sr ?_
    refine AL.cons rfl (Does.move rfl rfl) ?_
    refine AL.cons rfl (Does.move rfl rfl) ?_
    refine AL.cons rfl (Does.callP 25 [(0, 2), (1, 6), (2, 11), (3, 7), (4, 9)] (fc_spec_l11B_state c signs ([]) ((([]) ++ c.1) ++ ([(name, 3)])) ([]) ([]) 0 0 (by omega) (by omega) hc (by simp) (by omega)) enters_167 ⟨_, _, rfl, (Ev.tmp rfl), ⟨_, _, rfl, (Evl.ev (Evl.int rfl)), ⟨_, _, rfl, (Ev.tmp rfl), rfl⟩⟩⟩ ⟨rfl, rfl, rfl, rfl, rfl, trivial⟩ rfl ⟨trivial, (Fresh.of rfl), trivial, (Fresh.of rfl), trivial, (Fresh.of rfl), trivial, (Fresh.of rfl), trivial, trivial⟩ (nlr rfl)) ?_
    refine AL.nilS ?_
    refine jend (J1 _ ⟨(cdP c ([]) ([]) (0, decide (0 = 1))), ([]), (psP ([]) (0, decide (0 = 1))), (by first | (unfold startP startB; rw [bAt_get (p := 0) (by assumption)]; simp [*]; done)), rfl⟩) ?_
    exact Wk.of [(1, 1), (2, 2), (6, 6), (8, 28), (10, 29), (12, 11)] rfl ⟨rfl, rfl, rfl, trivial⟩ ⟨rfl, rfl, (entE (by first | rfl | simp)), rfl, rfl, rfl, trivial⟩ rfl rfl
   ·have _h := hb14
    have hb14' : (c11 = 45) := of_decide_eq_true hb14
    refine AC.condT (Evl.tmp rfl) ?_
    refine AC.region ?_
    refine AL.cons rfl (Does.assignC (Evl.int rfl) rfl) ?_
    refine AL.nilS ?_
    refine AC.sr ?_
    refine AL.cons rfl (Does.move rfl rfl) ?_
    refine AL.cons rfl (Does.move rfl rfl) ?_
    refine AL.cons rfl (Does.callP 30 [(0, 2), (1, 6), (2, 11), (3, 7), (4, 9)] (fc_spec_l11B_state c signs ([]) ((([]) ++ c.1) ++ ([(name, 3)])) ([]) ([]) 0 1 (by omega) (by omega) hc (by simp) (by omega)) enters_167 ⟨_, _, rfl, (Ev.tmp rfl), ⟨_, _, rfl, (Evl.ev (Evl.int rfl)), ⟨_, _, rfl, (Ev.tmp rfl), rfl⟩⟩⟩ ⟨rfl, rfl, rfl, rfl, rfl, trivial⟩ rfl ⟨trivial, (Fresh.of rfl), trivial, (Fresh.of rfl), trivial, (Fresh.of rfl), trivial, (Fresh.of rfl), trivial, trivial⟩ (nlr rfl)) ?_
    refine AL.nilS ?_
    refine jend (J1 _ ⟨(cdP c ([]) ([]) (0, decide (1 = 1))), ([]), (psP ([]) (0, decide (1 = 1))), (by first | (unfold startP startB; rw [bAt_get (p := 0) (by assumption)]; simp [*]; done)), rfl⟩) ?_
    exact Wk.of [(1, 1), (2, 2), (6, 6), (8, 33), (10, 34), (12, 11)] rfl ⟨rfl, rfl, rfl, trivial⟩ ⟨rfl, rfl, (entE (by first | rfl | simp)), rfl, rfl, rfl, trivial⟩ rfl rfl
  ·have _h := hb13
   have hb13' : (c11 = 49) := of_decide_eq_true hb13
   refine AL.guard_no (b := false) rfl rfl rfl ?_ rfl
   refine AL.guard_no (b := false) rfl rfl rfl ?_ rfl
   refine AL.guard_no (b := false) rfl rfl rfl ?_ rfl
   refine AL.cons rfl (Does.pickT (Evl.tmp rfl) (Evl.ev Evl.bool) rfl) ?_
   refine AL.nilS ?_
   refine AC.condT (Evl.tmp rfl) ?_
   refine AC.region ?_
   refine AL.cons rfl (Does.assignC (Evl.int rfl) rfl) ?_
   refine AL.nilS ?_
   refine AC.sr ?_
   refine AL.cons rfl (Does.move rfl rfl) ?_
   refine AL.cons rfl (Does.move rfl rfl) ?_
   refine AL.cons rfl (Does.callP 35 [(0, 2), (1, 6), (2, 11), (3, 7), (4, 9)] (fc_spec_l11B_state c signs ([]) ((([]) ++ c.1) ++ ([(name, 3)])) ([]) ([]) 0 1 (by omega) (by omega) hc (by simp) (by omega)) enters_167 ⟨_, _, rfl, (Ev.tmp rfl), ⟨_, _, rfl, (Evl.ev (Evl.int rfl)), ⟨_, _, rfl, (Ev.tmp rfl), rfl⟩⟩⟩ ⟨rfl, rfl, rfl, rfl, rfl, trivial⟩ rfl ⟨trivial, (Fresh.of rfl), trivial, (Fresh.of rfl), trivial, (Fresh.of rfl), trivial, (Fresh.of rfl), trivial, trivial⟩ (nlr rfl)) ?_
   refine AL.nilS ?_
   refine jend (J1 _ ⟨(cdP c ([]) ([]) (0, decide (1 = 1))), ([]), (psP ([]) (0, decide (1 = 1))), (by first | (unfold startP startB; rw [bAt_get (p := 0) (by assumption)]; simp [*]; done)), rfl⟩) ?_
   exact Wk.of [(1, 1), (2, 2), (6, 6), (8, 38), (10, 39), (12, 11)] rfl ⟨rfl, rfl, rfl, trivial⟩ ⟨rfl, rfl, (entE (by first | rfl | simp)), rfl, rfl, rfl, trivial⟩ rfl rfl

set_option maxRecDepth 100000 in
set_option maxHeartbeats 4000000 in
theorem fc_spec_l11Insert (c : (List (ByteArray × Int)) × List ByteArray × (List (Int × Int × Bool × Int))) (name : ByteArray) (signs : ByteArray) [∀ c, Decidable (SgOk c)] [∀ s, Decidable (NameOk s)] (hnm : name.size ≤ 10000000) : FC Try.prog 75 [(true, [.dat (.sl 129 (.pr .str .int)) c.1, .dat (.sl 9 .str) c.2.1, .dat (.sl 170 (.pr .int (.pr .int (.pr .bool .int)))) c.2.2]), (false, [dS name]), (false, [dS signs])] [] 0 (Is (PV.tup [(true, [.ref 0, .ref 1, .ref 2]), (false, [.ref 3]), (false, [dB ((ins2V c name signs).2)])]) [(0, some (.arr 129 (.pr .str .int) (((ins2V c name signs).1.1).1))), (1, some (.arr 9 .str (((ins2V c name signs).1.1).2.1))), (2, some (.arr 170 (.pr .int (.pr .int (.pr .bool .int))) (((ins2V c name signs).1.1).2.2))), (3, some (.arr 3 .int ((ins2V c name signs).1.2)))]) := by
 refine FC.O_all fun O_ hO => FC.ren (FC.of Try.func75 rfl rfl fun A_ hn_ hk_ => ?_)
 obtain ⟨w0_, N0_, X_, n_, k0_, h0_, f0_⟩ := A_
 obtain rfl : n_ = 45 := hn_.trans Try.ntmps75
 obtain rfl : k0_ = 0 := hk_
 refine AC.sr ?_
 refine AL.cons rfl (Does.box 0 (Ev.tmp rfl) rfl rfl (Fresh.of rfl) (nlr rfl)) ?_
 refine AL.cons rfl (Does.alloc 1 (.pr (.sl 129 (.pr .str .int)) (.pr (.sl 9 .str) (.sl 170 (.pr .int (.pr .int (.pr .bool .int)))))) zer_77 rfl rfl (Fresh.of rfl) (nlr rfl)) ?_
 refine AL.cons rfl (Does.assignC Evl.val rfl) ?_
 refine AL.cons rfl (Does.assignC Evl.bool rfl) ?_
 refine AL.nilS ?_
 refine AC.seq ?_
 refine AC.sr ?_
 refine AL.cons rfl (Does.loadPA (Evl.tmp rfl) rfl tsh_77 rfl rfl) ?_
 refine AL.cons rfl (Does.move rfl rfl) ?_
 refine AL.cons rfl (Does.call (fc_spec_l11Asked c signs) enters_124 ⟨_, _, rfl, (Ev.tmp rfl), ⟨_, _, rfl, (Ev.tmp rfl), rfl⟩⟩ rfl rfl) ?_
 refine AL.cons rfl (Does.not (Evl.tmp rfl) rfl) ?_
 refine AL.cons rfl (Does.move rfl rfl) ?_
 cases hb1 : (okP c signs)
 ·have _h := hb1
  refine AL.guard_no (b := false) rfl rfl rfl ?_ rfl
  refine AL.guard_no (b := false) rfl rfl rfl ?_ rfl
  refine AL.guard_no (b := false) rfl rfl rfl ?_ rfl
  refine AL.guard_no (b := false) rfl rfl rfl ?_ rfl
  refine AL.cons rfl (Does.pickT (Evl.tmp rfl) (Evl.ev Evl.bool) rfl) ?_
  refine AL.cons rfl (Does.move rfl rfl) ?_
  refine AL.guard_no (b := false) rfl rfl rfl ?_ rfl
  refine AL.guard_no (b := false) rfl rfl rfl ?_ rfl
  refine AL.guard_no (b := false) rfl rfl rfl ?_ rfl
  refine AL.cons rfl (Does.pickT (Evl.tmp rfl) (Evl.ev Evl.bool) rfl) ?_
  refine AL.cons rfl (Does.move rfl rfl) ?_
  refine AL.guard_no (b := false) rfl rfl rfl ?_ rfl
  refine AL.guard_no (b := false) rfl rfl rfl ?_ rfl
  refine AL.guard_no (b := false) rfl rfl rfl ?_ rfl
  refine AL.guard_no (b := false) rfl rfl rfl ?_ rfl
  refine AL.guard_no (b := false) rfl rfl rfl ?_ rfl
  refine AL.cons rfl (Does.pickT (Evl.tmp rfl) (Evl.ev Evl.bool) rfl) ?_
  refine AL.nilS ?_
  refine AC.condT (Evl.tmp rfl) ?_
  refine AC.sr ?_
  refine AL.cons rfl (Does.build bld_77 rfl (List.all_eq_true.1 rfl) rfl rfl) ?_
  refine AL.cons rfl (Does.storeP (Evl.tmp rfl) rfl (Ev.tmp rfl) rfl tsh_77 rfl) ?_
  refine AL.cons rfl (Does.assignC Evl.val rfl) ?_
  refine AL.cons rfl (Does.assignC Evl.bool rfl) ?_
  refine AL.nilS ?_
  refine AC.wk (Wk.nilC 2 (p := 1) (off := 0) 129 (.pr .str .int) rfl rfl (Fresh.of rfl) (nlr rfl)) ?_
  refine AC.wk (Wk.nilC 3 (p := 1) (off := 1) 9 .str rfl rfl (Fresh.of rfl) (nlr rfl)) ?_
  refine AC.wk (Wk.nilC 4 (p := 1) (off := 2) 170 (.pr .int (.pr .int (.pr .bool .int))) rfl rfl (Fresh.of rfl) (nlr rfl)) ?_
  refine AC.wk (Wk.nilS 5 7 3 .int rfl (Fresh.of rfl) (nlr rfl)) ?_
  refine AC.ret ?_
  subst hO
  have e2 : (false : Bool) = ((ins2V c name signs).2) := by
   (rw [ins2V_no (insB_n2 (by assumption))]; done)
  exact fin_is _ _ [(0, 2), (1, 3), (2, 4), (3, 5)] (Res.three rfl (Rs.cell rfl rfl tsh_77 rfl) (Rs.tmp rfl) (Rs.tmp rfl)) ((congrArg (fun z_ => PV.tup [(true, [.ref 2, .ref 3, .ref 4]), (false, [.ref 5]), (false, [dB z_])]) e2)) ⟨(entE (by (rw [ins2V_no (insB_n2 (by assumption))]; rfl))), (entE (by (rw [ins2V_no (insB_n2 (by assumption))]; rfl))), (entE (by (rw [ins2V_no (insB_n2 (by assumption))]; rfl))), (entE (by (rw [ins2V_no (insB_n2 (by assumption))]; rfl))), trivial⟩ rfl rfl
 ·have _h := hb1
  refine AL.guard_yes rfl rfl rfl (Does.fieldP (Evl.tmp rfl) fld_77_0 rfl rfl) ?_
  refine AL.guard_yes rfl rfl rfl (Does.loadP (Evl.tmp rfl) rfl tsh_29 rfl rfl) ?_
  refine AL.fact (fact_len (x := .tmp 17) (Evl.tmp rfl)) fun hl3 => ?_
  refine AL.guard_yes rfl rfl rfl (Does.len (Evl.tmp rfl) rfl und_29) ?_
  refine AL.guard_yes rfl rfl rfl (Does.geq (Evl.tmp rfl) (Evl.int rfl) rfl) ?_
  refine AL.cons rfl (Does.pickF (Evl.tmp rfl) (Ev.tmp rfl) rfl) ?_
  refine AL.cons rfl (Does.move rfl rfl) ?_
  cases hb4 : (decide (8 ≤ (c.1.length : Int)))
  ·have _h := hb4
   have hb4' : ¬ (8 ≤ (c.1.length : Int)) := of_decide_eq_false hb4
   refine AL.guard_yes rfl rfl rfl (Does.move rfl rfl) ?_
   refine AL.guard_yes rfl rfl rfl (Does.call (fc_spec_l2Name name) enters_125 ⟨_, _, rfl, (Ev.tmp rfl), rfl⟩ rfl rfl) ?_
   refine AL.guard_yes rfl rfl rfl (Does.not (Evl.tmp rfl) rfl) ?_
   refine AL.cons rfl (Does.pickF (Evl.tmp rfl) (Ev.tmp rfl) rfl) ?_
   refine AL.cons rfl (Does.move rfl rfl) ?_
   cases hb5 : (decide (NameOk name))
   ·have _h := hb5
    have hb5' : ¬ (NameOk name) := of_decide_eq_false hb5
    refine AL.guard_no (b := false) rfl rfl rfl ?_ rfl
    refine AL.guard_no (b := false) rfl rfl rfl ?_ rfl
    refine AL.guard_no (b := false) rfl rfl rfl ?_ rfl
    refine AL.guard_no (b := false) rfl rfl rfl ?_ rfl
    refine AL.guard_no (b := false) rfl rfl rfl ?_ rfl
    refine AL.cons rfl (Does.pickT (Evl.tmp rfl) (Evl.ev Evl.bool) rfl) ?_
    refine AL.nilS ?_
    refine AC.condT (Evl.tmp rfl) ?_
    refine AC.sr ?_
    refine AL.cons rfl (Does.build bld_77 rfl (List.all_eq_true.1 rfl) rfl rfl) ?_
    refine AL.cons rfl (Does.storeP (Evl.tmp rfl) rfl (Ev.tmp rfl) rfl tsh_77 rfl) ?_
    refine AL.cons rfl (Does.assignC Evl.val rfl) ?_
    refine AL.cons rfl (Does.assignC Evl.bool rfl) ?_
    refine AL.nilS ?_
    refine AC.wk (Wk.nilC 6 (p := 1) (off := 0) 129 (.pr .str .int) rfl rfl (Fresh.of rfl) (nlr rfl)) ?_
    refine AC.wk (Wk.nilC 7 (p := 1) (off := 1) 9 .str rfl rfl (Fresh.of rfl) (nlr rfl)) ?_
    refine AC.wk (Wk.nilC 8 (p := 1) (off := 2) 170 (.pr .int (.pr .int (.pr .bool .int))) rfl rfl (Fresh.of rfl) (nlr rfl)) ?_
    refine AC.wk (Wk.nilS 9 7 3 .int rfl (Fresh.of rfl) (nlr rfl)) ?_
    refine AC.ret ?_
    subst hO
    have e6 : (false : Bool) = ((ins2V c name signs).2) := by
     (rw [ins2V_no (insB_n3 (by assumption))]; done)
    exact fin_is _ _ [(0, 6), (1, 7), (2, 8), (3, 9)] (Res.three rfl (Rs.cell rfl rfl tsh_77 rfl) (Rs.tmp rfl) (Rs.tmp rfl)) ((congrArg (fun z_ => PV.tup [(true, [.ref 6, .ref 7, .ref 8]), (false, [.ref 9]), (false, [dB z_])]) e6)) ⟨(entE (by (rw [ins2V_no (insB_n3 (by assumption))]; rfl))), (entE (by (rw [ins2V_no (insB_n3 (by assumption))]; rfl))), (entE (by (rw [ins2V_no (insB_n3 (by assumption))]; rfl))), (entE (by (rw [ins2V_no (insB_n3 (by assumption))]; rfl))), trivial⟩ rfl rfl
   ·have _h := hb5
    have hb5' : (NameOk name) := of_decide_eq_true hb5
    refine AL.guard_yes rfl rfl rfl (Does.fieldP (Evl.tmp rfl) fld_77_0 rfl rfl) ?_
    refine AL.guard_yes rfl rfl rfl (Does.loadP (Evl.tmp rfl) rfl tsh_29 rfl rfl) ?_
    refine AL.guard_yes rfl rfl rfl (Does.move rfl rfl) ?_
    refine AL.guard_yes rfl rfl rfl (Does.call (fc_spec_l2Signal c.1 name) enters_126 ⟨_, _, rfl, (Ev.tmp rfl), ⟨_, _, rfl, (Ev.tmp rfl), rfl⟩⟩ rfl rfl) ?_
    refine AL.guard_yes rfl rfl rfl (Does.geq (Evl.tmp rfl) (Evl.int rfl) rfl) ?_
    refine AL.cons rfl (Does.pickF (Evl.tmp rfl) (Ev.tmp rfl) rfl) ?_
    refine AL.nilS ?_
    cases hb7 : (decide (0 ≤ (idxF (fun x : DSignal => decide (x.1 = name)) c.1)))
    ·have _h := hb7
     have hb7' : ¬ (0 ≤ (idxF (fun x : DSignal => decide (x.1 = name)) c.1)) := of_decide_eq_false hb7
     refine AC.condF (Evl.tmp rfl) ?_
     refine AC.skipS ?_
     refine AC.seq ?_
     have hsp : SignsOk c signs ∧ partV c signs = true := okP_iff.1 (by assumption)
     refine AC.region ?_
     refine AL.cons rfl (Does.loadPA (Evl.tmp rfl) rfl tsh_77 rfl rfl) ?_
     refine AL.cons rfl (Does.move rfl rfl) ?_
     refine AL.cons rfl (Does.move rfl rfl) ?_
     refine AL.cons rfl (Does.callG 10 (fc_spec_l11Build c name signs hsp.1 hnm) enters_127 ⟨_, _, rfl, (Ev.tmp rfl), ⟨_, _, rfl, (Ev.tmp rfl), ⟨_, _, rfl, (Ev.tmp rfl), rfl⟩⟩⟩ rfl rfl ⟨Fresh.of rfl, Fresh.of rfl, Fresh.of rfl, Fresh.of rfl, trivial⟩ (nlr rfl)) ?_
     refine AL.cons rfl (Does.move rfl rfl) ?_
     refine AL.cons rfl (Does.extract rfl rfl rfl) ?_
     refine AL.cons rfl (Does.extract rfl rfl rfl) ?_
     refine AL.cons rfl (Does.alloc 14 (.pr (.sl 129 (.pr .str .int)) (.pr (.sl 9 .str) (.sl 170 (.pr .int (.pr .int (.pr .bool .int)))))) zer_77 rfl rfl (Fresh.of rfl) (nlr rfl)) ?_
     refine AL.cons rfl (Does.storeP (Evl.tmp rfl) rfl (Ev.tmp rfl) rfl tsh_77 rfl) ?_
     refine AL.cons rfl (Does.assign rfl rfl) ?_
     refine AL.nilS ?_
     refine AC.seq ?_
     refine AC.drawL [⟨some 41, ag [.ref 10, .ref 11, .ref 12], []⟩, ⟨some 42, lf (.ref 13), []⟩, ⟨some 43, ag [.ref 10, .ref 11, .ref 12], []⟩, ⟨some 44, lf (dB (decide (SgOk (outP c name (buildP c signs))))), []⟩, ⟨none, lf (.val undef), [(1, some (.box 77 [.ref 10, .ref 11, .ref 12]))]⟩, ⟨some 7, lf (.ref 13), []⟩, ⟨some 8, lf (dB (decide (SgOk (outP c name (buildP c signs))))), []⟩] [[], [], [], [2], [0, 2, 3], [0, 1, 2, 3, 4], [0, 1, 2, 3, 4, 5]] mixed rfl (by kernel_rfl) ?_ ?_
     · refine ⟨fun s_ hs => Acts.of1 rfl (Does.loadPA (Evl.tmp (hs.tm 9 rfl)) (hs.en 14 rfl) tsh_77 rfl rfl) rfl, fun s_ hs => Acts.of1 rfl (Does.move (hs.tm 10 rfl) rfl) rfl, fun s_ hs => Acts.of1 rfl (Does.loadPA (Evl.tmp (hs.tm 9 rfl)) (hs.en 14 rfl) tsh_77 rfl rfl) rfl, fun s_ hs => Acts.of1 rfl (Does.callB (fc_spec_l5Good (outP c name (buildP c signs))) enters_128 ⟨_, _, rfl, (Ev.ob (Ev.tmp (hs.tm 43 rfl)) ⟨_, _, rfl, .inr ⟨_, _, _, _, rfl, (hs.en 10 rfl), rfl⟩, ⟨_, _, rfl, .inr ⟨_, _, _, _, rfl, (hs.en 11 rfl), rfl⟩, ⟨_, _, rfl, .inr ⟨_, _, _, _, rfl, (hs.en 12 rfl), rfl⟩, rfl⟩⟩⟩), rfl⟩ rfl rfl rfl) rfl, fun s_ hs => Acts.of1 rfl (Does.storeP (Evl.tmp (hs.tm 6 rfl)) (hs.en 1 rfl) (Ev.tmp (hs.tm 41 rfl)) (by simp only [okLVs, okLV, List.all_cons, List.all_nil]; rw [(hs.en 10 rfl), (hs.en 11 rfl), (hs.en 12 rfl)]; rfl) tsh_77 rfl) rfl, fun s_ hs => Acts.of1 rfl (Does.assign (hs.tm 42 rfl) rfl) rfl, fun s_ hs => Acts.of1 rfl (Does.assign (hs.tm 44 rfl) rfl) rfl, trivial⟩
     refine (?_ : AC _ _ _ _ _)
     refine AC.wk (s' := _) (Wk.refl _ _) ?_
     refine AC.ret ?_
     subst hO
     have e8 : (decide (SgOk (outP c name (buildP c signs))) : Bool) = ((ins2V c name signs).2) := by
      (rw [ins2V_yes (insB_yes (by assumption) (by assumption) (by assumption) (by omega))]; done)
     exact fin_is _ _ [(0, 10), (1, 11), (2, 12), (3, 13)] (Res.three rfl (Rs.cell rfl rfl tsh_77 rfl) (Rs.tmp rfl) (Rs.tmp rfl)) ((congrArg (fun z_ => PV.tup [(true, [.ref 10, .ref 11, .ref 12]), (false, [.ref 13]), (false, [dB z_])]) e8)) ⟨(entE (by (rw [ins2V_yes (insB_yes (by assumption) (by assumption) (by assumption) (by omega))]; done))), (entE (by (rw [ins2V_yes (insB_yes (by assumption) (by assumption) (by assumption) (by omega))]; done))), (entE (by (rw [ins2V_yes (insB_yes (by assumption) (by assumption) (by assumption) (by omega))]; done))), (entE (by (rw [ins2V_yes (insB_yes (by assumption) (by assumption) (by assumption) (by omega))]; done))), trivial⟩ rfl rfl
    ·have _h := hb7
     have hb7' : (0 ≤ (idxF (fun x : DSignal => decide (x.1 = name)) c.1)) := of_decide_eq_true hb7
     refine AC.condT (Evl.tmp rfl) ?_
     refine AC.sr ?_
     refine AL.cons rfl (Does.build bld_77 rfl (List.all_eq_true.1 rfl) rfl rfl) ?_
     refine AL.cons rfl (Does.storeP (Evl.tmp rfl) rfl (Ev.tmp rfl) rfl tsh_77 rfl) ?_
     refine AL.cons rfl (Does.assignC Evl.val rfl) ?_
     refine AL.cons rfl (Does.assignC Evl.bool rfl) ?_
     refine AL.nilS ?_
     refine AC.wk (Wk.nilC 15 (p := 1) (off := 0) 129 (.pr .str .int) rfl rfl (Fresh.of rfl) (nlr rfl)) ?_
     refine AC.wk (Wk.nilC 16 (p := 1) (off := 1) 9 .str rfl rfl (Fresh.of rfl) (nlr rfl)) ?_
     refine AC.wk (Wk.nilC 17 (p := 1) (off := 2) 170 (.pr .int (.pr .int (.pr .bool .int))) rfl rfl (Fresh.of rfl) (nlr rfl)) ?_
     refine AC.wk (Wk.nilS 18 7 3 .int rfl (Fresh.of rfl) (nlr rfl)) ?_
     refine AC.ret ?_
     subst hO
     have e9 : (false : Bool) = ((ins2V c name signs).2) := by
      (rw [ins2V_no (insB_n4 (by assumption))]; done)
     exact fin_is _ _ [(0, 15), (1, 16), (2, 17), (3, 18)] (Res.three rfl (Rs.cell rfl rfl tsh_77 rfl) (Rs.tmp rfl) (Rs.tmp rfl)) ((congrArg (fun z_ => PV.tup [(true, [.ref 15, .ref 16, .ref 17]), (false, [.ref 18]), (false, [dB z_])]) e9)) ⟨(entE (by (rw [ins2V_no (insB_n4 (by assumption))]; rfl))), (entE (by (rw [ins2V_no (insB_n4 (by assumption))]; rfl))), (entE (by (rw [ins2V_no (insB_n4 (by assumption))]; rfl))), (entE (by (rw [ins2V_no (insB_n4 (by assumption))]; rfl))), trivial⟩ rfl rfl
  ·have _h := hb4
   have hb4' : (8 ≤ (c.1.length : Int)) := of_decide_eq_true hb4
   refine AL.guard_no (b := false) rfl rfl rfl ?_ rfl
   refine AL.guard_no (b := false) rfl rfl rfl ?_ rfl
   refine AL.guard_no (b := false) rfl rfl rfl ?_ rfl
   refine AL.cons rfl (Does.pickT (Evl.tmp rfl) (Evl.ev Evl.bool) rfl) ?_
   refine AL.cons rfl (Does.move rfl rfl) ?_
   refine AL.guard_no (b := false) rfl rfl rfl ?_ rfl
   refine AL.guard_no (b := false) rfl rfl rfl ?_ rfl
   refine AL.guard_no (b := false) rfl rfl rfl ?_ rfl
   refine AL.guard_no (b := false) rfl rfl rfl ?_ rfl
   refine AL.guard_no (b := false) rfl rfl rfl ?_ rfl
   refine AL.cons rfl (Does.pickT (Evl.tmp rfl) (Evl.ev Evl.bool) rfl) ?_
   refine AL.nilS ?_
   refine AC.condT (Evl.tmp rfl) ?_
   refine AC.sr ?_
   refine AL.cons rfl (Does.build bld_77 rfl (List.all_eq_true.1 rfl) rfl rfl) ?_
   refine AL.cons rfl (Does.storeP (Evl.tmp rfl) rfl (Ev.tmp rfl) rfl tsh_77 rfl) ?_
   refine AL.cons rfl (Does.assignC Evl.val rfl) ?_
   refine AL.cons rfl (Does.assignC Evl.bool rfl) ?_
   refine AL.nilS ?_
   refine AC.wk (Wk.nilC 19 (p := 1) (off := 0) 129 (.pr .str .int) rfl rfl (Fresh.of rfl) (nlr rfl)) ?_
   refine AC.wk (Wk.nilC 20 (p := 1) (off := 1) 9 .str rfl rfl (Fresh.of rfl) (nlr rfl)) ?_
   refine AC.wk (Wk.nilC 21 (p := 1) (off := 2) 170 (.pr .int (.pr .int (.pr .bool .int))) rfl rfl (Fresh.of rfl) (nlr rfl)) ?_
   refine AC.wk (Wk.nilS 22 7 3 .int rfl (Fresh.of rfl) (nlr rfl)) ?_
   refine AC.ret ?_
   subst hO
   have e10 : (false : Bool) = ((ins2V c name signs).2) := by
    (rw [ins2V_no (insB_n6 (by assumption) (by assumption))]; done)
   exact fin_is _ _ [(0, 19), (1, 20), (2, 21), (3, 22)] (Res.three rfl (Rs.cell rfl rfl tsh_77 rfl) (Rs.tmp rfl) (Rs.tmp rfl)) ((congrArg (fun z_ => PV.tup [(true, [.ref 19, .ref 20, .ref 21]), (false, [.ref 22]), (false, [dB z_])]) e10)) ⟨(entE (by (rw [ins2V_no (insB_n6 (by assumption) (by assumption))]; rfl))), (entE (by (rw [ins2V_no (insB_n6 (by assumption) (by assumption))]; rfl))), (entE (by (rw [ins2V_no (insB_n6 (by assumption) (by assumption))]; rfl))), (entE (by (rw [ins2V_no (insB_n6 (by assumption) (by assumption))]; rfl))), trivial⟩ rfl rfl

set_option maxRecDepth 100000 in
set_option maxHeartbeats 4000000 in
theorem fc_spec_InsertSignal (c : (List (ByteArray × Int)) × List ByteArray × (List (Int × Int × Bool × Int))) (name : ByteArray) (signs : ByteArray) [∀ c, Decidable (SgOk c)] [∀ s, Decidable (NameOk s)] (hnm : name.size ≤ 10000000) : FC Try.prog 37 [(true, [.dat (.sl 129 (.pr .str .int)) c.1, .dat (.sl 9 .str) c.2.1, .dat (.sl 170 (.pr .int (.pr .int (.pr .bool .int)))) c.2.2]), (false, [dS name]), (false, [dS signs])] [] 0 (Is (PV.tup [(true, [.ref 0, .ref 1, .ref 2]), (false, [dB ((insV c name signs).2)])]) [(0, some (.arr 129 (.pr .str .int) (((insV c name signs).1.1).1))), (1, some (.arr 9 .str (((insV c name signs).1.1).2.1))), (2, some (.arr 170 (.pr .int (.pr .int (.pr .bool .int))) (((insV c name signs).1.1).2.2)))]) := by
 refine FC.O_all fun O_ hO => FC.ren (FC.of Try.func37 rfl rfl fun A_ hn_ hk_ => ?_)
 obtain ⟨w0_, N0_, X_, n_, k0_, h0_, f0_⟩ := A_
 obtain rfl : n_ = 23 := hn_.trans Try.ntmps37
 obtain rfl : k0_ = 0 := hk_
 refine AC.sr ?_
 refine AL.cons rfl (Does.box 0 (Ev.tmp rfl) rfl rfl (Fresh.of rfl) (nlr rfl)) ?_
 refine AL.cons rfl (Does.alloc 1 (.pr (.sl 129 (.pr .str .int)) (.pr (.sl 9 .str) (.sl 170 (.pr .int (.pr .int (.pr .bool .int)))))) zer_77 rfl rfl (Fresh.of rfl) (nlr rfl)) ?_
 refine AL.cons rfl (Does.assignC Evl.bool rfl) ?_
 refine AL.nilS ?_
 refine AC.sr ?_
 refine AL.cons rfl (Does.loadPA (Evl.tmp rfl) rfl tsh_77 rfl rfl) ?_
 refine AL.cons rfl (Does.move rfl rfl) ?_
 refine AL.cons rfl (Does.move rfl rfl) ?_
 refine AL.cons rfl (Does.callG 2 (fc_spec_l11Insert c name signs hnm) enters_75 ⟨_, _, rfl, (Ev.tmp rfl), ⟨_, _, rfl, (Ev.tmp rfl), ⟨_, _, rfl, (Ev.tmp rfl), rfl⟩⟩⟩ rfl rfl ⟨Fresh.of rfl, Fresh.of rfl, Fresh.of rfl, Fresh.of rfl, trivial⟩ (nlr rfl)) ?_
 refine AL.cons rfl (Does.move rfl rfl) ?_
 refine AL.cons rfl (Does.extract rfl rfl rfl) ?_
 refine AL.cons rfl (Does.extract rfl rfl rfl) ?_
 refine AL.cons rfl (Does.extract rfl rfl rfl) ?_
 refine AL.cons rfl (Does.alloc 6 (.pr (.sl 129 (.pr .str .int)) (.pr (.sl 9 .str) (.sl 170 (.pr .int (.pr .int (.pr .bool .int)))))) zer_77 rfl rfl (Fresh.of rfl) (nlr rfl)) ?_
 refine AL.cons rfl (Does.storeP (Evl.tmp rfl) rfl (Ev.tmp rfl) rfl tsh_77 rfl) ?_
 refine AL.cons rfl (Does.assign rfl rfl) ?_
 refine AL.cons rfl (Does.assign rfl rfl) ?_
 refine AL.nilS ?_
 refine AC.seq ?_
 refine AC.sr ?_
 refine AL.cons rfl (Does.move rfl rfl) ?_
 refine AL.cons rfl (Does.not (Evl.tmp rfl) rfl) ?_
 refine AL.nilS ?_
 cases hb1 : ((ins2V c name signs).2)
 ·have _h := hb1
  refine AC.condT (Evl.tmp rfl) ?_
  refine AC.sr ?_
  refine AL.cons rfl (Does.build bld_77 rfl (List.all_eq_true.1 rfl) rfl rfl) ?_
  refine AL.cons rfl (Does.storeP (Evl.tmp rfl) rfl (Ev.tmp rfl) rfl tsh_77 rfl) ?_
  refine AL.cons rfl (Does.assignC Evl.bool rfl) ?_
  refine AL.nilS ?_
  refine AC.wk (Wk.nilC 7 (p := 1) (off := 0) 129 (.pr .str .int) rfl rfl (Fresh.of rfl) (nlr rfl)) ?_
  refine AC.wk (Wk.nilC 8 (p := 1) (off := 1) 9 .str rfl rfl (Fresh.of rfl) (nlr rfl)) ?_
  refine AC.wk (Wk.nilC 9 (p := 1) (off := 2) 170 (.pr .int (.pr .int (.pr .bool .int))) rfl rfl (Fresh.of rfl) (nlr rfl)) ?_
  refine AC.ret ?_
  subst hO
  have e2 : (false : Bool) = ((insV c name signs).2) := by
   (rw [insV_f (by assumption)]; done)
  exact fin_is _ _ [(0, 7), (1, 8), (2, 9)] (Res.two rfl (Rs.cell rfl rfl tsh_77 rfl) (Rs.tmp rfl)) ((congrArg (fun z_ => PV.tup [(true, [.ref 7, .ref 8, .ref 9]), (false, [dB z_])]) e2)) ⟨(entE (by (rw [insV_f (by assumption)]; rfl))), (entE (by (rw [insV_f (by assumption)]; rfl))), (entE (by (rw [insV_f (by assumption)]; rfl))), trivial⟩ rfl rfl
 ·have _h := hb1
  refine AC.condF (Evl.tmp rfl) ?_
  refine AC.skipS ?_
  refine AC.sr ?_
  refine AL.cons rfl (Does.loadPA (Evl.tmp rfl) rfl tsh_77 rfl rfl) ?_
  refine AL.cons rfl (Does.storeP (Evl.tmp rfl) rfl (Ev.tmp rfl) rfl tsh_77 rfl) ?_
  refine AL.cons rfl (Does.assignC Evl.bool rfl) ?_
  refine AL.nilS ?_
  refine AC.ret ?_
  subst hO
  have e3 : (true : Bool) = ((insV c name signs).2) := by
   (rw [insV_t (by assumption), show (ins2V c name signs).2 = true by assumption]; done)
  exact fin_is _ _ [(0, 2), (1, 3), (2, 4)] (Res.two rfl (Rs.cell rfl rfl tsh_77 rfl) (Rs.tmp rfl)) ((congrArg (fun z_ => PV.tup [(true, [.ref 2, .ref 3, .ref 4]), (false, [dB z_])]) e3)) ⟨(entE (by (rw [insV_t (by assumption)]; done))), (entE (by (rw [insV_t (by assumption)]; done))), (entE (by (rw [insV_t (by assumption)]; done))), trivial⟩ rfl rfl

set_option maxRecDepth 100000 in
set_option maxHeartbeats 4000000 in
theorem fc_spec_OriginalStates (c : (List (ByteArray × Int)) × List ByteArray × (List (Int × Int × Bool × Int))) (name : ByteArray) (signs : ByteArray) [∀ c, Decidable (SgOk c)] [∀ s, Decidable (NameOk s)] (hnm : name.size ≤ 10000000) : FC Try.prog 29 [(true, [.dat (.sl 129 (.pr .str .int)) c.1, .dat (.sl 9 .str) c.2.1, .dat (.sl 170 (.pr .int (.pr .int (.pr .bool .int)))) c.2.2]), (false, [dS name]), (false, [dS signs])] [] 0 (Is (PV.tup [(false, [.ref 0]), (false, [dB ((insV c name signs).2)])]) [(0, some (.arr 3 .int ((insV c name signs).1.2)))]) := by
 refine FC.O_all fun O_ hO => FC.ren (FC.of Try.func29 rfl rfl fun A_ hn_ hk_ => ?_)
 obtain ⟨w0_, N0_, X_, n_, k0_, h0_, f0_⟩ := A_
 obtain rfl : n_ = 22 := hn_.trans Try.ntmps29
 obtain rfl : k0_ = 0 := hk_
 refine AC.sr ?_
 refine AL.cons rfl (Does.box 0 (Ev.tmp rfl) rfl rfl (Fresh.of rfl) (nlr rfl)) ?_
 refine AL.cons rfl (Does.assignC Evl.val rfl) ?_
 refine AL.cons rfl (Does.assignC Evl.bool rfl) ?_
 refine AL.nilS ?_
 refine AC.sr ?_
 refine AL.cons rfl (Does.loadPA (Evl.tmp rfl) rfl tsh_77 rfl rfl) ?_
 refine AL.cons rfl (Does.move rfl rfl) ?_
 refine AL.cons rfl (Does.move rfl rfl) ?_
 refine AL.cons rfl (Does.callG 1 (fc_spec_l11Insert c name signs hnm) enters_75 ⟨_, _, rfl, (Ev.tmp rfl), ⟨_, _, rfl, (Ev.tmp rfl), ⟨_, _, rfl, (Ev.tmp rfl), rfl⟩⟩⟩ rfl rfl ⟨Fresh.of rfl, Fresh.of rfl, Fresh.of rfl, Fresh.of rfl, trivial⟩ (nlr rfl)) ?_
 refine AL.cons rfl (Does.move rfl rfl) ?_
 refine AL.cons rfl (Does.extract rfl rfl rfl) ?_
 refine AL.cons rfl (Does.extract rfl rfl rfl) ?_
 refine AL.cons rfl (Does.extract rfl rfl rfl) ?_
 refine AL.cons rfl (Does.alloc 5 (.pr (.sl 129 (.pr .str .int)) (.pr (.sl 9 .str) (.sl 170 (.pr .int (.pr .int (.pr .bool .int)))))) zer_77 rfl rfl (Fresh.of rfl) (nlr rfl)) ?_
 refine AL.cons rfl (Does.storeP (Evl.tmp rfl) rfl (Ev.tmp rfl) rfl tsh_77 rfl) ?_
 refine AL.cons rfl (Does.assign rfl rfl) ?_
 refine AL.cons rfl (Does.assign rfl rfl) ?_
 refine AL.nilS ?_
 refine AC.seq ?_
 refine AC.sr ?_
 refine AL.cons rfl (Does.move rfl rfl) ?_
 refine AL.cons rfl (Does.not (Evl.tmp rfl) rfl) ?_
 refine AL.nilS ?_
 cases hb1 : ((ins2V c name signs).2)
 ·have _h := hb1
  refine AC.condT (Evl.tmp rfl) ?_
  refine AC.sr ?_
  refine AL.cons rfl (Does.assignC Evl.val rfl) ?_
  refine AL.cons rfl (Does.assignC Evl.bool rfl) ?_
  refine AL.nilS ?_
  refine AC.wk (Wk.nilS 6 6 3 .int rfl (Fresh.of rfl) (nlr rfl)) ?_
  refine AC.ret ?_
  subst hO
  have e2 : (false : Bool) = ((insV c name signs).2) := by
   (rw [insV_f (by assumption)]; done)
  exact fin_is _ _ [(0, 6)] (Res.two rfl (Rs.tmp rfl) (Rs.tmp rfl)) ((congrArg (fun z_ => PV.tup [(false, [.ref 6]), (false, [dB z_])]) e2)) ⟨(entE (by (rw [insV_f (by assumption)]; rfl))), trivial⟩ rfl rfl
 ·have _h := hb1
  refine AC.condF (Evl.tmp rfl) ?_
  refine AC.skipS ?_
  refine AC.sr ?_
  refine AL.cons rfl (Does.move rfl rfl) ?_
  refine AL.cons rfl (Does.assign rfl rfl) ?_
  refine AL.cons rfl (Does.assignC Evl.bool rfl) ?_
  refine AL.nilS ?_
  refine AC.ret ?_
  subst hO
  have e3 : (true : Bool) = ((insV c name signs).2) := by
   (rw [insV_t (by assumption), show (ins2V c name signs).2 = true by assumption]; done)
  exact fin_is _ _ [(0, 4)] (Res.two rfl (Rs.tmp rfl) (Rs.tmp rfl)) ((congrArg (fun z_ => PV.tup [(false, [.ref 4]), (false, [dB z_])]) e3)) ⟨(entE (by (rw [insV_t (by assumption)]; done))), trivial⟩ rfl rfl

end Go.Proofs.Ytbelopdphlllnaa
