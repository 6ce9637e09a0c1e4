/- Walks over abstract states: firing. -/
import Derived.Test.YtjaadeknhofhpaaGreatWh
import Derived.Test.YtjaadeknhofhpaaGreatAv
set_option linter.unusedSimpArgs false
set_option linter.unusedVariables false
set_option linter.unusedSectionVars false
namespace Go.Proofs.YtjaadeknhofhpaaGreat
open Go.RowKit
set_option maxRecDepth 100000
set_option maxHeartbeats 4000000

def bAt (m : ByteArray) (p : Int) : UInt8 := (m[p.toNat]?).getD 0
theorem bAt_get {m : ByteArray} {p : Int} {c : UInt8} (h : m[p.toNat]? = some c) : bAt m p = c := by unfold bAt; rw [h]; rfl
theorem bl_len (m : ByteArray) : m.toList.length = m.size := by simp [ByteArray.toList_eq]
def idxF {α : Type _} (f : α → Bool) (l : List α) : Int := match l.findIdx? f with | some i => i | none => -1
/-- No one below k. -/
def NoneTo {α : Type _} (f : α → Bool) (l : List α) (k : Nat) : Prop := ∀ j, j < k → ∀ x, l[j]? = some x → f x = false
section
variable {α : Type _} {f : α → Bool} {l : List α} {k : Nat} {x : α}
theorem NoneTo.zero : NoneTo f l 0 := fun j hj => absurd hj (Nat.not_lt_zero j)
theorem NoneTo.step (h : NoneTo f l k) (hx : l[k]? = some x) (hf : f x = false) : NoneTo f l (k + 1) := fun j hj y hy => by
  by_cases e : j = k
  · subst e; rw [hx] at hy; cases hy; exact hf
  · exact h j (by omega) y hy
theorem NoneTo.at (h : NoneTo f l k) (hx : l[k]? = some x) (hf : f x = true) : idxF f l = k := by
  obtain ⟨h1, h2⟩ := List.getElem?_eq_some_iff.1 hx
  have : l.findIdx? f = some k := List.findIdx?_eq_some_iff_getElem.2 ⟨h1, by rw [h2]; exact hf, fun j hj => by
    have := h j hj _ (List.getElem?_eq_getElem (by omega))
    simp [this]⟩
  unfold idxF
  rw [this]
theorem NoneTo.no (h : NoneTo f l k) (hk : l.length ≤ k) : idxF f l = -1 := by
  have : l.findIdx? f = none := List.findIdx?_eq_none_iff.2 fun x hx => by
    obtain ⟨j, hj⟩ := List.mem_iff_getElem?.1 hx
    have := (List.getElem?_eq_some_iff.1 hj).1
    exact h j (by omega) x hj
  unfold idxF
  rw [this]
theorem idxF_any (f : α → Bool) (l : List α) : decide (0 ≤ idxF f l) = l.any f := by
  unfold idxF
  cases h : l.findIdx? f with
  | none =>
    have := List.findIdx?_eq_none_iff.1 h
    rw [Bool.eq_iff_iff]
    simp only [List.any_eq_true, decide_eq_true_eq]
    constructor
    · intro h; omega
    · rintro ⟨x, hx, hf⟩; rw [this x hx] at hf; cases hf
  | some i =>
    obtain ⟨h1, h2, _⟩ := List.findIdx?_eq_some_iff_getElem.1 h
    have : l.any f = true := List.any_eq_true.2 ⟨_, List.getElem_mem h1, h2⟩
    rw [this]
    simp
/-- The places below k at which f holds. -/
def picks (f : α → Bool) (l : List α) : Nat → List Int
  | 0 => []
  | k + 1 => picks f l k ++ (match l[k]? with | some x => if f x then [(k : Int)] else [] | none => [])
theorem picks_yes (hx : l[k]? = some x) (hf : f x = true) : picks f l k ++ [(k : Int)] = picks f l (k + 1) := by simp [picks, hx, hf]
theorem picks_no (hx : l[k]? = some x) (hf : f x = false) : picks f l k = picks f l (k + 1) := by simp [picks, hx, hf]
theorem picks_len (f : α → Bool) (l : List α) (k : Nat) : (picks f l k).length ≤ k := by
  induction k with
  | zero => simp [picks]
  | succ k ih =>
    simp only [picks, List.length_append]
    split
    · split <;> simp <;> omega
    · simp; omega
theorem picks_mem {f : α → Bool} {l : List α} {k : Nat} {t : Int} (h : t ∈ picks f l k) : ∃ x, 0 ≤ t ∧ t < l.length ∧ t < k ∧ l[t.toNat]? = some x ∧ f x = true := by
  induction k with
  | zero => simp [picks] at h
  | succ k ih =>
    simp only [picks, List.mem_append] at h
    rcases h with h | h
    · obtain ⟨x, h1, h2, h3, h4⟩ := ih h; exact ⟨x, h1, h2, by omega, h4⟩
    · cases hx : l[k]? with
      | none => rw [hx] at h; simp at h
      | some x =>
        rw [hx] at h
        cases hf : f x with
        | false => simp [hf] at h
        | true =>
          simp only [hf, if_true, List.mem_singleton] at h
          subst h
          have := (List.getElem?_eq_some_iff.1 hx).1
          exact ⟨x, by omega, by omega, by omega, by simpa using hx, hf⟩
theorem drop_cons {l : List α} {k : Nat} {x : α} (hx : l[k]? = some x) : l.drop k = x :: l.drop (k + 1) := by
  obtain ⟨h1, h2⟩ := List.getElem?_eq_some_iff.1 hx
  rw [List.drop_eq_getElem_cons h1, h2]
end
/-- Whether a transition can fire; what fires. -/
def PlOk (m : ByteArray) (ps : List Int) : Prop := ∀ p ∈ ps, (0 ≤ p ∧ p < m.size) ∧ (bAt m p = 48 ∨ bAt m p = 49)
def enb (m : ByteArray) (t : DTransition) : Bool := !t.1.any fun p => decide (bAt m p = 48)
def enbs (n : DNet) (m : ByteArray) : List Int := picks (enb m) n.2 n.2.length
def clr (l : List UInt8) : List Int → List UInt8
  | [] => l
  | p :: ps => clr (l.set p.toNat 48) ps
def put1 (l : List UInt8) : List Int → Option (List UInt8)
  | [] => some l
  | p :: ps => if l[p.toNat]? = some 49 then none else put1 (l.set p.toNat 49) ps
def firedV (m : ByteArray) (t : DTransition) : ByteArray × Bool := match put1 (clr m.toList t.1) t.2 with
  | none => (⟨#[]⟩, false)
  | some l => (⟨l.toArray⟩, true)
def fireV (n : DNet) (m : ByteArray) (t : Int) : ByteArray × Bool := match n.2[t.toNat]? with
  | none => (⟨#[]⟩, false)
  | some x => firedV m x
def fireE (n : DNet) (m : ByteArray) (t : Int) : ByteArray × Bool := if 0 ≤ t then (match n.2[t.toNat]? with
  | none => (⟨#[]⟩, false)
  | some x => if enb m x then firedV m x else (⟨#[]⟩, false)) else (⟨#[]⟩, false)
section
variable {n : DNet} {m : ByteArray} {t : Int} {x : DTransition} {l : List UInt8} {ps : List Int} {k : Nat} {p : Int}
theorem clr_step (hx : ps[k]? = some p) : clr l (ps.drop k) = clr (l.set p.toNat 48) (ps.drop (k + 1)) := by rw [drop_cons hx, clr]
theorem clr_end (h : ps.length ≤ k) : clr l (ps.drop k) = l := by rw [List.drop_eq_nil_of_le h, clr]
theorem put1_step (hx : ps[k]? = some p) {c : UInt8} (hc : l[p.toNat]? = some c) (hn : decide (c = 49) = false) : put1 l (ps.drop k) = put1 (l.set p.toNat 49) (ps.drop (k + 1)) := by
  rw [drop_cons hx, put1, if_neg]
  rw [hc]
  intro h
  cases h
  simp at hn
theorem put1_no (hx : ps[k]? = some p) {c : UInt8} (hc : l[p.toNat]? = some c) (hn : decide (c = 49) = true) : put1 l (ps.drop k) = none := by
  rw [drop_cons hx, put1, if_pos]
  rw [hc, of_decide_eq_true hn]
theorem put1_end (h : ps.length ≤ k) : put1 l (ps.drop k) = some l := by rw [List.drop_eq_nil_of_le h, put1]
theorem clr_len (l : List UInt8) (ps : List Int) : (clr l ps).length = l.length := by
  induction ps generalizing l with
  | nil => rfl
  | cons p ps ih => rw [clr, ih, List.length_set]
theorem firedV_no (h : put1 (clr m.toList x.1) x.2 = none) : firedV m x = (⟨#[]⟩, false) := by unfold firedV; rw [h]
theorem firedV_yes (h : put1 (clr m.toList x.1) x.2 = some l) : firedV m x = (⟨l.toArray⟩, true) := by unfold firedV; rw [h]
theorem fireV_x (hx : n.2[t.toNat]? = some x) : fireV n m t = firedV m x := by unfold fireV; rw [hx]
theorem fireE_x (hx : n.2[t.toNat]? = some x) (h0 : 0 ≤ t) (he : enb m x = true) : fireE n m t = firedV m x := by
  unfold fireE; rw [if_pos h0, hx]
  show (if enb m x then _ else _) = _
  rw [if_pos he]
theorem fireE_off (hx : n.2[t.toNat]? = some x) (he : enb m x = false) : fireE n m t = (⟨#[]⟩, false) := by
  unfold fireE; rw [hx]
  show (if 0 ≤ t then (if enb m x then _ else _) else _) = _
  rw [if_neg (show ¬ enb m x = true by rw [he]; decide), ite_self]
theorem fireE_out (h : ¬ (0 ≤ t ∧ t ≤ (n.2.length : Int) - 1)) : fireE n m t = (⟨#[]⟩, false) := by
  unfold fireE
  by_cases h0 : 0 ≤ t
  · rw [if_pos h0, List.getElem?_eq_none (by omega)]
  · rw [if_neg h0]
theorem fireE_V (h0 : 0 ≤ t) (hx : n.2[t.toNat]? = some x) (he : enb m x = true) : fireE n m t = fireV n m t := by rw [fireE_x hx h0 he, fireV_x hx]
def enbAt (n : DNet) (m : ByteArray) (t : Int) : Bool := match n.2[t.toNat]? with
  | some x => enb m x
  | none => false
theorem enbAt_x (hx : n.2[t.toNat]? = some x) : enbAt n m t = enb m x := by unfold enbAt; rw [hx]
theorem enb_of (h : PlOk m x.1) : enb m x = true ↔ ∀ p ∈ x.1, bAt m p = 49 := by
  unfold enb
  simp only [Bool.not_eq_true', List.any_eq_false, decide_eq_true_eq]
  constructor
  · intro k p hp
    rcases (h p hp).2 with h1 | h1
    · exact absurd h1 (k p hp)
    · exact h1
  · intro k p hp h1
    rw [k p hp] at h1
    exact absurd h1 (by decide)
theorem ready_step {c : UInt8} (hA : ∀ j, j < k → ∀ y, ps[j]? = some y → bAt m y = 49) (hx : ps[k]? = some p) (hc : m[p.toNat]? = some c) (hb : (!decide (c = 49)) = false) : ∀ j, j < k + 1 → ∀ y, ps[j]? = some y → bAt m y = 49 := fun j hj y hy => by
  by_cases e : j = k
  · subst e; rw [hx] at hy; cases hy
    rw [bAt_get hc]
    simpa using hb
  · exact hA j (by omega) y hy
theorem ready_no {c : UInt8} (hn : n.2[t.toNat]? = some x) (hp : PlOk m x.1) (hx : x.1[k]? = some p) (hc : m[p.toNat]? = some c) (hb : (!decide (c = 49)) = true) : enbAt n m t = false := by
  rw [enbAt_x hn, Bool.eq_false_iff]
  intro h
  have := (enb_of hp).1 h p (List.mem_of_getElem? hx)
  rw [bAt_get hc] at this
  simp [this] at hb
theorem ready_yes (hn : n.2[t.toNat]? = some x) (hp : PlOk m x.1) (hA : ∀ j, j < k → ∀ y, x.1[j]? = some y → bAt m y = 49) (hk : x.1.length ≤ k) : enbAt n m t = true := by
  rw [enbAt_x hn]
  refine (enb_of hp).2 fun p h => ?_
  obtain ⟨j, hj⟩ := List.mem_iff_getElem?.1 h
  have := (List.getElem?_eq_some_iff.1 hj).1
  exact hA j (by omega) p hj
theorem picksE_yes (hk : k < n.2.length) (h : enbAt n m (k : Int) = true) : picks (enb m) n.2 k ++ [(k : Int)] = picks (enb m) n.2 (k + 1) := by
  have hx := List.getElem?_eq_getElem hk
  rw [enbAt_x (t := (k : Int)) (show n.2[((k : Int)).toNat]? = some _ from hx)] at h
  exact picks_yes hx h
theorem picksE_no (hk : k < n.2.length) (h : enbAt n m (k : Int) = false) : picks (enb m) n.2 k = picks (enb m) n.2 (k + 1) := by
  have hx := List.getElem?_eq_getElem hk
  rw [enbAt_x (t := (k : Int)) (show n.2[((k : Int)).toNat]? = some _ from hx)] at h
  exact picks_no hx h
end

theorem fc_impl_isEnabled_1 (p : Int) (mark : ByteArray) (h0 : 0 ≤ p) (h1 : p < (mark.size : Int)) : FC Tryz.prog 351 [(false, [dI p]), (false, [.ptr 0 0])] [(0, some (.box 9 [dS mark]))] 1 (Is (lB (decide (bAt mark p = 48))) [(0, some (.box 9 [dS mark]))]) := by
 refine FC.go Tryz.func351 rfl rfl Tryz.ntmps351 fun O_ hO w0_ N0_ X_ h0_ f0_ => ?_
 refine AC.fact (fact_int (x := .tmp 0) (Evl.tmp rfl)) fun hi1 => ?_
 iterate 6 refine w_ ?_
 obtain ⟨c2, hc3⟩ : ∃ z, mark[(p).toNat]? = some z := ⟨_, getElem?_pos _ _ (by omega)⟩
 refine w_ ?_
 refine lc (Does.eqlU (Evl.tmp rfl) (Evl.u8 48 rfl) rfl) ?_
 iterate 2 refine w_ ?_
 refine AC.ret ?_
 subst hO
 have e4 : (decide (c2 = 48) : Bool) = (decide (bAt mark p = 48)) := by
  rw [bAt_get (by assumption)]
 exact fin_is _ _ [] (Res.one rfl (Rs.tmp rfl)) ((congrArg (fun z_ => lB z_) e4)) ⟨rfl, trivial⟩ rfl rfl

theorem fc_slices_IndexFunc_int_int (s : List Int) (mark : ByteArray) (hp : ∀ p ∈ s, 0 ≤ p ∧ p < (mark.size : Int)) : FC Tryz.prog 248 [(false, [.dat (.sl 3 .int) s]), (false, [.clo 351 [0]])] [(0, some (.box 9 [dS mark]))] 1 (Is (lI (idxF (fun p => decide (bAt mark p = 48)) s)) [(0, some (.box 9 [dS mark]))]) := by
 refine FC.go Tryz.func248 rfl rfl Tryz.ntmps248 fun O_ hO w0_ N0_ X_ h0_ f0_ => ?_
 iterate 6 refine w_ ?_
 refine AL.fact (fact_len (x := .tmp 6) (Evl.tmp rfl)) fun hl1 => ?_
 iterate 4 refine w_ ?_
 refine AC.loopW (fun m_ s_ => ∃ (k : Nat), k ≤ s.length ∧ m_ = s.length - k ∧ (NoneTo (fun p => decide (bAt mark p = 48)) s k) ∧ s_ = ⟨[(0, lf (.dat (.sl 3 .int) s)), (1, lf (.clo 351 [0])), (7, lI (s.length : Int)), (8, lI (k : Int))], [(0, some (.box 9 [dS mark]))]⟩) ⟨0, Nat.zero_le _, rfl, NoneTo.zero, rfl⟩ ?_ ?_
 · exact Wk.of [] rfl ⟨rfl, rfl, rfl, rfl, trivial⟩ ⟨rfl, trivial⟩ rfl rfl
 rintro m_ s_ ⟨k, hk2, hm3, hno, rfl⟩
 iterate 4 refine w_ ?_
 cases hb4 : (decide ((k : Int) < (s.length : Int)))
 ·have hb4' := of_decide_eq_false hb4
  refine w_ ?_
  refine AC.exit ?_
  refine (?_ : AC _ _ _ _ _)
  iterate 3 refine w_ ?_
  refine AC.ret ?_
  subst hO
  have e5 : ((-1) : Int) = (idxF (fun p => decide (bAt mark p = 48)) s) := by
   first | exact (hno.no (by omega)).symm
  exact fin_is _ _ [] (Res.one rfl (Rs.tmp rfl)) ((congrArg (fun z_ => lI z_) e5)) ⟨rfl, trivial⟩ rfl rfl
 ·have hb4' := of_decide_eq_true hb4
  iterate 12 refine w_ ?_
  obtain ⟨x6, hx7⟩ : ∃ z, s[k]? = some z := ⟨_, List.getElem?_eq_getElem (by omega)⟩
  iterate 2 refine w_ ?_
  refine AL.fact (fact_int (x := .tmp 15) (Evl.tmp rfl)) fun hi8 => lc (Does.callF (args0 := [(false, [dI x6])]) (caps := [0]) 1 [(0, 0)] (fc_impl_isEnabled_1 x6 mark (hp _ (List.mem_of_getElem? hx7)).1 (hp _ (List.mem_of_getElem? hx7)).2) enters_351 rfl (Evl.tmp rfl) rfl rfl ⟨_, _, rfl, (Ev.tmp rfl), rfl⟩ ⟨rfl, trivial⟩ rfl ⟨trivial, trivial⟩ (nlr rfl)) ?_
  refine w_ ?_
  cases hb9 : (decide (bAt mark x6 = 48))
  ·have hb9' := of_decide_eq_false hb9
   refine w_ ?_
   refine AC.skip ?_
   refine (?_ : AC _ _ _ _ _)
   iterate 3 refine w_ ?_
   refine AL.nil <| lend ⟨k + 1, by omega, rfl, hno.step hx7 (by assumption), rfl⟩ (by omega) ?_
   exact Wk.of [] rfl ⟨rfl, rfl, rfl, rfl, trivial⟩ ⟨rfl, trivial⟩ rfl rfl
  ·have hb9' := of_decide_eq_true hb9
   iterate 5 refine w_ ?_
   refine AC.ret ?_
   subst hO
   have e10 : ((k : Int) : Int) = (idxF (fun p => decide (bAt mark p = 48)) s) := by
    exact (hno.at hx7 (by assumption)).symm
   exact fin_is _ _ [] (Res.one rfl (Rs.tmp rfl)) ((congrArg (fun z_ => lI z_) e10)) ⟨rfl, trivial⟩ rfl rfl

theorem fc_slices_ContainsFunc_int_int (s : List Int) (mark : ByteArray) (hp : ∀ p ∈ s, 0 ≤ p ∧ p < (mark.size : Int)) : FC Tryz.prog 142 [(false, [.dat (.sl 3 .int) s]), (false, [.clo 351 [0]])] [(0, some (.box 9 [dS mark]))] 1 (Is (lB (s.any (fun p => decide (bAt mark p = 48)))) [(0, some (.box 9 [dS mark]))]) := by
 refine FC.go Tryz.func142 rfl rfl Tryz.ntmps142 fun O_ hO w0_ N0_ X_ h0_ f0_ => ?_
 iterate 6 refine w_ ?_
 refine lc (dP 1 [] (fc_slices_IndexFunc_int_int s mark hp) enters_248) ?_
 iterate 3 refine w_ ?_
 refine AC.ret ?_
 subst hO
 have e1 : (decide (0 ≤ (idxF (fun p => decide (bAt mark p = 48)) s)) : Bool) = (s.any (fun p => decide (bAt mark p = 48))) := by
  exact idxF_any _ _
 exact fin_is _ _ [] (Res.one rfl (Rs.tmp rfl)) ((congrArg (fun z_ => lB z_) e1)) ⟨rfl, trivial⟩ rfl rfl

theorem fc_impl_isEnabled (t : List Int × List Int) (mark : ByteArray) (hp : PlOk mark t.1) : FC Tryz.prog 294 [(true, [.dat (.sl 3 .int) t.1, .dat (.sl 3 .int) t.2]), (false, [dS mark])] [] 0 (Pure (lB (enb mark t))) := by
 refine FC.go Tryz.func294 rfl rfl Tryz.ntmps294 fun O_ hO w0_ N0_ X_ h0_ f0_ => ?_
 refine w_ ?_
 refine xbx 0 ?_
 refine xbx 1 ?_
 iterate 5 refine w_ ?_
 refine lc (Does.makeFunc ⟨_, _, rfl, (Evl.tmp rfl), rfl, rfl⟩ rfl) ?_
 refine lc (dP 2 [(0, 1)] (fc_slices_ContainsFunc_int_int t.1 mark (fun p h => (hp p h).1)) enters_142) ?_
 iterate 3 refine w_ ?_
 refine AC.ret ?_
 subst hO
 have e1 : (!(t.1.any (fun p => decide (bAt mark p = 48))) : Bool) = (enb mark t) := by
  rfl
 exact fin_pure (Res.one rfl (Rs.tmp rfl)) ((congrArg (fun z_ => lB z_) e1)) rfl

theorem fc_impl_enabled (n : Int × (List (List Int × List Int))) (mark : ByteArray) (hnb : ∀ t ∈ n.2, PlOk mark t.1 ∧ PlOk mark t.2) (hnl : n.2.length ≤ 2000000) : FC Tryz.prog 224 [(true, [dI n.1, .dat (.sl 198 (.pr (.sl 3 .int) (.sl 3 .int))) n.2]), (false, [dS mark])] [] 0 (Own1 3 .int (enbs n mark)) := by
 refine FC.go Tryz.func224 rfl rfl Tryz.ntmps224 fun O_ hO w0_ N0_ X_ h0_ f0_ => ?_
 refine AC.fact (fact_ag (x := .tmp 0) (i := 0) (Ev.tmp rfl) rfl) fun hi1 => ?_
 refine w_ ?_
 refine xbx 0 ?_
 iterate 3 refine w_ ?_
 refine lc (dBs 1 (e := .int) zer_3) ?_
 iterate 6 refine w_ ?_
 refine AL.fact (fact_len (x := .tmp 10) (Evl.tmp rfl)) fun hl2 => ?_
 iterate 4 refine w_ ?_
 refine AC.loopW (fun m_ s_ => ∃ (k : Nat), k ≤ n.2.length ∧ m_ = n.2.length - k ∧ s_ = ⟨[(1, lf (dS mark)), (4, lf (.val (.slice none 0 0))), (5, lR 2), (10, lf (.dat (.sl 198 (.pr (.sl 3 .int) (.sl 3 .int))) n.2)), (11, lI (n.2.length : Int)), (12, lI (k : Int))], [(2, some (.arr 3 .int (picks (enb mark) n.2 k)))]⟩) ⟨0, Nat.zero_le _, rfl, rfl⟩ ?_ ?_
 · exact Wk.of [(2, 1)] rfl ⟨rfl, rfl, rfl, rfl, rfl, rfl, trivial⟩ ⟨(entE (by first | rfl | simp)), trivial⟩ rfl rfl
 rintro m_ s_ ⟨k, hk3, hm4, rfl⟩
 have hpk := picks_len (enb mark) n.2 k
 iterate 4 refine w_ ?_
 cases hb5 : (decide ((k : Int) < (n.2.length : Int)))
 ·have hb5' := of_decide_eq_false hb5
  refine w_ ?_
  refine AC.exit ?_
  refine (?_ : AC _ _ _ _ _)
  iterate 4 refine w_ ?_
  refine AC.ret ?_
  subst hO
  refine fin_own (e := .int) (xs := (picks (enb mark) n.2 k)) (Res.one rfl (Rs.tmp rfl)) rfl ?_
  rw [show k = n.2.length by omega]; rfl
 ·have hb5' := of_decide_eq_true hb5
  iterate 6 refine w_ ?_
  obtain ⟨x6, hx7⟩ : ∃ z, n.2[k]? = some z := ⟨_, List.getElem?_eq_getElem (by omega)⟩
  iterate 2 refine w_ ?_
  refine lc (xal 3 (.pr (.sl 3 .int) (.sl 3 .int)) zer_198) ?_
  iterate 6 refine w_ ?_
  refine lc (dK (fc_impl_isEnabled x6 mark (hnb _ (List.mem_of_getElem? hx7)).1) enters_294) ?_
  refine w_ ?_
  cases hb8 : (enb mark x6)
  ·refine w_ ?_
   refine AC.skip ?_
   refine (?_ : AC _ _ _ _ _)
   iterate 3 refine w_ ?_
   refine AL.nil <| lend ⟨k + 1, by omega, rfl, rfl⟩ (by omega) ?_
   exact Wk.of [] rfl ⟨rfl, rfl, rfl, rfl, rfl, rfl, trivial⟩ ⟨(entE (by first | exact picks_yes hx7 (by assumption) | exact picks_no hx7 (by assumption))), trivial⟩ rfl rfl
  ·iterate 4 refine w_ ?_
   refine lc (dBs 4 (e := .int) zer_3) ?_
   refine lc (dA 5 elb_3) ?_
   refine w_ ?_
   refine AL.nil ?_
   refine (?_ : AC _ _ _ _ _)
   iterate 3 refine w_ ?_
   refine AL.nil <| lend ⟨k + 1, by omega, rfl, rfl⟩ (by omega) ?_
   exact Wk.of [(2, 5)] rfl ⟨rfl, rfl, rfl, rfl, rfl, rfl, trivial⟩ ⟨(entE (by first | exact picks_yes hx7 (by assumption) | exact picks_no hx7 (by assumption))), trivial⟩ rfl rfl

theorem fc_impl_fire (n : Int × (List (List Int × List Int))) (mark : ByteArray) (t : Int) (hnb : ∀ t ∈ n.2, PlOk mark t.1 ∧ PlOk mark t.2) (hnl : n.2.length ≤ 2000000) : FC Tryz.prog 349 [(true, [dI n.1, .dat (.sl 198 (.pr (.sl 3 .int) (.sl 3 .int))) n.2]), (false, [dS mark]), (false, [dI t])] [] 0 (Pure (PV.tup [(false, [dS ((fireE n mark t).1)]), (false, [dB ((fireE n mark t).2)])])) := by
 have hml := bl_len mark
 refine FC.go Tryz.func349 rfl rfl Tryz.ntmps349 fun O_ hO w0_ N0_ X_ h0_ f0_ => ?_
 refine AC.fact (fact_ag (x := .tmp 0) (i := 0) (Ev.tmp rfl) rfl) fun hi1 => AC.fact (fact_int (x := .tmp 2) (Evl.tmp rfl)) fun hi2 => ?_
 refine w_ ?_
 refine xbx 0 ?_
 iterate 8 refine w_ ?_
 refine AL.fact (fact_len (x := .tmp 15) (Evl.tmp rfl)) fun hl3 => ?_
 iterate 2 refine w_ ?_
 refine lc (dK (fc_impl_within t 0 ((n.2.length : Int) - 1)) enters_84) ?_
 iterate 2 refine w_ ?_
 cases hb4 : (decide (0 ≤ t ∧ t ≤ ((n.2.length : Int) - 1)))
 ·have hb4' := of_decide_eq_false hb4
  iterate 15 refine w_ ?_
  refine AC.ret ?_
  subst hO
  have e5 : ((⟨#[]⟩ : ByteArray) : ByteArray) = ((fireE n mark t).1) := by
   (rw [fireE_out (by omega)]; done)
  have e6 : (false : Bool) = ((fireE n mark t).2) := by
   (rw [fireE_out (by omega)]; done)
  exact fin_pure (Res.two rfl (Rs.tmp rfl) (Rs.tmp rfl)) (((congrArg (fun z_ => PV.tup [(false, [dS z_]), (false, [dB false])]) e5)).trans (congrArg (fun z_ => PV.tup [(false, [dS ((fireE n mark t).1)]), (false, [dB z_])]) e6)) rfl
 ·have hb4' := of_decide_eq_true hb4
  iterate 3 refine w_ ?_
  obtain ⟨x, hx8⟩ : ∃ z, n.2[(t).toNat]? = some z := ⟨_, List.getElem?_eq_getElem (by omega)⟩
  have hx1 := (hnb _ (List.mem_of_getElem? hx8)).1
  have hx2 := (hnb _ (List.mem_of_getElem? hx8)).2
  iterate 3 refine w_ ?_
  refine lgy rfl rfl (dK (fc_impl_isEnabled x mark hx1) enters_294) ?_
  iterate 3 refine w_ ?_
  cases hb9 : (enb mark x)
  ·iterate 5 refine w_ ?_
   refine AC.ret ?_
   subst hO
   have e10 : ((⟨#[]⟩ : ByteArray) : ByteArray) = ((fireE n mark t).1) := by
    (rw [fireE_off (by assumption) (by assumption)]; done)
   have e11 : (false : Bool) = ((fireE n mark t).2) := by
    (rw [fireE_off (by assumption) (by assumption)]; done)
   exact fin_pure (Res.two rfl (Rs.tmp rfl) (Rs.tmp rfl)) (((congrArg (fun z_ => PV.tup [(false, [dS z_]), (false, [dB false])]) e10)).trans (congrArg (fun z_ => PV.tup [(false, [dS ((fireE n mark t).1)]), (false, [dB z_])]) e11)) rfl
  ·iterate 4 refine w_ ?_
   refine lc (Does.toBytes 1 (Evl.tmp rfl) und_9 und_22 und_5 rfl (Fresh.of rfl) (nlr rfl)) ?_
   iterate 10 refine w_ ?_
   refine AL.fact (fact_len (x := .tmp 37) (Evl.tmp rfl)) fun hl12 => ?_
   iterate 4 refine w_ ?_
   refine AC.loopW (fun m_ s_ => ∃ (k : Nat) (l : List UInt8), k ≤ x.1.length ∧ m_ = x.1.length - k ∧ (clr mark.toList x.1 = clr l (x.1.drop k)) ∧ (l.length = mark.toList.length) ∧ s_ = ⟨[(2, lI t), (3, lP 0 0), (6, lf (dS (⟨#[]⟩ : ByteArray))), (7, lB false), (8, lR 2), (37, lf (.dat (.sl 3 .int) x.1)), (38, lI (x.1.length : Int)), (39, lI (k : Int))], [(0, some (.box 25 [dI n.1, .dat (.sl 198 (.pr (.sl 3 .int) (.sl 3 .int))) n.2])), (2, some (.bys 5 l))]⟩) ⟨0, mark.toList, Nat.zero_le _, rfl, rfl, rfl, rfl⟩ ?_ ?_
   · exact Wk.of [(2, 1)] rfl ⟨rfl, rfl, rfl, rfl, rfl, rfl, rfl, rfl, trivial⟩ ⟨rfl, rfl, trivial⟩ rfl rfl
   rintro m_ s_ ⟨k, l, hk13, hm14, hA, hL, rfl⟩
   iterate 4 refine w_ ?_
   cases hb15 : (decide ((k : Int) < (x.1.length : Int)))
   ·have hb15' := of_decide_eq_false hb15
    refine w_ ?_
    refine AC.exit ?_
    refine (?_ : AC _ _ _ _ _)
    iterate 8 refine w_ ?_
    refine AL.fact (fact_len (x := .tmp 52) (Evl.tmp rfl)) fun hl16 => ?_
    iterate 4 refine w_ ?_
    refine AC.loopW (fun m_ s_ => ∃ (i : Nat) (l2 : List UInt8), i ≤ x.2.length ∧ m_ = x.2.length - i ∧ (put1 (clr mark.toList x.1) x.2 = put1 l2 (x.2.drop i)) ∧ (l2.length = mark.toList.length) ∧ s_ = ⟨[(8, lR 3), (52, lf (.dat (.sl 3 .int) x.2)), (53, lI (x.2.length : Int)), (54, lI (i : Int))], [(3, some (.bys 5 l2))]⟩) ⟨0, l, Nat.zero_le _, rfl, by rw [hA, clr_end (by omega)]; rfl, hL, rfl⟩ ?_ ?_
    · exact Wk.of [(3, 2)] rfl ⟨rfl, rfl, rfl, rfl, trivial⟩ ⟨rfl, trivial⟩ rfl rfl
    rintro m_ s_ ⟨i, l2, hk17, hm18, hA2, hL2, rfl⟩
    iterate 4 refine w_ ?_
    cases hb19 : (decide ((i : Int) < (x.2.length : Int)))
    ·have hb19' := of_decide_eq_false hb19
     refine w_ ?_
     refine AC.exit ?_
     refine (?_ : AC _ _ _ _ _)
     iterate 2 refine w_ ?_
     refine lc (Does.ofBytes (ys := l2) (Evl.repB (Evl.tmp rfl) rfl) und_22 und_5 und_9 rfl) ?_
     iterate 3 refine w_ ?_
     refine AC.ret ?_
     subst hO
     have e20 : ((⟨(l2).toArray⟩ : ByteArray) : ByteArray) = ((fireE n mark t).1) := by
      (rw [fireE_x (x := x) (by assumption) (by omega) (by assumption), firedV_yes (hA2.trans (put1_end (by omega)))]; done)
     have e21 : (true : Bool) = ((fireE n mark t).2) := by
      (rw [fireE_x (x := x) (by assumption) (by omega) (by assumption), firedV_yes (hA2.trans (put1_end (by omega)))]; done)
     exact fin_pure (Res.two rfl (Rs.tmp rfl) (Rs.tmp rfl)) (((congrArg (fun z_ => PV.tup [(false, [dS z_]), (false, [dB true])]) e20)).trans (congrArg (fun z_ => PV.tup [(false, [dS ((fireE n mark t).1)]), (false, [dB z_])]) e21)) rfl
    ·have hb19' := of_decide_eq_true hb19
     iterate 5 refine w_ ?_
     obtain ⟨x22, hx23⟩ : ∃ z, x.2[i]? = some z := ⟨_, List.getElem?_eq_getElem (by omega)⟩
     have hrx22 := (hx2 _ (List.mem_of_getElem? hx23)).1
     iterate 2 refine w_ ?_
     refine AL.fact (fact_int (x := .tmp 57) (Evl.tmp rfl)) fun hi24 => ?_
     iterate 6 refine w_ ?_
     refine lc (Does.indexB (Evl.tmp rfl) rfl (Evl.tmp rfl) und_22 tsh_5 rfl (by omega) (by first | omega | (simp only [List.length_set]; omega))) ?_
     obtain ⟨x25, hx26⟩ : ∃ z, l2[(x22).toNat]? = some z := ⟨_, List.getElem?_eq_getElem (by omega)⟩
     refine lc (Does.loadB (Evl.tmp rfl) rfl hx26 tsh_5 rfl) <| lc (Does.eqlU (Evl.tmp rfl) (Evl.u8 49 rfl) rfl) ?_
     refine w_ ?_
     cases hb27 : (decide (x25 = 49))
     ·have hb27' := of_decide_eq_false hb27
      iterate 5 refine w_ ?_
      refine lc (Does.indexB (Evl.tmp rfl) rfl (Evl.tmp rfl) und_22 tsh_5 rfl (by omega) (by first | omega | (simp only [List.length_set]; omega))) <| lc (Does.storeB (Evl.tmp rfl) rfl (by first | omega | (simp only [List.length_set]; omega)) (Evl.u8 49 rfl) tsh_5) <| AL.nil ?_
      refine (?_ : AC _ _ _ _ _)
      iterate 3 refine w_ ?_
      refine AL.nil <| lend ⟨i + 1, (l2.set ((x22).toNat) 49), by omega, rfl, hA2.trans (put1_step hx23 hx26 (by assumption)), by rw [List.length_set]; exact hL2, rfl⟩ (by omega) ?_
      exact Wk.of [] rfl ⟨rfl, rfl, rfl, rfl, trivial⟩ ⟨(entY (by first | rfl | simp)), trivial⟩ rfl rfl
     ·have hb27' := of_decide_eq_true hb27
      iterate 5 refine w_ ?_
      refine AC.ret ?_
      subst hO
      have e28 : ((⟨#[]⟩ : ByteArray) : ByteArray) = ((fireE n mark t).1) := by
       (rw [fireE_x (x := x) (by assumption) (by omega) (by assumption), firedV_no (hA2.trans (put1_no hx23 hx26 (by assumption)))]; done)
      have e29 : (false : Bool) = ((fireE n mark t).2) := by
       (rw [fireE_x (x := x) (by assumption) (by omega) (by assumption), firedV_no (hA2.trans (put1_no hx23 hx26 (by assumption)))]; done)
      exact fin_pure (Res.two rfl (Rs.tmp rfl) (Rs.tmp rfl)) (((congrArg (fun z_ => PV.tup [(false, [dS z_]), (false, [dB false])]) e28)).trans (congrArg (fun z_ => PV.tup [(false, [dS ((fireE n mark t).1)]), (false, [dB z_])]) e29)) rfl
   ·have hb15' := of_decide_eq_true hb15
    iterate 5 refine w_ ?_
    obtain ⟨x30, hx31⟩ : ∃ z, x.1[k]? = some z := ⟨_, List.getElem?_eq_getElem (by omega)⟩
    have hrx30 := (hx1 _ (List.mem_of_getElem? hx31)).1
    iterate 2 refine w_ ?_
    refine AL.fact (fact_int (x := .tmp 42) (Evl.tmp rfl)) fun hi32 => ?_
    iterate 5 refine w_ ?_
    refine lc (Does.indexB (Evl.tmp rfl) rfl (Evl.tmp rfl) und_22 tsh_5 rfl (by omega) (by first | omega | (simp only [List.length_set]; omega))) <| lc (Does.storeB (Evl.tmp rfl) rfl (by first | omega | (simp only [List.length_set]; omega)) (Evl.u8 48 rfl) tsh_5) <| AL.nil ?_
    refine (?_ : AC _ _ _ _ _)
    iterate 3 refine w_ ?_
    refine AL.nil <| lend ⟨k + 1, (l.set ((x30).toNat) 48), by omega, rfl, hA.trans (clr_step hx31), by rw [List.length_set]; exact hL, rfl⟩ (by omega) ?_
    exact Wk.of [] rfl ⟨rfl, rfl, rfl, rfl, rfl, rfl, rfl, rfl, trivial⟩ ⟨rfl, (entY (by first | rfl | simp)), trivial⟩ rfl rfl

theorem fc_spec_l1Fire (n : Int × (List (List Int × List Int))) (mark : ByteArray) (t : Int) (hnb : ∀ t ∈ n.2, PlOk mark t.1 ∧ PlOk mark t.2) (ht : 0 ≤ t ∧ t < (n.2.length : Int)) : FC Tryz.prog 307 [(true, [dI n.1, .dat (.sl 198 (.pr (.sl 3 .int) (.sl 3 .int))) n.2]), (false, [dS mark]), (false, [dI t])] [] 0 (Pure (PV.tup [(false, [dS ((fireV n mark t).1)]), (false, [dB ((fireV n mark t).2)])])) := by
 have hml := bl_len mark
 refine FC.go Tryz.func307 rfl rfl Tryz.ntmps307 fun O_ hO w0_ N0_ X_ h0_ f0_ => ?_
 refine AC.fact (fact_ag (x := .tmp 0) (i := 0) (Ev.tmp rfl) rfl) fun hi1 => AC.fact (fact_int (x := .tmp 2) (Evl.tmp rfl)) fun hi2 => ?_
 refine w_ ?_
 refine xbx 0 ?_
 iterate 5 refine w_ ?_
 refine lc (Does.toBytes 1 (Evl.tmp rfl) und_9 und_22 und_5 rfl (Fresh.of rfl) (nlr rfl)) ?_
 iterate 7 refine w_ ?_
 obtain ⟨x, hx4⟩ : ∃ z, n.2[(t).toNat]? = some z := ⟨_, List.getElem?_eq_getElem (by omega)⟩
 have hx1 := (hnb _ (List.mem_of_getElem? hx4)).1
 have hx2 := (hnb _ (List.mem_of_getElem? hx4)).2
 iterate 3 refine w_ ?_
 refine AL.fact (fact_len (x := .tmp 20) (Evl.tmp rfl)) fun hl5 => ?_
 iterate 4 refine w_ ?_
 refine AC.loopW (fun m_ s_ => ∃ (k : Nat) (l : List UInt8), k ≤ x.1.length ∧ m_ = x.1.length - k ∧ (clr mark.toList x.1 = clr l (x.1.drop k)) ∧ (l.length = mark.toList.length) ∧ s_ = ⟨[(2, lI t), (3, lP 0 0), (6, lf (dS (⟨#[]⟩ : ByteArray))), (7, lB false), (8, lR 2), (20, lf (.dat (.sl 3 .int) x.1)), (21, lI (x.1.length : Int)), (22, lI (k : Int))], [(0, some (.box 25 [dI n.1, .dat (.sl 198 (.pr (.sl 3 .int) (.sl 3 .int))) n.2])), (2, some (.bys 5 l))]⟩) ⟨0, mark.toList, Nat.zero_le _, rfl, rfl, rfl, rfl⟩ ?_ ?_
 · exact Wk.of [(2, 1)] rfl ⟨rfl, rfl, rfl, rfl, rfl, rfl, rfl, rfl, trivial⟩ ⟨rfl, rfl, trivial⟩ rfl rfl
 rintro m_ s_ ⟨k, l, hk6, hm7, hA, hL, rfl⟩
 iterate 4 refine w_ ?_
 cases hb8 : (decide ((k : Int) < (x.1.length : Int)))
 ·have hb8' := of_decide_eq_false hb8
  refine w_ ?_
  refine AC.exit ?_
  refine (?_ : AC _ _ _ _ _)
  iterate 8 refine w_ ?_
  refine AL.fact (fact_len (x := .tmp 35) (Evl.tmp rfl)) fun hl9 => ?_
  iterate 4 refine w_ ?_
  refine AC.loopW (fun m_ s_ => ∃ (i : Nat) (l2 : List UInt8), i ≤ x.2.length ∧ m_ = x.2.length - i ∧ (put1 (clr mark.toList x.1) x.2 = put1 l2 (x.2.drop i)) ∧ (l2.length = mark.toList.length) ∧ s_ = ⟨[(8, lR 3), (35, lf (.dat (.sl 3 .int) x.2)), (36, lI (x.2.length : Int)), (37, lI (i : Int))], [(3, some (.bys 5 l2))]⟩) ⟨0, l, Nat.zero_le _, rfl, by rw [hA, clr_end (by omega)]; rfl, hL, rfl⟩ ?_ ?_
  · exact Wk.of [(3, 2)] rfl ⟨rfl, rfl, rfl, rfl, trivial⟩ ⟨rfl, trivial⟩ rfl rfl
  rintro m_ s_ ⟨i, l2, hk10, hm11, hA2, hL2, rfl⟩
  iterate 4 refine w_ ?_
  cases hb12 : (decide ((i : Int) < (x.2.length : Int)))
  ·have hb12' := of_decide_eq_false hb12
   refine w_ ?_
   refine AC.exit ?_
   refine (?_ : AC _ _ _ _ _)
   iterate 2 refine w_ ?_
   refine lc (Does.ofBytes (ys := l2) (Evl.repB (Evl.tmp rfl) rfl) und_22 und_5 und_9 rfl) ?_
   iterate 3 refine w_ ?_
   refine AC.ret ?_
   subst hO
   have e13 : ((⟨(l2).toArray⟩ : ByteArray) : ByteArray) = ((fireV n mark t).1) := by
    first | (rw [fireV_x (x := x) (by assumption), firedV_yes (hA2.trans (put1_end (by omega)))]; done)
   have e14 : (true : Bool) = ((fireV n mark t).2) := by
    first | (rw [fireV_x (x := x) (by assumption), firedV_yes (hA2.trans (put1_end (by omega)))]; done)
   exact fin_pure (Res.two rfl (Rs.tmp rfl) (Rs.tmp rfl)) (((congrArg (fun z_ => PV.tup [(false, [dS z_]), (false, [dB true])]) e13)).trans (congrArg (fun z_ => PV.tup [(false, [dS ((fireV n mark t).1)]), (false, [dB z_])]) e14)) rfl
  ·have hb12' := of_decide_eq_true hb12
   iterate 5 refine w_ ?_
   obtain ⟨x15, hx16⟩ : ∃ z, x.2[i]? = some z := ⟨_, List.getElem?_eq_getElem (by omega)⟩
   have hrx15 := (hx2 _ (List.mem_of_getElem? hx16)).1
   iterate 2 refine w_ ?_
   refine AL.fact (fact_int (x := .tmp 40) (Evl.tmp rfl)) fun hi17 => ?_
   iterate 6 refine w_ ?_
   refine lc (Does.indexB (Evl.tmp rfl) rfl (Evl.tmp rfl) und_22 tsh_5 rfl (by omega) (by first | omega | (simp only [List.length_set]; omega))) ?_
   obtain ⟨x18, hx19⟩ : ∃ z, l2[(x15).toNat]? = some z := ⟨_, List.getElem?_eq_getElem (by omega)⟩
   refine lc (Does.loadB (Evl.tmp rfl) rfl hx19 tsh_5 rfl) <| lc (Does.eqlU (Evl.tmp rfl) (Evl.u8 49 rfl) rfl) ?_
   refine w_ ?_
   cases hb20 : (decide (x18 = 49))
   ·have hb20' := of_decide_eq_false hb20
    iterate 5 refine w_ ?_
    refine lc (Does.indexB (Evl.tmp rfl) rfl (Evl.tmp rfl) und_22 tsh_5 rfl (by omega) (by first | omega | (simp only [List.length_set]; omega))) <| lc (Does.storeB (Evl.tmp rfl) rfl (by first | omega | (simp only [List.length_set]; omega)) (Evl.u8 49 rfl) tsh_5) <| AL.nil ?_
    refine (?_ : AC _ _ _ _ _)
    iterate 3 refine w_ ?_
    refine AL.nil <| lend ⟨i + 1, (l2.set ((x15).toNat) 49), by omega, rfl, hA2.trans (put1_step hx16 hx19 (by assumption)), by rw [List.length_set]; exact hL2, rfl⟩ (by omega) ?_
    exact Wk.of [] rfl ⟨rfl, rfl, rfl, rfl, trivial⟩ ⟨(entY (by first | rfl | simp)), trivial⟩ rfl rfl
   ·have hb20' := of_decide_eq_true hb20
    iterate 5 refine w_ ?_
    refine AC.ret ?_
    subst hO
    have e21 : ((⟨#[]⟩ : ByteArray) : ByteArray) = ((fireV n mark t).1) := by
     (rw [fireV_x (x := x) (by assumption), firedV_no (hA2.trans (put1_no hx16 hx19 (by assumption)))]; done)
    have e22 : (false : Bool) = ((fireV n mark t).2) := by
     (rw [fireV_x (x := x) (by assumption), firedV_no (hA2.trans (put1_no hx16 hx19 (by assumption)))]; done)
    exact fin_pure (Res.two rfl (Rs.tmp rfl) (Rs.tmp rfl)) (((congrArg (fun z_ => PV.tup [(false, [dS z_]), (false, [dB false])]) e21)).trans (congrArg (fun z_ => PV.tup [(false, [dS ((fireV n mark t).1)]), (false, [dB z_])]) e22)) rfl
 ·have hb8' := of_decide_eq_true hb8
  iterate 5 refine w_ ?_
  obtain ⟨x23, hx24⟩ : ∃ z, x.1[k]? = some z := ⟨_, List.getElem?_eq_getElem (by omega)⟩
  have hrx23 := (hx1 _ (List.mem_of_getElem? hx24)).1
  iterate 2 refine w_ ?_
  refine AL.fact (fact_int (x := .tmp 25) (Evl.tmp rfl)) fun hi25 => ?_
  iterate 5 refine w_ ?_
  refine lc (Does.indexB (Evl.tmp rfl) rfl (Evl.tmp rfl) und_22 tsh_5 rfl (by omega) (by first | omega | (simp only [List.length_set]; omega))) <| lc (Does.storeB (Evl.tmp rfl) rfl (by first | omega | (simp only [List.length_set]; omega)) (Evl.u8 48 rfl) tsh_5) <| AL.nil ?_
  refine (?_ : AC _ _ _ _ _)
  iterate 3 refine w_ ?_
  refine AL.nil <| lend ⟨k + 1, (l.set ((x23).toNat) 48), by omega, rfl, hA.trans (clr_step hx24), by rw [List.length_set]; exact hL, rfl⟩ (by omega) ?_
  exact Wk.of [] rfl ⟨rfl, rfl, rfl, rfl, rfl, rfl, rfl, rfl, trivial⟩ ⟨rfl, (entY (by first | rfl | simp)), trivial⟩ rfl rfl

theorem fc_spec_l1Ready (n : Int × (List (List Int × List Int))) (mark : ByteArray) (t : Int) (hnb : ∀ t ∈ n.2, PlOk mark t.1 ∧ PlOk mark t.2) (ht : 0 ≤ t ∧ t < (n.2.length : Int)) : FC Tryz.prog 309 [(true, [dI n.1, .dat (.sl 198 (.pr (.sl 3 .int) (.sl 3 .int))) n.2]), (false, [dS mark]), (false, [dI t])] [] 0 (Pure (lB (enbAt n mark t))) := by
 refine FC.go Tryz.func309 rfl rfl Tryz.ntmps309 fun O_ hO w0_ N0_ X_ h0_ f0_ => ?_
 refine AC.fact (fact_ag (x := .tmp 0) (i := 0) (Ev.tmp rfl) rfl) fun hi1 => AC.fact (fact_int (x := .tmp 2) (Evl.tmp rfl)) fun hi2 => ?_
 refine w_ ?_
 refine xbx 0 ?_
 iterate 7 refine w_ ?_
 obtain ⟨x, hx4⟩ : ∃ z, n.2[(t).toNat]? = some z := ⟨_, List.getElem?_eq_getElem (by omega)⟩
 have hx1 := (hnb _ (List.mem_of_getElem? hx4)).1
 iterate 3 refine w_ ?_
 refine AL.fact (fact_len (x := .tmp 14) (Evl.tmp rfl)) fun hl5 => ?_
 iterate 4 refine w_ ?_
 refine AC.loopW (fun m_ s_ => ∃ (k : Nat), k ≤ x.1.length ∧ m_ = x.1.length - k ∧ (∀ j, j < k → ∀ y, x.1[j]? = some y → bAt mark y = 49) ∧ s_ = ⟨[(1, lf (dS mark)), (14, lf (.dat (.sl 3 .int) x.1)), (15, lI (x.1.length : Int)), (16, lI (k : Int))], []⟩) ⟨0, Nat.zero_le _, rfl, fun j hj => absurd hj (Nat.not_lt_zero j), rfl⟩ ?_ ?_
 · exact Wk.of [] rfl ⟨rfl, rfl, rfl, rfl, trivial⟩ trivial rfl rfl
 rintro m_ s_ ⟨k, hk6, hm7, hA, rfl⟩
 iterate 4 refine w_ ?_
 cases hb8 : (decide ((k : Int) < (x.1.length : Int)))
 ·have hb8' := of_decide_eq_false hb8
  refine w_ ?_
  refine AC.exit ?_
  refine (?_ : AC _ _ _ _ _)
  iterate 3 refine w_ ?_
  refine AC.ret ?_
  subst hO
  have e9 : (true : Bool) = (enbAt n mark t) := by
   first | exact (ready_yes (by assumption) hx1 hA (by omega)).symm
  exact fin_pure (Res.one rfl (Rs.tmp rfl)) ((congrArg (fun z_ => lB z_) e9)) rfl
 ·have hb8' := of_decide_eq_true hb8
  iterate 5 refine w_ ?_
  obtain ⟨x10, hx11⟩ : ∃ z, x.1[k]? = some z := ⟨_, List.getElem?_eq_getElem (by omega)⟩
  have hrx10 := (hx1 _ (List.mem_of_getElem? hx11)).1
  iterate 2 refine w_ ?_
  refine AL.fact (fact_int (x := .tmp 19) (Evl.tmp rfl)) fun hi12 => ?_
  iterate 5 refine w_ ?_
  obtain ⟨c13, hc14⟩ : ∃ z, mark[(x10).toNat]? = some z := ⟨_, getElem?_pos _ _ (by omega)⟩
  refine w_ ?_
  refine lc (Does.neqU (Evl.tmp rfl) (Evl.u8 49 rfl) rfl) ?_
  refine w_ ?_
  cases hb15 : (!decide (c13 = 49))
  ·have hb15' : (c13 = 49) := nd_false hb15
   refine w_ ?_
   refine AC.skip ?_
   refine (?_ : AC _ _ _ _ _)
   iterate 3 refine w_ ?_
   refine AL.nil <| lend ⟨k + 1, by omega, rfl, ready_step hA hx11 (by assumption) (by assumption), rfl⟩ (by omega) ?_
   exact Wk.of [] rfl ⟨rfl, rfl, rfl, rfl, trivial⟩ trivial rfl rfl
  ·have hb15' : ¬ (c13 = 49) := nd_true hb15
   iterate 4 refine w_ ?_
   refine AC.ret ?_
   subst hO
   have e16 : (false : Bool) = (enbAt n mark t) := by
    exact (ready_no (by assumption) hx1 hx11 (by assumption) (by assumption)).symm
   exact fin_pure (Res.one rfl (Rs.tmp rfl)) ((congrArg (fun z_ => lB z_) e16)) rfl

theorem fc_spec_l1Enabled (n : Int × (List (List Int × List Int))) (mark : ByteArray) (hnb : ∀ t ∈ n.2, PlOk mark t.1 ∧ PlOk mark t.2) (hnl : n.2.length ≤ 2000000) : FC Tryz.prog 231 [(true, [dI n.1, .dat (.sl 198 (.pr (.sl 3 .int) (.sl 3 .int))) n.2]), (false, [dS mark])] [] 0 (Own1 3 .int (enbs n mark)) := by
 refine FC.go Tryz.func231 rfl rfl Tryz.ntmps231 fun O_ hO w0_ N0_ X_ h0_ f0_ => ?_
 refine AC.fact (fact_ag (x := .tmp 0) (i := 0) (Ev.tmp rfl) rfl) fun hi1 => ?_
 refine w_ ?_
 refine xbx 0 ?_
 iterate 9 refine w_ ?_
 refine AL.fact (fact_len (x := .tmp 8) (Evl.tmp rfl)) fun hl2 => ?_
 iterate 4 refine w_ ?_
 refine AC.wk (Wk.nilS 1 5 3 .int rfl (Fresh.of rfl) (nlr rfl)) ?_
 refine AC.loopW (fun m_ s_ => ∃ (k : Nat), k ≤ n.2.length ∧ m_ = n.2.length - k ∧ s_ = ⟨[(1, lf (dS mark)), (2, lP 0 0), (4, lf (.val (.slice none 0 0))), (5, lR 2), (9, lI (n.2.length : Int)), (10, lI (k : Int))], [(0, some (.box 25 [dI n.1, .dat (.sl 198 (.pr (.sl 3 .int) (.sl 3 .int))) n.2])), (2, some (.arr 3 .int (picks (enb mark) n.2 k)))]⟩) ⟨0, Nat.zero_le _, rfl, rfl⟩ ?_ ?_
 · exact Wk.of [(2, 1)] rfl ⟨rfl, rfl, rfl, rfl, rfl, rfl, trivial⟩ ⟨rfl, (entE (by first | rfl | simp)), trivial⟩ rfl rfl
 rintro m_ s_ ⟨k, hk3, hm4, rfl⟩
 have hpk := picks_len (enb mark) n.2 k
 iterate 4 refine w_ ?_
 cases hb5 : (decide ((k : Int) < (n.2.length : Int)))
 ·have hb5' := of_decide_eq_false hb5
  refine w_ ?_
  refine AC.exit ?_
  refine (?_ : AC _ _ _ _ _)
  iterate 4 refine w_ ?_
  refine AC.ret ?_
  subst hO
  refine fin_own (e := .int) (xs := (picks (enb mark) n.2 k)) (Res.one rfl (Rs.tmp rfl)) rfl ?_
  rw [show k = n.2.length by omega]; rfl
 ·have hb5' := of_decide_eq_true hb5
  iterate 12 refine w_ ?_
  refine lc (dK (fc_spec_l1Ready n mark (k : Int) hnb (by omega)) enters_309) ?_
  refine w_ ?_
  cases hb6 : (enbAt n mark (k : Int))
  ·refine w_ ?_
   refine AC.skip ?_
   refine (?_ : AC _ _ _ _ _)
   iterate 3 refine w_ ?_
   refine AL.nil <| lend ⟨k + 1, by omega, rfl, rfl⟩ (by omega) ?_
   exact Wk.of [] rfl ⟨rfl, rfl, rfl, rfl, rfl, rfl, trivial⟩ ⟨rfl, (entE (by first | exact picksE_yes (by omega) (by assumption) | exact picksE_no (by omega) (by assumption))), trivial⟩ rfl rfl
  ·iterate 4 refine w_ ?_
   refine lc (dBs 3 (e := .int) zer_3) ?_
   refine lc (dA 4 elb_3) ?_
   refine w_ ?_
   refine AL.nil ?_
   refine (?_ : AC _ _ _ _ _)
   iterate 3 refine w_ ?_
   refine AL.nil <| lend ⟨k + 1, by omega, rfl, rfl⟩ (by omega) ?_
   exact Wk.of [(2, 4)] rfl ⟨rfl, rfl, rfl, rfl, rfl, rfl, trivial⟩ ⟨rfl, (entE (by first | exact picksE_yes (by omega) (by assumption) | exact picksE_no (by omega) (by assumption))), trivial⟩ rfl rfl

end Go.Proofs.YtjaadeknhofhpaaGreat
