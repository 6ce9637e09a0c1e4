/- Walks over abstract states: which states are reached, as the reference says it; small words on lists. -/
import Derived.Test.YtbelopdphlllnaaWw
set_option linter.unusedSimpArgs false
set_option linter.unusedVariables false
namespace Go.Proofs.Ytbelopdphlllnaa
open Go.RowKit

inductive Rch (es : List (Int × Int)) : Int → Prop
  | zero : Rch es 0
  | step {u v : Int} : Rch es u → (u, v) ∈ es → Rch es v
def stepsA (rs : List DAr) : List (Int × Int) := rs.map fun a => (a.1, a.2.2.2)
def InE (n : Nat) (e : Int × Int) : Prop := (0 ≤ e.1 ∧ e.1 < n) ∧ 0 ≤ e.2 ∧ e.2 < n
def AllR (n : Nat) (es : List (Int × Int)) : Prop := ∀ k : Nat, k < n → Rch es k
/-- One pass over the edges. -/
def stepM (e : Int × Int) (m : List Bool) : List Bool := if m[e.1.toNat]? = some true then m.set e.2.toNat true else m
def passM : List (Int × Int) → List Bool → List Bool
  | [], m => m
  | e :: es, m => passM es (stepM e m)
def iterM (es : List (Int × Int)) : Nat → List Bool → List Bool
  | 0, m => m
  | f + 1, m => iterM es f (passM es m)
section
variable {es : List (Int × Int)} {e : Int × Int} {m : List Bool} {n f i k : Nat} {rs : List DAr} {a : DAr} {b : Bool}
theorem stepM_len : (stepM e m).length = m.length := by unfold stepM; split <;> simp
theorem passM_len : (passM es m).length = m.length := by
  induction es generalizing m with
  | nil => rfl
  | cons e es ih => rw [passM, ih, stepM_len]
theorem stepM_keep (h : m[i]? = some true) : (stepM e m)[i]? = some true := by
  unfold stepM
  split
  · by_cases h2 : e.2.toNat = i
    · rw [h2, List.getElem?_set_self (List.getElem?_eq_some_iff.1 h).1]
    · rw [List.getElem?_set_ne h2]; exact h
  · exact h
theorem passM_keep (h : m[i]? = some true) : (passM es m)[i]? = some true := by
  induction es generalizing m with
  | nil => exact h
  | cons e es ih => rw [passM]; exact ih (stepM_keep h)
theorem passM_hit (he : e ∈ es) (h : m[e.1.toNat]? = some true) (hl : e.2.toNat < m.length) : (passM es m)[e.2.toNat]? = some true := by
  induction es generalizing m with
  | nil => cases he
  | cons d es ih =>
    rw [passM]
    rcases List.mem_cons.1 he with rfl | he
    · refine passM_keep ?_
      unfold stepM
      rw [if_pos h, List.getElem?_set_self hl]
    · exact ih he (stepM_keep h) (by rw [stepM_len]; exact hl)
def cntF (m : List Bool) : Nat := (m.filter fun b => !b).length
theorem cntF_set (h : m[i]? = some false) : cntF (m.set i true) + 1 = cntF m := by
  induction m generalizing i with
  | nil => simp at h
  | cons x l ih =>
    cases i with
    | zero =>
      simp only [List.getElem?_cons_zero, Option.some.injEq] at h
      subst h
      simp [cntF]
    | succ i =>
      have := ih (i := i) (by simpa using h)
      simp only [cntF, List.set_cons_succ, List.filter_cons] at this ⊢
      split <;> simp_all
theorem set_sameB {α : Type _} {vs : List α} {i : Nat} {c : α} (h : vs[i]? = some c) : vs.set i c = vs := by
  apply List.ext_getElem?
  intro j
  by_cases e : i = j
  · subst e; rw [List.getElem?_set_self (List.getElem?_eq_some_iff.1 h).1, h]
  · rw [List.getElem?_set_ne e]
theorem stepM_cnt : stepM e m = m ∨ cntF (stepM e m) < cntF m := by
  unfold stepM
  split
  · cases h : m[e.2.toNat]? with
    | none => left; rw [List.set_eq_of_length_le]; rwa [List.getElem?_eq_none_iff] at h
    | some b =>
      cases b with
      | true => left; exact set_sameB h
      | false => right; have := cntF_set h; omega
  · exact .inl rfl
theorem passM_cnt : passM es m = m ∨ cntF (passM es m) < cntF m := by
  induction es generalizing m with
  | nil => exact .inl rfl
  | cons e es ih =>
    rw [passM]
    rcases stepM_cnt (e := e) (m := m) with h | h
    · rw [h]; exact ih
    · rcases ih (m := stepM e m) with h2 | h2
      · rw [h2]; exact .inr h
      · exact .inr (Nat.lt_trans h2 h)
theorem iterM_fix (h : passM es m = m) : ∀ f, iterM es f m = m
  | 0 => rfl
  | f + 1 => by rw [iterM, h]; exact iterM_fix h f
theorem iterM_stable (h : cntF m < f) : passM es (iterM es f m) = iterM es f m := by
  induction f generalizing m with
  | zero => omega
  | succ f ih =>
    rw [iterM]
    rcases passM_cnt (es := es) (m := m) with h2 | h2
    · rw [h2, iterM_fix h2, h2]
    · exact ih (by omega)
theorem iterM_keep (h : m[i]? = some true) : (iterM es f m)[i]? = some true := by
  induction f generalizing m with
  | zero => exact h
  | succ f ih => rw [iterM]; exact ih (passM_keep h)
theorem iterM_len : (iterM es f m).length = m.length := by
  induction f generalizing m with
  | zero => rfl
  | succ f ih => rw [iterM, ih, passM_len]
def m0 (n : Nat) : List Bool := (List.replicate n false).set 0 true
theorem m0_cnt (h : 1 ≤ n) : cntF (m0 n) < n := by
  have h1 : (List.replicate n false)[0]? = some false := by rw [List.getElem?_replicate, if_pos (by omega)]
  have := cntF_set h1
  have h2 : cntF (List.replicate n false) = n := by simp [cntF]
  unfold m0
  omega
/-- Only what is reached is met. -/
theorem stepM_sound (he : (e.1, e.2) ∈ es) (hr : InE n e) (h : ∀ k : Nat, m[k]? = some true → Rch es k) : ∀ k : Nat, (stepM e m)[k]? = some true → Rch es k := fun k hk => by
  obtain ⟨⟨r1, r2⟩, r3, r4⟩ := hr
  unfold stepM at hk
  split at hk
  · rename_i h1
    by_cases e2 : e.2.toNat = k
    · have h3 := h _ h1
      rw [show ((e.1.toNat : Nat) : Int) = e.1 by omega] at h3
      rw [show (k : Int) = e.2 by omega]
      exact .step h3 he
    · rw [List.getElem?_set_ne e2] at hk; exact h k hk
  · exact h k hk
theorem passM_sound {ds : List (Int × Int)} (hd : ∀ e ∈ ds, e ∈ es) (hr : ∀ e ∈ es, InE n e) (h : ∀ k : Nat, m[k]? = some true → Rch es k) : ∀ k : Nat, (passM ds m)[k]? = some true → Rch es k := by
  induction ds generalizing m with
  | nil => exact h
  | cons e ds ih => rw [passM]; exact ih (fun e he => hd e (List.mem_cons_of_mem _ he)) (stepM_sound (hd e (List.mem_cons_self ..)) (hr e (hd e (List.mem_cons_self ..))) h)
theorem iterM_sound (hr : ∀ e ∈ es, InE n e) (h : ∀ k : Nat, m[k]? = some true → Rch es k) : ∀ k : Nat, (iterM es f m)[k]? = some true → Rch es k := by
  induction f generalizing m with
  | zero => exact h
  | succ f ih => rw [iterM]; exact ih (passM_sound (fun _ h => h) hr h)
theorem met_iff (h1 : 1 ≤ n) (hr : ∀ e ∈ es, InE n e) (k : Nat) (hk : k < n) : (iterM es n (m0 n))[k]? = some true ↔ Rch es k := by
  have hl : (iterM es n (m0 n)).length = n := by rw [iterM_len]; simp [m0]
  constructor
  · refine iterM_sound hr (fun k hk => ?_) k
    unfold m0 at hk
    by_cases e : 0 = k
    · subst e; exact .zero
    · rw [List.getElem?_set_ne e, List.getElem?_replicate] at hk
      split at hk <;> cases hk
  · intro h
    have main : ∀ u : Int, Rch es u → 0 ≤ u ∧ u < n ∧ (iterM es n (m0 n))[u.toNat]? = some true := fun u hu => by
      induction hu with
      | zero => exact ⟨by omega, by omega, iterM_keep (by unfold m0; exact List.getElem?_set_self (by simp; omega))⟩
      | @step u v _ he ih =>
        obtain ⟨_, r3, r4⟩ := hr _ he
        refine ⟨r3, r4, ?_⟩
        have r3 : 0 ≤ v := r3
        have r4 : v < (n : Int) := r4
        have := passM_hit he ih.2.2 (by rw [hl]; show v.toNat < n; omega)
        rwa [iterM_stable (m0_cnt h1)] at this
    exact (main k h).2.2
theorem steps_in {n : Nat} (h : ∀ a ∈ rs, InR n a) : ∀ e ∈ stepsA rs, InE n e := fun e he => by
  obtain ⟨a, ha, rfl⟩ := List.mem_map.1 he
  exact h a ha
theorem pass_step (hx : rs[i]? = some a) : passM ((stepsA rs).drop i) m = passM ((stepsA rs).drop (i + 1)) (stepM (a.1, a.2.2.2) m) := by
  rw [drop_cons (x := (a.1, a.2.2.2)) (by unfold stepsA; rw [List.getElem?_map, hx]; rfl), passM]
theorem stepM_yes (h : m[a.1.toNat]? = some b) (hb : b = true) : stepM (a.1, a.2.2.2) m = m.set a.2.2.2.toNat true := by unfold stepM; rw [if_pos (by rw [h, hb])]
theorem stepM_no (h : m[a.1.toNat]? = some b) (hb : b = false) : stepM (a.1, a.2.2.2) m = m := by unfold stepM; rw [if_neg (by rw [h, hb]; intro h; cases h)]
theorem pass_end (h : rs.length ≤ i) : passM ((stepsA rs).drop i) m = m := by rw [List.drop_eq_nil_of_le (by simpa [stepsA] using h), passM]
section
variable [Decidable (AllR n es)]
theorem all_no (h1 : 1 ≤ n) (hr : ∀ e ∈ es, InE n e) (hm : iterM es n (m0 n) = m) (hx : m[k]? = some b) (hb : b = false) : false = decide (AllR n es) := (decide_eq_false (p := AllR n es) fun h => by
  have hl : (iterM es n (m0 n)).length = n := by rw [iterM_len]; simp [m0]
  have hk : k < n := by rw [← hl, hm]; exact (List.getElem?_eq_some_iff.1 hx).1
  have := (met_iff h1 hr k hk).2 (h k hk)
  rw [hm, hx, hb] at this
  cases this).symm
theorem all_yes (h1 : 1 ≤ n) (hr : ∀ e ∈ es, InE n e) (hm : iterM es n (m0 n) = m) (h : ∀ j, j < k → m[j]? = some true) (hk : m.length ≤ k) : true = decide (AllR n es) := (decide_eq_true (p := AllR n es) fun j hj => by
  have hl : (iterM es n (m0 n)).length = n := by rw [iterM_len]; simp [m0]
  rw [hm] at hl
  exact (met_iff h1 hr j hj).1 (by rw [hm]; exact h j (by omega))).symm
end
end
theorem met_step {m : List Bool} {k : Nat} {b : Bool} (h : ∀ j, j < k → m[j]? = some true) (hx : m[k]? = some b) (hb : b = true) : ∀ j, j < k + 1 → m[j]? = some true := fun j hj => by
  by_cases e : j = k
  · rw [e, hx, hb]
  · exact h j (by omega)

set_option maxRecDepth 100000 in
set_option maxHeartbeats 4000000 in
theorem fc_impl_arcSteps (as_ : List (Int × Int × Bool × Int)) (hl : as_.length ≤ 1000000) : FC Try.prog 183 [(false, [.dat (.sl 170 (.pr .int (.pr .int (.pr .bool .int)))) as_])] [] 0 (Own1 268 (.pr .int .int) (stepsA as_)) := by
 refine FC.O_all fun O_ hO => FC.ren (FC.of Try.func183 rfl rfl fun A_ hn_ hk_ => ?_)
 obtain ⟨w0_, N0_, X_, n_, k0_, h0_, f0_⟩ := A_
 obtain rfl : n_ = 23 := hn_.trans Try.ntmps183
 obtain rfl : k0_ = 0 := hk_
 refine AC.sr ?_
 refine AL.cons rfl (Does.assignC Evl.val rfl) ?_
 refine AL.nilS ?_
 refine AC.sr ?_
 refine AL.cons rfl (Does.buildSlice 0 (e := (.pr .int .int)) und_223 tsh_268 zer_268 rfl rfl (List.all_eq_true.1 rfl) ⟨rfl, rfl⟩ (by decide) rfl rfl (Fresh.of rfl) (nlr rfl)) ?_
 refine AL.cons rfl (Does.assign rfl rfl) ?_
 refine AL.nilS ?_
 refine AC.seq ?_
 refine AC.sr ?_
 refine AL.cons rfl (Does.move rfl rfl) ?_
 refine AL.fact (fact_len (x := .tmp 7) (Evl.tmp rfl)) fun hl1 => ?_
 refine AL.cons rfl (Does.len (Evl.tmp rfl) rfl und_75) ?_
 refine AL.cons rfl (Does.moveC (Evl.int rfl) rfl) ?_
 refine AL.nilS ?_
 refine AC.block ?_
 refine AC.loopW (fun m_ s_ => ∃ (k : Nat), k ≤ as_.length ∧ m_ = as_.length - k ∧ s_ = ⟨[(2, lf (.val (.slice none 0 0))), (3, lf (.ref 1)), (7, lf (.dat (.sl 170 (.pr .int (.pr .int (.pr .bool .int)))) as_)), (8, lf (dI (as_.length : Int))), (9, lf (dI (k : Int)))], [(1, some (.arr 268 (.pr .int .int) (stepsA (as_.take k))))]⟩) ⟨0, Nat.zero_le _, rfl, rfl⟩ ?_ ?_
 · exact Wk.of [(1, 0)] rfl ⟨rfl, rfl, rfl, rfl, rfl, trivial⟩ ⟨(entE (by first | rfl | simp)), trivial⟩ rfl rfl
 rintro m_ s_ ⟨k, hk2, hm3, rfl⟩
 have hsl : (stepsA (as_.take k)).length ≤ as_.length := by simp only [stepsA, List.length_map, List.length_take]; omega
 refine AC.sr ?_
 refine AL.cons rfl (Does.lss (Evl.tmp rfl) (Evl.tmp rfl) rfl) ?_
 refine AL.nilS ?_
 refine AC.seq ?_
 cases hb4 : (decide ((k : Int) < (as_.length : Int)))
 ·have _h := hb4
  have hb4' : ¬ ((k : Int) < (as_.length : Int)) := of_decide_eq_false hb4
  refine AC.condF (Evl.tmp rfl) ?_
  refine AC.exit ?_
  refine (?_ : AC _ _ _ _ _)
  refine AC.sr ?_
  refine AL.cons rfl (Does.move rfl rfl) ?_
  refine AL.cons rfl (Does.assign rfl rfl) ?_
  refine AL.nilS ?_
  refine AC.ret ?_
  subst hO
  refine fin_own (e := (.pr .int .int)) (xs := (stepsA (as_.take k))) (Res.one rfl (Rs.tmp rfl)) rfl ?_
  rw [take_end (by omega)]
 ·have _h := hb4
  have hb4' : ((k : Int) < (as_.length : Int)) := of_decide_eq_true hb4
  refine AC.condT (Evl.tmp rfl) ?_
  refine AC.skipS ?_
  refine AC.seq ?_
  refine AC.block ?_
  refine AC.sr ?_
  obtain ⟨x5, hx6⟩ : ∃ z, as_[k]? = some z := ⟨_, List.getElem?_eq_getElem (by omega)⟩
  refine AL.cons rfl (Does.indexE (Evl.tmp rfl) (Evl.tmp rfl) und_75 tsh_170 rfl (by omega) hx6) ?_
  refine AL.cons rfl (Does.loadEA (Evl.tmp rfl) tsh_170 rfl rfl) ?_
  refine AL.cons rfl (Does.alloc 2 (.pr .int (.pr .int (.pr .bool .int))) zer_170 rfl rfl (Fresh.of rfl) (nlr rfl)) ?_
  refine AL.cons rfl (Does.storeP (Evl.tmp rfl) rfl (Ev.tmp rfl) rfl tsh_170 rfl) ?_
  refine AL.nilS ?_
  refine AC.region ?_
  refine AL.cons rfl (Does.move rfl rfl) ?_
  refine AL.cons rfl (Does.fieldP (Evl.tmp rfl) fld_170_0 rfl rfl) ?_
  refine AL.cons rfl (Does.loadP (Evl.tmp rfl) rfl tsh_3 rfl rfl) ?_
  refine AL.fact (fact_int (x := .tmp 15) (Evl.tmp rfl)) fun hi7 => ?_
  refine AL.cons rfl (Does.fieldP (Evl.tmp rfl) fld_170_3 rfl rfl) ?_
  refine AL.cons rfl (Does.loadP (Evl.tmp rfl) rfl tsh_3 rfl rfl) ?_
  refine AL.fact (fact_int (x := .tmp 17) (Evl.tmp rfl)) fun hi8 => ?_
  refine AL.cons rfl (Does.build bld_268 ⟨_, _, rfl, (Ev.tmp rfl), ⟨_, _, rfl, (Ev.tmp rfl), rfl⟩⟩ (List.all_eq_true.1 rfl) rfl rfl) ?_
  refine AL.cons rfl (Does.buildSlice 3 (e := (.pr .int .int)) und_223 tsh_268 zer_268 rfl ⟨_, _, rfl, (Ev.tmp rfl), rfl⟩ (List.all_eq_true.1 rfl) ⟨_, _, _, _, rfl, ⟨[dI x5.1], [dI x5.2.2.2], _, _, _, _, rfl, rfl, ⟨rfl, rfl⟩, ⟨rfl, rfl⟩, rfl⟩, ⟨rfl, rfl⟩, rfl⟩ (by decide) rfl rfl (Fresh.of rfl) (nlr rfl)) ?_
  refine AL.cons rfl (Does.append 4 (Evl.tmp rfl) rfl (Evl.tmp rfl) rfl rfl und_223 elb_268 (by first | omega | (simp only [List.length_append, List.length_map, List.length_take, List.length_cons, List.length_nil]; omega)) rfl (Fresh.of rfl) (nlr rfl)) ?_
  refine AL.cons rfl (Does.assign rfl rfl) ?_
  refine AL.nil ?_
  refine (?_ : AC _ _ _ _ _)
  refine AC.region ?_
  refine AL.cons rfl (Does.add (Evl.tmp rfl) (Evl.int rfl) rfl (by omega)) ?_
  refine AL.cons rfl (Does.move rfl rfl) ?_
  refine AL.nil ?_
  refine lend ⟨k + 1, by omega, rfl, rfl⟩ (by omega) ?_
  exact Wk.of [(1, 4)] rfl ⟨rfl, rfl, rfl, rfl, rfl, trivial⟩ ⟨(entE (by rw [take_snoc hx6]; simp [stepsA])), trivial⟩ rfl rfl

set_option maxRecDepth 100000 in
set_option maxHeartbeats 4000000 in
theorem fc_slices_Index_int_int (s : List Int) (v : Int)  : FC Try.prog 224 [(false, [.dat (.sl 3 .int) s]), (false, [dI v])] [] 0 (Pure (lf (dI (idxF (fun y => decide (v = y)) s)))) := by
 refine FC.O_all fun O_ hO => FC.ren (FC.of Try.func224 rfl rfl fun A_ hn_ hk_ => ?_)
 obtain ⟨w0_, N0_, X_, n_, k0_, h0_, f0_⟩ := A_
 obtain rfl : n_ = 19 := hn_.trans Try.ntmps224
 obtain rfl : k0_ = 0 := hk_
 refine AC.fact (fact_int (x := .tmp 1) (Evl.tmp rfl)) fun hi1 => ?_
 refine AC.sr ?_
 refine AL.cons rfl (Does.assignC (Evl.int rfl) rfl) ?_
 refine AL.nilS ?_
 refine AC.seq ?_
 refine AC.sr ?_
 refine AL.cons rfl (Does.move rfl rfl) ?_
 refine AL.fact (fact_len (x := .tmp 6) (Evl.tmp rfl)) fun hl2 => ?_
 refine AL.cons rfl (Does.len (Evl.tmp rfl) rfl und_72) ?_
 refine AL.cons rfl (Does.moveC (Evl.int rfl) rfl) ?_
 refine AL.nilS ?_
 refine AC.block ?_
 refine AC.loopW (fun m_ s_ => ∃ (k : Nat), k ≤ s.length ∧ m_ = s.length - k ∧ (NoneTo (fun y => decide (v = y)) s k) ∧ s_ = ⟨[(0, lf (.dat (.sl 3 .int) s)), (1, lf (dI v)), (7, lf (dI (s.length : Int))), (8, lf (dI (k : Int)))], []⟩) ⟨0, Nat.zero_le _, rfl, NoneTo.zero, rfl⟩ ?_ ?_
 · exact Wk.of [] rfl ⟨rfl, rfl, rfl, rfl, trivial⟩ trivial rfl rfl
 rintro m_ s_ ⟨k, hk3, hm4, hno, rfl⟩
 refine AC.sr ?_
 refine AL.cons rfl (Does.lss (Evl.tmp rfl) (Evl.tmp rfl) rfl) ?_
 refine AL.nilS ?_
 refine AC.seq ?_
 cases hb5 : (decide ((k : Int) < (s.length : Int)))
 ·have _h := hb5
  have hb5' : ¬ ((k : Int) < (s.length : Int)) := of_decide_eq_false hb5
  refine AC.condF (Evl.tmp rfl) ?_
  refine AC.exit ?_
  refine (?_ : AC _ _ _ _ _)
  refine AC.sr ?_
  refine AL.cons rfl (Does.assignC (Evl.int rfl) rfl) ?_
  refine AL.nilS ?_
  refine AC.ret ?_
  subst hO
  have e6 : ((-1) : Int) = (idxF (fun y => decide (v = y)) s) := by
   first | exact (hno.no (by omega)).symm
  exact fin_pure (Res.one rfl (Rs.tmp rfl)) ((congrArg (fun z_ => lf (dI z_)) e6)) rfl
 ·have _h := hb5
  have hb5' : ((k : Int) < (s.length : Int)) := of_decide_eq_true hb5
  refine AC.condT (Evl.tmp rfl) ?_
  refine AC.skipS ?_
  refine AC.seq ?_
  refine AC.block ?_
  refine AC.sr ?_
  refine AL.cons rfl (Does.move rfl rfl) ?_
  refine AL.cons rfl (Does.assign rfl rfl) ?_
  refine AL.nilS ?_
  refine AC.sr ?_
  refine AL.cons rfl (Does.move rfl rfl) ?_
  refine AL.cons rfl (Does.move rfl rfl) ?_
  refine AL.cons rfl (Does.move rfl rfl) ?_
  obtain ⟨x7, hx8⟩ : ∃ z, s[k]? = some z := ⟨_, List.getElem?_eq_getElem (by omega)⟩
  refine AL.cons rfl (Does.indexE (Evl.tmp rfl) (Evl.tmp rfl) und_72 tsh_3 rfl (by omega) hx8) ?_
  refine AL.cons rfl (Does.loadE (Evl.tmp rfl) tsh_3 rfl rfl) ?_
  refine AL.fact (fact_int (x := .tmp 15) (Evl.tmp rfl)) fun hi9 => ?_
  refine AL.cons rfl (Does.eql (Evl.tmp rfl) (Evl.tmp rfl) rfl) ?_
  refine AL.nilS ?_
  cases hb10 : (decide (v = x7))
  ·have _h := hb10
   have hb10' : ¬ (v = x7) := of_decide_eq_false hb10
   refine AC.condF (Evl.tmp rfl) ?_
   refine AC.skip ?_
   refine (?_ : AC _ _ _ _ _)
   refine AC.region ?_
   refine AL.cons rfl (Does.add (Evl.tmp rfl) (Evl.int rfl) rfl (by omega)) ?_
   refine AL.cons rfl (Does.move rfl rfl) ?_
   refine AL.nil ?_
   refine lend ⟨k + 1, by omega, rfl, hno.step hx8 (by assumption), rfl⟩ (by omega) ?_
   exact Wk.of [] rfl ⟨rfl, rfl, rfl, rfl, trivial⟩ trivial rfl rfl
  ·have _h := hb10
   have hb10' : (v = x7) := of_decide_eq_true hb10
   refine AC.condT (Evl.tmp rfl) ?_
   refine AC.sr ?_
   refine AL.cons rfl (Does.move rfl rfl) ?_
   refine AL.cons rfl (Does.assign rfl rfl) ?_
   refine AL.nilS ?_
   refine AC.ret ?_
   subst hO
   have e11 : ((k : Int) : Int) = (idxF (fun y => decide (v = y)) s) := by
    exact (hno.at hx8 (by assumption)).symm
   exact fin_pure (Res.one rfl (Rs.tmp rfl)) ((congrArg (fun z_ => lf (dI z_)) e11)) rfl

set_option maxRecDepth 100000 in
set_option maxHeartbeats 4000000 in
theorem fc_slices_Contains_int_int (s : List Int) (v : Int)  : FC Try.prog 181 [(false, [.dat (.sl 3 .int) s]), (false, [dI v])] [] 0 (Pure (lf (dB (s.any (fun y => decide (v = y)))))) := by
 refine FC.O_all fun O_ hO => FC.ren (FC.of Try.func181 rfl rfl fun A_ hn_ hk_ => ?_)
 obtain ⟨w0_, N0_, X_, n_, k0_, h0_, f0_⟩ := A_
 obtain rfl : n_ = 9 := hn_.trans Try.ntmps181
 obtain rfl : k0_ = 0 := hk_
 refine AC.fact (fact_int (x := .tmp 1) (Evl.tmp rfl)) fun hi1 => ?_
 refine AC.sr ?_
 refine AL.cons rfl (Does.assignC Evl.bool rfl) ?_
 refine AL.nilS ?_
 refine AC.sr ?_
 refine AL.cons rfl (Does.move rfl rfl) ?_
 refine AL.cons rfl (Does.move rfl rfl) ?_
 refine AL.cons rfl (Does.call (fc_slices_Index_int_int s v) enters_224 ⟨_, _, rfl, (Ev.tmp rfl), ⟨_, _, rfl, (Ev.tmp rfl), rfl⟩⟩ rfl rfl) ?_
 refine AL.cons rfl (Does.geq (Evl.tmp rfl) (Evl.int rfl) rfl) ?_
 refine AL.cons rfl (Does.assign rfl rfl) ?_
 refine AL.nilS ?_
 refine AC.ret ?_
 subst hO
 have e2 : (decide (0 ≤ (idxF (fun y => decide (v = y)) s)) : Bool) = (s.any (fun y => decide (v = y))) := by
  exact idxF_any _ _
 exact fin_pure (Res.one rfl (Rs.tmp rfl)) ((congrArg (fun z_ => lf (dB z_)) e2)) rfl

set_option maxRecDepth 100000 in
set_option maxHeartbeats 4000000 in
theorem fc_spec_l5All (c : (List (ByteArray × Int)) × List ByteArray × (List (Int × Int × Bool × Int))) [Decidable (AllR c.2.1.length (stepsA c.2.2))] (hn : 1 ≤ c.2.1.length ∧ c.2.1.length ≤ 300) (ha : ∀ a ∈ c.2.2, InR c.2.1.length a) : FC Try.prog 171 [(true, [.dat (.sl 129 (.pr .str .int)) c.1, .dat (.sl 9 .str) c.2.1, .dat (.sl 170 (.pr .int (.pr .int (.pr .bool .int)))) c.2.2])] [] 0 (Pure (lf (dB (decide (AllR c.2.1.length (stepsA c.2.2)))))) := by
 have hes := steps_in ha
 have hrl : (List.replicate c.2.1.length (Ty.zero .bool)).length = c.2.1.length := List.length_replicate ..
 refine FC.O_all fun O_ hO => FC.ren (FC.of Try.func171 rfl rfl fun A_ hn_ hk_ => ?_)
 obtain ⟨w0_, N0_, X_, n_, k0_, h0_, f0_⟩ := A_
 obtain rfl : n_ = 46 := hn_.trans Try.ntmps171
 obtain rfl : k0_ = 0 := hk_
 refine AC.sr ?_
 refine AL.cons rfl (Does.box 0 (Ev.tmp rfl) rfl rfl (Fresh.of rfl) (nlr rfl)) ?_
 refine AL.cons rfl (Does.assignC Evl.bool rfl) ?_
 refine AL.nilS ?_
 refine AC.sr ?_
 refine AL.cons rfl (Does.fieldP (Evl.tmp rfl) fld_77_1 rfl rfl) ?_
 refine AL.cons rfl (Does.loadP (Evl.tmp rfl) rfl tsh_67 rfl rfl) ?_
 refine AL.fact (fact_len (x := .tmp 9) (Evl.tmp rfl)) fun hl1 => ?_
 refine AL.cons rfl (Does.len (Evl.tmp rfl) rfl und_67) ?_
 refine AL.cons rfl (Does.make 1 (e := .bool) (n := c.2.1.length) (Evl.tmp rfl) (Evl.tmp rfl) und_261 mki_4 rfl (by omega) (by omega) rfl (Fresh.of rfl) (nlr rfl)) ?_
 refine AL.cons rfl (Does.assign rfl rfl) ?_
 refine AL.nilS ?_
 refine AC.sr ?_
 refine AL.cons rfl (Does.move rfl rfl) ?_
 refine AL.cons rfl (Does.indexI (e := .bool) (Evl.tmp rfl) rfl (Evl.int rfl) und_261 tsh_4 rfl (by omega) (by first | omega | (simp only [List.length_set]; omega))) ?_
 obtain ⟨x2, hx3⟩ : ∃ z, (List.replicate c.2.1.length (Ty.zero .bool))[0]? = some z := ⟨_, List.getElem?_eq_getElem (by omega)⟩
 refine AL.cons rfl (Does.storeI (e := .bool) (z' := true) (Evl.tmp rfl) rfl hx3 rfl (Evl.ev Evl.bool) rfl tsh_4 rfl rfl) ?_
 refine AL.nilS ?_
 refine AC.seq ?_
 refine AC.sr ?_
 refine AL.cons rfl (Does.fieldP (Evl.tmp rfl) fld_77_1 rfl rfl) ?_
 refine AL.cons rfl (Does.loadP (Evl.tmp rfl) rfl tsh_67 rfl rfl) ?_
 refine AL.fact (fact_len (x := .tmp 15) (Evl.tmp rfl)) fun hl4 => ?_
 refine AL.cons rfl (Does.len (Evl.tmp rfl) rfl und_67) ?_
 refine AL.cons rfl (Does.moveC (Evl.int rfl) rfl) ?_
 refine AL.nilS ?_
 refine AC.block ?_
 refine AC.loopW (fun m_ s_ => ∃ (p : Nat) (met : List Bool), p ≤ c.2.1.length ∧ m_ = c.2.1.length - p ∧ (iterM (stepsA c.2.2) c.2.1.length (m0 c.2.1.length) = iterM (stepsA c.2.2) (c.2.1.length - p) met) ∧ (met.length = c.2.1.length) ∧ s_ = ⟨[(1, lf (.ptr 0 0)), (2, lf (dB false)), (3, lf (.ref 2)), (16, lf (dI (c.2.1.length : Int))), (17, lf (dI (p : Int)))], [(0, some (.box 77 [.dat (.sl 129 (.pr .str .int)) c.1, .dat (.sl 9 .str) c.2.1, .dat (.sl 170 (.pr .int (.pr .int (.pr .bool .int)))) c.2.2])), (2, some (.arr 4 .bool met))]⟩) ⟨0, (List.replicate c.2.1.length (Ty.zero .bool)).set 0 true, Nat.zero_le _, rfl, rfl, (by simp), rfl⟩ ?_ ?_
 · exact Wk.of [(0, 0), (2, 1)] rfl ⟨rfl, rfl, rfl, rfl, rfl, trivial⟩ ⟨rfl, (entE (by first | rfl | simp)), trivial⟩ rfl rfl
 rintro m_ s_ ⟨p, met, hk5, hm6, hA, hL, rfl⟩
 refine AC.sr ?_
 refine AL.cons rfl (Does.lss (Evl.tmp rfl) (Evl.tmp rfl) rfl) ?_
 refine AL.nilS ?_
 refine AC.seq ?_
 cases hb7 : (decide ((p : Int) < (c.2.1.length : Int)))
 ·have _h := hb7
  have hb7' : ¬ ((p : Int) < (c.2.1.length : Int)) := of_decide_eq_false hb7
  refine AC.condF (Evl.tmp rfl) ?_
  refine AC.exit ?_
  refine (?_ : AC _ _ _ _ _)
  refine AC.seq ?_
  refine AC.sr ?_
  refine AL.cons rfl (Does.move rfl rfl) ?_
  refine AL.cons rfl (Does.lenO (Evl.tmp rfl) rfl rfl und_261) ?_
  refine AL.cons rfl (Does.moveC (Evl.int rfl) rfl) ?_
  refine AL.nilS ?_
  refine AC.block ?_
  refine AC.loopW (fun m_ s_ => ∃ (k : Nat), k ≤ met.length ∧ m_ = met.length - k ∧ (∀ j, j < k → met[j]? = some true) ∧ s_ = ⟨[(37, lf (.ref 2)), (38, lf (dI (met.length : Int))), (39, lf (dI (k : Int)))], [(2, some (.arr 4 .bool met))]⟩) ⟨0, Nat.zero_le _, rfl, (fun j hj => absurd hj (Nat.not_lt_zero j)), rfl⟩ ?_ ?_
  · exact Wk.of [(2, 2)] rfl ⟨rfl, rfl, rfl, trivial⟩ ⟨rfl, trivial⟩ rfl rfl
  rintro m_ s_ ⟨k, hk8, hm9, hM, rfl⟩
  refine AC.sr ?_
  refine AL.cons rfl (Does.lss (Evl.tmp rfl) (Evl.tmp rfl) rfl) ?_
  refine AL.nilS ?_
  refine AC.seq ?_
  cases hb10 : (decide ((k : Int) < (met.length : Int)))
  ·have _h := hb10
   have hb10' : ¬ ((k : Int) < (met.length : Int)) := of_decide_eq_false hb10
   refine AC.condF (Evl.tmp rfl) ?_
   refine AC.exit ?_
   refine (?_ : AC _ _ _ _ _)
   refine AC.sr ?_
   refine AL.cons rfl (Does.assignC Evl.bool rfl) ?_
   refine AL.nilS ?_
   refine AC.ret ?_
   subst hO
   have e11 : (true : Bool) = (decide (AllR c.2.1.length (stepsA c.2.2))) := by
    first | exact all_yes hn.1 hes (by rw [hA, show c.2.1.length - p = 0 by omega]; rfl) hM (by omega)
   exact fin_pure (Res.one rfl (Rs.tmp rfl)) ((congrArg (fun z_ => lf (dB z_)) e11)) rfl
  ·have _h := hb10
   have hb10' : ((k : Int) < (met.length : Int)) := of_decide_eq_true hb10
   refine AC.condT (Evl.tmp rfl) ?_
   refine AC.skipS ?_
   refine AC.seq ?_
   refine AC.block ?_
   refine AC.sr ?_
   refine AL.cons rfl (Does.indexI (e := .bool) (Evl.tmp rfl) rfl (Evl.tmp rfl) und_261 tsh_4 rfl (by omega) (by first | omega | (simp only [List.length_set]; omega))) ?_
   obtain ⟨x12, hx13⟩ : ∃ z, met[k]? = some z := ⟨_, List.getElem?_eq_getElem (by omega)⟩
   refine AL.cons rfl (Does.loadI (e := .bool) (Evl.tmp rfl) rfl hx13 rfl tsh_4 rfl rfl) ?_
   refine AL.cons rfl (Does.assign rfl rfl) ?_
   refine AL.nilS ?_
   refine AC.sr ?_
   refine AL.cons rfl (Does.move rfl rfl) ?_
   refine AL.cons rfl (Does.not (Evl.tmp rfl) rfl) ?_
   refine AL.nilS ?_
   cases hb14 : (x12)
   ·have _h := hb14
    refine AC.condT (Evl.tmp rfl) ?_
    refine AC.sr ?_
    refine AL.cons rfl (Does.assignC Evl.bool rfl) ?_
    refine AL.nilS ?_
    refine AC.ret ?_
    subst hO
    have e15 : (false : Bool) = (decide (AllR c.2.1.length (stepsA c.2.2))) := by
     exact all_no hn.1 hes (by rw [hA, show c.2.1.length - p = 0 by omega]; rfl) hx13 (by assumption)
    exact fin_pure (Res.one rfl (Rs.tmp rfl)) ((congrArg (fun z_ => lf (dB z_)) e15)) rfl
   ·have _h := hb14
    refine AC.condF (Evl.tmp rfl) ?_
    refine AC.skip ?_
    refine (?_ : AC _ _ _ _ _)
    refine AC.region ?_
    refine AL.cons rfl (Does.add (Evl.tmp rfl) (Evl.int rfl) rfl (by omega)) ?_
    refine AL.cons rfl (Does.move rfl rfl) ?_
    refine AL.nil ?_
    refine lend ⟨k + 1, by omega, rfl, (met_step hM hx13 (by assumption)), rfl⟩ (by omega) ?_
    exact Wk.of [(2, 2)] rfl ⟨rfl, rfl, rfl, trivial⟩ ⟨rfl, trivial⟩ rfl rfl
 ·have _h := hb7
  have hb7' : ((p : Int) < (c.2.1.length : Int)) := of_decide_eq_true hb7
  refine AC.condT (Evl.tmp rfl) ?_
  refine AC.skipS ?_
  refine AC.seq ?_
  refine AC.block ?_
  refine AC.sr ?_
  refine AL.cons rfl (Does.fieldP (Evl.tmp rfl) fld_77_2 rfl rfl) ?_
  refine AL.cons rfl (Does.loadP (Evl.tmp rfl) rfl tsh_75 rfl rfl) ?_
  refine AL.fact (fact_len (x := .tmp 20) (Evl.tmp rfl)) fun hl16 => ?_
  refine AL.cons rfl (Does.len (Evl.tmp rfl) rfl und_75) ?_
  refine AL.cons rfl (Does.moveC (Evl.int rfl) rfl) ?_
  refine AL.nilS ?_
  refine AC.block ?_
  refine AC.loopW (fun m_ s_ => ∃ (i : Nat) (met2 : List Bool), i ≤ c.2.2.length ∧ m_ = c.2.2.length - i ∧ (passM (stepsA c.2.2) met = passM ((stepsA c.2.2).drop i) met2) ∧ (met2.length = c.2.1.length) ∧ s_ = ⟨[(1, lf (.ptr 0 0)), (2, lf (dB false)), (3, lf (.ref 3)), (16, lf (dI (c.2.1.length : Int))), (17, lf (dI (p : Int))), (18, lf (dB true)), (19, lf (.ptr 0 2)), (20, lf (.dat (.sl 170 (.pr .int (.pr .int (.pr .bool .int)))) c.2.2)), (21, lf (dI (c.2.2.length : Int))), (22, lf (dI (i : Int)))], [(0, some (.box 77 [.dat (.sl 129 (.pr .str .int)) c.1, .dat (.sl 9 .str) c.2.1, .dat (.sl 170 (.pr .int (.pr .int (.pr .bool .int)))) c.2.2])), (3, some (.arr 4 .bool met2))]⟩) ⟨0, met, Nat.zero_le _, rfl, rfl, hL, rfl⟩ ?_ ?_
  · exact Wk.of [(0, 0), (3, 2)] rfl ⟨rfl, rfl, rfl, rfl, rfl, rfl, rfl, rfl, rfl, rfl, trivial⟩ ⟨rfl, rfl, trivial⟩ rfl rfl
  rintro m_ s_ ⟨i, met2, hk17, hm18, hA2, hL2, rfl⟩
  refine AC.sr ?_
  refine AL.cons rfl (Does.lss (Evl.tmp rfl) (Evl.tmp rfl) rfl) ?_
  refine AL.nilS ?_
  refine AC.seq ?_
  cases hb19 : (decide ((i : Int) < (c.2.2.length : Int)))
  ·have _h := hb19
   have hb19' : ¬ ((i : Int) < (c.2.2.length : Int)) := of_decide_eq_false hb19
   refine AC.condF (Evl.tmp rfl) ?_
   refine AC.exit ?_
   refine (?_ : AC _ _ _ _ _)
   refine AC.region ?_
   refine AL.cons rfl (Does.add (Evl.tmp rfl) (Evl.int rfl) rfl (by omega)) ?_
   refine AL.cons rfl (Does.move rfl rfl) ?_
   refine AL.nil ?_
   refine lend ⟨p + 1, met2, by omega, rfl, (by rw [hA, show c.2.1.length - p = (c.2.1.length - (p + 1)) + 1 by omega, iterM, hA2, pass_end (by omega)]), hL2, rfl⟩ (by omega) ?_
   exact Wk.of [(0, 0), (2, 3)] rfl ⟨rfl, rfl, rfl, rfl, rfl, trivial⟩ ⟨rfl, rfl, trivial⟩ rfl rfl
  ·have _h := hb19
   have hb19' : ((i : Int) < (c.2.2.length : Int)) := of_decide_eq_true hb19
   refine AC.condT (Evl.tmp rfl) ?_
   refine AC.skipS ?_
   refine AC.seq ?_
   refine AC.block ?_
   refine AC.sr ?_
   obtain ⟨ar, hx21⟩ : ∃ z, c.2.2[i]? = some z := ⟨_, List.getElem?_eq_getElem (by omega)⟩
   obtain ⟨⟨hr1, hr2⟩, hr3, hr4⟩ := ha _ (List.mem_of_getElem? hx21)
   refine AL.cons rfl (Does.indexE (Evl.tmp rfl) (Evl.tmp rfl) und_75 tsh_170 rfl (by omega) hx21) ?_
   refine AL.cons rfl (Does.loadEA (Evl.tmp rfl) tsh_170 rfl rfl) ?_
   refine AL.cons rfl (Does.alloc 4 (.pr .int (.pr .int (.pr .bool .int))) zer_170 rfl rfl (Fresh.of rfl) (nlr rfl)) ?_
   refine AL.cons rfl (Does.storeP (Evl.tmp rfl) rfl (Ev.tmp rfl) rfl tsh_170 rfl) ?_
   refine AL.nilS ?_
   refine AC.sr ?_
   refine AL.cons rfl (Does.move rfl rfl) ?_
   refine AL.cons rfl (Does.fieldP (Evl.tmp rfl) fld_170_0 rfl rfl) ?_
   refine AL.cons rfl (Does.loadP (Evl.tmp rfl) rfl tsh_3 rfl rfl) ?_
   refine AL.fact (fact_int (x := .tmp 28) (Evl.tmp rfl)) fun hi22 => ?_
   refine AL.cons rfl (Does.indexI (e := .bool) (Evl.tmp rfl) rfl (Evl.tmp rfl) und_261 tsh_4 rfl (by omega) (by first | omega | (simp only [List.length_set]; omega))) ?_
   obtain ⟨x23, hx24⟩ : ∃ z, met2[(ar.1).toNat]? = some z := ⟨_, List.getElem?_eq_getElem (by omega)⟩
   refine AL.cons rfl (Does.loadI (e := .bool) (Evl.tmp rfl) rfl hx24 rfl tsh_4 rfl rfl) ?_
   refine AL.nilS ?_
   cases hb25 : (x23)
   ·have _h := hb25
    refine AC.condF (Evl.tmp rfl) ?_
    refine AC.skip ?_
    refine (?_ : AC _ _ _ _ _)
    refine AC.region ?_
    refine AL.cons rfl (Does.add (Evl.tmp rfl) (Evl.int rfl) rfl (by omega)) ?_
    refine AL.cons rfl (Does.move rfl rfl) ?_
    refine AL.nil ?_
    refine lend ⟨i + 1, met2, by omega, rfl, (by rw [hA2, pass_step hx21]; first | rw [stepM_yes (by assumption) (by assumption)] | rw [stepM_no (by assumption) (by assumption)]), (by exact hL2), rfl⟩ (by omega) ?_
    exact Wk.of [(0, 0), (3, 3)] rfl ⟨rfl, rfl, rfl, rfl, rfl, rfl, rfl, rfl, rfl, rfl, trivial⟩ ⟨rfl, rfl, trivial⟩ rfl rfl
   ·have _h := hb25
    refine AC.condT (Evl.tmp rfl) ?_
    refine AC.region ?_
    refine AL.cons rfl (Does.move rfl rfl) ?_
    refine AL.cons rfl (Does.fieldP (Evl.tmp rfl) fld_170_3 rfl rfl) ?_
    refine AL.cons rfl (Does.loadP (Evl.tmp rfl) rfl tsh_3 rfl rfl) ?_
    refine AL.fact (fact_int (x := .tmp 33) (Evl.tmp rfl)) fun hi26 => ?_
    refine AL.cons rfl (Does.indexI (e := .bool) (Evl.tmp rfl) rfl (Evl.tmp rfl) und_261 tsh_4 rfl (by omega) (by first | omega | (simp only [List.length_set]; omega))) ?_
    obtain ⟨x27, hx28⟩ : ∃ z, met2[(ar.2.2.2).toNat]? = some z := ⟨_, List.getElem?_eq_getElem (by omega)⟩
    refine AL.cons rfl (Does.storeI (e := .bool) (z' := true) (Evl.tmp rfl) rfl hx28 rfl (Evl.ev Evl.bool) rfl tsh_4 rfl rfl) ?_
    refine AL.nil ?_
    refine (?_ : AC _ _ _ _ _)
    refine AC.region ?_
    refine AL.cons rfl (Does.add (Evl.tmp rfl) (Evl.int rfl) rfl (by omega)) ?_
    refine AL.cons rfl (Does.move rfl rfl) ?_
    refine AL.nil ?_
    refine lend ⟨i + 1, (met2.set ((ar.2.2.2).toNat) true), by omega, rfl, (by rw [hA2, pass_step hx21]; first | rw [stepM_yes (by assumption) (by assumption)] | rw [stepM_no (by assumption) (by assumption)]), (by (rw [List.length_set]; exact hL2)), rfl⟩ (by omega) ?_
    exact Wk.of [(0, 0), (3, 3)] rfl ⟨rfl, rfl, rfl, rfl, rfl, rfl, rfl, rfl, rfl, rfl, trivial⟩ ⟨rfl, (entE (by first | rfl | simp)), trivial⟩ rfl rfl

end Go.Proofs.Ytbelopdphlllnaa

/- Walks over abstract states: valid state graphs, the reference. -/
namespace Go.Proofs.Ytbelopdphlllnaa
open Go.RowKit

structure SgOk (c : DSg) : Prop where
  sigs : SigsOk c.1
  some_ : 1 ≤ c.2.1.length ∧ c.2.1.length ≤ 300
  few : c.2.2.length ≤ 4000
  codes : ∀ x ∈ c.2.1, BitsL x (c.1.length : Int)
  arcs : ∀ a ∈ c.2.2, ArcOk c a
  all : AllR c.2.1.length (stepsA c.2.2)
theorem each_step {α : Type} {p : α → Prop} {l : List α} {k : Nat} {x : α} (h : ∀ j, j < k → ∀ x, l[j]? = some x → p x) (hx : l[k]? = some x) (hp : p x) : ∀ j, j < k + 1 → ∀ x, l[j]? = some x → p x := fun j hj y hy => by
  by_cases e : j = k
  · subst e; rw [hx] at hy; cases hy; exact hp
  · exact h j (by omega) y hy
theorem each_all {α : Type} {p : α → Prop} {l : List α} {k : Nat} (h : ∀ j, j < k → ∀ x, l[j]? = some x → p x) (hk : l.length ≤ k) : ∀ x ∈ l, p x := fun x hx => by
  obtain ⟨j, hj⟩ := List.mem_iff_getElem?.1 hx
  have := (List.getElem?_eq_some_iff.1 hj).1
  exact h j (by omega) x hj
theorem arc_inr {c : DSg} {a : DAr} (h : ArcOk c a) : InR c.2.1.length a := by
  obtain ⟨⟨h1, h2⟩, ⟨h3, h4⟩, _⟩ := h
  exact ⟨⟨h1, by omega⟩, h3, by omega⟩
section
variable {c : DSg} [Decidable (SgOk c)] {x : ByteArray} {a : DAr} {k i : Nat}
theorem sg_no1 (h : ¬ SigsOk c.1) : false = decide (SgOk c) := (decide_eq_false fun g => h g.sigs).symm
theorem sg_no2 (h : ¬ ((1 : Int) ≤ (c.2.1.length : Int) ∧ (c.2.1.length : Int) ≤ 300)) : false = decide (SgOk c) := (decide_eq_false fun g => h (by have := g.some_; omega)).symm
theorem sg_no3 (h : (4000 : Int) < (c.2.2.length : Int)) : false = decide (SgOk c) := (decide_eq_false fun g => by have := g.few; omega).symm
theorem sg_no4 (hx : c.2.1[k]? = some x) (h : ¬ BitsL x (c.1.length : Int)) : false = decide (SgOk c) := (decide_eq_false fun g => h (g.codes x (List.mem_of_getElem? hx))).symm
theorem sg_no5 (hx : c.2.2[k]? = some a) (h : ¬ ArcOk c a) : false = decide (SgOk c) := (decide_eq_false fun g => h (g.arcs a (List.mem_of_getElem? hx))).symm
theorem sg_fin [Decidable (AllR c.2.1.length (stepsA c.2.2))] (h1 : SigsOk c.1) (h2 : (1 : Int) ≤ (c.2.1.length : Int) ∧ (c.2.1.length : Int) ≤ 300) (h3 : ¬ (4000 : Int) < (c.2.2.length : Int)) (h4 : ∀ x ∈ c.2.1, BitsL x (c.1.length : Int)) (h5 : ∀ a ∈ c.2.2, ArcOk c a) :
    decide (AllR c.2.1.length (stepsA c.2.2)) = decide (SgOk c) := decide_eq_decide.2 ⟨fun h => ⟨h1, by omega, by omega, h4, h5, h⟩, fun g => g.all⟩
end

set_option maxRecDepth 100000 in
set_option maxHeartbeats 4000000 in
theorem fc_spec_l5Good (c : (List (ByteArray × Int)) × List ByteArray × (List (Int × Int × Bool × Int))) [∀ c, Decidable (SgOk c)]  : FC Try.prog 128 [(true, [.dat (.sl 129 (.pr .str .int)) c.1, .dat (.sl 9 .str) c.2.1, .dat (.sl 170 (.pr .int (.pr .int (.pr .bool .int)))) c.2.2])] [] 0 (Pure (lf (dB (decide (SgOk c))))) := by
 classical
 refine FC.O_all fun O_ hO => FC.ren (FC.of Try.func128 rfl rfl fun A_ hn_ hk_ => ?_)
 obtain ⟨w0_, N0_, X_, n_, k0_, h0_, f0_⟩ := A_
 obtain rfl : n_ = 52 := hn_.trans Try.ntmps128
 obtain rfl : k0_ = 0 := hk_
 refine AC.sr ?_
 refine AL.cons rfl (Does.box 0 (Ev.tmp rfl) rfl rfl (Fresh.of rfl) (nlr rfl)) ?_
 refine AL.cons rfl (Does.assignC Evl.bool rfl) ?_
 refine AL.nilS ?_
 refine AC.seq ?_
 refine AC.sr ?_
 refine AL.cons rfl (Does.fieldP (Evl.tmp rfl) fld_77_0 rfl rfl) ?_
 refine AL.cons rfl (Does.loadP (Evl.tmp rfl) rfl tsh_29 rfl rfl) ?_
 refine AL.cons rfl (Does.call (fc_spec_l2Signals c.1) enters_96 ⟨_, _, rfl, (Ev.tmp rfl), rfl⟩ rfl rfl) ?_
 refine AL.cons rfl (Does.not (Evl.tmp rfl) rfl) ?_
 refine AL.cons rfl (Does.move rfl rfl) ?_
 cases hb1 : (decide (SigsOk c.1))
 ·have _h := hb1
  have hb1' : ¬ (SigsOk c.1) := of_decide_eq_false hb1
  refine AL.guard_no (b := false) rfl rfl rfl ?_ rfl
  refine AL.guard_no (b := false) rfl rfl rfl ?_ rfl
  refine AL.guard_no (b := false) rfl rfl rfl ?_ rfl
  refine AL.guard_no (b := false) rfl rfl rfl ?_ rfl
  refine AL.guard_no (b := false) rfl rfl rfl ?_ rfl
  refine AL.cons rfl (Does.pickT (Evl.tmp rfl) (Evl.ev Evl.bool) rfl) ?_
  refine AL.cons rfl (Does.move rfl rfl) ?_
  refine AL.guard_no (b := false) rfl rfl rfl ?_ rfl
  refine AL.guard_no (b := false) rfl rfl rfl ?_ rfl
  refine AL.guard_no (b := false) rfl rfl rfl ?_ rfl
  refine AL.guard_no (b := false) rfl rfl rfl ?_ rfl
  refine AL.cons rfl (Does.pickT (Evl.tmp rfl) (Evl.ev Evl.bool) rfl) ?_
  refine AL.nilS ?_
  refine AC.condT (Evl.tmp rfl) ?_
  refine AC.sr ?_
  refine AL.cons rfl (Does.assignC Evl.bool rfl) ?_
  refine AL.nilS ?_
  refine AC.ret ?_
  subst hO
  have e2 : (false : Bool) = (decide (SgOk c)) := by
   exact sg_no1 (by assumption)
  exact fin_pure (Res.one rfl (Rs.tmp rfl)) ((congrArg (fun z_ => lf (dB z_)) e2)) rfl
 ·have _h := hb1
  have hb1' : (SigsOk c.1) := of_decide_eq_true hb1
  refine AL.guard_yes rfl rfl rfl (Does.fieldP (Evl.tmp rfl) fld_77_1 rfl rfl) ?_
  refine AL.guard_yes rfl rfl rfl (Does.loadP (Evl.tmp rfl) rfl tsh_67 rfl rfl) ?_
  refine AL.fact (fact_len (x := .tmp 13) (Evl.tmp rfl)) fun hl3 => ?_
  refine AL.guard_yes rfl rfl rfl (Does.len (Evl.tmp rfl) rfl und_67) ?_
  refine AL.guard_yes rfl rfl rfl (Does.call (fc_spec_l1In (c.2.1.length : Int) 1 300) enters_105 ⟨_, _, rfl, (Ev.tmp rfl), ⟨_, _, rfl, (Evl.ev (Evl.int rfl)), ⟨_, _, rfl, (Evl.ev (Evl.int rfl)), rfl⟩⟩⟩ rfl rfl) ?_
  refine AL.guard_yes rfl rfl rfl (Does.not (Evl.tmp rfl) rfl) ?_
  refine AL.cons rfl (Does.pickF (Evl.tmp rfl) (Ev.tmp rfl) rfl) ?_
  refine AL.cons rfl (Does.move rfl rfl) ?_
  cases hb4 : (decide (1 ≤ (c.2.1.length : Int) ∧ (c.2.1.length : Int) ≤ 300))
  ·have _h := hb4
   have hb4' : ¬ (1 ≤ (c.2.1.length : Int) ∧ (c.2.1.length : Int) ≤ 300) := of_decide_eq_false hb4
   refine AL.guard_no (b := false) rfl rfl rfl ?_ rfl
   refine AL.guard_no (b := false) rfl rfl rfl ?_ rfl
   refine AL.guard_no (b := false) rfl rfl rfl ?_ rfl
   refine AL.guard_no (b := false) rfl rfl rfl ?_ rfl
   refine AL.cons rfl (Does.pickT (Evl.tmp rfl) (Evl.ev Evl.bool) rfl) ?_
   refine AL.nilS ?_
   refine AC.condT (Evl.tmp rfl) ?_
   refine AC.sr ?_
   refine AL.cons rfl (Does.assignC Evl.bool rfl) ?_
   refine AL.nilS ?_
   refine AC.ret ?_
   subst hO
   have e5 : (false : Bool) = (decide (SgOk c)) := by
    exact sg_no2 (by assumption)
   exact fin_pure (Res.one rfl (Rs.tmp rfl)) ((congrArg (fun z_ => lf (dB z_)) e5)) rfl
  ·have _h := hb4
   have hb4' : (1 ≤ (c.2.1.length : Int) ∧ (c.2.1.length : Int) ≤ 300) := of_decide_eq_true hb4
   refine AL.guard_yes rfl rfl rfl (Does.fieldP (Evl.tmp rfl) fld_77_2 rfl rfl) ?_
   refine AL.guard_yes rfl rfl rfl (Does.loadP (Evl.tmp rfl) rfl tsh_75 rfl rfl) ?_
   refine AL.fact (fact_len (x := .tmp 20) (Evl.tmp rfl)) fun hl6 => ?_
   refine AL.guard_yes rfl rfl rfl (Does.len (Evl.tmp rfl) rfl und_75) ?_
   refine AL.guard_yes rfl rfl rfl (Does.gtr (Evl.tmp rfl) (Evl.int rfl) rfl) ?_
   refine AL.cons rfl (Does.pickF (Evl.tmp rfl) (Ev.tmp rfl) rfl) ?_
   refine AL.nilS ?_
   cases hb7 : (decide (4000 < (c.2.2.length : Int)))
   ·have _h := hb7
    have hb7' : ¬ (4000 < (c.2.2.length : Int)) := of_decide_eq_false hb7
    refine AC.condF (Evl.tmp rfl) ?_
    refine AC.skipS ?_
    refine AC.seq ?_
    refine AC.sr ?_
    refine AL.cons rfl (Does.fieldP (Evl.tmp rfl) fld_77_1 rfl rfl) ?_
    refine AL.cons rfl (Does.loadP (Evl.tmp rfl) rfl tsh_67 rfl rfl) ?_
    refine AL.fact (fact_len (x := .tmp 25) (Evl.tmp rfl)) fun hl8 => ?_
    refine AL.cons rfl (Does.len (Evl.tmp rfl) rfl und_67) ?_
    refine AL.cons rfl (Does.moveC (Evl.int rfl) rfl) ?_
    refine AL.nilS ?_
    refine AC.block ?_
    refine AC.loopW (fun m_ s_ => ∃ (k : Nat), k ≤ c.2.1.length ∧ m_ = c.2.1.length - k ∧ (∀ j, j < k → ∀ x, c.2.1[j]? = some x → BitsL x (c.1.length : Int)) ∧ s_ = ⟨[(1, lf (.ptr 0 0)), (25, lf (.dat (.sl 9 .str) c.2.1)), (26, lf (dI (c.2.1.length : Int))), (27, lf (dI (k : Int)))], [(0, some (.box 77 [.dat (.sl 129 (.pr .str .int)) c.1, .dat (.sl 9 .str) c.2.1, .dat (.sl 170 (.pr .int (.pr .int (.pr .bool .int)))) c.2.2]))]⟩) ⟨0, Nat.zero_le _, rfl, (fun j hj => absurd hj (Nat.not_lt_zero j)), rfl⟩ ?_ ?_
    · exact Wk.of [(0, 0)] rfl ⟨rfl, rfl, rfl, rfl, trivial⟩ ⟨rfl, trivial⟩ rfl rfl
    rintro m_ s_ ⟨k, hk9, hm10, hB, rfl⟩
    refine AC.sr ?_
    refine AL.cons rfl (Does.lss (Evl.tmp rfl) (Evl.tmp rfl) rfl) ?_
    refine AL.nilS ?_
    refine AC.seq ?_
    cases hb11 : (decide ((k : Int) < (c.2.1.length : Int)))
    ·have _h := hb11
     have hb11' : ¬ ((k : Int) < (c.2.1.length : Int)) := of_decide_eq_false hb11
     refine AC.condF (Evl.tmp rfl) ?_
     refine AC.exit ?_
     refine (?_ : AC _ _ _ _ _)
     refine AC.seq ?_
     refine AC.sr ?_
     refine AL.cons rfl (Does.fieldP (Evl.tmp rfl) fld_77_2 rfl rfl) ?_
     refine AL.cons rfl (Does.loadP (Evl.tmp rfl) rfl tsh_75 rfl rfl) ?_
     refine AL.fact (fact_len (x := .tmp 39) (Evl.tmp rfl)) fun hl12 => ?_
     refine AL.cons rfl (Does.len (Evl.tmp rfl) rfl und_75) ?_
     refine AL.cons rfl (Does.moveC (Evl.int rfl) rfl) ?_
     refine AL.nilS ?_
     refine AC.block ?_
     refine AC.loopW (fun m_ s_ => ∃ (i : Nat), i ≤ c.2.2.length ∧ m_ = c.2.2.length - i ∧ (∀ j, j < i → ∀ a, c.2.2[j]? = some a → ArcOk c a) ∧ s_ = ⟨[(1, lf (.ptr 0 0)), (39, lf (.dat (.sl 170 (.pr .int (.pr .int (.pr .bool .int)))) c.2.2)), (40, lf (dI (c.2.2.length : Int))), (41, lf (dI (i : Int)))], [(0, some (.box 77 [.dat (.sl 129 (.pr .str .int)) c.1, .dat (.sl 9 .str) c.2.1, .dat (.sl 170 (.pr .int (.pr .int (.pr .bool .int)))) c.2.2]))]⟩) ⟨0, Nat.zero_le _, rfl, (fun j hj => absurd hj (Nat.not_lt_zero j)), rfl⟩ ?_ ?_
     · exact Wk.of [(0, 0)] rfl ⟨rfl, rfl, rfl, rfl, trivial⟩ ⟨rfl, trivial⟩ rfl rfl
     rintro m_ s_ ⟨i, hk13, hm14, hR, rfl⟩
     refine AC.sr ?_
     refine AL.cons rfl (Does.lss (Evl.tmp rfl) (Evl.tmp rfl) rfl) ?_
     refine AL.nilS ?_
     refine AC.seq ?_
     cases hb15 : (decide ((i : Int) < (c.2.2.length : Int)))
     ·have _h := hb15
      have hb15' : ¬ ((i : Int) < (c.2.2.length : Int)) := of_decide_eq_false hb15
      refine AC.condF (Evl.tmp rfl) ?_
      refine AC.exit ?_
      refine (?_ : AC _ _ _ _ _)
      refine AC.sr ?_
      refine AL.cons rfl (Does.loadPA (Evl.tmp rfl) rfl tsh_77 rfl rfl) ?_
      refine AL.cons rfl (Does.call (fc_spec_l5All c (by omega) (fun a ha => arc_inr (each_all hR (by omega) a ha))) enters_171 ⟨_, _, rfl, (Ev.tmp rfl), rfl⟩ rfl rfl) ?_
      refine AL.cons rfl (Does.assign rfl rfl) ?_
      refine AL.nilS ?_
      refine AC.ret ?_
      subst hO
      have e16 : (decide (AllR c.2.1.length (stepsA c.2.2)) : Bool) = (decide (SgOk c)) := by
       exact sg_fin (by assumption) (by assumption) (by assumption) (each_all hB (by omega)) (each_all hR (by omega))
      exact fin_pure (Res.one rfl (Rs.tmp rfl)) ((congrArg (fun z_ => lf (dB z_)) e16)) rfl
     ·have _h := hb15
      have hb15' : ((i : Int) < (c.2.2.length : Int)) := of_decide_eq_true hb15
      refine AC.condT (Evl.tmp rfl) ?_
      refine AC.skipS ?_
      refine AC.seq ?_
      refine AC.block ?_
      refine AC.sr ?_
      obtain ⟨x17, hx18⟩ : ∃ z, c.2.2[i]? = some z := ⟨_, List.getElem?_eq_getElem (by omega)⟩
      refine AL.cons rfl (Does.indexE (Evl.tmp rfl) (Evl.tmp rfl) und_75 tsh_170 rfl (by omega) hx18) ?_
      refine AL.cons rfl (Does.loadEA (Evl.tmp rfl) tsh_170 rfl rfl) ?_
      refine AL.cons rfl (Does.alloc 1 (.pr .int (.pr .int (.pr .bool .int))) zer_170 rfl rfl (Fresh.of rfl) (nlr rfl)) ?_
      refine AL.cons rfl (Does.storeP (Evl.tmp rfl) rfl (Ev.tmp rfl) rfl tsh_170 rfl) ?_
      refine AL.nilS ?_
      refine AC.sr ?_
      refine AL.cons rfl (Does.loadPA (Evl.tmp rfl) rfl tsh_77 rfl rfl) ?_
      refine AL.cons rfl (Does.loadPA (Evl.tmp rfl) rfl tsh_170 rfl rfl) ?_
      refine AL.cons rfl (Does.call (fc_spec_l5Arc c x17 (each_all hB (by omega)) (by have := (‹SigsOk c.1›).2.2; omega)) enters_170 ⟨_, _, rfl, (Ev.tmp rfl), ⟨_, _, rfl, (Ev.tmp rfl), rfl⟩⟩ rfl rfl) ?_
      refine AL.cons rfl (Does.not (Evl.tmp rfl) rfl) ?_
      refine AL.nilS ?_
      cases hb19 : (decide (ArcOk c x17))
      ·have _h := hb19
       have hb19' : ¬ (ArcOk c x17) := of_decide_eq_false hb19
       refine AC.condT (Evl.tmp rfl) ?_
       refine AC.sr ?_
       refine AL.cons rfl (Does.assignC Evl.bool rfl) ?_
       refine AL.nilS ?_
       refine AC.ret ?_
       subst hO
       have e20 : (false : Bool) = (decide (SgOk c)) := by
        exact sg_no5 hx18 (by assumption)
       exact fin_pure (Res.one rfl (Rs.tmp rfl)) ((congrArg (fun z_ => lf (dB z_)) e20)) rfl
      ·have _h := hb19
       have hb19' : (ArcOk c x17) := of_decide_eq_true hb19
       refine AC.condF (Evl.tmp rfl) ?_
       refine AC.skip ?_
       refine (?_ : AC _ _ _ _ _)
       refine AC.region ?_
       refine AL.cons rfl (Does.add (Evl.tmp rfl) (Evl.int rfl) rfl (by omega)) ?_
       refine AL.cons rfl (Does.move rfl rfl) ?_
       refine AL.nil ?_
       refine lend ⟨i + 1, by omega, rfl, (each_step hR hx18 (by assumption)), rfl⟩ (by omega) ?_
       exact Wk.of [(0, 0)] rfl ⟨rfl, rfl, rfl, rfl, trivial⟩ ⟨rfl, trivial⟩ rfl rfl
    ·have _h := hb11
     have hb11' : ((k : Int) < (c.2.1.length : Int)) := of_decide_eq_true hb11
     refine AC.condT (Evl.tmp rfl) ?_
     refine AC.skipS ?_
     refine AC.seq ?_
     refine AC.block ?_
     refine AC.sr ?_
     obtain ⟨x21, hx22⟩ : ∃ z, c.2.1[k]? = some z := ⟨_, List.getElem?_eq_getElem (by omega)⟩
     refine AL.cons rfl (Does.indexE (Evl.tmp rfl) (Evl.tmp rfl) und_67 tsh_9 rfl (by omega) hx22) ?_
     refine AL.cons rfl (Does.loadE (Evl.tmp rfl) tsh_9 rfl rfl) ?_
     refine AL.cons rfl (Does.assign rfl rfl) ?_
     refine AL.nilS ?_
     refine AC.sr ?_
     refine AL.cons rfl (Does.move rfl rfl) ?_
     refine AL.cons rfl (Does.fieldP (Evl.tmp rfl) fld_77_0 rfl rfl) ?_
     refine AL.cons rfl (Does.loadP (Evl.tmp rfl) rfl tsh_29 rfl rfl) ?_
     refine AL.fact (fact_len (x := .tmp 33) (Evl.tmp rfl)) fun hl23 => ?_
     refine AL.cons rfl (Does.len (Evl.tmp rfl) rfl und_29) ?_
     refine AL.cons rfl (Does.call (fc_spec_l5Code x21 (c.1.length : Int)) enters_169 ⟨_, _, rfl, (Ev.tmp rfl), ⟨_, _, rfl, (Ev.tmp rfl), rfl⟩⟩ rfl rfl) ?_
     refine AL.cons rfl (Does.not (Evl.tmp rfl) rfl) ?_
     refine AL.nilS ?_
     cases hb24 : (decide (BitsL x21 (c.1.length : Int)))
     ·have _h := hb24
      have hb24' : ¬ (BitsL x21 (c.1.length : Int)) := of_decide_eq_false hb24
      refine AC.condT (Evl.tmp rfl) ?_
      refine AC.sr ?_
      refine AL.cons rfl (Does.assignC Evl.bool rfl) ?_
      refine AL.nilS ?_
      refine AC.ret ?_
      subst hO
      have e25 : (false : Bool) = (decide (SgOk c)) := by
       exact sg_no4 hx22 (by assumption)
      exact fin_pure (Res.one rfl (Rs.tmp rfl)) ((congrArg (fun z_ => lf (dB z_)) e25)) rfl
     ·have _h := hb24
      have hb24' : (BitsL x21 (c.1.length : Int)) := of_decide_eq_true hb24
      refine AC.condF (Evl.tmp rfl) ?_
      refine AC.skip ?_
      refine (?_ : AC _ _ _ _ _)
      refine AC.region ?_
      refine AL.cons rfl (Does.add (Evl.tmp rfl) (Evl.int rfl) rfl (by omega)) ?_
      refine AL.cons rfl (Does.move rfl rfl) ?_
      refine AL.nil ?_
      refine lend ⟨k + 1, by omega, rfl, (each_step hB hx22 (by assumption)), rfl⟩ (by omega) ?_
      exact Wk.of [(0, 0)] rfl ⟨rfl, rfl, rfl, rfl, trivial⟩ ⟨rfl, trivial⟩ rfl rfl
   ·have _h := hb7
    have hb7' : (4000 < (c.2.2.length : Int)) := of_decide_eq_true hb7
    refine AC.condT (Evl.tmp rfl) ?_
    refine AC.sr ?_
    refine AL.cons rfl (Does.assignC Evl.bool rfl) ?_
    refine AL.nilS ?_
    refine AC.ret ?_
    subst hO
    have e26 : (false : Bool) = (decide (SgOk c)) := by
     exact sg_no3 (by assumption)
    exact fin_pure (Res.one rfl (Rs.tmp rfl)) ((congrArg (fun z_ => lf (dB z_)) e26)) rfl

end Go.Proofs.Ytbelopdphlllnaa
