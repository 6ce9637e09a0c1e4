/- Walks over abstract states: which states are reached, as the reference says it; small words on lists. -/
import Derived.Test.YtjaadeknhofhpaaGreatWw
import Derived.Test.YtjaadeknhofhpaaGreatAk
import Derived.Laws.Bits64b
set_option linter.unusedSimpArgs false
set_option linter.unusedVariables false
set_option linter.unusedSectionVars false
namespace Go.Proofs.YtjaadeknhofhpaaGreat
open Go.RowKit
set_option maxRecDepth 100000
set_option maxHeartbeats 4000000

inductive Rch (es : List (Int × Int)) : Int → Prop
  | zero : Rch es 0
  | step {u v : Int} : Rch es u → (u, v) ∈ es → Rch es v
def stepsA (rs : List DAr) : List (Int × Int) := rs.map fun a => (a.1, a.2.2.2)
def InE (n : Nat) (e : Int × Int) : Prop := (0 ≤ e.1 ∧ e.1 < n) ∧ 0 ≤ e.2 ∧ e.2 < n
def AllR (n : Nat) (es : List (Int × Int)) : Prop := ∀ k : Nat, k < n → Rch es k
/-- One pass over the edges. -/
def stepM (e : Int × Int) (m : List Bool) : List Bool := if m[e.1.toNat]? = some true then m.set e.2.toNat true else m
def passM : List (Int × Int) → List Bool → List Bool
  | [], m => m
  | e :: es, m => passM es (stepM e m)
def iterM (es : List (Int × Int)) : Nat → List Bool → List Bool
  | 0, m => m
  | f + 1, m => iterM es f (passM es m)
section
variable {es : List (Int × Int)} {e : Int × Int} {m : List Bool} {n f i k : Nat} {rs : List DAr} {a : DAr} {b : Bool}
theorem stepM_len : (stepM e m).length = m.length := by unfold stepM; split <;> simp
theorem passM_len : (passM es m).length = m.length := by
  induction es generalizing m with
  | nil => rfl
  | cons e es ih => rw [passM, ih, stepM_len]
theorem stepM_keep (h : m[i]? = some true) : (stepM e m)[i]? = some true := by
  unfold stepM
  split
  · by_cases h2 : e.2.toNat = i
    · rw [h2, List.getElem?_set_self (List.getElem?_eq_some_iff.1 h).1]
    · rw [List.getElem?_set_ne h2]; exact h
  · exact h
theorem passM_keep (h : m[i]? = some true) : (passM es m)[i]? = some true := by
  induction es generalizing m with
  | nil => exact h
  | cons e es ih => rw [passM]; exact ih (stepM_keep h)
theorem passM_hit (he : e ∈ es) (h : m[e.1.toNat]? = some true) (hl : e.2.toNat < m.length) : (passM es m)[e.2.toNat]? = some true := by
  induction es generalizing m with
  | nil => cases he
  | cons d es ih =>
    rw [passM]
    rcases List.mem_cons.1 he with rfl | he
    · refine passM_keep ?_
      unfold stepM
      rw [if_pos h, List.getElem?_set_self hl]
    · exact ih he (stepM_keep h) (by rw [stepM_len]; exact hl)
def cntF (m : List Bool) : Nat := (m.filter fun b => !b).length
theorem cntF_set (h : m[i]? = some false) : cntF (m.set i true) + 1 = cntF m := by
  induction m generalizing i with
  | nil => simp at h
  | cons x l ih =>
    cases i with
    | zero =>
      simp only [List.getElem?_cons_zero, Option.some.injEq] at h
      subst h
      simp [cntF]
    | succ i =>
      have := ih (i := i) (by simpa using h)
      simp only [cntF, List.set_cons_succ, List.filter_cons] at this ⊢
      split <;> simp_all
theorem set_sameB {α : Type _} {vs : List α} {i : Nat} {c : α} (h : vs[i]? = some c) : vs.set i c = vs := by
  apply List.ext_getElem?
  intro j
  by_cases e : i = j
  · subst e; rw [List.getElem?_set_self (List.getElem?_eq_some_iff.1 h).1, h]
  · rw [List.getElem?_set_ne e]
theorem stepM_cnt : stepM e m = m ∨ cntF (stepM e m) < cntF m := by
  unfold stepM
  split
  · cases h : m[e.2.toNat]? with
    | none => left; rw [List.set_eq_of_length_le]; rwa [List.getElem?_eq_none_iff] at h
    | some b =>
      cases b with
      | true => left; exact set_sameB h
      | false => right; have := cntF_set h; omega
  · exact .inl rfl
theorem passM_cnt : passM es m = m ∨ cntF (passM es m) < cntF m := by
  induction es generalizing m with
  | nil => exact .inl rfl
  | cons e es ih =>
    rw [passM]
    rcases stepM_cnt (e := e) (m := m) with h | h
    · rw [h]; exact ih
    · rcases ih (m := stepM e m) with h2 | h2
      · rw [h2]; exact .inr h
      · exact .inr (Nat.lt_trans h2 h)
theorem iterM_fix (h : passM es m = m) : ∀ f, iterM es f m = m
  | 0 => rfl
  | f + 1 => by rw [iterM, h]; exact iterM_fix h f
theorem iterM_stable (h : cntF m < f) : passM es (iterM es f m) = iterM es f m := by
  induction f generalizing m with
  | zero => omega
  | succ f ih =>
    rw [iterM]
    rcases passM_cnt (es := es) (m := m) with h2 | h2
    · rw [h2, iterM_fix h2, h2]
    · exact ih (by omega)
theorem iterM_keep (h : m[i]? = some true) : (iterM es f m)[i]? = some true := by
  induction f generalizing m with
  | zero => exact h
  | succ f ih => rw [iterM]; exact ih (passM_keep h)
theorem iterM_len : (iterM es f m).length = m.length := by
  induction f generalizing m with
  | zero => rfl
  | succ f ih => rw [iterM, ih, passM_len]
def m0 (n : Nat) : List Bool := (List.replicate n false).set 0 true
theorem m0_cnt (h : 1 ≤ n) : cntF (m0 n) < n := by
  have h1 : (List.replicate n false)[0]? = some false := by rw [List.getElem?_replicate, if_pos (by omega)]
  have := cntF_set h1
  have h2 : cntF (List.replicate n false) = n := by simp [cntF]
  unfold m0
  omega
/-- Only what is reached is met. -/
theorem stepM_sound (he : (e.1, e.2) ∈ es) (hr : InE n e) (h : ∀ k : Nat, m[k]? = some true → Rch es k) : ∀ k : Nat, (stepM e m)[k]? = some true → Rch es k := fun k hk => by
  obtain ⟨⟨r1, r2⟩, r3, r4⟩ := hr
  unfold stepM at hk
  split at hk
  · rename_i h1
    by_cases e2 : e.2.toNat = k
    · have h3 := h _ h1
      rw [show ((e.1.toNat : Nat) : Int) = e.1 by omega] at h3
      rw [show (k : Int) = e.2 by omega]
      exact .step h3 he
    · rw [List.getElem?_set_ne e2] at hk; exact h k hk
  · exact h k hk
theorem passM_sound {ds : List (Int × Int)} (hd : ∀ e ∈ ds, e ∈ es) (hr : ∀ e ∈ es, InE n e) (h : ∀ k : Nat, m[k]? = some true → Rch es k) : ∀ k : Nat, (passM ds m)[k]? = some true → Rch es k := by
  induction ds generalizing m with
  | nil => exact h
  | cons e ds ih => rw [passM]; exact ih (fun e he => hd e (List.mem_cons_of_mem _ he)) (stepM_sound (hd e (List.mem_cons_self ..)) (hr e (hd e (List.mem_cons_self ..))) h)
theorem iterM_sound (hr : ∀ e ∈ es, InE n e) (h : ∀ k : Nat, m[k]? = some true → Rch es k) : ∀ k : Nat, (iterM es f m)[k]? = some true → Rch es k := by
  induction f generalizing m with
  | zero => exact h
  | succ f ih => rw [iterM]; exact ih (passM_sound (fun _ h => h) hr h)
theorem met_iff (h1 : 1 ≤ n) (hr : ∀ e ∈ es, InE n e) (k : Nat) (hk : k < n) : (iterM es n (m0 n))[k]? = some true ↔ Rch es k := by
  have hl : (iterM es n (m0 n)).length = n := by rw [iterM_len]; simp [m0]
  constructor
  · refine iterM_sound hr (fun k hk => ?_) k
    unfold m0 at hk
    by_cases e : 0 = k
    · subst e; exact .zero
    · rw [List.getElem?_set_ne e, List.getElem?_replicate] at hk
      split at hk <;> cases hk
  · intro h
    have main : ∀ u : Int, Rch es u → 0 ≤ u ∧ u < n ∧ (iterM es n (m0 n))[u.toNat]? = some true := fun u hu => by
      induction hu with
      | zero => exact ⟨by omega, by omega, iterM_keep (by unfold m0; exact List.getElem?_set_self (by simp; omega))⟩
      | @step u v _ he ih =>
        obtain ⟨_, r3, r4⟩ := hr _ he
        refine ⟨r3, r4, ?_⟩
        have r3 : 0 ≤ v := r3
        have r4 : v < (n : Int) := r4
        have := passM_hit he ih.2.2 (by rw [hl]; show v.toNat < n; omega)
        rwa [iterM_stable (m0_cnt h1)] at this
    exact (main k h).2.2
theorem steps_in {n : Nat} (h : ∀ a ∈ rs, InR n a) : ∀ e ∈ stepsA rs, InE n e := fun e he => by
  obtain ⟨a, ha, rfl⟩ := List.mem_map.1 he
  exact h a ha
theorem pass_step (hx : rs[i]? = some a) : passM ((stepsA rs).drop i) m = passM ((stepsA rs).drop (i + 1)) (stepM (a.1, a.2.2.2) m) := by
  rw [drop_cons (x := (a.1, a.2.2.2)) (by unfold stepsA; rw [List.getElem?_map, hx]; rfl), passM]
theorem stepM_yes (h : m[a.1.toNat]? = some b) (hb : b = true) : stepM (a.1, a.2.2.2) m = m.set a.2.2.2.toNat true := by unfold stepM; rw [if_pos (by rw [h, hb])]
theorem stepM_no (h : m[a.1.toNat]? = some b) (hb : b = false) : stepM (a.1, a.2.2.2) m = m := by unfold stepM; rw [if_neg (by rw [h, hb]; intro h; cases h)]
theorem pass_end (h : rs.length ≤ i) : passM ((stepsA rs).drop i) m = m := by rw [List.drop_eq_nil_of_le (by simpa [stepsA] using h), passM]
section
variable [Decidable (AllR n es)]
theorem all_no (h1 : 1 ≤ n) (hr : ∀ e ∈ es, InE n e) (hm : iterM es n (m0 n) = m) (hx : m[k]? = some b) (hb : b = false) : false = decide (AllR n es) := (decide_eq_false (p := AllR n es) fun h => by
  have hl : (iterM es n (m0 n)).length = n := by rw [iterM_len]; simp [m0]
  have hk : k < n := by rw [← hl, hm]; exact (List.getElem?_eq_some_iff.1 hx).1
  have := (met_iff h1 hr k hk).2 (h k hk)
  rw [hm, hx, hb] at this
  cases this).symm
theorem all_yes (h1 : 1 ≤ n) (hr : ∀ e ∈ es, InE n e) (hm : iterM es n (m0 n) = m) (h : ∀ j, j < k → m[j]? = some true) (hk : m.length ≤ k) : true = decide (AllR n es) := (decide_eq_true (p := AllR n es) fun j hj => by
  have hl : (iterM es n (m0 n)).length = n := by rw [iterM_len]; simp [m0]
  rw [hm] at hl
  exact (met_iff h1 hr j hj).1 (by rw [hm]; exact h j (by omega))).symm
end
end
theorem met_step {m : List Bool} {k : Nat} {b : Bool} (h : ∀ j, j < k → m[j]? = some true) (hx : m[k]? = some b) (hb : b = true) : ∀ j, j < k + 1 → m[j]? = some true := fun j hj => by
  by_cases e : j = k
  · rw [e, hx, hb]
  · exact h j (by omega)

theorem fc_impl_arcSteps (as_ : List (Int × Int × Bool × Int)) (hl : as_.length ≤ 1000000) : FC Tryz.prog 180 [(false, [.dat (.sl 106 (.pr .int (.pr .int (.pr .bool .int)))) as_])] [] 0 (Own1 289 (.pr .int .int) (stepsA as_)) := by
 refine FC.go Tryz.func180 rfl rfl Tryz.ntmps180 fun O_ hO w0_ N0_ X_ h0_ f0_ => ?_
 iterate 4 refine w_ ?_
 refine lc (dBs 0 (e := (.pr .int .int)) zer_289) ?_
 iterate 5 refine w_ ?_
 refine AL.fact (fact_len (x := .tmp 7) (Evl.tmp rfl)) fun hl1 => ?_
 iterate 4 refine w_ ?_
 refine AC.loopW (fun m_ s_ => ∃ (k : Nat), k ≤ as_.length ∧ m_ = as_.length - k ∧ s_ = ⟨[(2, lf (.val (.slice none 0 0))), (3, lR 1), (7, lf (.dat (.sl 106 (.pr .int (.pr .int (.pr .bool .int)))) as_)), (8, lI (as_.length : Int)), (9, lI (k : Int))], [(1, some (.arr 289 (.pr .int .int) (stepsA (as_.take k))))]⟩) ⟨0, Nat.zero_le _, rfl, rfl⟩ ?_ ?_
 · exact Wk.of [(1, 0)] rfl ⟨rfl, rfl, rfl, rfl, rfl, trivial⟩ ⟨(entE (by first | rfl | simp)), trivial⟩ rfl rfl
 rintro m_ s_ ⟨k, hk2, hm3, rfl⟩
 have hsl : (stepsA (as_.take k)).length ≤ as_.length := by simp only [stepsA, List.length_map, List.length_take]; omega
 iterate 4 refine w_ ?_
 cases hb4 : (decide ((k : Int) < (as_.length : Int)))
 ·have hb4' := of_decide_eq_false hb4
  refine w_ ?_
  refine AC.exit ?_
  refine (?_ : AC _ _ _ _ _)
  iterate 4 refine w_ ?_
  refine AC.ret ?_
  subst hO
  refine fin_own (e := (.pr .int .int)) (xs := (stepsA (as_.take k))) (Res.one rfl (Rs.tmp rfl)) rfl ?_
  rw [take_end (by omega)]
 ·have hb4' := of_decide_eq_true hb4
  iterate 5 refine w_ ?_
  obtain ⟨x5, hx6⟩ : ∃ z, as_[k]? = some z := ⟨_, List.getElem?_eq_getElem (by omega)⟩
  iterate 2 refine w_ ?_
  refine lc (xal 2 (.pr .int (.pr .int (.pr .bool .int))) zer_106) ?_
  iterate 6 refine w_ ?_
  refine AL.fact (fact_int (x := .tmp 15) (Evl.tmp rfl)) fun hi7 => ?_
  iterate 2 refine w_ ?_
  refine AL.fact (fact_int (x := .tmp 17) (Evl.tmp rfl)) fun hi8 => lc (Does.build bld_289 ⟨_, _, rfl, (Ev.tmp rfl), ⟨_, _, rfl, (Ev.tmp rfl), rfl⟩⟩ (List.all_eq_true.1 rfl) rfl rfl) ?_
  refine lc (dBs 3 (e := (.pr .int .int)) zer_289 (hab := by exact ⟨_, _, _, _, rfl, ⟨[dI x5.1], [dI x5.2.2.2], _, _, _, _, rfl, rfl, ⟨rfl, rfl⟩, ⟨rfl, rfl⟩, rfl⟩, ⟨rfl, rfl⟩, rfl⟩)) ?_
  refine lc (dA 4 elb_289) ?_
  refine w_ ?_
  refine AL.nil ?_
  refine (?_ : AC _ _ _ _ _)
  iterate 3 refine w_ ?_
  refine AL.nil <| lend ⟨k + 1, by omega, rfl, rfl⟩ (by omega) ?_
  exact Wk.of [(1, 4)] rfl ⟨rfl, rfl, rfl, rfl, rfl, trivial⟩ ⟨(entE (by rw [take_snoc hx6]; simp [stepsA])), trivial⟩ rfl rfl

theorem fc_slices_Index_int_int (s : List Int) (v : Int)  : FC Tryz.prog 269 [(false, [.dat (.sl 3 .int) s]), (false, [dI v])] [] 0 (Pure (lI (idxF (fun y => decide (v = y)) s))) := by
 refine FC.go Tryz.func269 rfl rfl Tryz.ntmps269 fun O_ hO w0_ N0_ X_ h0_ f0_ => ?_
 refine AC.fact (fact_int (x := .tmp 1) (Evl.tmp rfl)) fun hi1 => ?_
 iterate 6 refine w_ ?_
 refine AL.fact (fact_len (x := .tmp 6) (Evl.tmp rfl)) fun hl2 => ?_
 iterate 4 refine w_ ?_
 refine AC.loopW (fun m_ s_ => ∃ (k : Nat), k ≤ s.length ∧ m_ = s.length - k ∧ (NoneTo (fun y => decide (v = y)) s k) ∧ s_ = ⟨[(0, lf (.dat (.sl 3 .int) s)), (1, lI v), (7, lI (s.length : Int)), (8, lI (k : Int))], []⟩) ⟨0, Nat.zero_le _, rfl, NoneTo.zero, rfl⟩ ?_ ?_
 · exact Wk.of [] rfl ⟨rfl, rfl, rfl, rfl, trivial⟩ trivial rfl rfl
 rintro m_ s_ ⟨k, hk3, hm4, hno, rfl⟩
 iterate 4 refine w_ ?_
 cases hb5 : (decide ((k : Int) < (s.length : Int)))
 ·have hb5' := of_decide_eq_false hb5
  refine w_ ?_
  refine AC.exit ?_
  refine (?_ : AC _ _ _ _ _)
  iterate 3 refine w_ ?_
  refine AC.ret ?_
  subst hO
  have e6 : ((-1) : Int) = (idxF (fun y => decide (v = y)) s) := by
   first | exact (hno.no (by omega)).symm
  exact fin_pure (Res.one rfl (Rs.tmp rfl)) ((congrArg (fun z_ => lI z_) e6)) rfl
 ·have hb5' := of_decide_eq_true hb5
  iterate 12 refine w_ ?_
  obtain ⟨x7, hx8⟩ : ∃ z, s[k]? = some z := ⟨_, List.getElem?_eq_getElem (by omega)⟩
  iterate 2 refine w_ ?_
  refine AL.fact (fact_int (x := .tmp 15) (Evl.tmp rfl)) fun hi9 => ?_
  iterate 2 refine w_ ?_
  cases hb10 : (decide (v = x7))
  ·have hb10' := of_decide_eq_false hb10
   refine w_ ?_
   refine AC.skip ?_
   refine (?_ : AC _ _ _ _ _)
   iterate 3 refine w_ ?_
   refine AL.nil <| lend ⟨k + 1, by omega, rfl, hno.step hx8 (by assumption), rfl⟩ (by omega) ?_
   exact Wk.of [] rfl ⟨rfl, rfl, rfl, rfl, trivial⟩ trivial rfl rfl
  ·have hb10' := of_decide_eq_true hb10
   iterate 5 refine w_ ?_
   refine AC.ret ?_
   subst hO
   have e11 : ((k : Int) : Int) = (idxF (fun y => decide (v = y)) s) := by
    exact (hno.at hx8 (by assumption)).symm
   exact fin_pure (Res.one rfl (Rs.tmp rfl)) ((congrArg (fun z_ => lI z_) e11)) rfl

theorem fc_slices_Contains_int_int (s : List Int) (v : Int)  : FC Tryz.prog 178 [(false, [.dat (.sl 3 .int) s]), (false, [dI v])] [] 0 (Pure (lB (s.any (fun y => decide (v = y))))) := by
 refine FC.go Tryz.func178 rfl rfl Tryz.ntmps178 fun O_ hO w0_ N0_ X_ h0_ f0_ => ?_
 refine AC.fact (fact_int (x := .tmp 1) (Evl.tmp rfl)) fun hi1 => ?_
 iterate 6 refine w_ ?_
 refine lc (dK (fc_slices_Index_int_int s v) enters_269) ?_
 iterate 3 refine w_ ?_
 refine AC.ret ?_
 subst hO
 have e2 : (decide (0 ≤ (idxF (fun y => decide (v = y)) s)) : Bool) = (s.any (fun y => decide (v = y))) := by
  exact idxF_any _ _
 exact fin_pure (Res.one rfl (Rs.tmp rfl)) ((congrArg (fun z_ => lB z_) e2)) rfl

theorem fc_spec_l5All (c : (List (ByteArray × Int)) × List ByteArray × (List (Int × Int × Bool × Int))) [Decidable (AllR c.2.1.length (stepsA c.2.2))] (hn : 1 ≤ c.2.1.length ∧ c.2.1.length ≤ 300) (ha : ∀ a ∈ c.2.2, InR c.2.1.length a) : FC Tryz.prog 183 [(true, [.dat (.sl 90 (.pr .str .int)) c.1, .dat (.sl 9 .str) c.2.1, .dat (.sl 106 (.pr .int (.pr .int (.pr .bool .int)))) c.2.2])] [] 0 (Pure (lB (decide (AllR c.2.1.length (stepsA c.2.2))))) := by
 have hes := steps_in ha
 have hrl : (List.replicate c.2.1.length (Ty.zero .bool)).length = c.2.1.length := List.length_replicate ..
 refine FC.go Tryz.func183 rfl rfl Tryz.ntmps183 fun O_ hO w0_ N0_ X_ h0_ f0_ => ?_
 refine w_ ?_
 refine xbx 0 ?_
 iterate 5 refine w_ ?_
 refine AL.fact (fact_len (x := .tmp 9) (Evl.tmp rfl)) fun hl1 => ?_
 refine w_ ?_
 refine lc (Does.make 1 (e := .bool) (n := c.2.1.length) (Evl.tmp rfl) (Evl.tmp rfl) und_160 mki_4 rfl (by omega) (by omega) rfl (Fresh.of rfl) (nlr rfl)) ?_
 iterate 5 refine w_ ?_
 obtain ⟨x2, hx3⟩ : ∃ z, (List.replicate c.2.1.length (Ty.zero .bool))[0]? = some z := ⟨_, List.getElem?_eq_getElem (by omega)⟩
 refine lc (Does.storeI (e := .bool) (z' := true) (Evl.tmp rfl) rfl hx3 rfl (Evl.ev Evl.bool) rfl tsh_4 rfl rfl) ?_
 iterate 5 refine w_ ?_
 refine AL.fact (fact_len (x := .tmp 15) (Evl.tmp rfl)) fun hl4 => ?_
 iterate 4 refine w_ ?_
 refine AC.loopW (fun m_ s_ => ∃ (p : Nat) (met : List Bool), p ≤ c.2.1.length ∧ m_ = c.2.1.length - p ∧ (iterM (stepsA c.2.2) c.2.1.length (m0 c.2.1.length) = iterM (stepsA c.2.2) (c.2.1.length - p) met) ∧ (met.length = c.2.1.length) ∧ s_ = ⟨[(1, lP 0 0), (2, lB false), (3, lR 2), (16, lI (c.2.1.length : Int)), (17, lI (p : Int))], [(0, some (.box 52 [.dat (.sl 90 (.pr .str .int)) c.1, .dat (.sl 9 .str) c.2.1, .dat (.sl 106 (.pr .int (.pr .int (.pr .bool .int)))) c.2.2])), (2, some (.arr 4 .bool met))]⟩) ⟨0, (List.replicate c.2.1.length (Ty.zero .bool)).set 0 true, Nat.zero_le _, rfl, rfl, (by simp), rfl⟩ ?_ ?_
 · exact Wk.of [(2, 1)] rfl ⟨rfl, rfl, rfl, rfl, rfl, trivial⟩ ⟨rfl, (entE (by first | rfl | simp)), trivial⟩ rfl rfl
 rintro m_ s_ ⟨p, met, hk5, hm6, hA, hL, rfl⟩
 iterate 4 refine w_ ?_
 cases hb7 : (decide ((p : Int) < (c.2.1.length : Int)))
 ·have hb7' := of_decide_eq_false hb7
  refine w_ ?_
  refine AC.exit ?_
  refine (?_ : AC _ _ _ _ _)
  iterate 7 refine w_ ?_
  refine AC.loopW (fun m_ s_ => ∃ (k : Nat), k ≤ met.length ∧ m_ = met.length - k ∧ (∀ j, j < k → met[j]? = some true) ∧ s_ = ⟨[(37, lR 2), (38, lI (met.length : Int)), (39, lI (k : Int))], [(2, some (.arr 4 .bool met))]⟩) ⟨0, Nat.zero_le _, rfl, (fun j hj => absurd hj (Nat.not_lt_zero j)), rfl⟩ ?_ ?_
  · exact Wk.of [] rfl ⟨rfl, rfl, rfl, trivial⟩ ⟨rfl, trivial⟩ rfl rfl
  rintro m_ s_ ⟨k, hk8, hm9, hM, rfl⟩
  iterate 4 refine w_ ?_
  cases hb10 : (decide ((k : Int) < (met.length : Int)))
  ·have hb10' := of_decide_eq_false hb10
   refine w_ ?_
   refine AC.exit ?_
   refine (?_ : AC _ _ _ _ _)
   iterate 3 refine w_ ?_
   refine AC.ret ?_
   subst hO
   have e11 : (true : Bool) = (decide (AllR c.2.1.length (stepsA c.2.2))) := by
    first | exact all_yes hn.1 hes (by rw [hA, show c.2.1.length - p = 0 by omega]; rfl) hM (by omega)
   exact fin_pure (Res.one rfl (Rs.tmp rfl)) ((congrArg (fun z_ => lB z_) e11)) rfl
  ·have hb10' := of_decide_eq_true hb10
   iterate 6 refine w_ ?_
   obtain ⟨x12, hx13⟩ : ∃ z, met[k]? = some z := ⟨_, List.getElem?_eq_getElem (by omega)⟩
   iterate 7 refine w_ ?_
   cases hb14 : (x12)
   ·iterate 4 refine w_ ?_
    refine AC.ret ?_
    subst hO
    have e15 : (false : Bool) = (decide (AllR c.2.1.length (stepsA c.2.2))) := by
     exact all_no hn.1 hes (by rw [hA, show c.2.1.length - p = 0 by omega]; rfl) hx13 (by assumption)
    exact fin_pure (Res.one rfl (Rs.tmp rfl)) ((congrArg (fun z_ => lB z_) e15)) rfl
   ·refine w_ ?_
    refine AC.skip ?_
    refine (?_ : AC _ _ _ _ _)
    iterate 3 refine w_ ?_
    refine AL.nil <| lend ⟨k + 1, by omega, rfl, (met_step hM hx13 (by assumption)), rfl⟩ (by omega) ?_
    exact Wk.of [] rfl ⟨rfl, rfl, rfl, trivial⟩ ⟨rfl, trivial⟩ rfl rfl
 ·have hb7' := of_decide_eq_true hb7
  iterate 7 refine w_ ?_
  refine AL.fact (fact_len (x := .tmp 20) (Evl.tmp rfl)) fun hl16 => ?_
  iterate 4 refine w_ ?_
  refine AC.loopW (fun m_ s_ => ∃ (i : Nat) (met2 : List Bool), i ≤ c.2.2.length ∧ m_ = c.2.2.length - i ∧ (passM (stepsA c.2.2) met = passM ((stepsA c.2.2).drop i) met2) ∧ (met2.length = c.2.1.length) ∧ s_ = ⟨[(1, lP 0 0), (2, lB false), (3, lR 3), (16, lI (c.2.1.length : Int)), (17, lI (p : Int)), (18, lB true), (19, lP 0 2), (20, lf (.dat (.sl 106 (.pr .int (.pr .int (.pr .bool .int)))) c.2.2)), (21, lI (c.2.2.length : Int)), (22, lI (i : Int))], [(0, some (.box 52 [.dat (.sl 90 (.pr .str .int)) c.1, .dat (.sl 9 .str) c.2.1, .dat (.sl 106 (.pr .int (.pr .int (.pr .bool .int)))) c.2.2])), (3, some (.arr 4 .bool met2))]⟩) ⟨0, met, Nat.zero_le _, rfl, rfl, hL, rfl⟩ ?_ ?_
  · exact Wk.of [(3, 2)] rfl ⟨rfl, rfl, rfl, rfl, rfl, rfl, rfl, rfl, rfl, rfl, trivial⟩ ⟨rfl, rfl, trivial⟩ rfl rfl
  rintro m_ s_ ⟨i, met2, hk17, hm18, hA2, hL2, rfl⟩
  iterate 4 refine w_ ?_
  cases hb19 : (decide ((i : Int) < (c.2.2.length : Int)))
  ·have hb19' := of_decide_eq_false hb19
   refine w_ ?_
   refine AC.exit ?_
   refine (?_ : AC _ _ _ _ _)
   iterate 3 refine w_ ?_
   refine AL.nil <| lend ⟨p + 1, met2, by omega, rfl, (by rw [hA, show c.2.1.length - p = (c.2.1.length - (p + 1)) + 1 by omega, iterM, hA2, pass_end (by omega)]), hL2, rfl⟩ (by omega) ?_
   exact Wk.of [(2, 3)] rfl ⟨rfl, rfl, rfl, rfl, rfl, trivial⟩ ⟨rfl, rfl, trivial⟩ rfl rfl
  ·have hb19' := of_decide_eq_true hb19
   iterate 5 refine w_ ?_
   obtain ⟨ar, hx21⟩ : ∃ z, c.2.2[i]? = some z := ⟨_, List.getElem?_eq_getElem (by omega)⟩
   obtain ⟨⟨hr1, hr2⟩, hr3, hr4⟩ := ha _ (List.mem_of_getElem? hx21)
   iterate 2 refine w_ ?_
   refine lc (xal 4 (.pr .int (.pr .int (.pr .bool .int))) zer_106) ?_
   iterate 6 refine w_ ?_
   refine AL.fact (fact_int (x := .tmp 28) (Evl.tmp rfl)) fun hi22 => ?_
   refine w_ ?_
   obtain ⟨x23, hx24⟩ : ∃ z, met2[(ar.1).toNat]? = some z := ⟨_, List.getElem?_eq_getElem (by omega)⟩
   iterate 2 refine w_ ?_
   cases hb25 : (x23)
   ·refine w_ ?_
    refine AC.skip ?_
    refine (?_ : AC _ _ _ _ _)
    iterate 3 refine w_ ?_
    refine AL.nil <| lend ⟨i + 1, met2, by omega, rfl, (by rw [hA2, pass_step hx21]; first | rw [stepM_yes (by assumption) (by assumption)] | rw [stepM_no (by assumption) (by assumption)]), (by exact hL2), rfl⟩ (by omega) ?_
    exact Wk.of [] rfl ⟨rfl, rfl, rfl, rfl, rfl, rfl, rfl, rfl, rfl, rfl, trivial⟩ ⟨rfl, rfl, trivial⟩ rfl rfl
   ·iterate 5 refine w_ ?_
    refine AL.fact (fact_int (x := .tmp 33) (Evl.tmp rfl)) fun hi26 => ?_
    refine w_ ?_
    obtain ⟨x27, hx28⟩ : ∃ z, met2[(ar.2.2.2).toNat]? = some z := ⟨_, List.getElem?_eq_getElem (by omega)⟩
    refine lc (Does.storeI (e := .bool) (z' := true) (Evl.tmp rfl) rfl hx28 rfl (Evl.ev Evl.bool) rfl tsh_4 rfl rfl) <| AL.nil ?_
    refine (?_ : AC _ _ _ _ _)
    iterate 3 refine w_ ?_
    refine AL.nil <| lend ⟨i + 1, (met2.set ((ar.2.2.2).toNat) true), by omega, rfl, (by rw [hA2, pass_step hx21]; first | rw [stepM_yes (by assumption) (by assumption)] | rw [stepM_no (by assumption) (by assumption)]), (by (rw [List.length_set]; exact hL2)), rfl⟩ (by omega) ?_
    exact Wk.of [] rfl ⟨rfl, rfl, rfl, rfl, rfl, rfl, rfl, rfl, rfl, rfl, trivial⟩ ⟨rfl, (entE (by first | rfl | simp)), trivial⟩ rfl rfl

end Go.Proofs.YtjaadeknhofhpaaGreat

/- Walks over abstract states: valid state graphs, the reference. -/
namespace Go.Proofs.YtjaadeknhofhpaaGreat
open Go.RowKit
set_option maxRecDepth 100000
set_option maxHeartbeats 4000000

structure SgOk (c : DSg) : Prop where
  sigs : SigsOk c.1
  some_ : 1 ≤ c.2.1.length ∧ c.2.1.length ≤ 300
  few : c.2.2.length ≤ 4000
  codes : ∀ x ∈ c.2.1, BitsL x (c.1.length : Int)
  arcs : ∀ a ∈ c.2.2, ArcOk c a
  all : AllR c.2.1.length (stepsA c.2.2)
theorem each_step {α : Type} {p : α → Prop} {l : List α} {k : Nat} {x : α} (h : ∀ j, j < k → ∀ x, l[j]? = some x → p x) (hx : l[k]? = some x) (hp : p x) : ∀ j, j < k + 1 → ∀ x, l[j]? = some x → p x := fun j hj y hy => by
  by_cases e : j = k
  · subst e; rw [hx] at hy; cases hy; exact hp
  · exact h j (by omega) y hy
theorem each_all {α : Type} {p : α → Prop} {l : List α} {k : Nat} (h : ∀ j, j < k → ∀ x, l[j]? = some x → p x) (hk : l.length ≤ k) : ∀ x ∈ l, p x := fun x hx => by
  obtain ⟨j, hj⟩ := List.mem_iff_getElem?.1 hx
  have := (List.getElem?_eq_some_iff.1 hj).1
  exact h j (by omega) x hj
theorem arc_inr {c : DSg} {a : DAr} (h : ArcOk c a) : InR c.2.1.length a := by
  obtain ⟨⟨h1, h2⟩, ⟨h3, h4⟩, _⟩ := h
  exact ⟨⟨h1, by omega⟩, h3, by omega⟩
section
variable {c : DSg} [Decidable (SgOk c)] {x : ByteArray} {a : DAr} {k i : Nat}
theorem sg_no1 (h : ¬ SigsOk c.1) : false = decide (SgOk c) := (decide_eq_false fun g => h g.sigs).symm
theorem sg_no2 (h : ¬ ((1 : Int) ≤ (c.2.1.length : Int) ∧ (c.2.1.length : Int) ≤ 300)) : false = decide (SgOk c) := (decide_eq_false fun g => h (by have := g.some_; omega)).symm
theorem sg_no3 (h : (4000 : Int) < (c.2.2.length : Int)) : false = decide (SgOk c) := (decide_eq_false fun g => by have := g.few; omega).symm
theorem sg_no4 (hx : c.2.1[k]? = some x) (h : ¬ BitsL x (c.1.length : Int)) : false = decide (SgOk c) := (decide_eq_false fun g => h (g.codes x (List.mem_of_getElem? hx))).symm
theorem sg_no5 (hx : c.2.2[k]? = some a) (h : ¬ ArcOk c a) : false = decide (SgOk c) := (decide_eq_false fun g => h (g.arcs a (List.mem_of_getElem? hx))).symm
theorem sg_fin [Decidable (AllR c.2.1.length (stepsA c.2.2))] (h1 : SigsOk c.1) (h2 : (1 : Int) ≤ (c.2.1.length : Int) ∧ (c.2.1.length : Int) ≤ 300) (h3 : ¬ (4000 : Int) < (c.2.2.length : Int)) (h4 : ∀ x ∈ c.2.1, BitsL x (c.1.length : Int)) (h5 : ∀ a ∈ c.2.2, ArcOk c a) :
    decide (AllR c.2.1.length (stepsA c.2.2)) = decide (SgOk c) := decide_eq_decide.2 ⟨fun h => ⟨h1, by omega, by omega, h4, h5, h⟩, fun g => g.all⟩
end

theorem fc_spec_l5Good (c : (List (ByteArray × Int)) × List ByteArray × (List (Int × Int × Bool × Int))) [∀ c, Decidable (SgOk c)]  : FC Tryz.prog 90 [(true, [.dat (.sl 90 (.pr .str .int)) c.1, .dat (.sl 9 .str) c.2.1, .dat (.sl 106 (.pr .int (.pr .int (.pr .bool .int)))) c.2.2])] [] 0 (Pure (lB (decide (SgOk c)))) := by
 classical
 refine FC.go Tryz.func90 rfl rfl Tryz.ntmps90 fun O_ hO w0_ N0_ X_ h0_ f0_ => ?_
 refine w_ ?_
 refine xbx 0 ?_
 iterate 6 refine w_ ?_
 refine lc (dK (fc_spec_l2Signals c.1) enters_171) ?_
 iterate 2 refine w_ ?_
 cases hb1 : (decide (SigsOk c.1))
 ·have hb1' := of_decide_eq_false hb1
  iterate 17 refine w_ ?_
  refine AC.ret ?_
  subst hO
  have e2 : (false : Bool) = (decide (SgOk c)) := by
   exact sg_no1 (by assumption)
  exact fin_pure (Res.one rfl (Rs.tmp rfl)) ((congrArg (fun z_ => lB z_) e2)) rfl
 ·have hb1' := of_decide_eq_true hb1
  iterate 2 refine w_ ?_
  refine AL.fact (fact_len (x := .tmp 13) (Evl.tmp rfl)) fun hl3 => ?_
  refine w_ ?_
  refine lgy rfl rfl (dK (fc_spec_l1In (c.2.1.length : Int) 1 300) enters_174) ?_
  iterate 3 refine w_ ?_
  cases hb4 : (decide (1 ≤ (c.2.1.length : Int) ∧ (c.2.1.length : Int) ≤ 300))
  ·have hb4' := of_decide_eq_false hb4
   iterate 10 refine w_ ?_
   refine AC.ret ?_
   subst hO
   have e5 : (false : Bool) = (decide (SgOk c)) := by
    exact sg_no2 (by assumption)
   exact fin_pure (Res.one rfl (Rs.tmp rfl)) ((congrArg (fun z_ => lB z_) e5)) rfl
  ·have hb4' := of_decide_eq_true hb4
   iterate 2 refine w_ ?_
   refine AL.fact (fact_len (x := .tmp 20) (Evl.tmp rfl)) fun hl6 => ?_
   iterate 4 refine w_ ?_
   cases hb7 : (decide (4000 < (c.2.2.length : Int)))
   ·have hb7' := of_decide_eq_false hb7
    iterate 6 refine w_ ?_
    refine AL.fact (fact_len (x := .tmp 25) (Evl.tmp rfl)) fun hl8 => ?_
    iterate 4 refine w_ ?_
    refine AC.loopW (fun m_ s_ => ∃ (k : Nat), k ≤ c.2.1.length ∧ m_ = c.2.1.length - k ∧ (∀ j, j < k → ∀ x, c.2.1[j]? = some x → BitsL x (c.1.length : Int)) ∧ s_ = ⟨[(1, lP 0 0), (25, lf (.dat (.sl 9 .str) c.2.1)), (26, lI (c.2.1.length : Int)), (27, lI (k : Int))], [(0, some (.box 52 [.dat (.sl 90 (.pr .str .int)) c.1, .dat (.sl 9 .str) c.2.1, .dat (.sl 106 (.pr .int (.pr .int (.pr .bool .int)))) c.2.2]))]⟩) ⟨0, Nat.zero_le _, rfl, (fun j hj => absurd hj (Nat.not_lt_zero j)), rfl⟩ ?_ ?_
    · exact Wk.of [] rfl ⟨rfl, rfl, rfl, rfl, trivial⟩ ⟨rfl, trivial⟩ rfl rfl
    rintro m_ s_ ⟨k, hk9, hm10, hB, rfl⟩
    iterate 4 refine w_ ?_
    cases hb11 : (decide ((k : Int) < (c.2.1.length : Int)))
    ·have hb11' := of_decide_eq_false hb11
     refine w_ ?_
     refine AC.exit ?_
     refine (?_ : AC _ _ _ _ _)
     iterate 4 refine w_ ?_
     refine AL.fact (fact_len (x := .tmp 39) (Evl.tmp rfl)) fun hl12 => ?_
     iterate 4 refine w_ ?_
     refine AC.loopW (fun m_ s_ => ∃ (i : Nat), i ≤ c.2.2.length ∧ m_ = c.2.2.length - i ∧ (∀ j, j < i → ∀ a, c.2.2[j]? = some a → ArcOk c a) ∧ s_ = ⟨[(1, lP 0 0), (39, lf (.dat (.sl 106 (.pr .int (.pr .int (.pr .bool .int)))) c.2.2)), (40, lI (c.2.2.length : Int)), (41, lI (i : Int))], [(0, some (.box 52 [.dat (.sl 90 (.pr .str .int)) c.1, .dat (.sl 9 .str) c.2.1, .dat (.sl 106 (.pr .int (.pr .int (.pr .bool .int)))) c.2.2]))]⟩) ⟨0, Nat.zero_le _, rfl, (fun j hj => absurd hj (Nat.not_lt_zero j)), rfl⟩ ?_ ?_
     · exact Wk.of [] rfl ⟨rfl, rfl, rfl, rfl, trivial⟩ ⟨rfl, trivial⟩ rfl rfl
     rintro m_ s_ ⟨i, hk13, hm14, hR, rfl⟩
     iterate 4 refine w_ ?_
     cases hb15 : (decide ((i : Int) < (c.2.2.length : Int)))
     ·have hb15' := of_decide_eq_false hb15
      refine w_ ?_
      refine AC.exit ?_
      refine (?_ : AC _ _ _ _ _)
      iterate 2 refine w_ ?_
      refine lc (dK (fc_spec_l5All c (by omega) (fun a ha => arc_inr (each_all hR (by omega) a ha))) enters_183) ?_
      iterate 2 refine w_ ?_
      refine AC.ret ?_
      subst hO
      have e16 : (decide (AllR c.2.1.length (stepsA c.2.2)) : Bool) = (decide (SgOk c)) := by
       exact sg_fin (by assumption) (by assumption) (by assumption) (each_all hB (by omega)) (each_all hR (by omega))
      exact fin_pure (Res.one rfl (Rs.tmp rfl)) ((congrArg (fun z_ => lB z_) e16)) rfl
     ·have hb15' := of_decide_eq_true hb15
      iterate 5 refine w_ ?_
      obtain ⟨x17, hx18⟩ : ∃ z, c.2.2[i]? = some z := ⟨_, List.getElem?_eq_getElem (by omega)⟩
      iterate 2 refine w_ ?_
      refine lc (xal 1 (.pr .int (.pr .int (.pr .bool .int))) zer_106) ?_
      iterate 5 refine w_ ?_
      refine lc (dK (fc_spec_l5Arc c x17 (each_all hB (by omega)) (by have := (‹SigsOk c.1›).2.2; omega)) enters_182) ?_
      iterate 2 refine w_ ?_
      cases hb19 : (decide (ArcOk c x17))
      ·have hb19' := of_decide_eq_false hb19
       iterate 4 refine w_ ?_
       refine AC.ret ?_
       subst hO
       have e20 : (false : Bool) = (decide (SgOk c)) := by
        exact sg_no5 hx18 (by assumption)
       exact fin_pure (Res.one rfl (Rs.tmp rfl)) ((congrArg (fun z_ => lB z_) e20)) rfl
      ·have hb19' := of_decide_eq_true hb19
       refine w_ ?_
       refine AC.skip ?_
       refine (?_ : AC _ _ _ _ _)
       iterate 3 refine w_ ?_
       refine AL.nil <| lend ⟨i + 1, by omega, rfl, (each_step hR hx18 (by assumption)), rfl⟩ (by omega) ?_
       exact Wk.of [] rfl ⟨rfl, rfl, rfl, rfl, trivial⟩ ⟨rfl, trivial⟩ rfl rfl
    ·have hb11' := of_decide_eq_true hb11
     iterate 5 refine w_ ?_
     obtain ⟨x21, hx22⟩ : ∃ z, c.2.1[k]? = some z := ⟨_, List.getElem?_eq_getElem (by omega)⟩
     iterate 8 refine w_ ?_
     refine AL.fact (fact_len (x := .tmp 33) (Evl.tmp rfl)) fun hl23 => ?_
     refine w_ ?_
     refine lc (dK (fc_spec_l5Code x21 (c.1.length : Int)) enters_181) ?_
     iterate 2 refine w_ ?_
     cases hb24 : (decide (BitsL x21 (c.1.length : Int)))
     ·have hb24' := of_decide_eq_false hb24
      iterate 4 refine w_ ?_
      refine AC.ret ?_
      subst hO
      have e25 : (false : Bool) = (decide (SgOk c)) := by
       exact sg_no4 hx22 (by assumption)
      exact fin_pure (Res.one rfl (Rs.tmp rfl)) ((congrArg (fun z_ => lB z_) e25)) rfl
     ·have hb24' := of_decide_eq_true hb24
      refine w_ ?_
      refine AC.skip ?_
      refine (?_ : AC _ _ _ _ _)
      iterate 3 refine w_ ?_
      refine AL.nil <| lend ⟨k + 1, by omega, rfl, (each_step hB hx22 (by assumption)), rfl⟩ (by omega) ?_
      exact Wk.of [] rfl ⟨rfl, rfl, rfl, rfl, trivial⟩ ⟨rfl, trivial⟩ rfl rfl
   ·have hb7' := of_decide_eq_true hb7
    iterate 4 refine w_ ?_
    refine AC.ret ?_
    subst hO
    have e26 : (false : Bool) = (decide (SgOk c)) := by
     exact sg_no3 (by assumption)
    exact fin_pure (Res.one rfl (Rs.tmp rfl)) ((congrArg (fun z_ => lB z_) e26)) rfl

end Go.Proofs.YtjaadeknhofhpaaGreat

/- Walks over abstract states: slices.Repeat of one number. -/
namespace Go.Proofs.YtjaadeknhofhpaaGreat
open Go.RowKit
set_option maxRecDepth 100000
set_option maxHeartbeats 4000000

section
variable {A : Amb} {P : Program} {s : St} {x y : Operand} {d : Nat} {T T' ty : TypeId} {pos : String} {af : Array Edge} {g : Option (Nat × Bool)} {n a b : Int}
theorem u64_wrap (h : 0 ≤ n ∧ n ≤ 9223372036854775807) : IntKind.u64.wrap n = n := by
  simp [IntKind.wrap, IntKind.bits, IntKind.signed]
  omega
theorem i64_wrap (h : 0 ≤ n ∧ n ≤ 9223372036854775807) : IntKind.i64.wrap n = n := IntWalk.i64_in _ (by omega)
theorem Does.toU64 (hx : Evl A s x (dI n)) (hs : P.underlying T = some (.int .i64)) (hd : P.underlying T' = some (.int .u64)) (h0 : 0 ≤ n) (hn : Nat.blt d A.n = true) :
    Does A P ⟨some d, .convert T T' x, ty, pos, af, g⟩ s (s.put d (lf (.val (.int .u64 n)))) :=
  Does.yields rfl hn fun gh a w r => by
    have h2 := hx.i r
    have h3 := (LVR.int (hx gh a w r)).2
    have e2 := u64_wrap (n := n) (by omega)
    refine ⟨.int .u64 n, ?_, _, rfl, rfl⟩
    simp only [execOp, h2, convert, run_underlying hs, run_underlying hd, Go.Sem.run_bind, Result.andThen_ok, Conv.intToInt, e2]
    simp
theorem Does.ofU64 (hx : Evl A s x (.val (.int .u64 n))) (hs : P.underlying T = some (.int .u64)) (hd : P.underlying T' = some (.int .i64)) (h0 : 0 ≤ n ∧ n ≤ 9223372036854775807) (hn : Nat.blt d A.n = true) :
    Does A P ⟨some d, .convert T T' x, ty, pos, af, g⟩ s (s.put d (lf (dI n))) :=
  Does.yields rfl hn fun gh a w r => by
    have h2 : a.eval x = .int .u64 n := hx gh a w r
    have e2 := i64_wrap h0
    refine ⟨.int .i64 n, ?_, _, rfl, LVR.mkI (by omega)⟩
    simp only [execOp, h2, convert, run_underlying hs, run_underlying hd, Go.Sem.run_bind, Result.andThen_ok, Conv.intToInt, e2]
    simp
theorem Does.gtrV (hx : Evl A s x (.val (.int .u64 a))) (hy : Evl A s y (.val (.int .u64 b))) (hn : Nat.blt d A.n = true) : Does A P ⟨some d, .binOp .gtr T x y T', ty, pos, af, g⟩ s (s.put d (lf (dB (decide (b < a))))) :=
  Does.yields rfl hn fun gh a' w r => by
    have h1 : a'.eval x = .int .u64 a := hx gh a' w r
    have h2 : a'.eval y = .int .u64 b := hy gh a' w r
    refine ⟨.bool (decide (b < a)), ?_, _, rfl, LVR.mkB⟩
    simp only [execOp, h1, h2, eqGuard_at_int, binOp, Op.intCmp]
    simp
end
theorem and_mask (n : Nat) (hn : n ≤ 1000000) : bits BinOp.and IntKind.u64 (n : Int) 4294967295 = n := by
  have h := bits_and_u64_nat n 4294967295 (by omega) (by decide)
  rw [show ((4294967295 : Nat) : Int) = 4294967295 from rfl] at h
  rw [h, show (4294967295 : Nat) = 2 ^ 32 - 1 from rfl, Nat.and_two_pow_sub_one_eq_mod, Nat.mod_eq_of_lt (by omega)]
set_option maxHeartbeats 1000000 in
theorem Mul_one (n : Nat) (w : World) (hn : n ≤ 1000000) : Calls Tryz.prog 343 #[.int .u64 1, .int .u64 n] w fun e w' => e = .returned (.tuple #[.int .u64 0, .int .u64 n]) ∧ w' = w := by
  have h1 : bits BinOp.and IntKind.u64 1 4294967295 = 1 := by decide
  have h2 := and_mask n hn
  have h3 : (n : Int) / 4294967296 = 0 := by omega
  have h4 := u64_wrap (n := n) (by omega)
  have h5 : IntKind.u64.wrap 0 = 0 := by decide
  have h6 : bits BinOp.and IntKind.u64 0 4294967295 = 0 := by decide
  go_enter Tryz.func343, Tryz.ntmps343
  go_wp2
  go_ret2
  exact ⟨rfl, rfl⟩
theorem fc_Mul (a n : Int) (ha : a = 1) (hn : 0 ≤ n ∧ n ≤ 1000000) : FC Tryz.prog 343 [(false, [.val (.int .u64 a)]), (false, [.val (.int .u64 n)])] [] 0 (Pure (.tup [(false, [.val (.int .u64 0)]), (false, [.val (.int .u64 n)])])) := FC.ofP fun gh w vs h => by
  obtain ⟨v1, vs1, rfl, ⟨l1, e1, k1⟩, v2, vs2, rfl, ⟨l2, e2, k2⟩, rfl⟩ := h
  simp only [List.cons.injEq, and_true] at e1 e2
  subst e1 e2 ha
  have k1 : v1 = .int .u64 1 := k1
  have k2 : v2 = .int .u64 n := k2
  subst k1 k2
  obtain ⟨m, rfl⟩ : ∃ m : Nat, n = m := ⟨n.toNat, by omega⟩
  refine Calls.mono (Mul_one m w (by omega)) fun e w' he => ?_
  obtain ⟨rfl, rfl⟩ := he
  exact ⟨_, rfl, Nw.refl _, [.int .u64 0, .int .u64 m], rfl, _, _, rfl, ⟨_, rfl, rfl⟩, _, _, rfl, ⟨_, rfl, rfl⟩, rfl⟩
theorem rep_cpy {v : Int} {m k : Nat} : cpy (List.replicate m v ++ List.replicate k (0 : Int)) m k ((((List.replicate m v ++ List.replicate k (0 : Int))).take (0 + m)).drop 0) = List.replicate (m + min m k) v ++ List.replicate (k - min m k) 0 := by
  have h1 : (List.replicate m v ++ List.replicate k (0 : Int)).take m = List.replicate m v := List.take_left' (by simp)
  have h2 : (List.replicate m v ++ List.replicate k (0 : Int)).drop (m + min m k) = List.replicate (k - min m k) 0 := by
    rw [List.drop_append, List.length_replicate, List.drop_eq_nil_of_le (by simp), List.nil_append, List.drop_replicate]
    congr 1
    omega
  rw [cpy, Nat.zero_add, List.drop_zero, h1, List.length_replicate, h2, List.take_replicate, Nat.min_eq_left (Nat.min_le_left _ _), List.replicate_append_replicate]
theorem rep_start {n v : Int} (hn : 0 ≤ n) : cpy (List.replicate n.toNat (Ty.zero .int)) 0 (List.replicate n.toNat (Ty.zero .int)).length [v] = List.replicate (((min [v].length (List.replicate n.toNat (Ty.zero .int)).length : Nat) : Int)).toNat v ++ List.replicate (n.toNat - (((min [v].length (List.replicate n.toNat (Ty.zero .int)).length : Nat) : Int)).toNat) 0 := by
  have h := rep_cpy (v := v) (m := 0) (k := n.toNat)
  have e : (Ty.zero .int : Int) = 0 := rfl
  cases hk : n.toNat with
  | zero => simp [cpy]
  | succ k => simp [cpy, e, List.replicate_succ]
theorem rep_round {n m v : Int} {l : List Int} (h0 : 0 ≤ m) (h1 : m ≤ n) (hl : l = List.replicate m.toNat v ++ List.replicate (n.toNat - m.toNat) 0) (hL : l.length = n.toNat) :
    cpy l m.toNat (l.length - m.toNat) ((l.take (0 + m.toNat)).drop 0) = List.replicate (m + ((min ((l.take (0 + m.toNat)).drop 0).length (l.length - m.toNat) : Nat) : Int)).toNat v ++ List.replicate (n.toNat - (m + ((min ((l.take (0 + m.toNat)).drop 0).length (l.length - m.toNat) : Nat) : Int)).toNat) 0 := by
  have hlen : ((l.take (0 + m.toNat)).drop 0).length = m.toNat := by simp [hL]; omega
  rw [hlen, hL]
  rw [hl, rep_cpy]
  congr 2 <;> omega

theorem fc_slices_Repeat_int_int (s : List Int) (n : Int) (v : Int) (hs : s = [v]) (hn : 0 ≤ n ∧ n ≤ 1000000) : FC Tryz.prog 270 [(false, [.dat (.sl 3 .int) s]), (false, [dI n])] [] 0 (Own1 3 .int (List.replicate n.toNat v)) := by
 have hs1 : (s.length : Int) = 1 := by rw [hs]; rfl
 have hneg : decide (n < 0) = false := decide_eq_false (by omega)
 have hbig : decide ((9223372036854775807 : Int) < n) = false := decide_eq_false (by omega)
 have hrl : (List.replicate n.toNat (Ty.zero .int)).length = n.toNat := List.length_replicate ..
 refine FC.go Tryz.func270 rfl rfl Tryz.ntmps270 fun O_ hO w0_ N0_ X_ h0_ f0_ => ?_
 refine AC.fact (fact_int (x := .tmp 1) (Evl.tmp rfl)) fun hi1 => ?_
 iterate 8 refine w_ ?_
 cases hb2 : (decide (n < 0))
 ·have hb2' := of_decide_eq_false hb2
  iterate 4 refine w_ ?_
  refine AL.fact (fact_len (x := .tmp 13) (Evl.tmp rfl)) fun hl3 => ?_
  refine w_ ?_
  refine lc (Does.toU64 (Evl.tmp rfl) und_3 und_253 (by omega) rfl) ?_
  refine w_ ?_
  refine lc (Does.toU64 (Evl.tmp rfl) und_3 und_253 (by omega) rfl) ?_
  refine lc (dK (fc_Mul (s.length : Int) n hs1 hn) enters_343) ?_
  iterate 9 refine w_ ?_
  refine lc (Does.gtrV (Evl.tmp rfl) Evl.val rfl) ?_
  refine w_ ?_
  cases hb4 : (decide ((0 : Int) < (0 : Int)))
  ·have hb4' := of_decide_eq_false hb4
   refine w_ ?_
   refine lgy rfl rfl (Does.gtrV (Evl.tmp rfl) Evl.val rfl) ?_
   iterate 2 refine w_ ?_
   cases hb5 : (decide ((9223372036854775807 : Int) < n))
   ·have hb5' := of_decide_eq_false hb5
    iterate 4 refine w_ ?_
    refine lc (Does.ofU64 (Evl.tmp rfl) und_253 und_3 (by omega) rfl) <| lc (Does.makeI 0 (e := .int) (n := n) (Evl.tmp rfl) (Evl.tmp rfl) und_95 mki_3 rfl (by omega) (by omega) (by omega) rfl (Fresh.of rfl) (nlr rfl)) ?_
    iterate 5 refine w_ ?_
    refine lc (Does.copyO (e := .int) (xs := List.replicate (n).toNat (Ty.zero .int)) (lo := 0) (n := (List.replicate (n).toNat (Ty.zero .int)).length) (ys := s) (Evl.subR (Evl.tmp rfl) rfl) rfl (by omega) (Evl.rep (Evl.tmp rfl)) rfl rfl und_95 mki_3 rfl) ?_
    iterate 4 refine w_ ?_
    refine AC.loopW (fun m_ s_ => ∃  (m : Int) (l : List Int), m_ = (n - m).toNat ∧ (0 ≤ m ∧ m ≤ n ∧ (0 < n → 0 < m)) ∧ (l = List.replicate m.toNat v ++ List.replicate (n.toNat - m.toNat) 0) ∧ (l.length = n.toNat) ∧ s_ = ⟨[(4, lf (.val (.slice none 0 0))), (7, lR 1), (8, lI m)], [(1, some (.arr 3 .int l))]⟩) ⟨((min s.length ((List.replicate (n).toNat (Ty.zero .int)).length) : Nat) : Int), cpy (List.replicate (n).toNat (Ty.zero .int)) 0 ((List.replicate (n).toNat (Ty.zero .int)).length) s, rfl, (by rw [hrl, hs]; simp; omega), (by rw [hs]; exact rep_start hn.1), (by rw [cpy_len (by omega)]; exact hrl), rfl⟩ ?_ ?_
    · exact Wk.of [(1, 0)] rfl ⟨rfl, rfl, rfl, trivial⟩ ⟨(entE (by first | rfl | simp)), trivial⟩ rfl rfl
    rintro m_ s_ ⟨m, l, hm7, hm, hl, hL, rfl⟩
    iterate 7 refine w_ ?_
    cases hb8 : (decide (m < (l.length : Int)))
    ·have hb8' := of_decide_eq_false hb8
     refine w_ ?_
     refine AC.exit ?_
     refine (?_ : AC _ _ _ _ _)
     iterate 4 refine w_ ?_
     refine AC.ret ?_
     subst hO
     refine fin_own (e := .int) (xs := l) (Res.one rfl (Rs.tmp rfl)) rfl ?_
     rw [hl, show n.toNat - m.toNat = 0 by omega, show m.toNat = n.toNat by omega]; simp
    ·have hb8' := of_decide_eq_true hb8
     iterate 3 refine w_ ?_
     apply dV [io 38 _, io 39 _, io 40 _, io 41 (lf (.sub 1 1 ((m).toNat) (l.length - (m).toNat))), io 42 _, io 43 _, io 44 (lf (.sub 1 1 0 ((m).toNat))), ⟨some 45, lI ((min ((l.take (0 + ((m).toNat))).drop 0).length (l.length - (m).toNat) : Nat) : Int), [(1, some (.arr 3 .int (cpy l ((m).toNat) (l.length - (m).toNat) ((l.take (0 + ((m).toNat))).drop 0))))]⟩, io 46 _, io 8 _] [0, 1, 3, 1, 15, 31, 15, 1, 0, 0]
     iterate 3 refine z_ ?_
     refine zz (fun _ h_ => ac (Does.sliceO (e := .int) (a := (m).toNat) (b := l.length - (m).toNat) (l := (some m)) (h := none) (h_.v rfl) (h_.en 1 rfl) (by exact (h_.v rfl)) (by exact trivial) und_95 tsh_3 rfl (by first | (simp only [Option.getD_none, Option.getD_some]; omega) | omega | (simp only [Option.getD_none, Option.getD_some, List.length_append, List.length_take, List.length_replicate]; omega)) (by first | (simp only [Option.getD_none, Option.getD_some]; omega) | omega | (simp only [Option.getD_none, Option.getD_some, List.length_append, List.length_take, List.length_replicate]; omega)) (by first | (simp only [Option.getD_none, Option.getD_some]; omega) | omega | (simp only [Option.getD_none, Option.getD_some, List.length_append, List.length_take, List.length_replicate]; omega)) (by first | rfl | simp) (by first | rfl | simp)) rfl) ?_
     iterate 2 refine z_ ?_
     refine zz (fun _ h_ => ac (Does.sliceO (e := .int) (a := 0) (b := (m).toNat) (l := none) (h := (some m)) (h_.v rfl) (h_.en 1 rfl) (by exact trivial) (by exact (h_.v rfl)) und_95 tsh_3 rfl (by first | (simp only [Option.getD_none, Option.getD_some]; omega) | omega | (simp only [Option.getD_none, Option.getD_some, List.length_append, List.length_take, List.length_replicate]; omega)) (by first | (simp only [Option.getD_none, Option.getD_some]; omega) | omega | (simp only [Option.getD_none, Option.getD_some, List.length_append, List.length_take, List.length_replicate]; omega)) (by first | (simp only [Option.getD_none, Option.getD_some]; omega) | omega | (simp only [Option.getD_none, Option.getD_some, List.length_append, List.length_take, List.length_replicate]; omega)) (by first | rfl | simp) (by first | rfl | simp)) rfl) <| zz (fun _ h_ => ac (Does.copyO (e := .int) (xs := l) (lo := (m).toNat) (n := l.length - (m).toNat) (ys := (l.take (0 + ((m).toNat))).drop 0) (Evl.subS (h_.v rfl) (h_.en 1 rfl)) (h_.en 1 rfl) (by omega) (Evl.repSub (e := .int) (h_.v rfl) (h_.en 1 rfl) (by omega)) rfl rfl und_95 mki_3 rfl) rfl) ?_
     iterate 2 refine z_ ?_
     exact zN
     refine lend ⟨(m + ((min ((l.take (0 + ((m).toNat))).drop 0).length (l.length - (m).toNat) : Nat) : Int)), (cpy l ((m).toNat) (l.length - (m).toNat) ((l.take (0 + ((m).toNat))).drop 0)), rfl, (by simp only [List.length_drop, List.length_take, hL]; omega), (rep_round hm.1 hm.2.1 hl hL), (by rw [cpy_len (by omega)]; exact hL), rfl⟩ (by simp only [List.length_drop, List.length_take, hL]; omega) ?_
     exact Wk.of [] rfl ⟨rfl, rfl, rfl, trivial⟩ ⟨(entE (by first | rfl | simp)), trivial⟩ rfl rfl
   · exact absurd (hb5.symm.trans (show (decide ((9223372036854775807 : Int) < n)) = false from hbig)) (by decide)
  · exact absurd (hb4.symm.trans (show (decide ((0 : Int) < (0 : Int))) = false from (by decide))) (by decide)
 · exact absurd (hb2.symm.trans (show (decide (n < 0)) = false from hneg)) (by decide)

end Go.Proofs.YtjaadeknhofhpaaGreat
