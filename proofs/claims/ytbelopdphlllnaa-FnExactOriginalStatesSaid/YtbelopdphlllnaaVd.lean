/- Walks over abstract states: the arcs that leave a state; the place of a name. -/
import Derived.Test.YtbelopdphlllnaaVc
import Derived.Test.YtbelopdphlllnaaWf
set_option linter.unusedSimpArgs false
set_option linter.unusedVariables false
namespace Go.Proofs.Ytbelopdphlllnaa
open Go.RowKit

/-- Inside a deletion: i are kept of the first j. -/
def DelI {α : Type _} (p : α → Bool) (l0 l : List α) (i j : Int) : Prop := (0 ≤ i ∧ i < j ∧ j ≤ (l.length : Int)) ∧ l.length = l0.length ∧ l.take i.toNat = (l0.take j.toNat).filter p ∧ l.drop j.toNat = l0.drop j.toNat
section
variable {α : Type _} {p f : α → Bool} {l0 l : List α} {i j : Int} {x : α}
theorem idxF_cases (f : α → Bool) (l : List α) : (idxF f l = -1 ∧ ∀ x ∈ l, f x = false) ∨ ∃ (k : Nat) (x : α), idxF f l = (k : Int) ∧ l[k]? = some x ∧ f x = true ∧ NoneTo f l k := by
  unfold idxF
  cases h : l.findIdx? f with
  | none => exact .inl ⟨rfl, fun x hx => by simpa using List.findIdx?_eq_none_iff.1 h x hx⟩
  | some k =>
    obtain ⟨h1, h2, h3⟩ := List.findIdx?_eq_some_iff_getElem.1 h
    exact .inr ⟨k, l[k], rfl, List.getElem?_eq_getElem h1, h2, fun j hj y hy => by
      obtain ⟨h4, h5⟩ := List.getElem?_eq_some_iff.1 hy
      have := h3 j hj
      rw [h5] at this
      simpa using this⟩
theorem idxF_rng (f : α → Bool) (l : List α) : -1 ≤ idxF f l ∧ idxF f l < (l.length : Int) := by
  rcases idxF_cases f l with ⟨h, _⟩ | ⟨k, x, h, h2, _⟩
  · omega
  · have := (List.getElem?_eq_some_iff.1 h2).1
    omega
theorem filter_none (h : idxF f l = -1) : l = l.filter fun x => !f x := by
  rcases idxF_cases f l with ⟨_, h2⟩ | ⟨k, _, h2, _⟩
  · exact (List.filter_eq_self.2 fun x hx => by rw [h2 x hx]; rfl).symm
  · omega
theorem DelI.start (h : ¬ idxF f l = -1) : DelI (fun x => !f x) l l (idxF f l) (idxF f l + 1) := by
  rcases idxF_cases f l with ⟨h2, _⟩ | ⟨k, x, h2, h3, h4, h5⟩
  · exact absurd h2 h
  · have hk := (List.getElem?_eq_some_iff.1 h3).1
    rw [h2]
    refine ⟨by omega, rfl, ?_, rfl⟩
    rw [show ((k : Int) + 1).toNat = k + 1 by omega, show ((k : Int)).toNat = k by omega, take_snoc h3, List.filter_append]
    have : ([x].filter fun x => !f x) = [] := by simp [h4]
    rw [this, List.append_nil]
    refine (List.filter_eq_self.2 fun y hy => ?_).symm
    obtain ⟨n, hn⟩ := List.mem_iff_getElem?.1 hy
    have hn2 := (List.getElem?_eq_some_iff.1 hn).1
    rw [List.length_take] at hn2
    rw [List.getElem?_take_of_lt (by omega)] at hn
    rw [h5 n (by omega) y hn]; rfl
theorem DelI.at_ (h : DelI p l0 l i j) (hx : l[j.toNat]? = some x) : l0[j.toNat]? = some x := by
  obtain ⟨h1, h2, h3, h4⟩ := h
  have := congrArg (fun l : List α => l[0]?) h4
  simpa [hx] using this.symm
theorem DelI.lt (h : DelI p l0 l i j) (hx : l[j.toNat]? = some x) : j < (l.length : Int) := by
  have := (List.getElem?_eq_some_iff.1 hx).1
  obtain ⟨h1, _⟩ := h
  omega
theorem DelI.drop_ (h : DelI p l0 l i j) (hx : l[j.toNat]? = some x) (hp : p x = false) : DelI p l0 l i (j + 1) := by
  have h0 := h.at_ hx
  have hl := h.lt hx
  obtain ⟨h1, h2, h3, h4⟩ := h
  refine ⟨by omega, h2, ?_, ?_⟩
  · rw [show (j + 1).toNat = j.toNat + 1 by omega, take_snoc h0, List.filter_append, h3]; simp [hp]
  · have := congrArg (List.drop 1) h4
    rw [List.drop_drop, List.drop_drop] at this
    rw [show (j + 1).toNat = j.toNat + 1 by omega]
    exact this
theorem DelI.keep (h : DelI p l0 l i j) (hx : l[j.toNat]? = some x) (hp : p x = true) : DelI p l0 (l.set i.toNat x) (i + 1) (j + 1) := by
  have h0 := h.at_ hx
  have hl := h.lt hx
  obtain ⟨h1, h2, h3, h4⟩ := h
  refine ⟨by rw [List.length_set]; omega, by rw [List.length_set]; exact h2, ?_, ?_⟩
  · have hg : (l.set i.toNat x)[i.toNat]? = some x := List.getElem?_set_self (by omega)
    rw [show (j + 1).toNat = j.toNat + 1 by omega, show (i + 1).toNat = i.toNat + 1 by omega, take_snoc hg, take_snoc h0, List.filter_append, List.take_set_of_le (Nat.le_refl _), h3]
    simp [hp]
  · have := congrArg (List.drop 1) h4
    rw [List.drop_drop, List.drop_drop] at this
    rw [show (j + 1).toNat = j.toNat + 1 by omega, List.drop_set_of_lt (by omega)]
    exact this
theorem DelI.end_ {z : List α} (h : DelI p l0 l i j) (hj : ¬ j < (l.length : Int)) (n : Nat) (hn : n = i.toNat) : (l.take i.toNat ++ z).take n = l0.filter p := by
  obtain ⟨h1, h2, h3, h4⟩ := h
  subst hn
  rw [List.take_left' (by rw [List.length_take]; omega), h3, List.take_of_length_le (by omega)]
end
theorem from_not {l : List DAr} {q : Int} : (l.filter fun x => !(!decide (x.1 = q))) = fromA l q := by
  unfold fromA
  congr 1
  funext x
  rw [Bool.not_not]

set_option maxRecDepth 100000 in
set_option maxHeartbeats 4000000 in
theorem fc_impl_arcsFrom_1 (a : Int × Int × Bool × Int) (q : Int)  : FC Try.prog 223 [(true, [dI a.1, dI a.2.1, dB a.2.2.1, dI a.2.2.2]), (false, [.ptr 0 0])] [(0, some (.box 3 [dI q]))] 1 (Is (lf (dB (!decide (a.1 = q)))) [(0, some (.box 3 [dI q]))]) := by
 refine FC.O_all fun O_ hO => FC.ren (FC.of Try.func223 rfl rfl fun A_ hn_ hk_ => ?_)
 obtain ⟨w0_, N0_, X_, n_, k0_, h0_, f0_⟩ := A_
 obtain rfl : n_ = 8 := hn_.trans Try.ntmps223
 obtain rfl : k0_ = 1 := hk_
 refine AC.fact (fact_ag (x := .tmp 0) (i := 0) (Ev.tmp rfl) rfl) fun hi1 => ?_
 refine AC.fact (fact_ag (x := .tmp 0) (i := 1) (Ev.tmp rfl) rfl) fun hi2 => ?_
 refine AC.fact (fact_ag (x := .tmp 0) (i := 3) (Ev.tmp rfl) rfl) fun hi3 => ?_
 refine AC.sr ?_
 refine AL.cons rfl (Does.box 1 (Ev.tmp rfl) rfl rfl (Fresh.of rfl) (nlr rfl)) ?_
 refine AL.cons rfl (Does.assignC Evl.bool rfl) ?_
 refine AL.nilS ?_
 refine AC.sr ?_
 refine AL.cons rfl (Does.fieldP (Evl.tmp rfl) fld_170_0 rfl rfl) ?_
 refine AL.cons rfl (Does.loadP (Evl.tmp rfl) rfl tsh_3 rfl rfl) ?_
 refine AL.cons rfl (Does.loadP (Evl.tmp rfl) rfl tsh_3 rfl rfl) ?_
 refine AL.fact (fact_int (x := .tmp 6) (Evl.tmp rfl)) fun hi4 => ?_
 refine AL.cons rfl (Does.neq (Evl.tmp rfl) (Evl.tmp rfl) rfl) ?_
 refine AL.cons rfl (Does.assign rfl rfl) ?_
 refine AL.nilS ?_
 refine AC.ret ?_
 subst hO
 exact fin_is _ _ [(0, 0)] (Res.one rfl (Rs.tmp rfl)) (rfl) ⟨rfl, trivial⟩ rfl rfl

set_option maxRecDepth 100000 in
set_option maxHeartbeats 4000000 in
theorem fc_IndexFunc_Arc_from (l : List (Int × Int × Bool × Int)) (q : Int) (hl : l.length ≤ 1000000) : FC Try.prog 238 [(false, [.ref 1]), (false, [.clo 223 [0]])] [(0, some (.box 3 [dI q])), (1, some (.arr 170 (.pr .int (.pr .int (.pr .bool .int))) l))] 2 (Is (lf (dI (idxF (fun a : DAr => !decide (a.1 = q)) l))) [(0, some (.box 3 [dI q])), (1, some (.arr 170 (.pr .int (.pr .int (.pr .bool .int))) l))]) := by
 refine FC.O_all fun O_ hO => FC.ren (FC.of Try.func238 rfl rfl fun A_ hn_ hk_ => ?_)
 obtain ⟨w0_, N0_, X_, n_, k0_, h0_, f0_⟩ := A_
 obtain rfl : n_ = 19 := hn_.trans Try.ntmps238
 obtain rfl : k0_ = 2 := hk_
 refine AC.sr ?_
 refine AL.cons rfl (Does.assignC (Evl.int rfl) rfl) ?_
 refine AL.nilS ?_
 refine AC.seq ?_
 refine AC.sr ?_
 refine AL.cons rfl (Does.move rfl rfl) ?_
 refine AL.cons rfl (Does.lenO (Evl.tmp rfl) rfl rfl und_75) ?_
 refine AL.cons rfl (Does.moveC (Evl.int rfl) rfl) ?_
 refine AL.nilS ?_
 refine AC.block ?_
 refine AC.loopW (fun m_ s_ => ∃ (k : Nat), k ≤ l.length ∧ m_ = l.length - k ∧ (NoneTo (fun a : DAr => !decide (a.1 = q)) l k) ∧ s_ = ⟨[(0, lf (.ref 1)), (1, lf (.clo 223 [0])), (7, lf (dI (l.length : Int))), (8, lf (dI (k : Int)))], [(0, some (.box 3 [dI q])), (1, some (.arr 170 (.pr .int (.pr .int (.pr .bool .int))) l))]⟩) ⟨0, Nat.zero_le _, rfl, NoneTo.zero, rfl⟩ ?_ ?_
 · exact Wk.of [(0, 0), (1, 1)] rfl ⟨rfl, rfl, rfl, rfl, trivial⟩ ⟨rfl, rfl, trivial⟩ rfl rfl
 rintro m_ s_ ⟨k, hk1, hm2, hno, rfl⟩
 refine AC.sr ?_
 refine AL.cons rfl (Does.lss (Evl.tmp rfl) (Evl.tmp rfl) rfl) ?_
 refine AL.nilS ?_
 refine AC.seq ?_
 cases hb3 : (decide ((k : Int) < (l.length : Int)))
 ·have _h := hb3
  have hb3' : ¬ ((k : Int) < (l.length : Int)) := of_decide_eq_false hb3
  refine AC.condF (Evl.tmp rfl) ?_
  refine AC.exit ?_
  refine (?_ : AC _ _ _ _ _)
  refine AC.sr ?_
  refine AL.cons rfl (Does.assignC (Evl.int rfl) rfl) ?_
  refine AL.nilS ?_
  refine AC.ret ?_
  subst hO
  have e4 : ((-1) : Int) = (idxF (fun a : DAr => !decide (a.1 = q)) l) := by
   first | exact (hno.no (by omega)).symm
  exact fin_is _ _ [(0, 0), (1, 1)] (Res.one rfl (Rs.tmp rfl)) ((congrArg (fun z_ => lf (dI z_)) e4)) ⟨rfl, rfl, trivial⟩ rfl rfl
 ·have _h := hb3
  have hb3' : ((k : Int) < (l.length : Int)) := of_decide_eq_true hb3
  refine AC.condT (Evl.tmp rfl) ?_
  refine AC.skipS ?_
  refine AC.seq ?_
  refine AC.block ?_
  refine AC.sr ?_
  refine AL.cons rfl (Does.move rfl rfl) ?_
  refine AL.cons rfl (Does.assign rfl rfl) ?_
  refine AL.nilS ?_
  refine AC.sr ?_
  refine AL.cons rfl (Does.move rfl rfl) ?_
  refine AL.cons rfl (Does.move rfl rfl) ?_
  refine AL.cons rfl (Does.move rfl rfl) ?_
  refine AL.cons rfl (Does.indexI (e := (.pr .int (.pr .int (.pr .bool .int)))) (Evl.tmp rfl) rfl (Evl.tmp rfl) und_75 tsh_170 rfl (by omega) (by first | omega | (simp only [List.length_set]; omega))) ?_
  obtain ⟨x5, hx6⟩ : ∃ z, l[k]? = some z := ⟨_, List.getElem?_eq_getElem (by omega)⟩
  refine AL.cons rfl (Does.loadIA (e := (.pr .int (.pr .int (.pr .bool .int)))) (Evl.tmp rfl) rfl hx6 rfl tsh_170 rfl rfl) ?_
  refine AL.cons rfl (Does.callF (args0 := [(true, [dI x5.1, dI x5.2.1, dB x5.2.2.1, dI x5.2.2.2])]) (caps := [0]) 2 [(0, 0)] (fc_impl_arcsFrom_1 x5 q) enters_223 rfl (Evl.tmp rfl) rfl rfl ⟨_, _, rfl, (Ev.tmp rfl), rfl⟩ ⟨rfl, trivial⟩ rfl ⟨trivial, trivial⟩ (nlr rfl)) ?_
  refine AL.nilS ?_
  cases hb7 : (!decide (x5.1 = q))
  ·have _h := hb7
   have hb7' : (x5.1 = q) := nd_false hb7
   refine AC.condF (Evl.tmp rfl) ?_
   refine AC.skip ?_
   refine (?_ : AC _ _ _ _ _)
   refine AC.region ?_
   refine AL.cons rfl (Does.add (Evl.tmp rfl) (Evl.int rfl) rfl (by omega)) ?_
   refine AL.cons rfl (Does.move rfl rfl) ?_
   refine AL.nil ?_
   refine lend ⟨k + 1, by omega, rfl, hno.step hx6 (by simp [*]), rfl⟩ (by omega) ?_
   exact Wk.of [(0, 0), (1, 1)] rfl ⟨rfl, rfl, rfl, rfl, trivial⟩ ⟨rfl, rfl, trivial⟩ rfl rfl
  ·have _h := hb7
   have hb7' : ¬ (x5.1 = q) := nd_true hb7
   refine AC.condT (Evl.tmp rfl) ?_
   refine AC.sr ?_
   refine AL.cons rfl (Does.move rfl rfl) ?_
   refine AL.cons rfl (Does.assign rfl rfl) ?_
   refine AL.nilS ?_
   refine AC.ret ?_
   subst hO
   have e8 : ((k : Int) : Int) = (idxF (fun a : DAr => !decide (a.1 = q)) l) := by
    exact (hno.at hx6 (by simp [*])).symm
   exact fin_is _ _ [(0, 0), (1, 1)] (Res.one rfl (Rs.tmp rfl)) ((congrArg (fun z_ => lf (dI z_)) e8)) ⟨rfl, rfl, trivial⟩ rfl rfl

set_option maxRecDepth 100000 in
set_option maxHeartbeats 4000000 in
theorem fc_DeleteFunc_Arc (l : List (Int × Int × Bool × Int)) (q : Int) (hl : l.length ≤ 1000000) : FC Try.prog 221 [(false, [.ref 1]), (false, [.clo 223 [0]])] [(0, some (.box 3 [dI q])), (1, some (.arr 170 (.pr .int (.pr .int (.pr .bool .int))) l))] 1 (Is (lf (.ref 2)) [(0, some (.box 3 [dI q])), (2, some (.arr 170 (.pr .int (.pr .int (.pr .bool .int))) (fromA l q)))]) := by
 have hix := idxF_rng (fun a : DAr => !decide (a.1 = q)) l
 refine FC.O_all fun O_ hO => FC.ren (FC.of Try.func221 rfl rfl fun A_ hn_ hk_ => ?_)
 obtain ⟨w0_, N0_, X_, n_, k0_, h0_, f0_⟩ := A_
 obtain rfl : n_ = 42 := hn_.trans Try.ntmps221
 obtain rfl : k0_ = 1 := hk_
 refine AC.sr ?_
 refine AL.cons rfl (Does.assignC Evl.val rfl) ?_
 refine AL.nilS ?_
 refine AC.sr ?_
 refine AL.cons rfl (Does.move rfl rfl) ?_
 refine AL.cons rfl (Does.move rfl rfl) ?_
 refine AL.cons rfl (Does.callP 2 [(0, 0), (1, 1)] (fc_IndexFunc_Arc_from l q hl) enters_238 ⟨_, _, rfl, (Ev.tmp rfl), ⟨_, _, rfl, (Ev.tmp rfl), rfl⟩⟩ ⟨rfl, rfl, trivial⟩ rfl ⟨trivial, trivial, trivial⟩ (nlr rfl)) ?_
 refine AL.cons rfl (Does.assign rfl rfl) ?_
 refine AL.nilS ?_
 refine AC.seq ?_
 refine AC.sr ?_
 refine AL.cons rfl (Does.move rfl rfl) ?_
 refine AL.cons rfl (Does.eql (Evl.tmp rfl) (Evl.int rfl) rfl) ?_
 refine AL.nilS ?_
 cases hb1 : (decide ((idxF (fun a : DAr => !decide (a.1 = q)) l) = (-1)))
 ·have _h := hb1
  have hb1' : ¬ ((idxF (fun a : DAr => !decide (a.1 = q)) l) = (-1)) := of_decide_eq_false hb1
  refine AC.condF (Evl.tmp rfl) ?_
  refine AC.skipS ?_
  refine AC.seq ?_
  refine AC.sr ?_
  refine AL.cons rfl (Does.move rfl rfl) ?_
  refine AL.cons rfl (Does.add (Evl.tmp rfl) (Evl.int rfl) rfl (by omega)) ?_
  refine AL.cons rfl (Does.assign rfl rfl) ?_
  refine AL.nilS ?_
  refine AC.block ?_
  refine AC.loopW (fun m_ s_ => ∃  (i : Int) (j : Int) (l2 : List (Int × Int × Bool × Int)), m_ = ((l2.length : Int) - j).toNat ∧ (DelI (fun x : DAr => !(!decide (x.1 = q))) l l2 i j) ∧ s_ = ⟨[(0, lf (.ref 4)), (1, lf (.clo 223 [0])), (4, lf (.val (.slice none 0 0))), (5, lf (dI i)), (6, lf (dI j))], [(0, some (.box 3 [dI q])), (4, some (.arr 170 (.pr .int (.pr .int (.pr .bool .int))) l2))]⟩) ⟨idxF (fun a : DAr => !decide (a.1 = q)) l, (idxF (fun a : DAr => !decide (a.1 = q)) l) + 1, l, rfl, (DelI.start (by assumption)), rfl⟩ ?_ ?_
  · exact Wk.of [(0, 0), (4, 1)] rfl ⟨rfl, rfl, rfl, rfl, rfl, trivial⟩ ⟨rfl, rfl, trivial⟩ rfl rfl
  rintro m_ s_ ⟨i, j, l2, hm3, hD, rfl⟩
  have hDb := hD.1
  have hDl := hD.2.1
  refine AC.seq ?_
  refine AC.sr ?_
  refine AL.cons rfl (Does.move rfl rfl) ?_
  refine AL.cons rfl (Does.move rfl rfl) ?_
  refine AL.cons rfl (Does.lenO (Evl.tmp rfl) rfl rfl und_75) ?_
  refine AL.cons rfl (Does.lss (Evl.tmp rfl) (Evl.tmp rfl) rfl) ?_
  refine AL.nilS ?_
  cases hb4 : (decide (j < (l2.length : Int)))
  ·have _h := hb4
   have hb4' : ¬ (j < (l2.length : Int)) := of_decide_eq_false hb4
   refine AC.condF (Evl.tmp rfl) ?_
   refine AC.exit ?_
   refine (?_ : AC _ _ _ _ _)
   refine AC.sr ?_
   refine AL.cons rfl (Does.move rfl rfl) ?_
   refine AL.cons rfl (Does.move rfl rfl) ?_
   refine AL.cons rfl (Does.sliceO (e := (.pr .int (.pr .int (.pr .bool .int)))) (a := (i).toNat) (b := l2.length - (i).toNat) (l := (some i)) (h := none) (Evl.tmp rfl) rfl (by exact (Evl.tmp rfl)) (by exact trivial) und_75 tsh_170 rfl (by first | (simp only [Option.getD_none, Option.getD_some]; omega) | omega | (simp only [Option.getD_none, Option.getD_some, List.length_append, List.length_take, List.length_replicate]; omega)) (by first | (simp only [Option.getD_none, Option.getD_some]; omega) | omega | (simp only [Option.getD_none, Option.getD_some, List.length_append, List.length_take, List.length_replicate]; omega)) (by first | (simp only [Option.getD_none, Option.getD_some]; omega) | omega | (simp only [Option.getD_none, Option.getD_some, List.length_append, List.length_take, List.length_replicate]; omega)) (by first | rfl | simp) (by first | rfl | simp)) ?_
   refine AL.cons rfl (Does.clearO (e := (.pr .int (.pr .int (.pr .bool .int)))) (Evl.tmp rfl) rfl (by omega) und_75 zer_170 rfl rfl rfl) ?_
   refine AL.nilS ?_
   refine AC.sr ?_
   refine AL.cons rfl (Does.move rfl rfl) ?_
   refine AL.cons rfl (Does.move rfl rfl) ?_
   refine AL.cons rfl (Does.sliceO (e := (.pr .int (.pr .int (.pr .bool .int)))) (a := 0) (b := (i).toNat) (l := none) (h := (some i)) (Evl.tmp rfl) rfl (by exact trivial) (by exact (Evl.tmp rfl)) und_75 tsh_170 rfl (by first | (simp only [Option.getD_none, Option.getD_some]; omega) | omega | (simp only [Option.getD_none, Option.getD_some, List.length_append, List.length_take, List.length_replicate]; omega)) (by first | (simp only [Option.getD_none, Option.getD_some]; omega) | omega | (simp only [Option.getD_none, Option.getD_some, List.length_append, List.length_take, List.length_replicate]; omega)) (by first | (simp only [Option.getD_none, Option.getD_some]; omega) | omega | (simp only [Option.getD_none, Option.getD_some, List.length_append, List.length_take, List.length_replicate]; omega)) (by first | rfl | simp) (by first | rfl | simp)) ?_
   refine AL.cons rfl (Does.assign rfl rfl) ?_
   refine AL.nilS ?_
   refine AC.wk (Wk.shorten 5 4 (e := (.pr .int (.pr .int (.pr .bool .int)))) (xs := l2.take ((i).toNat) ++ List.replicate (l2.length - (i).toNat) (Ty.zero (.pr .int (.pr .int (.pr .bool .int))))) rfl rfl (by first | omega | (simp only [List.length_append, List.length_take, List.length_replicate]; omega)) rfl (Fresh.of rfl) (nlr rfl)) ?_
   refine AC.ret ?_
   subst hO
   exact fin_is _ _ [(0, 0), (2, 5)] (Res.one rfl (Rs.tmp rfl)) (rfl) ⟨rfl, (entE (by exact (hD.end_ (by assumption) _ (by omega)).trans from_not)), trivial⟩ rfl rfl
  ·have _h := hb4
   have hb4' : (j < (l2.length : Int)) := of_decide_eq_true hb4
   refine AC.condT (Evl.tmp rfl) ?_
   refine AC.skipS ?_
   refine AC.seq ?_
   refine AC.block ?_
   refine AC.sr ?_
   refine AL.cons rfl (Does.move rfl rfl) ?_
   refine AL.cons rfl (Does.move rfl rfl) ?_
   refine AL.cons rfl (Does.indexI (e := (.pr .int (.pr .int (.pr .bool .int)))) (Evl.tmp rfl) rfl (Evl.tmp rfl) und_75 tsh_170 rfl (by omega) (by first | omega | (simp only [List.length_set]; omega))) ?_
   obtain ⟨xj, hx6⟩ : ∃ z, l2[(j).toNat]? = some z := ⟨_, List.getElem?_eq_getElem (by omega)⟩
   refine AL.cons rfl (Does.loadIA (e := (.pr .int (.pr .int (.pr .bool .int)))) (Evl.tmp rfl) rfl hx6 rfl tsh_170 rfl rfl) ?_
   refine AL.cons rfl (Does.alloc 6 (.pr .int (.pr .int (.pr .bool .int))) zer_170 rfl rfl (Fresh.of rfl) (nlr rfl)) ?_
   refine AL.cons rfl (Does.storeP (Evl.tmp rfl) rfl (Ev.tmp rfl) rfl tsh_170 rfl) ?_
   refine AL.nilS ?_
   refine AC.sr ?_
   refine AL.cons rfl (Does.move rfl rfl) ?_
   refine AL.cons rfl (Does.loadPA (Evl.tmp rfl) rfl tsh_170 rfl rfl) ?_
   refine AL.cons rfl (Does.callF (args0 := [(true, [dI xj.1, dI xj.2.1, dB xj.2.2.1, dI xj.2.2.2])]) (caps := [0]) 7 [(0, 0)] (fc_impl_arcsFrom_1 xj q) enters_223 rfl (Evl.tmp rfl) rfl rfl ⟨_, _, rfl, (Ev.tmp rfl), rfl⟩ ⟨rfl, trivial⟩ rfl ⟨trivial, trivial⟩ (nlr rfl)) ?_
   refine AL.cons rfl (Does.not (Evl.tmp rfl) rfl) ?_
   refine AL.nilS ?_
   cases hb7 : (!decide (xj.1 = q))
   ·have _h := hb7
    have hb7' : (xj.1 = q) := nd_false hb7
    refine AC.condT (Evl.tmp rfl) ?_
    refine AC.sr ?_
    refine AL.cons rfl (Does.move rfl rfl) ?_
    refine AL.cons rfl (Does.move rfl rfl) ?_
    refine AL.cons rfl (Does.loadPA (Evl.tmp rfl) rfl tsh_170 rfl rfl) ?_
    refine AL.cons rfl (Does.indexI (e := (.pr .int (.pr .int (.pr .bool .int)))) (Evl.tmp rfl) rfl (Evl.tmp rfl) und_75 tsh_170 rfl (by omega) (by first | omega | (simp only [List.length_set]; omega))) ?_
    obtain ⟨x8, hx9⟩ : ∃ z, l2[(i).toNat]? = some z := ⟨_, List.getElem?_eq_getElem (by omega)⟩
    refine AL.cons rfl (Does.storeI (e := (.pr .int (.pr .int (.pr .bool .int)))) (z' := xj) (Evl.tmp rfl) rfl hx9 rfl (Ev.tmp rfl) rfl tsh_170 rfl rfl) ?_
    refine AL.nilS ?_
    refine AC.region ?_
    refine AL.cons rfl (Does.move rfl rfl) ?_
    refine AL.cons rfl (Does.add (Evl.tmp rfl) (Evl.int rfl) rfl (by omega)) ?_
    refine AL.cons rfl (Does.assign rfl rfl) ?_
    refine AL.nil ?_
    refine (?_ : AC _ _ _ _ _)
    refine AC.region ?_
    refine AL.cons rfl (Does.move rfl rfl) ?_
    refine AL.cons rfl (Does.add (Evl.tmp rfl) (Evl.int rfl) rfl (by omega)) ?_
    refine AL.cons rfl (Does.assign rfl rfl) ?_
    refine AL.nil ?_
    refine lend ⟨(i + 1), (j + 1), (l2.set ((i).toNat) xj), rfl, (by exact hD.keep (x := xj) (by assumption) (by simp [*])), rfl⟩ (by first | omega | (simp only [List.length_set]; omega)) ?_
    exact Wk.of [(0, 0), (4, 4)] rfl ⟨rfl, rfl, rfl, rfl, rfl, trivial⟩ ⟨rfl, (entE (by first | rfl | simp)), trivial⟩ rfl rfl
   ·have _h := hb7
    have hb7' : ¬ (xj.1 = q) := nd_true hb7
    refine AC.condF (Evl.tmp rfl) ?_
    refine AC.skip ?_
    refine (?_ : AC _ _ _ _ _)
    refine AC.region ?_
    refine AL.cons rfl (Does.move rfl rfl) ?_
    refine AL.cons rfl (Does.add (Evl.tmp rfl) (Evl.int rfl) rfl (by omega)) ?_
    refine AL.cons rfl (Does.assign rfl rfl) ?_
    refine AL.nil ?_
    refine lend ⟨i, (j + 1), l2, rfl, (by exact hD.drop_ (x := xj) (by assumption) (by simp [*])), rfl⟩ (by first | omega | (simp only [List.length_set]; omega)) ?_
    exact Wk.of [(0, 0), (4, 4)] rfl ⟨rfl, rfl, rfl, rfl, rfl, trivial⟩ ⟨rfl, rfl, trivial⟩ rfl rfl
 ·have _h := hb1
  have hb1' : ((idxF (fun a : DAr => !decide (a.1 = q)) l) = (-1)) := of_decide_eq_true hb1
  refine AC.condT (Evl.tmp rfl) ?_
  refine AC.sr ?_
  refine AL.cons rfl (Does.move rfl rfl) ?_
  refine AL.cons rfl (Does.assign rfl rfl) ?_
  refine AL.nilS ?_
  refine AC.ret ?_
  subst hO
  exact fin_is _ _ [(0, 0), (2, 1)] (Res.one rfl (Rs.tmp rfl)) (rfl) ⟨rfl, (entE (by exact (filter_none (by assumption)).trans from_not)), trivial⟩ rfl rfl

set_option maxRecDepth 100000 in
set_option maxHeartbeats 4000000 in
theorem fc_slices_Clone_impl_Arc_impl_Arc (s : List (Int × Int × Bool × Int)) (hl : s.length ≤ 1000000) : FC Try.prog 222 [(false, [.dat (.sl 170 (.pr .int (.pr .int (.pr .bool .int)))) s])] [] 0 (Own1 170 (.pr .int (.pr .int (.pr .bool .int))) s) := by
 refine FC.O_all fun O_ hO => FC.ren (FC.of Try.func222 rfl rfl fun A_ hn_ hk_ => ?_)
 obtain ⟨w0_, N0_, X_, n_, k0_, h0_, f0_⟩ := A_
 obtain rfl : n_ = 8 := hn_.trans Try.ntmps222
 obtain rfl : k0_ = 0 := hk_
 refine AC.sr ?_
 refine AL.cons rfl (Does.assignC Evl.val rfl) ?_
 refine AL.nilS ?_
 refine AC.seq ?_
 refine AC.sr ?_
 refine AL.cons rfl (Does.move rfl rfl) ?_
 refine AL.eqNil (Evl.tmp rfl) Evl.val und_75 rfl fun b1 hnil => ?_
 refine AL.nilS ?_
 cases hb2 : (b1)
 ·have _h := hb2
  refine AC.condF (Evl.tmp rfl) ?_
  refine AC.skipS ?_
  refine AC.sr ?_
  refine AL.cons rfl (Does.buildSlice 0 (e := (.pr .int (.pr .int (.pr .bool .int)))) und_75 tsh_170 zer_170 rfl rfl (List.all_eq_true.1 rfl) ⟨rfl, rfl⟩ (by decide) rfl rfl (Fresh.of rfl) (nlr rfl)) ?_
  refine AL.cons rfl (Does.move rfl rfl) ?_
  refine AL.cons rfl (Does.appendF 1 (Evl.tmp rfl) rfl (Evl.rep (Evl.tmp rfl)) rfl und_75 elb_170 (by first | omega | (simp only [List.length_append, List.length_map, List.length_take, List.length_cons, List.length_nil]; omega)) rfl (Fresh.of rfl) (nlr rfl)) ?_
  refine AL.cons rfl (Does.assign rfl rfl) ?_
  refine AL.nilS ?_
  refine AC.ret ?_
  subst hO
  refine fin_own (e := (.pr .int (.pr .int (.pr .bool .int)))) (xs := (([]) ++ s)) (Res.one rfl (Rs.tmp rfl)) rfl ?_
  rfl
 ·have _h := hb2
  refine AC.condT (Evl.tmp rfl) ?_
  refine AC.sr ?_
  refine AL.cons rfl (Does.assignC Evl.val rfl) ?_
  refine AL.nilS ?_
  refine AC.wk (Wk.nilS 2 2 170 (.pr .int (.pr .int (.pr .bool .int))) rfl (Fresh.of rfl) (nlr rfl)) ?_
  refine AC.ret ?_
  subst hO
  refine fin_own (e := (.pr .int (.pr .int (.pr .bool .int)))) (xs := ([])) (Res.one rfl (Rs.tmp rfl)) rfl ?_
  exact (hnil (by assumption)).symm

set_option maxRecDepth 100000 in
set_option maxHeartbeats 4000000 in
theorem fc_impl_arcsFrom (c : (List (ByteArray × Int)) × List ByteArray × (List (Int × Int × Bool × Int))) (q : Int) (hl : c.2.2.length ≤ 1000000) : FC Try.prog 177 [(true, [.dat (.sl 129 (.pr .str .int)) c.1, .dat (.sl 9 .str) c.2.1, .dat (.sl 170 (.pr .int (.pr .int (.pr .bool .int)))) c.2.2]), (false, [dI q])] [] 0 (Own1 170 (.pr .int (.pr .int (.pr .bool .int))) (fromA c.2.2 q)) := by
 refine FC.O_all fun O_ hO => FC.ren (FC.of Try.func177 rfl rfl fun A_ hn_ hk_ => ?_)
 obtain ⟨w0_, N0_, X_, n_, k0_, h0_, f0_⟩ := A_
 obtain rfl : n_ = 10 := hn_.trans Try.ntmps177
 obtain rfl : k0_ = 0 := hk_
 refine AC.fact (fact_int (x := .tmp 1) (Evl.tmp rfl)) fun hi1 => ?_
 refine AC.sr ?_
 refine AL.cons rfl (Does.box 0 (Ev.tmp rfl) rfl rfl (Fresh.of rfl) (nlr rfl)) ?_
 refine AL.cons rfl (Does.box 1 (Ev.tmp rfl) rfl rfl (Fresh.of rfl) (nlr rfl)) ?_
 refine AL.cons rfl (Does.assignC Evl.val rfl) ?_
 refine AL.nilS ?_
 refine AC.sr ?_
 refine AL.cons rfl (Does.fieldP (Evl.tmp rfl) fld_77_2 rfl rfl) ?_
 refine AL.cons rfl (Does.loadP (Evl.tmp rfl) rfl tsh_75 rfl rfl) ?_
 refine AL.cons rfl (Does.callO 2 (fc_slices_Clone_impl_Arc_impl_Arc c.2.2 hl) enters_222 ⟨_, _, rfl, (Ev.tmp rfl), rfl⟩ rfl (Fresh.of rfl) (nlr rfl)) ?_
 refine AL.cons rfl (Does.makeFunc ⟨_, _, rfl, (Evl.tmp rfl), rfl, rfl⟩ rfl) ?_
 refine AL.cons rfl (Does.callP 3 [(0, 1), (1, 2)] (fc_DeleteFunc_Arc c.2.2 q hl) enters_221 ⟨_, _, rfl, (Ev.tmp rfl), ⟨_, _, rfl, (Ev.tmp rfl), rfl⟩⟩ ⟨rfl, rfl, trivial⟩ rfl ⟨trivial, (Fresh.of rfl), trivial⟩ (nlr rfl)) ?_
 refine AL.cons rfl (Does.assign rfl rfl) ?_
 refine AL.nilS ?_
 refine AC.ret ?_
 subst hO
 refine fin_own (e := (.pr .int (.pr .int (.pr .bool .int)))) (xs := (fromA c.2.2 q)) (Res.one rfl (Rs.tmp rfl)) rfl ?_
 rfl

set_option maxRecDepth 100000 in
set_option maxHeartbeats 4000000 in
theorem fc_spec_l5From (c : (List (ByteArray × Int)) × List ByteArray × (List (Int × Int × Bool × Int))) (q : Int) (hl : c.2.2.length ≤ 1000000) : FC Try.prog 213 [(true, [.dat (.sl 129 (.pr .str .int)) c.1, .dat (.sl 9 .str) c.2.1, .dat (.sl 170 (.pr .int (.pr .int (.pr .bool .int)))) c.2.2]), (false, [dI q])] [] 0 (Own1 170 (.pr .int (.pr .int (.pr .bool .int))) (fromA c.2.2 q)) := by
 refine FC.O_all fun O_ hO => FC.ren (FC.of Try.func213 rfl rfl fun A_ hn_ hk_ => ?_)
 obtain ⟨w0_, N0_, X_, n_, k0_, h0_, f0_⟩ := A_
 obtain rfl : n_ = 25 := hn_.trans Try.ntmps213
 obtain rfl : k0_ = 0 := hk_
 refine AC.fact (fact_int (x := .tmp 1) (Evl.tmp rfl)) fun hi1 => ?_
 refine AC.sr ?_
 refine AL.cons rfl (Does.box 0 (Ev.tmp rfl) rfl rfl (Fresh.of rfl) (nlr rfl)) ?_
 refine AL.cons rfl (Does.assignC Evl.val rfl) ?_
 refine AL.nilS ?_
 refine AC.sr ?_
 refine AL.cons rfl (Does.assignC Evl.val rfl) ?_
 refine AL.nilS ?_
 refine AC.seq ?_
 refine AC.sr ?_
 refine AL.cons rfl (Does.fieldP (Evl.tmp rfl) fld_77_2 rfl rfl) ?_
 refine AL.cons rfl (Does.loadP (Evl.tmp rfl) rfl tsh_75 rfl rfl) ?_
 refine AL.fact (fact_len (x := .tmp 9) (Evl.tmp rfl)) fun hl2 => ?_
 refine AL.cons rfl (Does.len (Evl.tmp rfl) rfl und_75) ?_
 refine AL.cons rfl (Does.moveC (Evl.int rfl) rfl) ?_
 refine AL.nilS ?_
 refine AC.block ?_
 refine AC.wk (Wk.nilS 1 5 170 (.pr .int (.pr .int (.pr .bool .int))) rfl (Fresh.of rfl) (nlr rfl)) ?_
 refine AC.loopW (fun m_ s_ => ∃ (k : Nat), k ≤ c.2.2.length ∧ m_ = c.2.2.length - k ∧ s_ = ⟨[(1, lf (dI q)), (4, lf (.val (.slice none 0 0))), (5, lf (.ref 2)), (9, lf (.dat (.sl 170 (.pr .int (.pr .int (.pr .bool .int)))) c.2.2)), (10, lf (dI (c.2.2.length : Int))), (11, lf (dI (k : Int)))], [(2, some (.arr 170 (.pr .int (.pr .int (.pr .bool .int))) (fromA (c.2.2.take k) q)))]⟩) ⟨0, Nat.zero_le _, rfl, rfl⟩ ?_ ?_
 · exact Wk.of [(2, 1)] rfl ⟨rfl, rfl, rfl, rfl, rfl, rfl, trivial⟩ ⟨(entE (by first | rfl | simp)), trivial⟩ rfl rfl
 rintro m_ s_ ⟨k, hk3, hm4, rfl⟩
 have hfl := from_len (l := c.2.2.take k) (q := q)
 have hft : (c.2.2.take k).length ≤ c.2.2.length := by simp only [List.length_take]; omega
 refine AC.sr ?_
 refine AL.cons rfl (Does.lss (Evl.tmp rfl) (Evl.tmp rfl) rfl) ?_
 refine AL.nilS ?_
 refine AC.seq ?_
 cases hb5 : (decide ((k : Int) < (c.2.2.length : Int)))
 ·have _h := hb5
  have hb5' : ¬ ((k : Int) < (c.2.2.length : Int)) := of_decide_eq_false hb5
  refine AC.condF (Evl.tmp rfl) ?_
  refine AC.exit ?_
  refine (?_ : AC _ _ _ _ _)
  refine AC.sr ?_
  refine AL.cons rfl (Does.move rfl rfl) ?_
  refine AL.cons rfl (Does.assign rfl rfl) ?_
  refine AL.nilS ?_
  refine AC.ret ?_
  subst hO
  refine fin_own (e := (.pr .int (.pr .int (.pr .bool .int)))) (xs := (fromA (c.2.2.take k) q)) (Res.one rfl (Rs.tmp rfl)) rfl ?_
  rw [take_end (by omega)]
 ·have _h := hb5
  have hb5' : ((k : Int) < (c.2.2.length : Int)) := of_decide_eq_true hb5
  refine AC.condT (Evl.tmp rfl) ?_
  refine AC.skipS ?_
  refine AC.seq ?_
  refine AC.block ?_
  refine AC.sr ?_
  obtain ⟨x6, hx7⟩ : ∃ z, c.2.2[k]? = some z := ⟨_, List.getElem?_eq_getElem (by omega)⟩
  refine AL.cons rfl (Does.indexE (Evl.tmp rfl) (Evl.tmp rfl) und_75 tsh_170 rfl (by omega) hx7) ?_
  refine AL.cons rfl (Does.loadEA (Evl.tmp rfl) tsh_170 rfl rfl) ?_
  refine AL.cons rfl (Does.alloc 3 (.pr .int (.pr .int (.pr .bool .int))) zer_170 rfl rfl (Fresh.of rfl) (nlr rfl)) ?_
  refine AL.cons rfl (Does.storeP (Evl.tmp rfl) rfl (Ev.tmp rfl) rfl tsh_170 rfl) ?_
  refine AL.nilS ?_
  refine AC.sr ?_
  refine AL.cons rfl (Does.fieldP (Evl.tmp rfl) fld_170_0 rfl rfl) ?_
  refine AL.cons rfl (Does.loadP (Evl.tmp rfl) rfl tsh_3 rfl rfl) ?_
  refine AL.fact (fact_int (x := .tmp 16) (Evl.tmp rfl)) fun hi8 => ?_
  refine AL.cons rfl (Does.move rfl rfl) ?_
  refine AL.cons rfl (Does.eql (Evl.tmp rfl) (Evl.tmp rfl) rfl) ?_
  refine AL.nilS ?_
  cases hb9 : (decide (x6.1 = q))
  ·have _h := hb9
   have hb9' : ¬ (x6.1 = q) := of_decide_eq_false hb9
   refine AC.condF (Evl.tmp rfl) ?_
   refine AC.skip ?_
   refine (?_ : AC _ _ _ _ _)
   refine AC.region ?_
   refine AL.cons rfl (Does.add (Evl.tmp rfl) (Evl.int rfl) rfl (by omega)) ?_
   refine AL.cons rfl (Does.move rfl rfl) ?_
   refine AL.nil ?_
   refine lend ⟨k + 1, by omega, rfl, rfl⟩ (by omega) ?_
   exact Wk.of [(2, 2)] rfl ⟨rfl, rfl, rfl, rfl, rfl, rfl, trivial⟩ ⟨(entE (by first | exact from_yes hx7 (by assumption) | exact from_no hx7 (by assumption))), trivial⟩ rfl rfl
  ·have _h := hb9
   have hb9' : (x6.1 = q) := of_decide_eq_true hb9
   refine AC.condT (Evl.tmp rfl) ?_
   refine AC.region ?_
   refine AL.cons rfl (Does.move rfl rfl) ?_
   refine AL.cons rfl (Does.loadPA (Evl.tmp rfl) rfl tsh_170 rfl rfl) ?_
   refine AL.cons rfl (Does.buildSlice 4 (e := (.pr .int (.pr .int (.pr .bool .int)))) und_75 tsh_170 zer_170 rfl ⟨_, _, rfl, (Ev.tmp rfl), rfl⟩ (List.all_eq_true.1 rfl) ⟨_, _, _, _, rfl, ⟨[dI x6.1], [dI x6.2.1, dB x6.2.2.1, dI x6.2.2.2], _, _, _, _, rfl, rfl, ⟨rfl, rfl⟩, ⟨[dI x6.2.1], [dB x6.2.2.1, dI x6.2.2.2], _, _, _, _, rfl, rfl, ⟨rfl, rfl⟩, ⟨[dB x6.2.2.1], [dI x6.2.2.2], _, _, _, _, rfl, rfl, ⟨rfl, rfl⟩, ⟨rfl, rfl⟩, rfl⟩, rfl⟩, rfl⟩, ⟨rfl, rfl⟩, rfl⟩ (by decide) rfl rfl (Fresh.of rfl) (nlr rfl)) ?_
   refine AL.cons rfl (Does.append 5 (Evl.tmp rfl) rfl (Evl.tmp rfl) rfl rfl und_75 elb_170 (by first | omega | (simp only [List.length_append, List.length_map, List.length_take, List.length_cons, List.length_nil]; omega)) rfl (Fresh.of rfl) (nlr rfl)) ?_
   refine AL.cons rfl (Does.assign rfl rfl) ?_
   refine AL.nil ?_
   refine (?_ : AC _ _ _ _ _)
   refine AC.region ?_
   refine AL.cons rfl (Does.add (Evl.tmp rfl) (Evl.int rfl) rfl (by omega)) ?_
   refine AL.cons rfl (Does.move rfl rfl) ?_
   refine AL.nil ?_
   refine lend ⟨k + 1, by omega, rfl, rfl⟩ (by omega) ?_
   exact Wk.of [(2, 5)] rfl ⟨rfl, rfl, rfl, rfl, rfl, rfl, trivial⟩ ⟨(entE (by first | exact from_yes hx7 (by assumption) | exact from_no hx7 (by assumption))), trivial⟩ rfl rfl

set_option maxRecDepth 100000 in
set_option maxHeartbeats 4000000 in
theorem fc_impl_signalOf_1 (x : ByteArray × Int) (name : ByteArray)  : FC Try.prog 175 [(true, [dS x.1, dI x.2]), (false, [.ptr 0 0])] [(0, some (.box 9 [dS name]))] 1 (Is (lf (dB (decide (x.1 = name)))) [(0, some (.box 9 [dS name]))]) := by
 refine FC.O_all fun O_ hO => FC.ren (FC.of Try.func175 rfl rfl fun A_ hn_ hk_ => ?_)
 obtain ⟨w0_, N0_, X_, n_, k0_, h0_, f0_⟩ := A_
 obtain rfl : n_ = 8 := hn_.trans Try.ntmps175
 obtain rfl : k0_ = 1 := hk_
 refine AC.fact (fact_ag (x := .tmp 0) (i := 1) (Ev.tmp rfl) rfl) fun hi1 => ?_
 refine AC.sr ?_
 refine AL.cons rfl (Does.box 1 (Ev.tmp rfl) rfl rfl (Fresh.of rfl) (nlr rfl)) ?_
 refine AL.cons rfl (Does.assignC Evl.bool rfl) ?_
 refine AL.nilS ?_
 refine AC.sr ?_
 refine AL.cons rfl (Does.fieldP (Evl.tmp rfl) fld_129_0 rfl rfl) ?_
 refine AL.cons rfl (Does.loadP (Evl.tmp rfl) rfl tsh_9 rfl rfl) ?_
 refine AL.cons rfl (Does.loadP (Evl.tmp rfl) rfl tsh_9 rfl rfl) ?_
 refine AL.cons rfl (Does.eqlS (Evl.tmp rfl) (Evl.tmp rfl) rfl) ?_
 refine AL.cons rfl (Does.assign rfl rfl) ?_
 refine AL.nilS ?_
 refine AC.ret ?_
 subst hO
 exact fin_is _ _ [(0, 0)] (Res.one rfl (Rs.tmp rfl)) (rfl) ⟨rfl, trivial⟩ rfl rfl

set_option maxRecDepth 100000 in
set_option maxHeartbeats 4000000 in
theorem fc_IndexFunc_Signal_of (l : List (ByteArray × Int)) (name : ByteArray)  : FC Try.prog 174 [(false, [.dat (.sl 129 (.pr .str .int)) l]), (false, [.clo 175 [0]])] [(0, some (.box 9 [dS name]))] 1 (Is (lf (dI (idxF (fun x : DSignal => decide (x.1 = name)) l))) [(0, some (.box 9 [dS name]))]) := by
 refine FC.O_all fun O_ hO => FC.ren (FC.of Try.func174 rfl rfl fun A_ hn_ hk_ => ?_)
 obtain ⟨w0_, N0_, X_, n_, k0_, h0_, f0_⟩ := A_
 obtain rfl : n_ = 19 := hn_.trans Try.ntmps174
 obtain rfl : k0_ = 1 := hk_
 refine AC.sr ?_
 refine AL.cons rfl (Does.assignC (Evl.int rfl) rfl) ?_
 refine AL.nilS ?_
 refine AC.seq ?_
 refine AC.sr ?_
 refine AL.cons rfl (Does.move rfl rfl) ?_
 refine AL.fact (fact_len (x := .tmp 6) (Evl.tmp rfl)) fun hl1 => ?_
 refine AL.cons rfl (Does.len (Evl.tmp rfl) rfl und_29) ?_
 refine AL.cons rfl (Does.moveC (Evl.int rfl) rfl) ?_
 refine AL.nilS ?_
 refine AC.block ?_
 refine AC.loopW (fun m_ s_ => ∃ (k : Nat), k ≤ l.length ∧ m_ = l.length - k ∧ (NoneTo (fun x : DSignal => decide (x.1 = name)) l k) ∧ s_ = ⟨[(0, lf (.dat (.sl 129 (.pr .str .int)) l)), (1, lf (.clo 175 [0])), (7, lf (dI (l.length : Int))), (8, lf (dI (k : Int)))], [(0, some (.box 9 [dS name]))]⟩) ⟨0, Nat.zero_le _, rfl, NoneTo.zero, rfl⟩ ?_ ?_
 · exact Wk.of [(0, 0)] rfl ⟨rfl, rfl, rfl, rfl, trivial⟩ ⟨rfl, trivial⟩ rfl rfl
 rintro m_ s_ ⟨k, hk2, hm3, hno, rfl⟩
 refine AC.sr ?_
 refine AL.cons rfl (Does.lss (Evl.tmp rfl) (Evl.tmp rfl) rfl) ?_
 refine AL.nilS ?_
 refine AC.seq ?_
 cases hb4 : (decide ((k : Int) < (l.length : Int)))
 ·have _h := hb4
  have hb4' : ¬ ((k : Int) < (l.length : Int)) := of_decide_eq_false hb4
  refine AC.condF (Evl.tmp rfl) ?_
  refine AC.exit ?_
  refine (?_ : AC _ _ _ _ _)
  refine AC.sr ?_
  refine AL.cons rfl (Does.assignC (Evl.int rfl) rfl) ?_
  refine AL.nilS ?_
  refine AC.ret ?_
  subst hO
  have e5 : ((-1) : Int) = (idxF (fun x : DSignal => decide (x.1 = name)) l) := by
   first | exact (hno.no (by omega)).symm
  exact fin_is _ _ [(0, 0)] (Res.one rfl (Rs.tmp rfl)) ((congrArg (fun z_ => lf (dI z_)) e5)) ⟨rfl, trivial⟩ rfl rfl
 ·have _h := hb4
  have hb4' : ((k : Int) < (l.length : Int)) := of_decide_eq_true hb4
  refine AC.condT (Evl.tmp rfl) ?_
  refine AC.skipS ?_
  refine AC.seq ?_
  refine AC.block ?_
  refine AC.sr ?_
  refine AL.cons rfl (Does.move rfl rfl) ?_
  refine AL.cons rfl (Does.assign rfl rfl) ?_
  refine AL.nilS ?_
  refine AC.sr ?_
  refine AL.cons rfl (Does.move rfl rfl) ?_
  refine AL.cons rfl (Does.move rfl rfl) ?_
  refine AL.cons rfl (Does.move rfl rfl) ?_
  obtain ⟨x6, hx7⟩ : ∃ z, l[k]? = some z := ⟨_, List.getElem?_eq_getElem (by omega)⟩
  refine AL.cons rfl (Does.indexE (Evl.tmp rfl) (Evl.tmp rfl) und_29 tsh_129 rfl (by omega) hx7) ?_
  refine AL.cons rfl (Does.loadEA (Evl.tmp rfl) tsh_129 rfl rfl) ?_
  refine AL.cons rfl (Does.callF (args0 := [(true, [dS x6.1, dI x6.2])]) (caps := [0]) 1 [(0, 0)] (fc_impl_signalOf_1 x6 name) enters_175 rfl (Evl.tmp rfl) rfl rfl ⟨_, _, rfl, (Ev.tmp rfl), rfl⟩ ⟨rfl, trivial⟩ rfl ⟨trivial, trivial⟩ (nlr rfl)) ?_
  refine AL.nilS ?_
  cases hb8 : (decide (x6.1 = name))
  ·have _h := hb8
   have hb8' : ¬ (x6.1 = name) := of_decide_eq_false hb8
   refine AC.condF (Evl.tmp rfl) ?_
   refine AC.skip ?_
   refine (?_ : AC _ _ _ _ _)
   refine AC.region ?_
   refine AL.cons rfl (Does.add (Evl.tmp rfl) (Evl.int rfl) rfl (by omega)) ?_
   refine AL.cons rfl (Does.move rfl rfl) ?_
   refine AL.nil ?_
   refine lend ⟨k + 1, by omega, rfl, hno.step hx7 (by assumption), rfl⟩ (by omega) ?_
   exact Wk.of [(0, 0)] rfl ⟨rfl, rfl, rfl, rfl, trivial⟩ ⟨rfl, trivial⟩ rfl rfl
  ·have _h := hb8
   have hb8' : (x6.1 = name) := of_decide_eq_true hb8
   refine AC.condT (Evl.tmp rfl) ?_
   refine AC.sr ?_
   refine AL.cons rfl (Does.move rfl rfl) ?_
   refine AL.cons rfl (Does.assign rfl rfl) ?_
   refine AL.nilS ?_
   refine AC.ret ?_
   subst hO
   have e9 : ((k : Int) : Int) = (idxF (fun x : DSignal => decide (x.1 = name)) l) := by
    exact (hno.at hx7 (by assumption)).symm
   exact fin_is _ _ [(0, 0)] (Res.one rfl (Rs.tmp rfl)) ((congrArg (fun z_ => lf (dI z_)) e9)) ⟨rfl, trivial⟩ rfl rfl

set_option maxRecDepth 100000 in
set_option maxHeartbeats 4000000 in
theorem fc_impl_signalOf (l : List (ByteArray × Int)) (name : ByteArray)  : FC Try.prog 132 [(false, [.dat (.sl 129 (.pr .str .int)) l]), (false, [dS name])] [] 0 (Pure (lf (dI (idxF (fun x : DSignal => decide (x.1 = name)) l)))) := by
 refine FC.O_all fun O_ hO => FC.ren (FC.of Try.func132 rfl rfl fun A_ hn_ hk_ => ?_)
 obtain ⟨w0_, N0_, X_, n_, k0_, h0_, f0_⟩ := A_
 obtain rfl : n_ = 8 := hn_.trans Try.ntmps132
 obtain rfl : k0_ = 0 := hk_
 refine AC.sr ?_
 refine AL.cons rfl (Does.box 0 (Ev.tmp rfl) rfl rfl (Fresh.of rfl) (nlr rfl)) ?_
 refine AL.cons rfl (Does.assignC (Evl.int rfl) rfl) ?_
 refine AL.nilS ?_
 refine AC.sr ?_
 refine AL.cons rfl (Does.move rfl rfl) ?_
 refine AL.cons rfl (Does.makeFunc ⟨_, _, rfl, (Evl.tmp rfl), rfl, rfl⟩ rfl) ?_
 refine AL.cons rfl (Does.callP 1 [(0, 0)] (fc_IndexFunc_Signal_of l name) enters_174 ⟨_, _, rfl, (Ev.tmp rfl), ⟨_, _, rfl, (Ev.tmp rfl), rfl⟩⟩ ⟨rfl, trivial⟩ rfl ⟨trivial, trivial⟩ (nlr rfl)) ?_
 refine AL.cons rfl (Does.assign rfl rfl) ?_
 refine AL.nilS ?_
 refine AC.ret ?_
 subst hO
 exact fin_pure (Res.one rfl (Rs.tmp rfl)) rfl rfl

set_option maxRecDepth 100000 in
set_option maxHeartbeats 4000000 in
theorem fc_spec_l2Signal (l : List (ByteArray × Int)) (name : ByteArray)  : FC Try.prog 126 [(false, [.dat (.sl 129 (.pr .str .int)) l]), (false, [dS name])] [] 0 (Pure (lf (dI (idxF (fun x : DSignal => decide (x.1 = name)) l)))) := by
 refine FC.O_all fun O_ hO => FC.ren (FC.of Try.func126 rfl rfl fun A_ hn_ hk_ => ?_)
 obtain ⟨w0_, N0_, X_, n_, k0_, h0_, f0_⟩ := A_
 obtain rfl : n_ = 20 := hn_.trans Try.ntmps126
 obtain rfl : k0_ = 0 := hk_
 refine AC.sr ?_
 refine AL.cons rfl (Does.assignC (Evl.int rfl) rfl) ?_
 refine AL.nilS ?_
 refine AC.seq ?_
 refine AC.sr ?_
 refine AL.cons rfl (Does.move rfl rfl) ?_
 refine AL.fact (fact_len (x := .tmp 7) (Evl.tmp rfl)) fun hl1 => ?_
 refine AL.cons rfl (Does.len (Evl.tmp rfl) rfl und_29) ?_
 refine AL.cons rfl (Does.moveC (Evl.int rfl) rfl) ?_
 refine AL.nilS ?_
 refine AC.block ?_
 refine AC.loopW (fun m_ s_ => ∃ (k : Nat), k ≤ l.length ∧ m_ = l.length - k ∧ (NoneTo (fun x : DSignal => decide (x.1 = name)) l k) ∧ s_ = ⟨[(1, lf (dS name)), (7, lf (.dat (.sl 129 (.pr .str .int)) l)), (8, lf (dI (l.length : Int))), (9, lf (dI (k : Int)))], []⟩) ⟨0, Nat.zero_le _, rfl, NoneTo.zero, rfl⟩ ?_ ?_
 · exact Wk.of [] rfl ⟨rfl, rfl, rfl, rfl, trivial⟩ trivial rfl rfl
 rintro m_ s_ ⟨k, hk2, hm3, hno, rfl⟩
 refine AC.sr ?_
 refine AL.cons rfl (Does.lss (Evl.tmp rfl) (Evl.tmp rfl) rfl) ?_
 refine AL.nilS ?_
 refine AC.seq ?_
 cases hb4 : (decide ((k : Int) < (l.length : Int)))
 ·have _h := hb4
  have hb4' : ¬ ((k : Int) < (l.length : Int)) := of_decide_eq_false hb4
  refine AC.condF (Evl.tmp rfl) ?_
  refine AC.exit ?_
  refine (?_ : AC _ _ _ _ _)
  refine AC.sr ?_
  refine AL.cons rfl (Does.assignC (Evl.int rfl) rfl) ?_
  refine AL.nilS ?_
  refine AC.ret ?_
  subst hO
  have e5 : ((-1) : Int) = (idxF (fun x : DSignal => decide (x.1 = name)) l) := by
   first | exact (hno.no (by omega)).symm
  exact fin_pure (Res.one rfl (Rs.tmp rfl)) ((congrArg (fun z_ => lf (dI z_)) e5)) rfl
 ·have _h := hb4
  have hb4' : ((k : Int) < (l.length : Int)) := of_decide_eq_true hb4
  refine AC.condT (Evl.tmp rfl) ?_
  refine AC.skipS ?_
  refine AC.seq ?_
  refine AC.block ?_
  refine AC.sr ?_
  refine AL.cons rfl (Does.move rfl rfl) ?_
  obtain ⟨x6, hx7⟩ : ∃ z, l[k]? = some z := ⟨_, List.getElem?_eq_getElem (by omega)⟩
  refine AL.cons rfl (Does.indexE (Evl.tmp rfl) (Evl.tmp rfl) und_29 tsh_129 rfl (by omega) hx7) ?_
  refine AL.cons rfl (Does.loadEA (Evl.tmp rfl) tsh_129 rfl rfl) ?_
  refine AL.cons rfl (Does.alloc 0 (.pr .str .int) zer_129 rfl rfl (Fresh.of rfl) (nlr rfl)) ?_
  refine AL.cons rfl (Does.assign rfl rfl) ?_
  refine AL.cons rfl (Does.storeP (Evl.tmp rfl) rfl (Ev.tmp rfl) rfl tsh_129 rfl) ?_
  refine AL.nilS ?_
  refine AC.sr ?_
  refine AL.cons rfl (Does.fieldP (Evl.tmp rfl) fld_129_0 rfl rfl) ?_
  refine AL.cons rfl (Does.loadP (Evl.tmp rfl) rfl tsh_9 rfl rfl) ?_
  refine AL.cons rfl (Does.move rfl rfl) ?_
  refine AL.cons rfl (Does.eqlS (Evl.tmp rfl) (Evl.tmp rfl) rfl) ?_
  refine AL.nilS ?_
  cases hb8 : (decide (x6.1 = name))
  ·have _h := hb8
   have hb8' : ¬ (x6.1 = name) := of_decide_eq_false hb8
   refine AC.condF (Evl.tmp rfl) ?_
   refine AC.skip ?_
   refine (?_ : AC _ _ _ _ _)
   refine AC.region ?_
   refine AL.cons rfl (Does.add (Evl.tmp rfl) (Evl.int rfl) rfl (by omega)) ?_
   refine AL.cons rfl (Does.move rfl rfl) ?_
   refine AL.nil ?_
   refine lend ⟨k + 1, by omega, rfl, hno.step hx7 (by assumption), rfl⟩ (by omega) ?_
   exact Wk.of [] rfl ⟨rfl, rfl, rfl, rfl, trivial⟩ trivial rfl rfl
  ·have _h := hb8
   have hb8' : (x6.1 = name) := of_decide_eq_true hb8
   refine AC.condT (Evl.tmp rfl) ?_
   refine AC.sr ?_
   refine AL.cons rfl (Does.move rfl rfl) ?_
   refine AL.cons rfl (Does.assign rfl rfl) ?_
   refine AL.nilS ?_
   refine AC.ret ?_
   subst hO
   have e9 : ((k : Int) : Int) = (idxF (fun x : DSignal => decide (x.1 = name)) l) := by
    exact (hno.at hx7 (by assumption)).symm
   exact fin_pure (Res.one rfl (Rs.tmp rfl)) ((congrArg (fun z_ => lf (dI z_)) e9)) rfl

end Go.Proofs.Ytbelopdphlllnaa
